/-
  Contracts, part 6.
-/
import Derived.Test.YthlmfgmmbfbhhaaGreatKb5
set_option linter.unusedVariables false
set_option linter.unusedSimpArgs false
namespace Go.Proofs.YthlmfgmmbfbhhaaGreat
open Go Go.RowKit Go.Vc Go.Proofs
set_option maxRecDepth 100000 in
set_option maxHeartbeats 1000000 in
theorem l01Pick_ok (cA : Option Addr) (cc : Nat) (code : List UInt8) (s : Nat) (list : List Int) (listA : Option Addr) (listc : Nat) (w0 : World) (H : List Assn) (hlist : ∀ w, St w0 H w → Rd I64 w listA list) (llist : list.length ≤ 1099511627776) (hc : Rd U8C w0 cA code) (lc : code.length ≤ 1048576) (hl : 0 < list.length) : Does Tryz.prog 113 [.pointer (some ⟨s, 0, none⟩), .slice listA list.length listc] w0 (SrcK 101 cA cc code s :: H) (fun rv_ => [.exi fun (r : Int) => .sep (.pur (rv_ = .int .i64 r ∧ r ∈ list)) (SrcK 101 cA cc code s)] ++ H) := by
 refine Does.enter Tryz.func113 rfl rfl [(0, .pointer (some ⟨s, 0, none⟩)), (1, .slice listA list.length listc)] rfl (V.seq (V.region (O.m rfl (O.nil (X.next (V.seq (V.region (O.m rfl (O.m rfl (O.m rfl (O.q rfl (Pu.len rfl Tryz.underlying53 rfl) ?_)))))))))))
 refine O.f rfl (Ef.call call49 rfl rfl (Does.pre (fun w hw => hw.sub (Sub.k (Sub.refl _))) (l01Next_ok _ _ _ s (↑list.length : Int) w0 _   (by first | assumption | omega | (try dsimp only at *; omega)) (by first | assumption | omega | (try dsimp only at *; omega))))) ?_
 rintro _ _ rfl
 refine O.exi (fun r1 => O.sep (O.pur ?_))
 rintro ⟨rfl, hr1_1, hr1_2, hr1_3⟩
 refine O.q rfl (Pu.indexAddrS ((r1).toNat) rfl Tryz.underlying53 sz2 rfl rfl (by omega) (by omega) (fun w hw => ((fun w hw => hlist w (hw.sub (Sub.drop (Sub.refl _)))) w hw).some (by omega))) ?_
 have e1 : (r1).toNat < list.length := by omega
 exact O.q rfl (Pu.load rfl pl2 rfl (Ld.rd (fun w hw => hlist w (hw.sub (Sub.drop (Sub.refl _)))) (k := (r1).toNat) e1 rfl rfl)) (O.m rfl (O.nil (X.next (V.ret (X.ret1 rfl rfl (fun w hw => St.mkExi (list[(r1).toNat]'e1) (St.unsep (St.addPur ⟨rfl, List.getElem_mem _⟩ (hw.sub (Sub.k (Sub.refl _)))))))))))
set_option maxRecDepth 100000 in
set_option maxHeartbeats 1000000 in
theorem l01Names_ok (w : World) : Does Tryz.prog 153 [] w [] (fun rv_ => [.exi fun (rA : Option Addr) => .exi fun (rc : Nat) => .exi fun (r : List ByteArray) => .sep (.pur (rv_ = .slice rA r.length rc ∧ r = nmL)) (Own 9 StrC rA rc r)]) := by
 refine Does.enter Tryz.func153 rfl rfl [] rfl (V.seq (V.region (O.m rfl (O.nil (X.next (V.seq (V.region (O.f rfl (Ef.build StrC ([(ByteArray.mk #[115, 105, 110, 103, 108, 101]), (ByteArray.mk #[102, 97, 110, 111]), (ByteArray.mk #[97, 102, 102, 105, 110, 101]), (ByteArray.mk #[99, 121, 99, 108, 105, 99, 49, 51]), (ByteArray.mk #[99, 121, 99, 108, 105, 99, 49, 53]), (ByteArray.mk #[112, 114, 111, 106, 101, 99, 116, 105, 118, 101, 49, 53])] : List ByteArray) rfl Tryz.underlying168 inf9 rfl rfl rfl (by first | decide | (simp; done)) (by kernel_rfl)) ?_))))))))
 rintro _ _ ⟨A1, hA1, rfl, rfl⟩
 exact O.m rfl (O.nil (X.next (V.ret (X.ret1 rfl rfl (fun w hw => St.mkExi A1 (St.mkExi 6 (St.mkExi ([(ByteArray.mk #[115, 105, 110, 103, 108, 101]), (ByteArray.mk #[102, 97, 110, 111]), (ByteArray.mk #[97, 102, 102, 105, 110, 101]), (ByteArray.mk #[99, 121, 99, 108, 105, 99, 49, 51]), (ByteArray.mk #[99, 121, 99, 108, 105, 99, 49, 53]), (ByteArray.mk #[112, 114, 111, 106, 101, 99, 116, 105, 118, 101, 49, 53])] : List ByteArray) (St.unsep (St.addPur ⟨rfl, rfl⟩ (hw.sub (Sub.k (Sub.nil _))))))))))))
set_option maxRecDepth 100000 in
set_option maxHeartbeats 1000000 in
theorem l01BlockD_ok (a : Int) (b : Int) (c_ : Int) (w : World) (ha : (-1000000 ≤ a ∧ a ≤ 1000000)) (hb : (-1000000 ≤ b ∧ b ≤ 1000000)) (hc : (-1000000 ≤ c_ ∧ c_ ≤ 1000000)) : Does Tryz.prog 98 [.int .i64 a, .int .i64 b, .int .i64 c_] w [] (fun r => [.pur (r = B3.v (bk3 a b c_))]) := by
 refine Does.enter Tryz.func98 rfl rfl [(0, .int .i64 a), (1, .int .i64 b), (2, .int .i64 c_)] rfl (V.seq (V.region (O.f rfl (Ef.alloc rfl zr65 rfl) ?_)))
 rintro _ _ ⟨b1, rfl, rfl⟩
 refine O.nil (X.next (V.seq (V.region (O.m rfl (O.m rfl (O.m rfl (O.q rfl (Pu.min3 (r := (min (min a b) c_)) (by omega) rfl rfl rfl rfl) (O.m rfl (O.m rfl (O.m rfl (O.q rfl (Pu.max3 (r := (max (max a b) c_)) (by omega) rfl rfl rfl rfl) ?_)))))))))))
 refine O.m rfl (O.m rfl (O.nil (X.next (V.seq (V.region (O.m rfl (O.m rfl (O.m rfl (O.q rfl (Pu.add64 rfl (by omega) rfl rfl rfl) (O.m rfl (O.q rfl (Pu.add64 rfl (by omega) rfl rfl rfl) ?_)))))))))))
 refine O.m rfl (O.q rfl (Pu.sub64 rfl (by omega) rfl rfl rfl) (O.m rfl (O.q rfl (Pu.sub64 rfl (by omega) rfl rfl rfl) (O.m rfl (O.q rfl (Pu.buildA (cs := [.int .i64 (min (min a b) c_), .int .i64 ((((a + b) + c_) - (min (min a b) c_)) - (max (max a b) c_)), .int .i64 (max (max a b) c_)]) (v := B3.v ((min (min a b) c_), ((((a + b) + c_) - (min (min a b) c_)) - (max (max a b) c_)), (max (max a b) c_))) rfl rfl Tryz.underlying65 zr65 sz2 rfl (by kernel_rfl)) (O.s rfl rfl (Ef.storeAll 0 rfl sz65 rfl rfl rfl rfl (by simp [Value.oneCell']) rfl) ?_))))))
 rintro _ _ rfl
 exact O.nil (X.next (V.ret (X.retCell rfl ag65 sz65 rfl rfl (Ld.whole 0 rfl) (fun w hw => St.retP (rfl) hw))))
set_option maxRecDepth 100000 in
set_option maxHeartbeats 1000000 in
theorem l01RenamedD_ok (v : Int) (bs : List B3) (p : List Int) (A : Option Addr) (c : Nat) (pA : Option Addr) (pc : Nat) (w : World) (hx : Rd B3C w A bs) (hp : Rd I64 w pA p) (lx : bs.length ≤ 4611686018427387904) (lp : p.length ≤ 1099511627776) (hb : ∀ b ∈ bs, good (p.length : Int) b) (lb : bs.length ≤ 100000) (hq : ∀ q ∈ p, 0 ≤ q ∧ q < 16) : Does Tryz.prog 60 [.agg #[.int .i64 v, .slice A bs.length c], .slice pA p.length pc] w [] (fun rv_ => [.exi fun (rA : Option Addr) => .exi fun (rc : Nat) => .exi fun (r : List B3) => .sep (.pur (rv_ = .agg #[.int .i64 v, .slice rA r.length rc] ∧ r.Perm (bs.map (renB p)) ∧ SrtB r)) (Own 65 B3C rA rc r)]) := by
 refine Does.enter Tryz.func60 rfl rfl [(0, .agg #[.int .i64 v, .slice A bs.length c]), (1, .slice pA p.length pc)] rfl (V.seq (V.region (O.f rfl (Ef.box rfl rfl rfl) ?_)))
 rintro _ _ ⟨b1, rfl, rfl⟩
 refine O.f rfl (Ef.alloc rfl zr26 rfl) ?_
 rintro _ _ ⟨b2, rfl, rfl⟩
 refine O.nil (X.next (V.seq (V.region (O.f rfl (Ef.build B3C ([] : List B3) rfl Tryz.underlying24 inf65 rfl rfl rfl (by first | decide | (simp; done)) (by kernel_rfl)) ?_))))
 rintro _ _ ⟨A1, hA1, rfl, rfl⟩
 refine O.m rfl (O.nil (X.next (V.seq (V.seq (V.region (O.m rfl (O.nil (X.next (V.block (V.loop3 (β := (Option Addr) × Nat × (List B3) × Nat) (fun x => [(5, .slice x.1 x.2.2.1.length x.2.1), (6, .int .i64 (x.2.2.2 : Int))]) _ (fun x => [Own 65 B3C x.1 x.2.1 x.2.2.1]) _ (fun x => x.2.2.2 ≤ bs.length ∧ x.2.2.1 = (bs.take x.2.2.2).map (renB p)) (fun x => bs.length - x.2.2.2) (A1, 0, ([] : List B3), 0) (by (try dsimp only); exact ⟨by omega, rfl⟩) (Ent.cons rfl (Ent.cons rfl (Ent.nil _))) (Ent.cons (t := 1) rfl (Ent.cons (t := 2) rfl (Ent.cons (t := 4) rfl (Ent.nil _)))) (Sub.k (Sub.k (Sub.k (Sub.nil _)))) ?_))))))))))
 rintro ⟨blocksA, blocksc, blocks, i⟩ ⟨hi, ho⟩
 dsimp only at hi ho ⊢
 have hol : blocks.length ≤ bs.length := by rw [ho, List.length_map, List.length_take]; omega
 refine V.seq (V.seq (V.region (O.m rfl (O.q rfl (Pu.fieldAddr 1 rfl Tryz.underlying26 rfl sz24 rfl rfl) (O.q rfl (Pu.load rfl pl24 rfl (Ld.blk 2 rfl rfl)) (O.q rfl (Pu.len rfl Tryz.underlying24 rfl) (O.q rfl (Pu.lss rfl rfl rfl) (O.nil (X.next (V.condD rfl (fun c1 => ?_) (fun c1 => ?_)))))))))))
 ·refine V.skip (X.next (V.seq (V.block (V.seq ?_))))
  have ei : i < bs.length := by omega
  have hg := hb (bs[i]'ei) (List.getElem_mem ei)
  unfold good at hg
  have hq1 := hq (p[(bs[i]'ei).1.toNat]'(by omega)) (List.getElem_mem _)
  have hq2 := hq (p[(bs[i]'ei).2.1.toNat]'(by omega)) (List.getElem_mem _)
  have hq3 := hq (p[(bs[i]'ei).2.2.toNat]'(by omega)) (List.getElem_mem _)
  refine V.region (O.q rfl (Pu.fieldAddr 1 rfl Tryz.underlying26 rfl sz24 rfl rfl) (O.q rfl (Pu.load rfl pl24 rfl (Ld.blk 2 rfl rfl)) (O.m rfl (O.q rfl (Pu.indexAddr (i) rfl Tryz.underlying24 sz65 rfl rfl (by omega) (by omega) (hx.some (by omega))) (O.q rfl (Pu.loadAgg' (v := B3.v (bs[i]'ei)) rfl rfl ag65 sz65 rfl rfl (Ld.rds (Ld.old hx) (k := i) ei rfl)) (O.f rfl (Ef.alloc rfl zr65 rfl) ?_))))))
  rintro _ _ ⟨b3, rfl, rfl⟩
  refine O.s rfl rfl (Ef.storeAll 0 rfl sz65 rfl rfl rfl rfl (by simp [Value.oneCell']) rfl) ?_
  rintro _ _ rfl
  refine O.nil (X.next (V.drawS mo (by kernel_rfl) (Sub.k (Sub.keep 1 rfl (Sub.keep 1 rfl (Sub.nil _)))) (fun hwf => D.m 0 rfl (D.m 1 rfl (D.q 2 rfl (Pu.indexArr 0 0 rfl Tryz.underlying65 sz2 rfl rfl (by decide) (by decide) (by decide)) (D.q 3 rfl (Pu.load rfl pl2 rfl (Ld.blk 0 rfl rfl)) (D.q 4 rfl (Pu.indexAddr (((bs[i]'ei).1).toNat) rfl Tryz.underlying53 sz2 rfl rfl (by omega) (by omega) (hp.some (by omega))) ?_)))))))
  have e1 : ((bs[i]'ei).1).toNat < p.length := by omega
  refine D.q 5 rfl (Pu.load rfl pl2 rfl (Ld.rd (Ld.old hp) (k := ((bs[i]'ei).1).toNat) e1 rfl rfl)) (D.m 6 rfl (D.q 7 rfl (Pu.indexArr 1 1 rfl Tryz.underlying65 sz2 rfl rfl (by decide) (by decide) (by decide)) (D.q 8 rfl (Pu.load rfl pl2 rfl (Ld.blk 0 rfl rfl)) (D.q 9 rfl (Pu.indexAddr (((bs[i]'ei).2.1).toNat) rfl Tryz.underlying53 sz2 rfl rfl (by omega) (by omega) (hp.some (by omega))) ?_))))
  have e2 : ((bs[i]'ei).2.1).toNat < p.length := by omega
  refine D.q 10 rfl (Pu.load rfl pl2 rfl (Ld.rd (Ld.old hp) (k := ((bs[i]'ei).2.1).toNat) e2 rfl rfl)) (D.m 11 rfl (D.q 12 rfl (Pu.indexArr 2 2 rfl Tryz.underlying65 sz2 rfl rfl (by decide) (by decide) (by decide)) (D.q 13 rfl (Pu.load rfl pl2 rfl (Ld.blk 0 rfl rfl)) (D.q 14 rfl (Pu.indexAddr (((bs[i]'ei).2.2).toNat) rfl Tryz.underlying53 sz2 rfl rfl (by omega) (by omega) (hp.some (by omega))) ?_))))
  have e3 : ((bs[i]'ei).2.2).toNat < p.length := by omega
  refine D.q 15 rfl (Pu.load rfl pl2 rfl (Ld.rd (Ld.old hp) (k := ((bs[i]'ei).2.2).toNat) e3 rfl rfl)) (D.f hwf 16 rfl (Ef.callP call98 rfl rfl (fun w hw => l01BlockD_ok  (p[((bs[i]'ei).1).toNat]'e1) (p[((bs[i]'ei).2.1).toNat]'e2) (p[((bs[i]'ei).2.2).toNat]'e3) w   (by first | assumption | omega | (try dsimp only at *; omega)) (by first | assumption | omega | (try dsimp only at *; omega)) (by first | assumption | omega | (try dsimp only at *; omega)))) ?_)
  rintro _ _ ⟨rfl, rfl⟩ hs
  refine ⟨fun w hw => hw.sub (Sub.k (Sub.keep 1 rfl (Sub.keep 1 rfl (Sub.nil _)))), (D.f hwf 17 rfl (Ef.build B3C ([(bk3 (p[((bs[i]'ei).1).toNat]'e1) (p[((bs[i]'ei).2.1).toNat]'e2) (p[((bs[i]'ei).2.2).toNat]'e3))] : List B3) rfl Tryz.underlying24 inf65 rfl rfl rfl (by first | decide | (simp; done)) (by kernel_rfl)) ?_)⟩
  rintro _ _ ⟨A2, hA2, rfl, rfl⟩ hs
  refine ⟨fun w hw => hw.sub (Sub.keep 1 rfl (Sub.keep 2 rfl (Sub.keep 2 rfl (Sub.nil _)))), (D.f hwf 18 rfl (Ef.append (xs := blocks) (ys := ([(bk3 (p[((bs[i]'ei).1).toNat]'e1) (p[((bs[i]'ei).2.1).toNat]'e2) (p[((bs[i]'ei).2.2).toNat]'e3))] : List B3)) 2 rfl Tryz.underlying24 inf65 rfl rfl rfl rfl rfl rfl hA2 (Ld.own 0 (by exact rfl)) (by simp only [List.length_append, List.length_cons, List.length_nil] at *; omega) (by decide)) ?_)⟩
  rintro _ _ ⟨A3, k1, rfl, rfl, hA3⟩ hs
  replace hA3 := hA3 (.inr (by simp))
  exact ⟨fun w hw => hw.sub (Sub.keep 1 rfl (Sub.keep 2 rfl (Sub.keep 2 rfl (Sub.nil _)))), (D.last hwf (e := 19) rfl rfl rfl rfl rfl rfl (Pu.assign rfl rfl) (X.blockNormal (X.next (V.region (O.m rfl (O.q rfl (Pu.add64 (r := ((i + 1 : Nat) : Int)) rfl (by omega) rfl rfl rfl) (O.m rfl (O.nil (X.back3 (A3, k1, (blocks ++ ([(bk3 (p[((bs[i]'ei).1).toNat]'e1) (p[((bs[i]'ei).2.1).toNat]'e2) (p[((bs[i]'ei).2.2).toNat]'e3))] : List B3)), i + 1) (by (try dsimp only); exact ⟨by omega, by rw [take_snoc ei, List.map_append, ho]; simp only [List.map_cons, List.map_nil, renB]; rw [getD_at (by omega), getD_at (by omega), getD_at (by omega)]⟩) (by first | omega | (dsimp only; omega)) (Ent.cons rfl (Ent.cons rfl (Ent.nil _))) (Ent.cons (t := 1) rfl (Ent.cons (t := 2) rfl (Ent.cons (t := 4) rfl (Ent.nil _)))) (Sub.keep 2 rfl (Sub.keep 2 rfl (Sub.keep 2 rfl (Sub.nil _)))))))))))))⟩
 ·refine V.exit (X.thenExit (X.thenExit (X.blockHit (X.next (V.seq (V.region (O.q rfl (Pu.fieldAddr 0 rfl Tryz.underlying26 rfl sz2 rfl rfl) (O.q rfl (Pu.load rfl pl2 rfl (Ld.blk 2 rfl rfl)) (O.m rfl (O.f rfl (Ef.call1 call71 rfl rfl (fun w hw => l01Made_ok  v blocks _ _ w ((Ld.own 0 (by exact rfl)) w hw) (by first | omega | (simp only [tops_len, conts_len, bl, List.length_append, List.length_cons, List.length_nil] at *; omega)) (by first | assumption | omega | (try dsimp only at *; omega)))) ?_))))))))))
  rintro _ _ rfl
  refine O.exi (fun r1A => O.exi (fun r1c => O.exi (fun r1 => O.sep (O.pur ?_))))
  rintro ⟨rfl, hr1_1, hr1_2⟩
  refine O.s rfl rfl (Ef.storeAll 2 rfl sz26 rfl rfl rfl rfl (by simp [Value.oneCell']) rfl) ?_
  rintro _ _ rfl
  exact O.nil (X.next (V.ret (X.retCell rfl ag26 sz26 rfl rfl (Ld.whole 2 rfl) (fun w hw => St.mkExi r1A (St.mkExi r1c (St.mkExi r1 (St.unsep (St.addPur ⟨rfl, by rw [ho, List.take_of_length_le (by omega)] at hr1_1; exact hr1_1, hr1_2⟩ (hw.sub (Sub.k (Sub.nil _)))))))))))
set_option maxRecDepth 100000 in
set_option maxHeartbeats 1000000 in
theorem l01Turned_ok (blocks : List B3) (v_ : Int) (a : Int) (b : Int) (c_ : Int) (blocksA : Option Addr) (blocksc : Nat) (w0 : World) (H : List Assn) (hv : 0 < v_ ∧ v_ ≤ 15) (ha : (0 ≤ a ∧ a ≤ 1000)) (hb : (0 ≤ b ∧ b ≤ 1000)) (hc : (0 ≤ c_ ∧ c_ ≤ 1000)) (lb : blocks.length ≤ 1000) : Does Tryz.prog 97 [.slice blocksA blocks.length blocksc, .int .i64 v_, .int .i64 a, .int .i64 b, .int .i64 c_] w0 (Own 65 B3C blocksA blocksc blocks :: H) (fun rv_ => [.exi fun (rA : Option Addr) => .exi fun (rc : Nat) => .exi fun (r : List B3) => .sep (.pur (rv_ = .slice rA r.length rc ∧ r = rowT v_ blocks (a, b, c_) v_.toNat)) (Own 65 B3C rA rc r)] ++ H) := by
 refine Does.enter Tryz.func97 rfl rfl [(0, .slice blocksA blocks.length blocksc), (1, .int .i64 v_), (2, .int .i64 a), (3, .int .i64 b), (4, .int .i64 c_)] rfl (V.seq (V.region (O.m rfl (O.nil (X.next (V.seq (V.seq (V.region (O.m rfl (O.nil (X.next ?_)))))))))))
 refine V.block (V.loop3 (β := (Option Addr) × Nat × (List B3) × Nat) (fun x => [(0, .slice x.1 x.2.2.1.length x.2.1), (11, .int .i64 (x.2.2.2 : Int))]) _ (fun x => [Own 65 B3C x.1 x.2.1 x.2.2.1]) _ (fun x => x.2.2.2 ≤ v_.toNat ∧ x.2.2.1 = rowT v_ blocks (a, b, c_) x.2.2.2) (fun x => v_.toNat - x.2.2.2) (blocksA, blocksc, blocks, 0) (by (try dsimp only); exact ⟨by omega, rfl⟩) (Ent.cons rfl (Ent.cons rfl (Ent.nil _))) (Ent.cons (t := 1) rfl (Ent.cons (t := 2) rfl (Ent.cons (t := 3) rfl (Ent.cons (t := 4) rfl (Ent.nil _))))) (Sub.k (Sub.refl _)) ?_)
 rintro ⟨zA, zc, z, i⟩ ⟨hi, hz⟩
 dsimp only at hi hz ⊢
 have hzl : z.length ≤ blocks.length + i := by rw [hz]; exact rowT_len i
 refine V.seq (V.seq (V.region (O.m rfl (O.m rfl (O.q rfl (Pu.lss rfl rfl rfl) (O.nil (X.next (V.condD rfl (fun c1 => ?_) (fun c1 => ?_)))))))))
 ·refine V.skip (X.next (V.seq (V.block (V.seq (V.draw mo (by kernel_rfl) (fun hwf => D.m 0 rfl (D.m 1 rfl (D.q 2 rfl (Pu.add64 rfl (by omega) rfl rfl rfl) (D.m 3 rfl (D.q 4 rfl (Pu.rem64 (by omega) (by omega) rfl rfl rfl) (D.m 5 rfl ?_)))))))))))
  refine D.m 6 rfl (D.q 7 rfl (Pu.add64 rfl (by omega) rfl rfl rfl) (D.m 8 rfl (D.q 9 rfl (Pu.rem64 (by omega) (by omega) rfl rfl rfl) (D.m 10 rfl (D.m 11 rfl (D.q 12 rfl (Pu.add64 rfl (by omega) rfl rfl rfl) (D.m 13 rfl (D.q 14 rfl (Pu.rem64 (by omega) (by omega) rfl rfl rfl) (D.either hwf (e1 := 15) (e2 := 16) rfl ?_ ?_)))))))))
  ·refine ⟨_, _, rfl, rfl, fun _ _ => wanted_none rfl _, Ef.callP call98 rfl rfl (fun w hw => l01BlockD_ok  ((a + (↑i : Int)) % v_) ((b + (↑i : Int)) % v_) ((c_ + (↑i : Int)) % v_) w   (by have h1 := Int.emod_nonneg (a + (i : Int)) (show v_ ≠ 0 by omega); have h2 := Int.emod_lt_of_pos (a + (i : Int)) (show 0 < v_ by omega); omega) (by have h1 := Int.emod_nonneg (b + (i : Int)) (show v_ ≠ 0 by omega); have h2 := Int.emod_lt_of_pos (b + (i : Int)) (show 0 < v_ by omega); omega) (by have h1 := Int.emod_nonneg (c_ + (i : Int)) (show v_ ≠ 0 by omega); have h2 := Int.emod_lt_of_pos (c_ + (i : Int)) (show 0 < v_ by omega); omega)), rfl, rfl, ?_⟩
   rintro _ _ ⟨rfl, rfl⟩ hs
   refine ⟨fun w hw => hw, (D.f hwf 16 rfl (Ef.alloc rfl zr65 rfl) ?_)⟩
   rintro _ _ ⟨b1, rfl, rfl⟩ hs
   refine ⟨fun w hw => hw.sub (Sub.keep 1 rfl (Sub.drop (Sub.refl _))), (D.f hwf 17 rfl (Ef.storeAll 0 rfl sz65 rfl rfl rfl rfl (by simp [Value.oneCell']) rfl) ?_)⟩
   rintro _ _ rfl hs
   refine ⟨fun w hw => hw.sub (Sub.keep 1 rfl (Sub.drop (Sub.refl _))), (D.m 18 rfl (D.done hwf rfl (X.next (V.seq (V.seq (V.region (O.m rfl (O.nil (X.next (V.block (V.loop3 (β := Bool × Nat) (fun x => [(13, .bool x.1), (14, .int .i64 (x.2 : Int))]) _ (fun x => []) _ (fun x => x.2 ≤ z.length ∧ x.1 = decide (bkT v_ (a, b, c_) i ∈ z.take x.2)) (fun x => z.length - x.2) (false, 0) (by (try dsimp only); exact ⟨by omega, by simp⟩) (Ent.cons rfl (Ent.cons rfl (Ent.nil _))) (Ent.cons (t := 0) rfl (Ent.cons (t := 1) rfl (Ent.cons (t := 2) rfl (Ent.cons (t := 3) rfl (Ent.cons (t := 4) rfl (Ent.cons (t := 11) rfl (Ent.cons (t := 12) rfl (Ent.nil _)))))))) (Sub.k (Sub.k (Sub.refl _))) ?_)))))))))))⟩
   rintro ⟨known, k⟩ ⟨hk, hk2⟩
   dsimp only at hk hk2 ⊢
   refine V.seq (V.seq (V.region (O.m rfl (O.m rfl (O.q rfl (Pu.len rfl Tryz.underlying24 rfl) (O.q rfl (Pu.lss rfl rfl rfl) (O.nil (X.next (V.condD rfl (fun c2 => ?_) (fun c2 => ?_))))))))))
   ·refine V.skip (X.next (V.seq (V.block (V.draw mo (by kernel_rfl) (fun hwf => D.m 0 rfl (D.m 1 rfl (D.splitB 43 rfl (fun c3 => ?_) (fun c3 => ?_))))))))
    ·subst c3
     refine D.g 2 rfl (D.g 3 rfl (D.g 4 rfl (D.g 5 rfl (D.g 6 rfl (D.g 7 rfl (D.m 8 rfl (D.last hwf (e := 9) rfl rfl rfl rfl rfl rfl (Pu.assign rfl rfl) (X.blockNormal (X.next (V.region (O.m rfl ?_)))))))))))
     exact O.q rfl (Pu.add64 (r := ((k + 1 : Nat) : Int)) rfl (by omega) rfl rfl rfl) (O.m rfl (O.nil (X.back3 (true, k + 1) (by (try dsimp only); exact ⟨by omega, by rw [take_snoc (by omega)]; have h := hk2.symm; rw [decide_eq_true_eq] at h; exact (decide_eq_true (List.mem_append.2 (.inl h))).symm⟩) (by first | omega | (dsimp only; omega)) (Ent.cons rfl (Ent.cons rfl (Ent.nil _))) (Ent.cons (t := 0) rfl (Ent.cons (t := 1) rfl (Ent.cons (t := 2) rfl (Ent.cons (t := 3) rfl (Ent.cons (t := 4) rfl (Ent.cons (t := 11) rfl (Ent.cons (t := 12) rfl (Ent.nil _)))))))) (Sub.k (Sub.k (Sub.refl _))))))
    ·subst c3
     refine D.gm 2 rfl (D.gm 3 rfl (D.gq 4 rfl (Pu.indexAddrS (k) rfl Tryz.underlying24 sz65 rfl rfl (by omega) (by omega) (fun w hw => Own.some hw (i := 1) (by exact rfl) (by omega))) ?_))
     have e1 : k < z.length := by omega
     exact D.gq 5 rfl (Pu.loadAgg' (v := B3.v (z[k]'e1)) rfl rfl ag65 sz65 rfl rfl (Ld.rds (C := B3C) (Ld.own 1 (by exact rfl)) (k := k) e1 rfl)) (D.gq 6 rfl (Pu.loadAgg' (v := B3.v (bk3 ((a + (↑i : Int)) % v_) ((b + (↑i : Int)) % v_) ((c_ + (↑i : Int)) % v_))) rfl rfl ag65 sz65 rfl rfl (Ld.whole 0 rfl)) (D.gq 7 rfl (Pu.eqlB3 Tryz.underlying65 Tryz.underlying2 sz2 (by kernel_rfl) rfl rfl rfl) (D.m 8 rfl (D.last hwf (e := 9) rfl rfl rfl rfl rfl rfl (Pu.assign rfl rfl) (X.blockNormal (X.next (V.region (O.m rfl (O.q rfl (Pu.add64 (r := ((k + 1 : Nat) : Int)) rfl (by omega) rfl rfl rfl) (O.m rfl (O.nil (X.back3 ((decide ((z[k]'e1) = (bk3 ((a + (↑i : Int)) % v_) ((b + (↑i : Int)) % v_) ((c_ + (↑i : Int)) % v_)))), k + 1) (by (try dsimp only); exact ⟨by omega, by rw [take_snoc (by omega)]; have h := hk2.symm; rw [decide_eq_false_iff_not] at h; apply decide_eq_decide.2; rw [List.mem_append, List.mem_singleton]; exact ⟨fun e => .inr e.symm, fun e => e.elim (fun e => absurd e h) Eq.symm⟩⟩) (by first | omega | (dsimp only; omega)) (Ent.cons rfl (Ent.cons rfl (Ent.nil _))) (Ent.cons (t := 0) rfl (Ent.cons (t := 1) rfl (Ent.cons (t := 2) rfl (Ent.cons (t := 3) rfl (Ent.cons (t := 4) rfl (Ent.cons (t := 11) rfl (Ent.cons (t := 12) rfl (Ent.nil _)))))))) (Sub.k (Sub.k (Sub.refl _)))))))))))))))
   ·refine V.exit (X.thenExit (X.thenExit (X.blockHit (X.next (V.seq (V.region (O.m rfl (O.q rfl (Pu.not rfl rfl) (O.nil (X.next (V.cond rfl (fun c4 => ?_) (fun c4 => ?_))))))))))))
    ·have hnk : ¬ bkT v_ (a, b, c_) i ∈ z := by rw [List.take_of_length_le (by omega)] at hk2; intro h; rw [decide_eq_true h] at hk2; simp_all
     refine V.region (O.m rfl (O.q rfl (Pu.loadAgg' (v := B3.v (bk3 ((a + (↑i : Int)) % v_) ((b + (↑i : Int)) % v_) ((c_ + (↑i : Int)) % v_))) rfl rfl ag65 sz65 rfl rfl (Ld.whole 0 rfl)) (O.f rfl (Ef.build B3C ([(bk3 ((a + (↑i : Int)) % v_) ((b + (↑i : Int)) % v_) ((c_ + (↑i : Int)) % v_))] : List B3) rfl Tryz.underlying24 inf65 rfl rfl rfl (by first | decide | (simp; done)) (by kernel_rfl)) ?_)))
     rintro _ _ ⟨A1, hA1, rfl, rfl⟩
     refine O.f rfl (Ef.append (xs := z) (ys := ([(bk3 ((a + (↑i : Int)) % v_) ((b + (↑i : Int)) % v_) ((c_ + (↑i : Int)) % v_))] : List B3)) 2 rfl Tryz.underlying24 inf65 rfl rfl rfl rfl rfl rfl hA1 (Ld.own 0 (by exact rfl)) (by simp only [List.length_append, List.length_cons, List.length_nil] at *; omega) (by decide)) ?_
     rintro _ _ ⟨A2, k1, rfl, rfl, hA2⟩
     replace hA2 := hA2 (.inr (by simp))
     exact O.m rfl (O.nil (X.blockNormal (X.next (V.region (O.m rfl (O.q rfl (Pu.add64 (r := ((i + 1 : Nat) : Int)) rfl (by omega) rfl rfl rfl) (O.m rfl (O.nil (X.back3 (A2, k1, (z ++ ([(bk3 ((a + (↑i : Int)) % v_) ((b + (↑i : Int)) % v_) ((c_ + (↑i : Int)) % v_))] : List B3)), i + 1) (by (try dsimp only); exact ⟨by omega, by rw [hz]; exact (rowT_no (by rw [← hz]; exact hnk)).symm⟩) (by first | omega | (dsimp only; omega)) (Ent.cons rfl (Ent.cons rfl (Ent.nil _))) (Ent.cons (t := 1) rfl (Ent.cons (t := 2) rfl (Ent.cons (t := 3) rfl (Ent.cons (t := 4) rfl (Ent.nil _))))) (Sub.keep 2 rfl (Sub.drop (Sub.drop (Sub.refl _)))))))))))))
    ·have hkn : bkT v_ (a, b, c_) i ∈ z := by rw [List.take_of_length_le (by omega)] at hk2; apply Decidable.byContradiction; intro h; rw [decide_eq_false h] at hk2; simp_all
     exact V.skip (X.blockNormal (X.next (V.region (O.m rfl (O.q rfl (Pu.add64 (r := ((i + 1 : Nat) : Int)) rfl (by omega) rfl rfl rfl) (O.m rfl (O.nil (X.back3 (zA, zc, z, i + 1) (by (try dsimp only); exact ⟨by omega, by rw [hz]; exact (rowT_yes (by rw [← hz]; exact hkn)).symm⟩) (by first | omega | (dsimp only; omega)) (Ent.cons rfl (Ent.cons rfl (Ent.nil _))) (Ent.cons (t := 1) rfl (Ent.cons (t := 2) rfl (Ent.cons (t := 3) rfl (Ent.cons (t := 4) rfl (Ent.nil _))))) (Sub.keep 1 rfl (Sub.drop (Sub.refl _)))))))))))
  ·refine ⟨_, _, rfl, rfl, fun _ _ => wanted_none rfl _, Ef.alloc rfl zr65 rfl, rfl, rfl, ?_⟩
   rintro _ _ ⟨b1, rfl, rfl⟩ hs
   refine ⟨fun w hw => hw.sub (Sub.keep 1 rfl (Sub.drop (Sub.refl _))), (D.f hwf 15 rfl (Ef.callP call98 rfl rfl (fun w hw => l01BlockD_ok  ((a + (↑i : Int)) % v_) ((b + (↑i : Int)) % v_) ((c_ + (↑i : Int)) % v_) w   (by have h1 := Int.emod_nonneg (a + (i : Int)) (show v_ ≠ 0 by omega); have h2 := Int.emod_lt_of_pos (a + (i : Int)) (show 0 < v_ by omega); omega) (by have h1 := Int.emod_nonneg (b + (i : Int)) (show v_ ≠ 0 by omega); have h2 := Int.emod_lt_of_pos (b + (i : Int)) (show 0 < v_ by omega); omega) (by have h1 := Int.emod_nonneg (c_ + (i : Int)) (show v_ ≠ 0 by omega); have h2 := Int.emod_lt_of_pos (c_ + (i : Int)) (show 0 < v_ by omega); omega))) ?_)⟩
   rintro _ _ ⟨rfl, rfl⟩ hs
   refine ⟨fun w hw => hw.sub (Sub.keep 1 rfl (Sub.drop (Sub.refl _))), (D.f hwf 17 rfl (Ef.storeAll 0 rfl sz65 rfl rfl rfl rfl (by simp [Value.oneCell']) rfl) ?_)⟩
   rintro _ _ rfl hs
   refine ⟨fun w hw => hw.sub (Sub.keep 1 rfl (Sub.drop (Sub.refl _))), (D.m 18 rfl (D.done hwf rfl (X.next (V.seq (V.seq (V.region (O.m rfl (O.nil (X.next (V.block (V.loop3 (β := Bool × Nat) (fun x => [(13, .bool x.1), (14, .int .i64 (x.2 : Int))]) _ (fun x => []) _ (fun x => x.2 ≤ z.length ∧ x.1 = decide (bkT v_ (a, b, c_) i ∈ z.take x.2)) (fun x => z.length - x.2) (false, 0) (by (try dsimp only); exact ⟨by omega, by simp⟩) (Ent.cons rfl (Ent.cons rfl (Ent.nil _))) (Ent.cons (t := 0) rfl (Ent.cons (t := 1) rfl (Ent.cons (t := 2) rfl (Ent.cons (t := 3) rfl (Ent.cons (t := 4) rfl (Ent.cons (t := 11) rfl (Ent.cons (t := 12) rfl (Ent.nil _)))))))) (Sub.k (Sub.k (Sub.refl _))) ?_)))))))))))⟩
   rintro ⟨known, k⟩ ⟨hk, hk2⟩
   dsimp only at hk hk2 ⊢
   refine V.seq (V.seq (V.region (O.m rfl (O.m rfl (O.q rfl (Pu.len rfl Tryz.underlying24 rfl) (O.q rfl (Pu.lss rfl rfl rfl) (O.nil (X.next (V.condD rfl (fun c2 => ?_) (fun c2 => ?_))))))))))
   ·refine V.skip (X.next (V.seq (V.block (V.draw mo (by kernel_rfl) (fun hwf => D.m 0 rfl (D.m 1 rfl (D.splitB 43 rfl (fun c3 => ?_) (fun c3 => ?_))))))))
    ·subst c3
     refine D.g 2 rfl (D.g 3 rfl (D.g 4 rfl (D.g 5 rfl (D.g 6 rfl (D.g 7 rfl (D.m 8 rfl (D.last hwf (e := 9) rfl rfl rfl rfl rfl rfl (Pu.assign rfl rfl) (X.blockNormal (X.next (V.region (O.m rfl ?_)))))))))))
     exact O.q rfl (Pu.add64 (r := ((k + 1 : Nat) : Int)) rfl (by omega) rfl rfl rfl) (O.m rfl (O.nil (X.back3 (true, k + 1) (by (try dsimp only); exact ⟨by omega, by rw [take_snoc (by omega)]; have h := hk2.symm; rw [decide_eq_true_eq] at h; exact (decide_eq_true (List.mem_append.2 (.inl h))).symm⟩) (by first | omega | (dsimp only; omega)) (Ent.cons rfl (Ent.cons rfl (Ent.nil _))) (Ent.cons (t := 0) rfl (Ent.cons (t := 1) rfl (Ent.cons (t := 2) rfl (Ent.cons (t := 3) rfl (Ent.cons (t := 4) rfl (Ent.cons (t := 11) rfl (Ent.cons (t := 12) rfl (Ent.nil _)))))))) (Sub.k (Sub.k (Sub.refl _))))))
    ·subst c3
     refine D.gm 2 rfl (D.gm 3 rfl (D.gq 4 rfl (Pu.indexAddrS (k) rfl Tryz.underlying24 sz65 rfl rfl (by omega) (by omega) (fun w hw => Own.some hw (i := 1) (by exact rfl) (by omega))) ?_))
     have e1 : k < z.length := by omega
     exact D.gq 5 rfl (Pu.loadAgg' (v := B3.v (z[k]'e1)) rfl rfl ag65 sz65 rfl rfl (Ld.rds (C := B3C) (Ld.own 1 (by exact rfl)) (k := k) e1 rfl)) (D.gq 6 rfl (Pu.loadAgg' (v := B3.v (bk3 ((a + (↑i : Int)) % v_) ((b + (↑i : Int)) % v_) ((c_ + (↑i : Int)) % v_))) rfl rfl ag65 sz65 rfl rfl (Ld.whole 0 rfl)) (D.gq 7 rfl (Pu.eqlB3 Tryz.underlying65 Tryz.underlying2 sz2 (by kernel_rfl) rfl rfl rfl) (D.m 8 rfl (D.last hwf (e := 9) rfl rfl rfl rfl rfl rfl (Pu.assign rfl rfl) (X.blockNormal (X.next (V.region (O.m rfl (O.q rfl (Pu.add64 (r := ((k + 1 : Nat) : Int)) rfl (by omega) rfl rfl rfl) (O.m rfl (O.nil (X.back3 ((decide ((z[k]'e1) = (bk3 ((a + (↑i : Int)) % v_) ((b + (↑i : Int)) % v_) ((c_ + (↑i : Int)) % v_)))), k + 1) (by (try dsimp only); exact ⟨by omega, by rw [take_snoc (by omega)]; have h := hk2.symm; rw [decide_eq_false_iff_not] at h; apply decide_eq_decide.2; rw [List.mem_append, List.mem_singleton]; exact ⟨fun e => .inr e.symm, fun e => e.elim (fun e => absurd e h) Eq.symm⟩⟩) (by first | omega | (dsimp only; omega)) (Ent.cons rfl (Ent.cons rfl (Ent.nil _))) (Ent.cons (t := 0) rfl (Ent.cons (t := 1) rfl (Ent.cons (t := 2) rfl (Ent.cons (t := 3) rfl (Ent.cons (t := 4) rfl (Ent.cons (t := 11) rfl (Ent.cons (t := 12) rfl (Ent.nil _)))))))) (Sub.k (Sub.k (Sub.refl _)))))))))))))))
   ·refine V.exit (X.thenExit (X.thenExit (X.blockHit (X.next (V.seq (V.region (O.m rfl (O.q rfl (Pu.not rfl rfl) (O.nil (X.next (V.cond rfl (fun c4 => ?_) (fun c4 => ?_))))))))))))
    ·have hnk : ¬ bkT v_ (a, b, c_) i ∈ z := by rw [List.take_of_length_le (by omega)] at hk2; intro h; rw [decide_eq_true h] at hk2; simp_all
     refine V.region (O.m rfl (O.q rfl (Pu.loadAgg' (v := B3.v (bk3 ((a + (↑i : Int)) % v_) ((b + (↑i : Int)) % v_) ((c_ + (↑i : Int)) % v_))) rfl rfl ag65 sz65 rfl rfl (Ld.whole 0 rfl)) (O.f rfl (Ef.build B3C ([(bk3 ((a + (↑i : Int)) % v_) ((b + (↑i : Int)) % v_) ((c_ + (↑i : Int)) % v_))] : List B3) rfl Tryz.underlying24 inf65 rfl rfl rfl (by first | decide | (simp; done)) (by kernel_rfl)) ?_)))
     rintro _ _ ⟨A1, hA1, rfl, rfl⟩
     refine O.f rfl (Ef.append (xs := z) (ys := ([(bk3 ((a + (↑i : Int)) % v_) ((b + (↑i : Int)) % v_) ((c_ + (↑i : Int)) % v_))] : List B3)) 2 rfl Tryz.underlying24 inf65 rfl rfl rfl rfl rfl rfl hA1 (Ld.own 0 (by exact rfl)) (by simp only [List.length_append, List.length_cons, List.length_nil] at *; omega) (by decide)) ?_
     rintro _ _ ⟨A2, k1, rfl, rfl, hA2⟩
     replace hA2 := hA2 (.inr (by simp))
     exact O.m rfl (O.nil (X.blockNormal (X.next (V.region (O.m rfl (O.q rfl (Pu.add64 (r := ((i + 1 : Nat) : Int)) rfl (by omega) rfl rfl rfl) (O.m rfl (O.nil (X.back3 (A2, k1, (z ++ ([(bk3 ((a + (↑i : Int)) % v_) ((b + (↑i : Int)) % v_) ((c_ + (↑i : Int)) % v_))] : List B3)), i + 1) (by (try dsimp only); exact ⟨by omega, by rw [hz]; exact (rowT_no (by rw [← hz]; exact hnk)).symm⟩) (by first | omega | (dsimp only; omega)) (Ent.cons rfl (Ent.cons rfl (Ent.nil _))) (Ent.cons (t := 1) rfl (Ent.cons (t := 2) rfl (Ent.cons (t := 3) rfl (Ent.cons (t := 4) rfl (Ent.nil _))))) (Sub.keep 2 rfl (Sub.drop (Sub.drop (Sub.refl _)))))))))))))
    ·have hkn : bkT v_ (a, b, c_) i ∈ z := by rw [List.take_of_length_le (by omega)] at hk2; apply Decidable.byContradiction; intro h; rw [decide_eq_false h] at hk2; simp_all
     exact V.skip (X.blockNormal (X.next (V.region (O.m rfl (O.q rfl (Pu.add64 (r := ((i + 1 : Nat) : Int)) rfl (by omega) rfl rfl rfl) (O.m rfl (O.nil (X.back3 (zA, zc, z, i + 1) (by (try dsimp only); exact ⟨by omega, by rw [hz]; exact (rowT_yes (by rw [← hz]; exact hkn)).symm⟩) (by first | omega | (dsimp only; omega)) (Ent.cons rfl (Ent.cons rfl (Ent.nil _))) (Ent.cons (t := 1) rfl (Ent.cons (t := 2) rfl (Ent.cons (t := 3) rfl (Ent.cons (t := 4) rfl (Ent.nil _))))) (Sub.keep 1 rfl (Sub.drop (Sub.refl _)))))))))))
 ·refine V.exit (X.thenExit (X.thenExit (X.blockHit (X.next (V.seq (V.region (O.m rfl (O.m rfl (O.nil (X.next (V.ret ?_)))))))))))
  exact X.ret1 rfl rfl (fun w hw => St.mkExi zA (St.mkExi zc (St.mkExi z (St.unsep (St.addPur ⟨rfl, by rw [hz, show i = v_.toNat by omega]⟩ (hw.sub (Sub.k (Sub.refl _))))))))
set_option maxRecDepth 100000 in
set_option maxHeartbeats 1000000 in
theorem l01NamedD0_ok (w : World) : Does Tryz.prog 59 [.string (ByteArray.mk #[115, 105, 110, 103, 108, 101])] w [] (fun rv_ => [.exi fun (rA : Option Addr) => .exi fun (rc : Nat) => .exi fun (r : List B3) => .sep (.pur (rv_ = .tuple #[.agg #[.int .i64 3, .slice rA r.length rc], .bool true] ∧ DrS 4000 3 r)) (Own 65 B3C rA rc r)]) := by
 refine Does.enter Tryz.func59 rfl rfl [(0, .string (ByteArray.mk #[115, 105, 110, 103, 108, 101]))] rfl (V.seq (V.region (O.f rfl (Ef.alloc rfl zr26 rfl) ?_)))
 rintro _ _ ⟨b1, rfl, rfl⟩
 refine O.m rfl (O.nil (X.next (V.seq (V.region (O.f rfl (Ef.build B3C ([] : List B3) rfl Tryz.underlying24 inf65 rfl rfl rfl (by first | decide | (simp; done)) (by kernel_rfl)) ?_)))))
 rintro _ _ ⟨A1, hA1, rfl, rfl⟩
 refine O.m rfl (O.nil (X.next (V.seq (V.seq (V.region (O.m rfl (O.nil (X.next (V.block (V.seq (V.region ?_)))))))))))
 refine O.q rfl (Pu.eqlStr (b := true) (by kernel_rfl) rfl rfl rfl) (O.m rfl (O.nil (X.next (V.condT rfl (V.seq (V.region (O.q rfl (Pu.buildA (cs := [.int .i64 (0 : Int), .int .i64 (1 : Int), .int .i64 (2 : Int)]) (v := B3.v ((0 : Int), (1 : Int), (2 : Int))) rfl rfl Tryz.underlying65 zr65 sz2 rfl (by kernel_rfl)) (O.f rfl (Ef.build B3C ([((0 : Int), (1 : Int), (2 : Int))] : List B3) rfl Tryz.underlying24 inf65 rfl rfl rfl (by first | decide | (simp; done)) (by kernel_rfl)) ?_))))))))
 rintro _ _ ⟨A2, hA2, rfl, rfl⟩
 refine O.f rfl (Ef.call1 call71 rfl rfl (fun w hw => l01Made_ok  (3 : Int) ([((0 : Int), (1 : Int), (2 : Int))] : List B3) _ _ w ((Ld.own 0 (by exact rfl)) w hw) (by simp) (by simp))) ?_
 rintro _ _ rfl
 refine O.exi (fun r1A => O.exi (fun r1c => O.exi (fun r1 => O.sep (O.pur ?_))))
 rintro ⟨rfl, hr1_1, hr1_2⟩
 refine O.s rfl rfl (Ef.storeAll 3 rfl sz26 rfl rfl rfl rfl (by simp [Value.oneCell']) rfl) ?_
 rintro _ _ rfl
 exact O.m rfl (O.nil (X.next (V.ret (X.blockRet (X.thenRet (X.retCell2 rfl ag26 sz26 rfl rfl rfl (Ld.whole 3 rfl) (fun w hw => St.mkExi r1A (St.mkExi r1c (St.mkExi r1 (St.unsep (St.addPur ⟨rfl, DrS.perm ⟨by decide, by decide, by decide⟩ hr1_1⟩ (hw.sub (Sub.k (Sub.nil _))))))))))))))
set_option maxRecDepth 100000 in
set_option maxHeartbeats 1000000 in
theorem l01NamedD1_ok (w : World) : Does Tryz.prog 59 [.string (ByteArray.mk #[102, 97, 110, 111])] w [] (fun rv_ => [.exi fun (rA : Option Addr) => .exi fun (rc : Nat) => .exi fun (r : List B3) => .sep (.pur (rv_ = .tuple #[.agg #[.int .i64 7, .slice rA r.length rc], .bool true] ∧ DrS 4000 7 r)) (Own 65 B3C rA rc r)]) := by
 refine Does.enter Tryz.func59 rfl rfl [(0, .string (ByteArray.mk #[102, 97, 110, 111]))] rfl (V.seq (V.region (O.f rfl (Ef.alloc rfl zr26 rfl) ?_)))
 rintro _ _ ⟨b1, rfl, rfl⟩
 refine O.m rfl (O.nil (X.next (V.seq (V.region (O.f rfl (Ef.build B3C ([] : List B3) rfl Tryz.underlying24 inf65 rfl rfl rfl (by first | decide | (simp; done)) (by kernel_rfl)) ?_)))))
 rintro _ _ ⟨A1, hA1, rfl, rfl⟩
 refine O.m rfl (O.nil (X.next (V.seq (V.seq (V.region (O.m rfl (O.nil (X.next (V.block (V.seq (V.region ?_)))))))))))
 refine O.q rfl (Pu.eqlStr (b := false) (by kernel_rfl) rfl rfl rfl) (O.m rfl (O.nil (X.next (V.condF rfl (V.seq (V.region (O.q rfl (Pu.eqlStr (b := true) (by kernel_rfl) rfl rfl rfl) (O.m rfl (O.nil (X.next (V.condT rfl ?_)))))))))))
 refine V.seq (V.region (O.m rfl (O.f rfl (Ef.call call97 rfl rfl (Does.pre (fun w hw => hw.sub (Sub.k (Sub.k (Sub.nil _)))) (l01Turned_ok  ([] : List B3) (7 : Int) (0 : Int) (1 : Int) (3 : Int) _ _ w _   (by decide) (by decide) (by decide) (by decide) (by first | (simp; done) | (rw [hr1_1]; decide +kernel) | (rw [hr2_1, hr1_1]; decide +kernel))))) ?_)))
 rintro _ _ rfl
 refine O.exi (fun r1A => O.exi (fun r1c => O.exi (fun r1 => O.sep (O.pur ?_))))
 rintro ⟨rfl, hr1_1⟩
 refine O.f rfl (Ef.call1 call71 rfl rfl (fun w hw => l01Made_ok  (7 : Int) r1 _ _ w ((Ld.own 0 (by exact rfl)) w hw) (by rw [hr1_1]; decide +kernel) (by rw [hr1_1]; decide +kernel))) ?_
 rintro _ _ rfl
 refine O.exi (fun r2A => O.exi (fun r2c => O.exi (fun r2 => O.sep (O.pur ?_))))
 rintro ⟨rfl, hr2_1, hr2_2⟩
 refine O.s rfl rfl (Ef.storeAll 2 rfl sz26 rfl rfl rfl rfl (by simp [Value.oneCell']) rfl) ?_
 rintro _ _ rfl
 exact O.m rfl (O.nil (X.next (V.ret (X.blockRet (X.thenRet (X.retCell2 rfl ag26 sz26 rfl rfl rfl (Ld.whole 2 rfl) (fun w hw => St.mkExi r2A (St.mkExi r2c (St.mkExi r2 (St.unsep (St.addPur ⟨rfl, DrS.perm (bs := r1) (by rw [hr1_1]; exact ⟨by decide, by decide +kernel, by decide +kernel⟩) hr2_1⟩ (hw.sub (Sub.k (Sub.nil _))))))))))))))
set_option maxRecDepth 100000 in
set_option maxHeartbeats 1000000 in
theorem l01NamedD2_ok (w : World) : Does Tryz.prog 59 [.string (ByteArray.mk #[97, 102, 102, 105, 110, 101])] w [] (fun rv_ => [.exi fun (rA : Option Addr) => .exi fun (rc : Nat) => .exi fun (r : List B3) => .sep (.pur (rv_ = .tuple #[.agg #[.int .i64 9, .slice rA r.length rc], .bool true] ∧ DrS 4000 9 r)) (Own 65 B3C rA rc r)]) := by
 refine Does.enter Tryz.func59 rfl rfl [(0, .string (ByteArray.mk #[97, 102, 102, 105, 110, 101]))] rfl (V.seq (V.region (O.f rfl (Ef.alloc rfl zr26 rfl) ?_)))
 rintro _ _ ⟨b1, rfl, rfl⟩
 refine O.m rfl (O.nil (X.next (V.seq (V.region (O.f rfl (Ef.build B3C ([] : List B3) rfl Tryz.underlying24 inf65 rfl rfl rfl (by first | decide | (simp; done)) (by kernel_rfl)) ?_)))))
 rintro _ _ ⟨A1, hA1, rfl, rfl⟩
 refine O.m rfl (O.nil (X.next (V.seq (V.seq (V.region (O.m rfl (O.nil (X.next (V.block (V.seq (V.region ?_)))))))))))
 refine O.q rfl (Pu.eqlStr (b := false) (by kernel_rfl) rfl rfl rfl) (O.m rfl (O.nil (X.next (V.condF rfl (V.seq (V.region (O.q rfl (Pu.eqlStr (b := false) (by kernel_rfl) rfl rfl rfl) (O.m rfl (O.nil (X.next (V.condF rfl ?_)))))))))))
 refine V.seq (V.region (O.q rfl (Pu.eqlStr (b := false) (by kernel_rfl) rfl rfl rfl) (O.m rfl (O.nil (X.next (V.condF rfl (V.seq (V.region (O.q rfl (Pu.eqlStr (b := false) (by kernel_rfl) rfl rfl rfl) (O.m rfl (O.nil ?_)))))))))))
 refine X.next (V.condF rfl (V.seq (V.seq (V.region (O.q rfl (Pu.eqlStr (b := true) (by kernel_rfl) rfl rfl rfl) (O.m rfl (O.nil (X.next (V.condT rfl (V.skip (X.next ?_)))))))))))
 refine V.condT rfl (V.seq (V.region (O.m rfl (O.nil (X.next (V.seq (V.seq (V.region (O.m rfl (O.q rfl (Pu.eqlStr (b := false) (by kernel_rfl) rfl rfl rfl) (O.nil ?_)))))))))))
 refine X.next (V.condF rfl (V.skip (X.next (V.seq (V.seq (V.region (O.m rfl (O.nil (X.next (V.block (V.loop3 (β := (Option Addr) × Nat × (List B3) × Nat) (fun x => [(4, .slice x.1 x.2.2.1.length x.2.1), (6, .int .i64 (x.2.2.2 : Int))]) _ (fun x => [Own 65 B3C x.1 x.2.1 x.2.2.1]) _ (fun x => x.2.2.2 ≤ 9 ∧ (∀ d ∈ x.2.2.1, good 9 d) ∧ x.2.2.1.length ≤ 225 * x.2.2.2) (fun x => 9 - x.2.2.2) (A1, 0, ([] : List B3), 0) (by (try dsimp only); exact ⟨by omega, by simp, by simp⟩) (Ent.cons rfl (Ent.cons rfl (Ent.nil _))) (Ent.cons (t := 2) rfl (Ent.cons (t := 5) rfl (Ent.nil _))) (Sub.k (Sub.k (Sub.nil _))) ?_)))))))))))
 rintro ⟨z0A, z0c, z0, a⟩ ⟨ha, hg0, hl0⟩
 dsimp only at ha hg0 hl0 ⊢
 refine V.seq (V.seq (V.region (O.m rfl (O.m rfl (O.q rfl (Pu.lss rfl rfl rfl) (O.nil (X.next (V.condD rfl (fun c1 => ?_) (fun c1 => ?_)))))))))
 ·refine V.skip (X.next (V.seq (V.block (V.seq (V.region (O.m rfl (O.q rfl (Pu.add64 (r := ((a + 1 : Nat) : Int)) rfl (by omega) rfl rfl rfl) (O.m rfl (O.nil (X.next (V.block ?_)))))))))))
  refine V.loop3 (β := (Option Addr) × Nat × (List B3) × Nat) (fun x => [(4, .slice x.1 x.2.2.1.length x.2.1), (7, .int .i64 (x.2.2.2 : Int))]) _ (fun x => [Own 65 B3C x.1 x.2.1 x.2.2.1]) _ (fun x => a < x.2.2.2 ∧ x.2.2.2 ≤ 9 ∧ (∀ d ∈ x.2.2.1, good 9 d) ∧ x.2.2.1.length ≤ 225 * a + 15 * x.2.2.2) (fun x => 9 - x.2.2.2) (z0A, z0c, z0, a + 1) (by (try dsimp only); exact ⟨by omega, by omega, hg0, by omega⟩) (Ent.cons rfl (Ent.cons rfl (Ent.nil _))) (Ent.cons (t := 2) rfl (Ent.cons (t := 5) rfl (Ent.cons (t := 6) rfl (Ent.nil _)))) (Sub.k (Sub.k (Sub.nil _))) ?_
  rintro ⟨z1A, z1c, z1, b⟩ ⟨hab, hb, hg1, hl1⟩
  dsimp only at hab hb hg1 hl1 ⊢
  refine V.seq (V.seq (V.region (O.m rfl (O.m rfl (O.q rfl (Pu.lss rfl rfl rfl) (O.nil (X.next (V.condD rfl (fun c2 => ?_) (fun c2 => ?_)))))))))
  ·refine V.skip (X.next (V.seq (V.block (V.seq (V.region (O.m rfl (O.q rfl (Pu.add64 (r := ((b + 1 : Nat) : Int)) rfl (by omega) rfl rfl rfl) (O.m rfl (O.nil (X.next (V.block ?_)))))))))))
   refine V.loop3 (β := (Option Addr) × Nat × (List B3) × Nat) (fun x => [(4, .slice x.1 x.2.2.1.length x.2.1), (8, .int .i64 (x.2.2.2 : Int))]) _ (fun x => [Own 65 B3C x.1 x.2.1 x.2.2.1]) _ (fun x => b < x.2.2.2 ∧ x.2.2.2 ≤ 9 ∧ (∀ d ∈ x.2.2.1, good 9 d) ∧ x.2.2.1.length ≤ 225 * a + 15 * b + x.2.2.2) (fun x => 9 - x.2.2.2) (z1A, z1c, z1, b + 1) (by (try dsimp only); exact ⟨by omega, by omega, hg1, by omega⟩) (Ent.cons rfl (Ent.cons rfl (Ent.nil _))) (Ent.cons (t := 2) rfl (Ent.cons (t := 5) rfl (Ent.cons (t := 6) rfl (Ent.cons (t := 7) rfl (Ent.nil _))))) (Sub.k (Sub.k (Sub.nil _))) ?_
   rintro ⟨z2A, z2c, z2, e⟩ ⟨hbe, he, hg2, hl2⟩
   dsimp only at hbe he hg2 hl2 ⊢
   refine V.seq (V.seq (V.region (O.m rfl (O.m rfl (O.q rfl (Pu.lss rfl rfl rfl) (O.nil (X.next (V.condD rfl (fun c3 => ?_) (fun c3 => ?_)))))))))
   ·refine V.skip (X.next (V.seq (V.block (V.seq (V.region (O.m rfl (O.q rfl (Pu.isT (by decide) (Pu.eql rfl rfl rfl)) (O.m rfl (O.gm rfl (O.gq rfl (Pu.quo64 (by omega) (by omega) (by omega) rfl rfl rfl) (O.gm rfl ?_)))))))))))
    refine O.gq rfl (Pu.quo64 (by omega) (by omega) (by omega) rfl rfl rfl) (O.gq rfl (Pu.add64 rfl (by omega) rfl rfl rfl) (O.gm rfl (O.gq rfl (Pu.quo64 (by omega) (by omega) (by omega) rfl rfl rfl) (O.gq rfl (Pu.add64 rfl (by omega) rfl rfl rfl) (O.gq rfl (Pu.rem64 (by omega) (by omega) rfl rfl rfl) (O.gq rfl (Pu.eql rfl rfl rfl) (O.m rfl (O.m rfl (O.splitD 72 rfl (fun c4 => ?_) (fun c4 => ?_))))))))))
    ·refine O.gm rfl (O.gq rfl (Pu.rem64 (by omega) (by omega) rfl rfl rfl) (O.gm rfl (O.gq rfl (Pu.rem64 (by omega) (by omega) rfl rfl rfl) (O.gq rfl (Pu.add64 rfl (by omega) rfl rfl rfl) (O.gm rfl (O.gq rfl (Pu.rem64 (by omega) (by omega) rfl rfl rfl) (O.gq rfl (Pu.add64 rfl (by omega) rfl rfl rfl) (O.gq rfl (Pu.rem64 (by omega) (by omega) rfl rfl rfl) (O.gq rfl (Pu.eql rfl rfl rfl) (O.m rfl (O.m rfl (O.splitD 84 rfl (fun c5 => ?_) (fun c5 => ?_)))))))))))))
     ·refine O.g rfl (O.g rfl (O.g rfl (O.g rfl (O.g rfl (O.g rfl (O.g rfl (O.g rfl (O.g rfl (O.g rfl (O.g rfl (O.g rfl ?_)))))))))))
      refine O.g rfl (O.m rfl (O.nil (X.next (V.condT rfl (V.region (O.m rfl (O.m rfl (O.m rfl (O.m rfl (O.q rfl (Pu.buildA (cs := [.int .i64 (↑a : Int), .int .i64 (↑b : Int), .int .i64 (↑e : Int)]) (v := B3.v ((↑a : Int), (↑b : Int), (↑e : Int))) rfl rfl Tryz.underlying65 zr65 sz2 rfl (by kernel_rfl)) (O.f rfl (Ef.build B3C ([((↑a : Int), (↑b : Int), (↑e : Int))] : List B3) rfl Tryz.underlying24 inf65 rfl rfl rfl (by first | decide | (simp; done)) (by kernel_rfl)) ?_)))))))))))
      rintro _ _ ⟨A2, hA2, rfl, rfl⟩
      refine O.f rfl (Ef.append (xs := z2) (ys := ([((↑a : Int), (↑b : Int), (↑e : Int))] : List B3)) 1 rfl Tryz.underlying24 inf65 rfl rfl rfl rfl rfl rfl hA2 (Ld.own 0 (by exact rfl)) (by simp only [List.length_append, List.length_cons, List.length_nil] at *; omega) (by decide)) ?_
      rintro _ _ ⟨A3, k1, rfl, rfl, hA3⟩
      replace hA3 := hA3 (.inr (by simp))
      exact O.m rfl (O.nil (X.blockNormal (X.next (V.region (O.m rfl (O.q rfl (Pu.add64 (r := ((e + 1 : Nat) : Int)) rfl (by omega) rfl rfl rfl) (O.m rfl (O.nil (X.back3 (A3, k1, (z2 ++ ([((↑a : Int), (↑b : Int), (↑e : Int))] : List B3)), e + 1) (by (try dsimp only); exact ⟨by omega, by omega, (by first | exact hg2 | exact good_snoc hg2 (by unfold good; simp only; omega)), (by first | omega | (simp only [List.length_append, List.length_singleton]; omega))⟩) (by first | omega | (dsimp only; omega)) (Ent.cons rfl (Ent.cons rfl (Ent.nil _))) (Ent.cons (t := 2) rfl (Ent.cons (t := 5) rfl (Ent.cons (t := 6) rfl (Ent.cons (t := 7) rfl (Ent.nil _))))) (Sub.keep 1 rfl (Sub.keep 1 rfl (Sub.nil _))))))))))))
     ·refine O.gm rfl (O.gq rfl (Pu.isF (by decide) (Pu.eql rfl rfl rfl)) (O.gm rfl (O.g rfl (O.g rfl (O.g rfl (O.g rfl (O.g rfl (O.g rfl (O.g rfl (O.g rfl (O.g rfl ?_)))))))))))
      refine O.gm rfl (O.m rfl (O.nil (X.next (V.condF rfl (V.skip (X.blockNormal (X.next (V.region (O.m rfl (O.q rfl (Pu.add64 (r := ((e + 1 : Nat) : Int)) rfl (by omega) rfl rfl rfl) (O.m rfl ?_)))))))))))
      exact O.nil (X.back3 (z2A, z2c, z2, e + 1) (by (try dsimp only); exact ⟨by omega, by omega, (by first | exact hg2 | exact good_snoc hg2 (by unfold good; simp only; omega)), (by first | omega | (simp only [List.length_append, List.length_singleton]; omega))⟩) (by first | omega | (dsimp only; omega)) (Ent.cons rfl (Ent.cons rfl (Ent.nil _))) (Ent.cons (t := 2) rfl (Ent.cons (t := 5) rfl (Ent.cons (t := 6) rfl (Ent.cons (t := 7) rfl (Ent.nil _))))) (Sub.k (Sub.k (Sub.nil _))))
    ·refine O.g rfl (O.g rfl (O.g rfl (O.g rfl (O.g rfl (O.g rfl (O.g rfl (O.g rfl (O.g rfl (O.g rfl (O.m rfl (O.m rfl ?_)))))))))))
     refine O.gm rfl (O.gq rfl (Pu.isF (by decide) (Pu.eql rfl rfl rfl)) (O.gm rfl (O.g rfl (O.g rfl (O.g rfl (O.g rfl (O.g rfl (O.g rfl (O.g rfl (O.g rfl (O.g rfl ?_)))))))))))
     refine O.gm rfl (O.m rfl (O.nil (X.next (V.condF rfl (V.skip (X.blockNormal (X.next (V.region (O.m rfl (O.q rfl (Pu.add64 (r := ((e + 1 : Nat) : Int)) rfl (by omega) rfl rfl rfl) (O.m rfl ?_)))))))))))
     exact O.nil (X.back3 (z2A, z2c, z2, e + 1) (by (try dsimp only); exact ⟨by omega, by omega, (by first | exact hg2 | exact good_snoc hg2 (by unfold good; simp only; omega)), (by first | omega | (simp only [List.length_append, List.length_singleton]; omega))⟩) (by first | omega | (dsimp only; omega)) (Ent.cons rfl (Ent.cons rfl (Ent.nil _))) (Ent.cons (t := 2) rfl (Ent.cons (t := 5) rfl (Ent.cons (t := 6) rfl (Ent.cons (t := 7) rfl (Ent.nil _))))) (Sub.k (Sub.k (Sub.nil _))))
   ·exact V.exit (X.thenExit (X.thenExit (X.blockHit (X.blockNormal (X.next (V.region (O.m rfl (O.q rfl (Pu.add64 (r := ((b + 1 : Nat) : Int)) rfl (by omega) rfl rfl rfl) (O.m rfl (O.nil (X.back3 (z2A, z2c, z2, b + 1) (by (try dsimp only); exact ⟨by omega, by omega, hg2, by omega⟩) (by first | omega | (dsimp only; omega)) (Ent.cons rfl (Ent.cons rfl (Ent.nil _))) (Ent.cons (t := 2) rfl (Ent.cons (t := 5) rfl (Ent.cons (t := 6) rfl (Ent.nil _)))) (Sub.k (Sub.k (Sub.nil _))))))))))))))
  ·exact V.exit (X.thenExit (X.thenExit (X.blockHit (X.blockNormal (X.next (V.region (O.m rfl (O.q rfl (Pu.add64 (r := ((a + 1 : Nat) : Int)) rfl (by omega) rfl rfl rfl) (O.m rfl (O.nil (X.back3 (z1A, z1c, z1, a + 1) (by (try dsimp only); exact ⟨by omega, hg1, by omega⟩) (by first | omega | (dsimp only; omega)) (Ent.cons rfl (Ent.cons rfl (Ent.nil _))) (Ent.cons (t := 2) rfl (Ent.cons (t := 5) rfl (Ent.nil _))) (Sub.k (Sub.k (Sub.nil _))))))))))))))
 ·refine V.exit (X.thenExit (X.thenExit (X.blockHit (X.next (V.seq (V.region (O.m rfl (O.m rfl (O.f rfl (Ef.call1 call71 rfl rfl (fun w hw => l01Made_ok  (9 : Int) z0 _ _ w ((Ld.own 0 (by exact rfl)) w hw) (by first | omega | (simp only [tops_len, conts_len, bl, List.length_append, List.length_cons, List.length_nil] at *; omega)) (by first | assumption | omega | (try dsimp only at *; omega)))) ?_)))))))))
  rintro _ _ rfl
  refine O.exi (fun r1A => O.exi (fun r1c => O.exi (fun r1 => O.sep (O.pur ?_))))
  rintro ⟨rfl, hr1_1, hr1_2⟩
  refine O.s rfl rfl (Ef.storeAll 2 rfl sz26 rfl rfl rfl rfl (by simp [Value.oneCell']) rfl) ?_
  rintro _ _ rfl
  exact O.m rfl (O.nil (X.next (V.ret (X.blockRet (X.thenRet (X.retCell2 rfl ag26 sz26 rfl rfl rfl (Ld.whole 2 rfl) (fun w hw => St.mkExi r1A (St.mkExi r1c (St.mkExi r1 (St.unsep (St.addPur ⟨rfl, DrS.perm ⟨by decide, hg0, by omega⟩ hr1_1⟩ (hw.sub (Sub.k (Sub.nil _))))))))))))))
set_option maxRecDepth 100000 in
set_option maxHeartbeats 1000000 in
theorem l01NamedD3_ok (w : World) : Does Tryz.prog 59 [.string (ByteArray.mk #[99, 121, 99, 108, 105, 99, 49, 51])] w [] (fun rv_ => [.exi fun (rA : Option Addr) => .exi fun (rc : Nat) => .exi fun (r : List B3) => .sep (.pur (rv_ = .tuple #[.agg #[.int .i64 13, .slice rA r.length rc], .bool true] ∧ DrS 4000 13 r)) (Own 65 B3C rA rc r)]) := by
 refine Does.enter Tryz.func59 rfl rfl [(0, .string (ByteArray.mk #[99, 121, 99, 108, 105, 99, 49, 51]))] rfl (V.seq (V.region (O.f rfl (Ef.alloc rfl zr26 rfl) ?_)))
 rintro _ _ ⟨b1, rfl, rfl⟩
 refine O.m rfl (O.nil (X.next (V.seq (V.region (O.f rfl (Ef.build B3C ([] : List B3) rfl Tryz.underlying24 inf65 rfl rfl rfl (by first | decide | (simp; done)) (by kernel_rfl)) ?_)))))
 rintro _ _ ⟨A1, hA1, rfl, rfl⟩
 refine O.m rfl (O.nil (X.next (V.seq (V.seq (V.region (O.m rfl (O.nil (X.next (V.block (V.seq (V.region ?_)))))))))))
 refine O.q rfl (Pu.eqlStr (b := false) (by kernel_rfl) rfl rfl rfl) (O.m rfl (O.nil (X.next (V.condF rfl (V.seq (V.region (O.q rfl (Pu.eqlStr (b := false) (by kernel_rfl) rfl rfl rfl) (O.m rfl (O.nil (X.next (V.condF rfl ?_)))))))))))
 refine V.seq (V.region (O.q rfl (Pu.eqlStr (b := true) (by kernel_rfl) rfl rfl rfl) (O.m rfl (O.nil (X.next (V.condT rfl (V.seq (V.region (O.m rfl (O.f rfl (Ef.call call97 rfl rfl (Does.pre (fun w hw => hw.sub (Sub.k (Sub.k (Sub.nil _)))) (l01Turned_ok  ([] : List B3) (13 : Int) (0 : Int) (1 : Int) (4 : Int) _ _ w _   (by decide) (by decide) (by decide) (by decide) (by first | (simp; done) | (rw [hr1_1]; decide +kernel) | (rw [hr2_1, hr1_1]; decide +kernel))))) ?_))))))))))
 rintro _ _ rfl
 refine O.exi (fun r1A => O.exi (fun r1c => O.exi (fun r1 => O.sep (O.pur ?_))))
 rintro ⟨rfl, hr1_1⟩
 refine O.f rfl (Ef.call call97 rfl rfl (Does.pre (fun w hw => hw.sub (Sub.k (Sub.k (Sub.nil _)))) (l01Turned_ok  r1 (13 : Int) (0 : Int) (2 : Int) (7 : Int) _ _ w _   (by decide) (by decide) (by decide) (by decide) (by first | (simp; done) | (rw [hr1_1]; decide +kernel) | (rw [hr2_1, hr1_1]; decide +kernel))))) ?_
 rintro _ _ rfl
 refine O.exi (fun r2A => O.exi (fun r2c => O.exi (fun r2 => O.sep (O.pur ?_))))
 rintro ⟨rfl, hr2_1⟩
 refine O.f rfl (Ef.call1 call71 rfl rfl (fun w hw => l01Made_ok  (13 : Int) r2 _ _ w ((Ld.own 0 (by exact rfl)) w hw) (by rw [hr2_1, hr1_1]; decide +kernel) (by rw [hr2_1, hr1_1]; decide +kernel))) ?_
 rintro _ _ rfl
 refine O.exi (fun r3A => O.exi (fun r3c => O.exi (fun r3 => O.sep (O.pur ?_))))
 rintro ⟨rfl, hr3_1, hr3_2⟩
 refine O.s rfl rfl (Ef.storeAll 2 rfl sz26 rfl rfl rfl rfl (by simp [Value.oneCell']) rfl) ?_
 rintro _ _ rfl
 exact O.m rfl (O.nil (X.next (V.ret (X.blockRet (X.thenRet (X.retCell2 rfl ag26 sz26 rfl rfl rfl (Ld.whole 2 rfl) (fun w hw => St.mkExi r3A (St.mkExi r3c (St.mkExi r3 (St.unsep (St.addPur ⟨rfl, DrS.perm (bs := r2) (by rw [hr2_1, hr1_1]; exact ⟨by decide, by decide +kernel, by decide +kernel⟩) hr3_1⟩ (hw.sub (Sub.k (Sub.nil _))))))))))))))
set_option maxRecDepth 100000 in
set_option maxHeartbeats 1000000 in
theorem l01NamedD4_ok (w : World) : Does Tryz.prog 59 [.string (ByteArray.mk #[99, 121, 99, 108, 105, 99, 49, 53])] w [] (fun rv_ => [.exi fun (rA : Option Addr) => .exi fun (rc : Nat) => .exi fun (r : List B3) => .sep (.pur (rv_ = .tuple #[.agg #[.int .i64 15, .slice rA r.length rc], .bool true] ∧ DrS 4000 15 r)) (Own 65 B3C rA rc r)]) := by
 refine Does.enter Tryz.func59 rfl rfl [(0, .string (ByteArray.mk #[99, 121, 99, 108, 105, 99, 49, 53]))] rfl (V.seq (V.region (O.f rfl (Ef.alloc rfl zr26 rfl) ?_)))
 rintro _ _ ⟨b1, rfl, rfl⟩
 refine O.m rfl (O.nil (X.next (V.seq (V.region (O.f rfl (Ef.build B3C ([] : List B3) rfl Tryz.underlying24 inf65 rfl rfl rfl (by first | decide | (simp; done)) (by kernel_rfl)) ?_)))))
 rintro _ _ ⟨A1, hA1, rfl, rfl⟩
 refine O.m rfl (O.nil (X.next (V.seq (V.seq (V.region (O.m rfl (O.nil (X.next (V.block (V.seq (V.region ?_)))))))))))
 refine O.q rfl (Pu.eqlStr (b := false) (by kernel_rfl) rfl rfl rfl) (O.m rfl (O.nil (X.next (V.condF rfl (V.seq (V.region (O.q rfl (Pu.eqlStr (b := false) (by kernel_rfl) rfl rfl rfl) (O.m rfl (O.nil (X.next (V.condF rfl ?_)))))))))))
 refine V.seq (V.region (O.q rfl (Pu.eqlStr (b := false) (by kernel_rfl) rfl rfl rfl) (O.m rfl (O.nil (X.next (V.condF rfl (V.seq (V.region (O.q rfl (Pu.eqlStr (b := true) (by kernel_rfl) rfl rfl rfl) (O.m rfl (O.nil ?_)))))))))))
 refine X.next (V.condT rfl (V.seq (V.region (O.m rfl (O.f rfl (Ef.call call97 rfl rfl (Does.pre (fun w hw => hw.sub (Sub.k (Sub.k (Sub.nil _)))) (l01Turned_ok  ([] : List B3) (15 : Int) (0 : Int) (1 : Int) (4 : Int) _ _ w _   (by decide) (by decide) (by decide) (by decide) (by first | (simp; done) | (rw [hr1_1]; decide +kernel) | (rw [hr2_1, hr1_1]; decide +kernel))))) ?_)))))
 rintro _ _ rfl
 refine O.exi (fun r1A => O.exi (fun r1c => O.exi (fun r1 => O.sep (O.pur ?_))))
 rintro ⟨rfl, hr1_1⟩
 refine O.f rfl (Ef.call call97 rfl rfl (Does.pre (fun w hw => hw.sub (Sub.k (Sub.k (Sub.nil _)))) (l01Turned_ok  r1 (15 : Int) (0 : Int) (2 : Int) (8 : Int) _ _ w _   (by decide) (by decide) (by decide) (by decide) (by first | (simp; done) | (rw [hr1_1]; decide +kernel) | (rw [hr2_1, hr1_1]; decide +kernel))))) ?_
 rintro _ _ rfl
 refine O.exi (fun r2A => O.exi (fun r2c => O.exi (fun r2 => O.sep (O.pur ?_))))
 rintro ⟨rfl, hr2_1⟩
 refine O.f rfl (Ef.call call97 rfl rfl (Does.pre (fun w hw => hw.sub (Sub.k (Sub.k (Sub.nil _)))) (l01Turned_ok  r2 (15 : Int) (0 : Int) (5 : Int) (10 : Int) _ _ w _   (by decide) (by decide) (by decide) (by decide) (by first | (simp; done) | (rw [hr1_1]; decide +kernel) | (rw [hr2_1, hr1_1]; decide +kernel))))) ?_
 rintro _ _ rfl
 refine O.exi (fun r3A => O.exi (fun r3c => O.exi (fun r3 => O.sep (O.pur ?_))))
 rintro ⟨rfl, hr3_1⟩
 refine O.f rfl (Ef.call1 call71 rfl rfl (fun w hw => l01Made_ok  (15 : Int) r3 _ _ w ((Ld.own 0 (by exact rfl)) w hw) (by rw [hr3_1, hr2_1, hr1_1]; decide +kernel) (by rw [hr3_1, hr2_1, hr1_1]; decide +kernel))) ?_
 rintro _ _ rfl
 refine O.exi (fun r4A => O.exi (fun r4c => O.exi (fun r4 => O.sep (O.pur ?_))))
 rintro ⟨rfl, hr4_1, hr4_2⟩
 refine O.s rfl rfl (Ef.storeAll 2 rfl sz26 rfl rfl rfl rfl (by simp [Value.oneCell']) rfl) ?_
 rintro _ _ rfl
 exact O.m rfl (O.nil (X.next (V.ret (X.blockRet (X.thenRet (X.retCell2 rfl ag26 sz26 rfl rfl rfl (Ld.whole 2 rfl) (fun w hw => St.mkExi r4A (St.mkExi r4c (St.mkExi r4 (St.unsep (St.addPur ⟨rfl, DrS.perm (bs := r3) (by rw [hr3_1, hr2_1, hr1_1]; exact ⟨by decide, by decide +kernel, by decide +kernel⟩) hr4_1⟩ (hw.sub (Sub.k (Sub.nil _))))))))))))))
set_option maxRecDepth 100000 in
set_option maxHeartbeats 1000000 in
theorem l01NamedD5_ok (w : World) : Does Tryz.prog 59 [.string (ByteArray.mk #[112, 114, 111, 106, 101, 99, 116, 105, 118, 101, 49, 53])] w [] (fun rv_ => [.exi fun (rA : Option Addr) => .exi fun (rc : Nat) => .exi fun (r : List B3) => .sep (.pur (rv_ = .tuple #[.agg #[.int .i64 15, .slice rA r.length rc], .bool true] ∧ DrS 4000 15 r)) (Own 65 B3C rA rc r)]) := by
 refine Does.enter Tryz.func59 rfl rfl [(0, .string (ByteArray.mk #[112, 114, 111, 106, 101, 99, 116, 105, 118, 101, 49, 53]))] rfl (V.seq (V.region (O.f rfl (Ef.alloc rfl zr26 rfl) ?_)))
 rintro _ _ ⟨b1, rfl, rfl⟩
 refine O.m rfl (O.nil (X.next (V.seq (V.region (O.f rfl (Ef.build B3C ([] : List B3) rfl Tryz.underlying24 inf65 rfl rfl rfl (by first | decide | (simp; done)) (by kernel_rfl)) ?_)))))
 rintro _ _ ⟨A1, hA1, rfl, rfl⟩
 refine O.m rfl (O.nil (X.next (V.seq (V.seq (V.region (O.m rfl (O.nil (X.next (V.block (V.seq (V.region ?_)))))))))))
 refine O.q rfl (Pu.eqlStr (b := false) (by kernel_rfl) rfl rfl rfl) (O.m rfl (O.nil (X.next (V.condF rfl (V.seq (V.region (O.q rfl (Pu.eqlStr (b := false) (by kernel_rfl) rfl rfl rfl) (O.m rfl (O.nil (X.next (V.condF rfl ?_)))))))))))
 refine V.seq (V.region (O.q rfl (Pu.eqlStr (b := false) (by kernel_rfl) rfl rfl rfl) (O.m rfl (O.nil (X.next (V.condF rfl (V.seq (V.region (O.q rfl (Pu.eqlStr (b := false) (by kernel_rfl) rfl rfl rfl) (O.m rfl (O.nil ?_)))))))))))
 refine X.next (V.condF rfl (V.seq (V.seq (V.region (O.q rfl (Pu.eqlStr (b := false) (by kernel_rfl) rfl rfl rfl) (O.m rfl (O.nil (X.next (V.condF rfl (V.region (O.q rfl (Pu.eqlStr (b := true) (by kernel_rfl) rfl rfl rfl) ?_)))))))))))
 refine O.m rfl (O.nil (X.next (V.condT rfl (V.seq (V.region (O.m rfl (O.nil (X.next (V.seq (V.seq (V.region ?_)))))))))))
 refine O.m rfl (O.q rfl (Pu.eqlStr (b := true) (by kernel_rfl) rfl rfl rfl) (O.nil (X.next (V.condT rfl (V.region (O.m rfl (O.nil (X.next (V.seq (V.seq (V.region ?_)))))))))))
 refine O.m rfl (O.nil (X.next (V.block (V.loop3 (β := (Option Addr) × Nat × (List B3) × Nat) (fun x => [(4, .slice x.1 x.2.2.1.length x.2.1), (6, .int .i64 (x.2.2.2 : Int))]) _ (fun x => [Own 65 B3C x.1 x.2.1 x.2.2.1]) _ (fun x => x.2.2.2 ≤ 15 ∧ (∀ d ∈ x.2.2.1, good 15 d) ∧ x.2.2.1.length ≤ 225 * x.2.2.2) (fun x => 15 - x.2.2.2) (A1, 0, ([] : List B3), 0) (by (try dsimp only); exact ⟨by omega, by simp, by simp⟩) (Ent.cons rfl (Ent.cons rfl (Ent.nil _))) (Ent.cons (t := 2) rfl (Ent.cons (t := 5) rfl (Ent.nil _))) (Sub.k (Sub.k (Sub.nil _))) ?_))))
 rintro ⟨z0A, z0c, z0, a⟩ ⟨ha, hg0, hl0⟩
 dsimp only at ha hg0 hl0 ⊢
 refine V.seq (V.seq (V.region (O.m rfl (O.m rfl (O.q rfl (Pu.lss rfl rfl rfl) (O.nil (X.next (V.condD rfl (fun c1 => ?_) (fun c1 => ?_)))))))))
 ·refine V.skip (X.next (V.seq (V.block (V.seq (V.region (O.m rfl (O.q rfl (Pu.add64 (r := ((a + 1 : Nat) : Int)) rfl (by omega) rfl rfl rfl) (O.m rfl (O.nil (X.next (V.block ?_)))))))))))
  refine V.loop3 (β := (Option Addr) × Nat × (List B3) × Nat) (fun x => [(4, .slice x.1 x.2.2.1.length x.2.1), (7, .int .i64 (x.2.2.2 : Int))]) _ (fun x => [Own 65 B3C x.1 x.2.1 x.2.2.1]) _ (fun x => a < x.2.2.2 ∧ x.2.2.2 ≤ 15 ∧ (∀ d ∈ x.2.2.1, good 15 d) ∧ x.2.2.1.length ≤ 225 * a + 15 * x.2.2.2) (fun x => 15 - x.2.2.2) (z0A, z0c, z0, a + 1) (by (try dsimp only); exact ⟨by omega, by omega, hg0, by omega⟩) (Ent.cons rfl (Ent.cons rfl (Ent.nil _))) (Ent.cons (t := 2) rfl (Ent.cons (t := 5) rfl (Ent.cons (t := 6) rfl (Ent.nil _)))) (Sub.k (Sub.k (Sub.nil _))) ?_
  rintro ⟨z1A, z1c, z1, b⟩ ⟨hab, hb, hg1, hl1⟩
  dsimp only at hab hb hg1 hl1 ⊢
  refine V.seq (V.seq (V.region (O.m rfl (O.m rfl (O.q rfl (Pu.lss rfl rfl rfl) (O.nil (X.next (V.condD rfl (fun c2 => ?_) (fun c2 => ?_)))))))))
  ·refine V.skip (X.next (V.seq (V.block (V.seq (V.region (O.m rfl (O.q rfl (Pu.add64 (r := ((b + 1 : Nat) : Int)) rfl (by omega) rfl rfl rfl) (O.m rfl (O.nil (X.next (V.block ?_)))))))))))
   refine V.loop3 (β := (Option Addr) × Nat × (List B3) × Nat) (fun x => [(4, .slice x.1 x.2.2.1.length x.2.1), (8, .int .i64 (x.2.2.2 : Int))]) _ (fun x => [Own 65 B3C x.1 x.2.1 x.2.2.1]) _ (fun x => b < x.2.2.2 ∧ x.2.2.2 ≤ 15 ∧ (∀ d ∈ x.2.2.1, good 15 d) ∧ x.2.2.1.length ≤ 225 * a + 15 * b + x.2.2.2) (fun x => 15 - x.2.2.2) (z1A, z1c, z1, b + 1) (by (try dsimp only); exact ⟨by omega, by omega, hg1, by omega⟩) (Ent.cons rfl (Ent.cons rfl (Ent.nil _))) (Ent.cons (t := 2) rfl (Ent.cons (t := 5) rfl (Ent.cons (t := 6) rfl (Ent.cons (t := 7) rfl (Ent.nil _))))) (Sub.k (Sub.k (Sub.nil _))) ?_
   rintro ⟨z2A, z2c, z2, e⟩ ⟨hbe, he, hg2, hl2⟩
   dsimp only at hbe he hg2 hl2 ⊢
   refine V.seq (V.seq (V.region (O.m rfl (O.m rfl (O.q rfl (Pu.lss rfl rfl rfl) (O.nil (X.next (V.condD rfl (fun c3 => ?_) (fun c3 => ?_)))))))))
   ·refine V.skip (X.next (V.seq (V.block (V.seq (V.region (O.m rfl (O.q rfl (Pu.isF (by decide) (Pu.eql rfl rfl rfl)) (O.m rfl (O.g rfl (O.g rfl (O.g rfl ?_)))))))))))
    refine O.g rfl (O.g rfl (O.g rfl (O.g rfl (O.g rfl (O.g rfl (O.g rfl (O.m rfl (O.m rfl (O.g rfl (O.g rfl (O.g rfl ?_)))))))))))
    refine O.g rfl (O.g rfl (O.g rfl (O.g rfl (O.g rfl (O.g rfl (O.g rfl (O.m rfl (O.m rfl (O.gm rfl (O.gq rfl (Pu.isT (by decide) (Pu.eql rfl rfl rfl)) (O.gm rfl ?_)))))))))))
    refine O.gm rfl (O.gq rfl (Pu.add64 (r := ((a + 1 : Nat) : Int)) rfl (by omega) rfl rfl rfl) (O.gm rfl (O.gq rfl (Pu.add64 (r := ((b + 1 : Nat) : Int)) rfl (by omega) rfl rfl rfl) (O.gq rfl (Pu.xor (m := a + 1) (n := b + 1) K64.i (by omega) (by omega) rfl rfl rfl) (O.gm rfl (O.gq rfl (Pu.add64 (r := ((e + 1 : Nat) : Int)) rfl (by omega) rfl rfl rfl) (O.gq rfl (Pu.xor (m := (a + 1 ^^^ b + 1)) (n := e + 1) K64.i (xor_lt (by omega) (by omega)) (by omega) rfl rfl rfl) (O.gq rfl (Pu.eql rfl rfl rfl) (O.gm rfl (O.m rfl (O.nil ?_)))))))))))
    refine X.next (V.condD rfl (fun c4 => ?_) (fun c4 => ?_))
    ·refine V.region (O.m rfl (O.m rfl (O.m rfl (O.m rfl (O.q rfl (Pu.buildA (cs := [.int .i64 (↑a : Int), .int .i64 (↑b : Int), .int .i64 (↑e : Int)]) (v := B3.v ((↑a : Int), (↑b : Int), (↑e : Int))) rfl rfl Tryz.underlying65 zr65 sz2 rfl (by kernel_rfl)) (O.f rfl (Ef.build B3C ([((↑a : Int), (↑b : Int), (↑e : Int))] : List B3) rfl Tryz.underlying24 inf65 rfl rfl rfl (by first | decide | (simp; done)) (by kernel_rfl)) ?_))))))
     rintro _ _ ⟨A2, hA2, rfl, rfl⟩
     refine O.f rfl (Ef.append (xs := z2) (ys := ([((↑a : Int), (↑b : Int), (↑e : Int))] : List B3)) 1 rfl Tryz.underlying24 inf65 rfl rfl rfl rfl rfl rfl hA2 (Ld.own 0 (by exact rfl)) (by simp only [List.length_append, List.length_cons, List.length_nil] at *; omega) (by decide)) ?_
     rintro _ _ ⟨A3, k1, rfl, rfl, hA3⟩
     replace hA3 := hA3 (.inr (by simp))
     exact O.m rfl (O.nil (X.blockNormal (X.next (V.region (O.m rfl (O.q rfl (Pu.add64 (r := ((e + 1 : Nat) : Int)) rfl (by omega) rfl rfl rfl) (O.m rfl (O.nil (X.back3 (A3, k1, (z2 ++ ([((↑a : Int), (↑b : Int), (↑e : Int))] : List B3)), e + 1) (by (try dsimp only); exact ⟨by omega, by omega, (by first | exact hg2 | exact good_snoc hg2 (by unfold good; simp only; omega)), (by first | omega | (simp only [List.length_append, List.length_singleton]; omega))⟩) (by first | omega | (dsimp only; omega)) (Ent.cons rfl (Ent.cons rfl (Ent.nil _))) (Ent.cons (t := 2) rfl (Ent.cons (t := 5) rfl (Ent.cons (t := 6) rfl (Ent.cons (t := 7) rfl (Ent.nil _))))) (Sub.keep 1 rfl (Sub.keep 1 rfl (Sub.nil _))))))))))))
    ·exact V.skip (X.blockNormal (X.next (V.region (O.m rfl (O.q rfl (Pu.add64 (r := ((e + 1 : Nat) : Int)) rfl (by omega) rfl rfl rfl) (O.m rfl (O.nil (X.back3 (z2A, z2c, z2, e + 1) (by (try dsimp only); exact ⟨by omega, by omega, (by first | exact hg2 | exact good_snoc hg2 (by unfold good; simp only; omega)), (by first | omega | (simp only [List.length_append, List.length_singleton]; omega))⟩) (by first | omega | (dsimp only; omega)) (Ent.cons rfl (Ent.cons rfl (Ent.nil _))) (Ent.cons (t := 2) rfl (Ent.cons (t := 5) rfl (Ent.cons (t := 6) rfl (Ent.cons (t := 7) rfl (Ent.nil _))))) (Sub.k (Sub.k (Sub.nil _)))))))))))
   ·exact V.exit (X.thenExit (X.thenExit (X.blockHit (X.blockNormal (X.next (V.region (O.m rfl (O.q rfl (Pu.add64 (r := ((b + 1 : Nat) : Int)) rfl (by omega) rfl rfl rfl) (O.m rfl (O.nil (X.back3 (z2A, z2c, z2, b + 1) (by (try dsimp only); exact ⟨by omega, by omega, hg2, by omega⟩) (by first | omega | (dsimp only; omega)) (Ent.cons rfl (Ent.cons rfl (Ent.nil _))) (Ent.cons (t := 2) rfl (Ent.cons (t := 5) rfl (Ent.cons (t := 6) rfl (Ent.nil _)))) (Sub.k (Sub.k (Sub.nil _))))))))))))))
  ·exact V.exit (X.thenExit (X.thenExit (X.blockHit (X.blockNormal (X.next (V.region (O.m rfl (O.q rfl (Pu.add64 (r := ((a + 1 : Nat) : Int)) rfl (by omega) rfl rfl rfl) (O.m rfl (O.nil (X.back3 (z1A, z1c, z1, a + 1) (by (try dsimp only); exact ⟨by omega, hg1, by omega⟩) (by first | omega | (dsimp only; omega)) (Ent.cons rfl (Ent.cons rfl (Ent.nil _))) (Ent.cons (t := 2) rfl (Ent.cons (t := 5) rfl (Ent.nil _))) (Sub.k (Sub.k (Sub.nil _))))))))))))))
 ·refine V.exit (X.thenExit (X.thenExit (X.blockHit (X.next (V.seq (V.region (O.m rfl (O.m rfl (O.f rfl (Ef.call1 call71 rfl rfl (fun w hw => l01Made_ok  (15 : Int) z0 _ _ w ((Ld.own 0 (by exact rfl)) w hw) (by first | omega | (simp only [tops_len, conts_len, bl, List.length_append, List.length_cons, List.length_nil] at *; omega)) (by first | assumption | omega | (try dsimp only at *; omega)))) ?_)))))))))
  rintro _ _ rfl
  refine O.exi (fun r1A => O.exi (fun r1c => O.exi (fun r1 => O.sep (O.pur ?_))))
  rintro ⟨rfl, hr1_1, hr1_2⟩
  refine O.s rfl rfl (Ef.storeAll 2 rfl sz26 rfl rfl rfl rfl (by simp [Value.oneCell']) rfl) ?_
  rintro _ _ rfl
  exact O.m rfl (O.nil (X.next (V.ret (X.blockRet (X.thenRet (X.retCell2 rfl ag26 sz26 rfl rfl rfl (Ld.whole 2 rfl) (fun w hw => St.mkExi r1A (St.mkExi r1c (St.mkExi r1 (St.unsep (St.addPur ⟨rfl, DrS.perm ⟨by decide, hg0, by omega⟩ hr1_1⟩ (hw.sub (Sub.k (Sub.nil _))))))))))))))
theorem l01NamedAny_ok (x : ByteArray) (w : World) (hx : x ∈ nmL) : Does Tryz.prog 59 [.string x] w [] (fun v => [.exi fun pv : Int => .exi fun rA : Option Addr => .exi fun rc : Nat => .exi fun r : List B3 => .sep (.pur (v = .tuple #[.agg #[.int .i64 pv, .slice rA r.length rc], .bool true] ∧ DrS 4000 pv r)) (Own 65 B3C rA rc r)]) := by
 unfold nmL at hx
 simp only [List.mem_cons, List.not_mem_nil, or_false] at hx
 rcases hx with rfl | rfl | rfl | rfl | rfl | rfl
 ·exact (l01NamedD0_ok w).mono (fun v w hs => St.mkExi 3 hs)
 ·exact (l01NamedD1_ok w).mono (fun v w hs => St.mkExi 7 hs)
 ·exact (l01NamedD2_ok w).mono (fun v w hs => St.mkExi 9 hs)
 ·exact (l01NamedD3_ok w).mono (fun v w hs => St.mkExi 13 hs)
 ·exact (l01NamedD4_ok w).mono (fun v w hs => St.mkExi 15 hs)
 ·exact (l01NamedD5_ok w).mono (fun v w hs => St.mkExi 15 hs)
theorem l01OwnN_ok (xs : List Int) (n : Nat) (A : Option Addr) (c : Nat) (w : World) (hn : n = xs.length) (hx : Rd I64 w A xs) (hA : A.isSome = true) (lx : xs.length ≤ 1099511627776) : Does Tryz.prog 99 [.slice A n c] w [] (fun v => [.exi fun p : (Option Addr × Nat) × List Int => .sep (.pur (v = .slice p.1.1 p.2.length p.1.2 ∧ p.2 = xs)) (Own 2 I64 p.1.1 p.1.2 p.2)]) := by
 subst hn
 exact l01Own_ok xs A c w hx hA lx
set_option maxRecDepth 100000 in
set_option maxHeartbeats 1000000 in
theorem l01DrawOrder_ok (cA : Option Addr) (cc : Nat) (code : List UInt8) (s : Nat) (n : Int) (w0 : World) (H : List Assn) (hc : Rd U8C w0 cA code) (lc : code.length ≤ 1048576) (hn : 0 ≤ n ∧ n ≤ 1000) : Does Tryz.prog 61 [.pointer (some ⟨s, 0, none⟩), .int .i64 n] w0 (SrcK 101 cA cc code s :: H) (fun rv_ => [.exi fun (rA : Option Addr) => .exi fun (rc : Nat) => .exi fun (r : List Int) => .sep (.pur (rv_ = .slice rA r.length rc ∧ OrdP n r)) (.sep (Own 2 I64 rA rc r) (SrcK 101 cA cc code s))] ++ H) := by
 refine Does.enter Tryz.func61 rfl rfl [(0, .pointer (some ⟨s, 0, none⟩)), (1, .int .i64 n)] rfl (V.seq (V.region (O.m rfl (O.nil (X.next (V.seq (V.region (O.f rfl (Ef.build I64 ([] : List Int) rfl Tryz.underlying53 inf2 rfl rfl rfl (by first | decide | (simp; done)) (by kernel_rfl)) ?_))))))))
 rintro _ _ ⟨A1, hA1, rfl, rfl⟩
 refine O.m rfl (O.nil (X.next (V.seq (V.seq (V.region (O.m rfl (O.nil (X.next (V.block (V.loop3 (β := (Option Addr) × Nat × (List Int) × Nat) (fun x => [(5, .slice x.1 x.2.2.1.length x.2.1), (6, .int .i64 (x.2.2.2 : Int))]) _ (fun x => [Own 2 I64 x.1 x.2.1 x.2.2.1]) _ (fun x => x.2.2.2 ≤ n.toNat ∧ OrdP (x.2.2.2 : Int) x.2.2.1 ∧ x.1.isSome = true) (fun x => n.toNat - x.2.2.2) (A1, 0, ([] : List Int), 0) (by (try dsimp only); exact ⟨by omega, ord_nil, hA1⟩) (Ent.cons rfl (Ent.cons rfl (Ent.nil _))) (Ent.cons (t := 0) rfl (Ent.cons (t := 1) rfl (Ent.nil _))) (Sub.k (Sub.k (Sub.refl _))) ?_))))))))))
 rintro ⟨outA, outc, out, i⟩ ⟨hi, ho, hoS⟩
 dsimp only at hi ho hoS ⊢
 have hol := ho.1
 refine V.seq (V.seq (V.region (O.m rfl (O.m rfl (O.q rfl (Pu.lss rfl rfl rfl) (O.nil (X.next (V.condD rfl (fun c1 => ?_) (fun c1 => ?_)))))))))
 ·refine V.skip (X.next (V.seq (V.block (V.seq (V.region (O.m rfl (O.m rfl (O.q rfl (Pu.add64 (r := ((i + 1 : Nat) : Int)) rfl (by omega) rfl rfl rfl) (O.f rfl (Ef.call call49 rfl rfl (Does.pre (fun w hw => hw.sub (Sub.keep 1 rfl (Sub.k (Sub.refl _)))) (l01Next_ok _ _ _ s (↑(i + 1) : Int) w0 _   (by first | assumption | omega | (try dsimp only at *; omega)) (by first | assumption | omega | (try dsimp only at *; omega))))) ?_)))))))))
  rintro _ _ rfl
  refine O.exi (fun r1 => O.sep (O.pur ?_))
  rintro ⟨rfl, hr1_1, hr1_2, hr1_3⟩
  refine O.m rfl (O.nil (X.next (V.fact (fun w hw => Own.cap hw (i := 1) rfl) (fun hcap => ?_))))
  have hol := ho.1
  have hdl : (out.drop r1.toNat).length = out.length - r1.toNat := List.length_drop
  refine V.draw mo (by kernel_rfl) (fun hwf => D.m 0 rfl (D.m 1 rfl (D.q 2 rfl (Pu.sliceH ((r1).toNat) rfl Tryz.underlying53 sz2 rfl rfl (by omega) (by omega)) (D.m 4 rfl (D.m 7 rfl (D.m 8 rfl (D.q 9 rfl (Pu.sliceL ((r1).toNat) rfl Tryz.underlying53 sz2 rfl rfl (by omega) (by omega)) (D.twoBC hwf (e1 := 5) (e2 := 3) rfl rfl rfl rfl rfl rfl rfl rfl rfl rfl rfl rfl rfl rfl rfl rfl rfl (fun H hs => Ef.build I64 ([(↑i : Int)] : List Int) rfl Tryz.underlying53 inf2 rfl rfl rfl (by first | decide | (simp; done)) (by kernel_rfl)) (fun H hs => Ef.call1 call99 rfl rfl (fun w hw => l01OwnN_ok (out.take ((r1).toNat)) _ _ _ w (by rw [List.length_take]; omega) (((Ld.own 1 (by exact rfl)) w (hs w hw)).take ((r1).toNat)) hoS (by rw [List.length_take]; omega))) ?_))))))))
  rintro A2 _ hA2
  refine D.exi (fun p1 => D.sep (D.pur1 ?_))
  rintro ⟨rfl, hp1⟩
  have hpl : p1.2.length = r1.toNat := by rw [hp1, List.length_take]; omega
  refine D.f hwf 6 rfl (Ef.append (xs := p1.2) (ys := ([(↑i : Int)] : List Int)) 0 rfl Tryz.underlying53 inf2 rfl rfl rfl rfl rfl rfl hA2 (Ld.own 1 (by exact rfl)) (by simp only [List.length_append, List.length_cons, List.length_nil] at *; omega) (by decide)) ?_
  rintro _ _ ⟨A3, k1, rfl, rfl, hA3⟩ hs
  replace hA3 := hA3 (.inr (by simp))
  refine ⟨fun w hw => hw.sub (Sub.keep 2 rfl (Sub.keep 2 rfl (Sub.drop (Sub.drop (Sub.refl _))))), (D.f hwf 10 rfl (Ef.append (xs := (p1.2 ++ ([(↑i : Int)] : List Int))) (ys := (out.drop ((r1).toNat))) 0 rfl Tryz.underlying53 inf2 rfl rfl rfl rfl rfl (by first | (simp only [List.length_take, List.length_drop]; done) | (simp only [List.length_take, List.length_drop]; omega)) (by split <;> simp [hoS]) (fun w hw => ((Ld.own 3 (by exact rfl)) w hw).drop rfl (Own.cap hw (i := 3) (by exact rfl))) (by simp only [List.length_append, List.length_cons, List.length_nil] at *; omega) (by decide)) ?_)⟩
  rintro _ _ ⟨A4, k2, rfl, rfl, hA4⟩ hs
  replace hA4 := hA4 (.inl hA3)
  exact ⟨fun w hw => hw.sub (Sub.keep 2 rfl (Sub.keep 2 rfl (Sub.drop (Sub.drop (Sub.refl _))))), (D.last hwf (e := 11) rfl rfl rfl rfl rfl rfl (Pu.assign rfl rfl) (X.blockNormal (X.next (V.region (O.m rfl (O.q rfl (Pu.add64 (r := ((i + 1 : Nat) : Int)) rfl (by omega) rfl rfl rfl) (O.m rfl (O.nil (X.back3 (A4, k2, ((p1.2 ++ ([(↑i : Int)] : List Int)) ++ (out.drop ((r1).toNat))), i + 1) (by (try dsimp only); exact ⟨by omega, by rw [hp1]; exact ord_ins ho, hA4⟩) (by first | omega | (dsimp only; omega)) (Ent.cons rfl (Ent.cons rfl (Ent.nil _))) (Ent.cons (t := 0) rfl (Ent.cons (t := 1) rfl (Ent.nil _))) (Sub.k (Sub.keep 1 rfl (Sub.drop (Sub.drop (Sub.refl _))))))))))))))⟩
 ·refine V.exit (X.thenExit (X.thenExit (X.blockHit (X.next (V.seq (V.region (O.m rfl (O.m rfl (O.nil (X.next (V.ret ?_)))))))))))
  exact X.ret1 rfl rfl (fun w hw => St.mkExi outA (St.mkExi outc (St.mkExi out (St.unsep (St.addPur ⟨rfl, (by have e : (i : Int) = n := (by omega); rw [← e]; exact ho)⟩ (St.unsep (hw.sub (Sub.k (Sub.k (Sub.refl _))))))))))
set_option maxRecDepth 100000 in
set_option maxHeartbeats 1000000 in
theorem l01Free_ok (v : Int) (bs : List B3) (b : B3) (A : Option Addr) (c : Nat) (w : World) (hx : Rd B3C w A bs) (lx : bs.length ≤ 4611686018427387904) : Does Tryz.prog 154 [.agg #[.int .i64 v, .slice A bs.length c], B3.v b] w [] (fun r => [.pur (r = .bool (decide (∀ d ∈ bs, common d b ≤ 1)))]) := by
 refine Does.enter Tryz.func154 rfl rfl [(0, .agg #[.int .i64 v, .slice A bs.length c]), (1, B3.v b)] rfl (V.seq (V.region (O.f rfl (Ef.box rfl rfl rfl) ?_)))
 rintro _ _ ⟨b1, rfl, rfl⟩
 refine O.f rfl (Ef.box rfl rfl rfl) ?_
 rintro _ _ ⟨b2, rfl, rfl⟩
 refine O.m rfl (O.nil (X.next (V.seq (V.seq (V.region (O.m rfl (O.nil (X.next (V.block (V.loop3 (β := Nat) (fun i => [(5, .int .i64 (i : Int))]) _ (fun i => []) _ (fun i => i ≤ bs.length ∧ ∀ j (hj : j < bs.length), j < i → common bs[j] b ≤ 1) (fun i => bs.length - i) 0 ⟨by omega, fun j hj h => by omega⟩ (Ent.cons rfl (Ent.nil _)) (Ent.cons (t := 2) rfl (Ent.cons (t := 3) rfl (Ent.nil _))) (Sub.k (Sub.k (Sub.nil _))) ?_))))))))))
 rintro i ⟨hi, hn⟩
 refine V.seq (V.seq (V.region (O.m rfl (O.q rfl (Pu.fieldAddr 1 rfl Tryz.underlying26 rfl sz24 rfl rfl) (O.q rfl (Pu.load rfl pl24 rfl (Ld.blk 1 rfl rfl)) (O.q rfl (Pu.len rfl Tryz.underlying24 rfl) (O.q rfl (Pu.lss rfl rfl rfl) (O.nil (X.next (V.condD rfl (fun c1 => ?_) (fun c1 => ?_)))))))))))
 ·refine V.skip (X.next (V.seq (V.block (V.seq (V.draw mo (by kernel_rfl) (fun hwf => D.q 0 rfl (Pu.fieldAddr 1 rfl Tryz.underlying26 rfl sz24 rfl rfl) (D.q 1 rfl (Pu.load rfl pl24 rfl (Ld.blk 1 rfl rfl)) (D.m 2 rfl (D.q 3 rfl (Pu.indexAddr (i) rfl Tryz.underlying24 sz65 rfl rfl (by omega) (by omega) (hx.some (by omega))) ?_)))))))))
  have e1 : i < bs.length := by omega
  refine D.q 4 rfl (Pu.loadAgg' (v := B3.v (bs[i]'e1)) rfl rfl ag65 sz65 rfl rfl (Ld.rds (Ld.old hx) (k := i) e1 rfl)) (D.q 5 rfl (Pu.loadAgg' (v := B3.v b) rfl rfl ag65 sz65 rfl rfl (Ld.whole 0 rfl)) (D.f hwf 6 rfl (Ef.callP call132 rfl rfl (fun w hw => l01Common_ok _ _ _)) ?_))
  rintro _ _ ⟨rfl, rfl⟩ hs
  refine ⟨fun w hw => hw, (D.q 7 rfl (Pu.gtr rfl rfl rfl) (D.done hwf rfl (X.next (V.condD rfl (fun c2 => ?_) (fun c2 => ?_)))))⟩
  ·exact V.seq (V.region (O.m rfl (O.nil (X.next (V.ret (X.blockRet (X.thenRet (X.thenRet (X.blockRet (X.thenRet (X.ret1 rfl rfl (fun w hw => St.retP (boolF (fun h => by have := h _ (List.getElem_mem e1); omega)) hw))))))))))))
  ·exact V.skip (X.blockNormal (X.next (V.region (O.m rfl (O.q rfl (Pu.add64 (r := ((i + 1 : Nat) : Int)) rfl (by omega) rfl rfl rfl) (O.m rfl (O.nil (X.back3 (i + 1) ⟨by omega, fun j hj h => by by_cases e : j = i; (· subst e; omega); (· exact hn j hj (by omega))⟩ (by first | omega | (dsimp only; omega)) (Ent.cons rfl (Ent.nil _)) (Ent.cons (t := 2) rfl (Ent.cons (t := 3) rfl (Ent.nil _))) (Sub.k (Sub.k (Sub.nil _)))))))))))
 ·exact V.exit (X.thenExit (X.thenExit (X.blockHit (X.next (V.seq (V.region (O.m rfl (O.nil (X.next (V.ret (X.ret1 rfl rfl (fun w hw => St.retP (boolT (fun d hd => by obtain ⟨j, hj, rfl⟩ := List.getElem_of_mem hd; exact hn j hj (by omega))) hw))))))))))))
set_option maxRecDepth 100000 in
set_option maxHeartbeats 1000000 in
theorem l01DrawOf_ok (cA : Option Addr) (cc : Nat) (code : List UInt8) (s : Nat) (v_ : Int) (w0 : World) (H : List Assn) (hc : Rd U8C w0 cA code) (lc : code.length ≤ 1048576) (hv : 3 ≤ v_ ∧ v_ ≤ 15) : Does Tryz.prog 130 [.pointer (some ⟨s, 0, none⟩), .int .i64 v_] w0 (SrcK 101 cA cc code s :: H) (fun rv_ => [.exi fun (rA : Option Addr) => .exi fun (rc : Nat) => .exi fun (r : List B3) => .sep (.pur (rv_ = .agg #[.int .i64 v_, .slice rA r.length rc] ∧ DrS 40 v_ r)) (.sep (Own 65 B3C rA rc r) (SrcK 101 cA cc code s))] ++ H) := by
 refine Does.enter Tryz.func130 rfl rfl [(0, .pointer (some ⟨s, 0, none⟩)), (1, .int .i64 v_)] rfl (V.seq (V.region (O.f rfl (Ef.alloc rfl zr26 rfl) ?_)))
 rintro _ _ ⟨b1, rfl, rfl⟩
 refine O.nil (X.next (V.seq (V.region (O.m rfl (O.f rfl (Ef.build B3C ([] : List B3) rfl Tryz.underlying24 inf65 rfl rfl rfl (by first | decide | (simp; done)) (by kernel_rfl)) ?_)))))
 rintro _ _ ⟨A1, hA1, rfl, rfl⟩
 refine O.q rfl (Pu.buildS (cs := [.int .i64 v_, .slice A1 0 0]) rfl rfl Tryz.underlying26 zr26 (by kernel_rfl) rfl (by kernel_rfl)) (O.f rfl (Ef.alloc rfl zr26 rfl) ?_)
 rintro _ _ ⟨b2, rfl, rfl⟩
 refine O.s rfl rfl (Ef.storeAll 0 rfl sz26 rfl rfl rfl rfl (by simp [Value.oneCell']) rfl) ?_
 rintro _ _ rfl
 refine O.nil (X.next (V.seq (V.seq (V.region (O.m rfl (O.m rfl (O.f rfl (Ef.build I64 ([(4 : Int), (12 : Int), (40 : Int)] : List Int) rfl Tryz.underlying53 inf2 rfl rfl rfl (by first | decide | (simp; done)) (by kernel_rfl)) ?_)))))))
 rintro _ _ ⟨A2, hA2, rfl, rfl⟩
 refine O.f rfl (Ef.call call113 rfl rfl (Does.pre (fun w hw => hw.sub (Sub.keep 4 rfl (Sub.k (Sub.k (Sub.k (Sub.k (Sub.refl _))))))) (l01Pick_ok _ _ _ s ([(4 : Int), (12 : Int), (40 : Int)] : List Int) _ _ w0 _ (Ld.own 0 (by exact rfl)) (by first | omega | (simp only [tops_len, conts_len, bl, List.length_append, List.length_cons, List.length_nil] at *; omega)) (by first | assumption | omega | (try dsimp only at *; omega)) (by first | assumption | omega | (try dsimp only at *; omega)) (by first | (simp; done) | omega)))) ?_
 rintro _ _ rfl
 refine O.exi (fun r1 => O.sep (O.pur ?_))
 rintro ⟨rfl, hr1_1⟩
 have hp40 : 0 ≤ r1 ∧ r1 ≤ 40 := by simp only [List.mem_cons, List.not_mem_nil, or_false] at hr1_1; omega
 refine O.f rfl (Ef.call call49 rfl rfl (Does.pre (fun w hw => hw.sub (Sub.k (Sub.k (Sub.k (Sub.k (Sub.k (Sub.refl _))))))) (l01Next_ok _ _ _ s r1 w0 _   (by first | assumption | omega | (try dsimp only at *; omega)) (by first | assumption | omega | (try dsimp only at *; omega))))) ?_
 rintro _ _ rfl
 refine O.exi (fun r2 => O.sep (O.pur ?_))
 rintro ⟨rfl, hr2_1, hr2_2, hr2_3⟩
 refine O.m rfl (O.nil (X.next (V.block (V.loop3 (β := Int × (Option Addr) × Nat × (List B3)) (fun x => [(6, .int .i64 (x.1 : Int))]) _ (fun x => [Blk b2 [.int .i64 v_, .slice x.2.1 x.2.2.2.length x.2.2.1] 26, Own 65 B3C x.2.1 x.2.2.1 x.2.2.2]) _ (fun x => (∀ b ∈ x.2.2.2, good v_ b) ∧ x.2.2.2.length + x.1.toNat ≤ 40) (fun x => x.1.toNat) (r2, A1, 0, ([] : List B3)) (by (try dsimp only); exact ⟨by simp, by simp only [List.length_nil]; omega⟩) (Ent.cons rfl (Ent.nil _)) (Ent.cons (t := 0) rfl (Ent.cons (t := 1) rfl (Ent.cons (t := 4) rfl (Ent.cons (t := 5) rfl (Ent.nil _))))) (Sub.keep 2 rfl (Sub.keep 2 rfl (Sub.k (Sub.k (Sub.k (Sub.refl _)))))) ?_))))
 rintro ⟨k, xsA, xsc, xs⟩ ⟨hg, hl⟩
 dsimp only at hg hl ⊢
 refine V.seq (V.seq (V.region (O.m rfl (O.q rfl (Pu.gtr rfl rfl rfl) (O.nil (X.next (V.condD rfl (fun c1 => ?_) (fun c1 => ?_))))))))
 ·refine V.skip (X.next (V.seq (V.block (V.seq (V.region (O.m rfl (O.m rfl (O.f rfl (Ef.call call61 rfl rfl (Does.pre (fun w hw => hw.sub (Sub.keep 2 rfl (Sub.k (Sub.k (Sub.k (Sub.k (Sub.refl _))))))) (l01DrawOrder_ok _ _ _ s v_ w0 _   (by first | assumption | omega | (try dsimp only at *; omega)) (by first | assumption | omega | (try dsimp only at *; omega)) (by omega)))) ?_))))))))
  rintro _ _ rfl
  refine O.exi (fun r3A => O.exi (fun r3c => O.exi (fun r3 => O.sep (O.pur ?_))))
  rintro ⟨rfl, hr3_1⟩
  refine O.sep (O.m rfl (O.nil (X.next (V.seq ?_))))
  have hol := hr3_1.1
  have g0 := ord_at hr3_1 (i := 0) (by omega)
  have g1 := ord_at hr3_1 (i := 1) (by omega)
  have g2 := ord_at hr3_1 (i := 2) (by omega)
  have hgb := good_bk3 g0 g1 g2 (ord_ne hr3_1 (by omega) (by omega) (by decide)) (ord_ne hr3_1 (by omega) (by omega) (by decide)) (ord_ne hr3_1 (by omega) (by omega) (by decide))
  refine V.draw mo (by kernel_rfl) (fun hwf => D.m 0 rfl (D.q 1 rfl (Pu.indexAddrS (0) rfl Tryz.underlying53 sz2 rfl rfl (by omega) (by omega) (fun w hw => Own.some hw (i := 0) (by exact rfl) (by omega))) ?_))
  have e1 : 0 < r3.length := by omega
  refine D.q 2 rfl (Pu.load rfl pl2 rfl (Ld.rd (Ld.own 0 (by exact rfl)) (k := 0) e1 rfl rfl)) (D.m 3 rfl (D.q 4 rfl (Pu.indexAddrS (1) rfl Tryz.underlying53 sz2 rfl rfl (by omega) (by omega) (fun w hw => Own.some hw (i := 0) (by exact rfl) (by omega))) ?_))
  have e2 : 1 < r3.length := by omega
  refine D.q 5 rfl (Pu.load rfl pl2 rfl (Ld.rd (Ld.own 0 (by exact rfl)) (k := 1) e2 rfl rfl)) (D.m 6 rfl (D.q 7 rfl (Pu.indexAddrS (2) rfl Tryz.underlying53 sz2 rfl rfl (by omega) (by omega) (fun w hw => Own.some hw (i := 0) (by exact rfl) (by omega))) ?_))
  have e3 : 2 < r3.length := by omega
  refine D.q 8 rfl (Pu.load rfl pl2 rfl (Ld.rd (Ld.own 0 (by exact rfl)) (k := 2) e3 rfl rfl)) (D.either hwf (e1 := 9) (e2 := 10) rfl ?_ ?_)
  ·refine ⟨_, _, rfl, rfl, fun _ _ => wanted_none rfl _, Ef.callP call98 rfl rfl (fun w hw => l01BlockD_ok  (r3[0]'e1) (r3[1]'e2) (r3[2]'e3) w   (by first | assumption | omega | (try dsimp only at *; omega)) (by first | assumption | omega | (try dsimp only at *; omega)) (by first | assumption | omega | (try dsimp only at *; omega))), rfl, rfl, ?_⟩
   rintro _ _ ⟨rfl, rfl⟩ hs
   refine ⟨fun w hw => hw, (D.f hwf 10 rfl (Ef.alloc rfl zr65 rfl) ?_)⟩
   rintro _ _ ⟨b3, rfl, rfl⟩ hs
   refine ⟨fun w hw => hw.sub (Sub.keep 1 rfl (Sub.keep 1 rfl (Sub.keep 1 rfl (Sub.keep 1 rfl (Sub.keep 1 rfl (Sub.keep 1 rfl (Sub.drop (Sub.refl _)))))))), (D.f hwf 11 rfl (Ef.storeAll 0 rfl sz65 rfl rfl rfl rfl (by simp [Value.oneCell']) rfl) ?_)⟩
   rintro _ _ rfl hs
   refine ⟨fun w hw => hw.sub (Sub.keep 1 rfl (Sub.keep 1 rfl (Sub.keep 1 rfl (Sub.keep 1 rfl (Sub.keep 1 rfl (Sub.keep 1 rfl (Sub.drop (Sub.refl _)))))))), (D.done hwf rfl (X.next (V.seq (V.region (O.q rfl (Pu.loadAgg rfl ag26 sz26 rfl rfl (Ld.whole 3 rfl)) (O.q rfl (Pu.loadAgg' (v := B3.v (bk3 (r3[0]'e1) (r3[1]'e2) (r3[2]'e3))) rfl rfl ag65 sz65 rfl rfl (Ld.whole 0 rfl)) (O.f rfl (Ef.callP call154 rfl rfl (fun w hw => l01Free_ok  v_ xs (bk3 (r3[0]'e1) (r3[1]'e2) (r3[2]'e3)) _ _ w ((Ld.own 4 (by exact rfl)) w hw) (by first | omega | (simp only [tops_len, conts_len, bl, List.length_append, List.length_cons, List.length_nil] at *; omega)) )) ?_)))))))⟩
   rintro _ _ ⟨rfl, rfl⟩
   refine O.nil (X.next (V.condD rfl (fun c2 => ?_) (fun c2 => ?_)))
   ·refine V.draw mo (by kernel_rfl) (fun hwf => D.m 0 rfl (D.q 2 rfl (Pu.fieldAddr 1 rfl Tryz.underlying26 rfl sz24 rfl rfl) (D.q 3 rfl (Pu.load rfl pl24 rfl (Ld.blk 3 rfl rfl)) (D.q 5 rfl (Pu.loadAgg' (v := B3.v (bk3 (r3[0]'e1) (r3[1]'e2) (r3[2]'e3))) rfl rfl ag65 sz65 rfl rfl (Ld.whole 0 rfl)) (D.either hwf (e1 := 1) (e2 := 6) rfl ?_ ?_)))))
    ·refine ⟨_, _, rfl, rfl, fun _ _ => wanted_none rfl _, Ef.build B3C ([] : List B3) rfl Tryz.underlying24 inf65 rfl rfl rfl (by first | decide | (simp; done)) (by kernel_rfl), rfl, rfl, ?_⟩
     rintro _ _ ⟨A3, hA3, rfl, rfl⟩ hs
     refine ⟨fun w hw => hw.sub (Sub.keep 1 rfl (Sub.keep 1 rfl (Sub.keep 1 rfl (Sub.keep 1 rfl (Sub.keep 1 rfl (Sub.keep 1 rfl (Sub.keep 1 rfl (Sub.drop (Sub.refl _))))))))), (D.either hwf (e1 := 4) (e2 := 6) rfl ?_ ?_)⟩
     ·refine ⟨_, _, rfl, rfl, fun _ _ => wanted_none rfl _, Ef.appendN (xs := ([] : List B3)) (ys := xs) 0 rfl Tryz.underlying24 inf65 rfl rfl rfl rfl rfl rfl (fun w hw h => Own.nilc hw (i := 5) (by exact rfl) h) (Ld.own 5 (by exact rfl)) (by simp only [List.length_append, List.length_cons, List.length_nil] at *; omega) (by decide), rfl, rfl, ?_⟩
      rintro _ _ ⟨A4, k1, rfl, rfl, hA4⟩ hs
      replace hA4 := hA4 (.inl hA3)
      refine ⟨fun w hw => hw.sub (Sub.keep 1 rfl (Sub.keep 1 rfl (Sub.keep 1 rfl (Sub.keep 1 rfl (Sub.keep 1 rfl (Sub.keep 1 rfl (Sub.keep 1 rfl (Sub.drop (Sub.refl _))))))))), (D.f hwf 6 rfl (Ef.build B3C ([(bk3 (r3[0]'e1) (r3[1]'e2) (r3[2]'e3))] : List B3) rfl Tryz.underlying24 inf65 rfl rfl rfl (by first | decide | (simp; done)) (by kernel_rfl)) ?_)⟩
      rintro _ _ ⟨A5, hA5, rfl, rfl⟩ hs
      refine ⟨fun w hw => hw.sub (Sub.keep 2 rfl (Sub.keep 2 rfl (Sub.keep 2 rfl (Sub.keep 2 rfl (Sub.keep 2 rfl (Sub.keep 2 rfl (Sub.keep 2 rfl (Sub.drop (Sub.drop (Sub.refl _)))))))))), (D.f hwf 7 rfl (Ef.append (xs := (([] : List B3) ++ xs)) (ys := ([(bk3 (r3[0]'e1) (r3[1]'e2) (r3[2]'e3))] : List B3)) 1 rfl Tryz.underlying24 inf65 rfl rfl rfl rfl rfl rfl hA5 (Ld.own 0 (by exact rfl)) (by simp only [List.length_append, List.length_cons, List.length_nil] at *; omega) (by decide)) ?_)⟩
      rintro _ _ ⟨A6, k2, rfl, rfl, hA6⟩ hs
      replace hA6 := hA6 (.inr (by simp))
      refine ⟨fun w hw => hw.sub (Sub.keep 2 rfl (Sub.keep 2 rfl (Sub.keep 2 rfl (Sub.keep 2 rfl (Sub.keep 2 rfl (Sub.keep 2 rfl (Sub.keep 2 rfl (Sub.drop (Sub.drop (Sub.refl _)))))))))), (D.f hwf 8 rfl (Ef.call1 call71 rfl rfl (fun w hw => l01Made_ok  v_ ((([] : List B3) ++ xs) ++ ([(bk3 (r3[0]'e1) (r3[1]'e2) (r3[2]'e3))] : List B3)) _ _ w ((Ld.own 1 (by exact rfl)) w hw) (by first | omega | (simp only [List.length_append, List.length_cons, List.length_nil, List.length_take, List.length_drop]; omega)) (by first | omega | (simp only [List.length_append, List.length_cons, List.length_nil, List.length_take, List.length_drop]; omega)))) ?_)⟩
      rintro _ _ rfl hs
      refine ⟨fun w hw => hs w hw.tail, (D.exi (fun r4A => D.exi (fun r4c => D.exi (fun r4 => D.sep (D.pur1 ?_)))))⟩
      rintro ⟨rfl, hr4_1, hr4_2⟩
      refine D.effX (Hs' := []) hwf (e := 9) rfl rfl rfl rfl (Ef.storeAll 6 rfl sz26 rfl rfl rfl rfl (by simp [Value.oneCell']) rfl) rfl [] rfl (List.forall_mem_nil _) ?_
      rintro _ _ rfl
      exact ⟨fun w hw => hw.sub (Sub.nil _), (D.done hwf rfl (X.blockNormal (X.next (V.region (O.m rfl (O.q rfl (Pu.sub64 rfl (by omega) rfl rfl rfl) (O.m rfl (O.nil (X.back3 ((k - (1 : Int)), r4A, r4c, r4) (by (try dsimp only); exact ⟨fun d hd => good_snoc hg hgb d (hr4_1.mem_iff.1 hd), by have h := hr4_1.length_eq; simp only [List.length_append, List.length_singleton, List.length_nil] at h; omega⟩) (by first | omega | (dsimp only; omega)) (Ent.cons rfl (Ent.nil _)) (Ent.cons (t := 0) rfl (Ent.cons (t := 1) rfl (Ent.cons (t := 4) rfl (Ent.cons (t := 5) rfl (Ent.nil _))))) (Sub.keep 6 rfl (Sub.k (Sub.keep 4 rfl (Sub.keep 5 rfl (Sub.keep 5 rfl (Sub.drop (Sub.drop (Sub.drop (Sub.drop (Sub.drop (Sub.refl _))))))))))))))))))))⟩
     ·refine ⟨_, _, rfl, rfl, fun _ _ => wanted_none rfl _, Ef.build B3C ([(bk3 (r3[0]'e1) (r3[1]'e2) (r3[2]'e3))] : List B3) rfl Tryz.underlying24 inf65 rfl rfl rfl (by first | decide | (simp; done)) (by kernel_rfl), rfl, rfl, ?_⟩
      rintro _ _ ⟨A4, hA4, rfl, rfl⟩ hs
      refine ⟨fun w hw => hw.sub (Sub.keep 2 rfl (Sub.keep 2 rfl (Sub.keep 2 rfl (Sub.keep 2 rfl (Sub.keep 2 rfl (Sub.keep 2 rfl (Sub.keep 2 rfl (Sub.drop (Sub.drop (Sub.refl _)))))))))), (D.f hwf 4 rfl (Ef.appendN (xs := ([] : List B3)) (ys := xs) 1 rfl Tryz.underlying24 inf65 rfl rfl rfl rfl rfl rfl (fun w hw h => Own.nilc hw (i := 6) (by exact rfl) h) (Ld.own 6 (by exact rfl)) (by simp only [List.length_append, List.length_cons, List.length_nil] at *; omega) (by decide)) ?_)⟩
      rintro _ _ ⟨A5, k1, rfl, rfl, hA5⟩ hs
      replace hA5 := hA5 (.inl hA3)
      refine ⟨fun w hw => hw.sub (Sub.keep 2 rfl (Sub.keep 2 rfl (Sub.keep 2 rfl (Sub.keep 2 rfl (Sub.keep 2 rfl (Sub.keep 2 rfl (Sub.keep 2 rfl (Sub.drop (Sub.drop (Sub.refl _)))))))))), (D.f hwf 7 rfl (Ef.append (xs := (([] : List B3) ++ xs)) (ys := ([(bk3 (r3[0]'e1) (r3[1]'e2) (r3[2]'e3))] : List B3)) 1 rfl Tryz.underlying24 inf65 rfl rfl rfl rfl rfl rfl hA4 (Ld.own 0 (by exact rfl)) (by simp only [List.length_append, List.length_cons, List.length_nil] at *; omega) (by decide)) ?_)⟩
      rintro _ _ ⟨A6, k2, rfl, rfl, hA6⟩ hs
      replace hA6 := hA6 (.inr (by simp))
      refine ⟨fun w hw => hw.sub (Sub.keep 2 rfl (Sub.keep 2 rfl (Sub.keep 2 rfl (Sub.keep 2 rfl (Sub.keep 2 rfl (Sub.keep 2 rfl (Sub.keep 2 rfl (Sub.drop (Sub.drop (Sub.refl _)))))))))), (D.f hwf 8 rfl (Ef.call1 call71 rfl rfl (fun w hw => l01Made_ok  v_ ((([] : List B3) ++ xs) ++ ([(bk3 (r3[0]'e1) (r3[1]'e2) (r3[2]'e3))] : List B3)) _ _ w ((Ld.own 1 (by exact rfl)) w hw) (by first | omega | (simp only [List.length_append, List.length_cons, List.length_nil, List.length_take, List.length_drop]; omega)) (by first | omega | (simp only [List.length_append, List.length_cons, List.length_nil, List.length_take, List.length_drop]; omega)))) ?_)⟩
      rintro _ _ rfl hs
      refine ⟨fun w hw => hs w hw.tail, (D.exi (fun r4A => D.exi (fun r4c => D.exi (fun r4 => D.sep (D.pur1 ?_)))))⟩
      rintro ⟨rfl, hr4_1, hr4_2⟩
      refine D.effX (Hs' := []) hwf (e := 9) rfl rfl rfl rfl (Ef.storeAll 6 rfl sz26 rfl rfl rfl rfl (by simp [Value.oneCell']) rfl) rfl [] rfl (List.forall_mem_nil _) ?_
      rintro _ _ rfl
      exact ⟨fun w hw => hw.sub (Sub.nil _), (D.done hwf rfl (X.blockNormal (X.next (V.region (O.m rfl (O.q rfl (Pu.sub64 rfl (by omega) rfl rfl rfl) (O.m rfl (O.nil (X.back3 ((k - (1 : Int)), r4A, r4c, r4) (by (try dsimp only); exact ⟨fun d hd => good_snoc hg hgb d (hr4_1.mem_iff.1 hd), by have h := hr4_1.length_eq; simp only [List.length_append, List.length_singleton, List.length_nil] at h; omega⟩) (by first | omega | (dsimp only; omega)) (Ent.cons rfl (Ent.nil _)) (Ent.cons (t := 0) rfl (Ent.cons (t := 1) rfl (Ent.cons (t := 4) rfl (Ent.cons (t := 5) rfl (Ent.nil _))))) (Sub.keep 6 rfl (Sub.k (Sub.keep 4 rfl (Sub.keep 5 rfl (Sub.keep 5 rfl (Sub.drop (Sub.drop (Sub.drop (Sub.drop (Sub.drop (Sub.refl _))))))))))))))))))))⟩
    ·refine ⟨_, _, rfl, rfl, fun _ _ => wanted_none rfl _, Ef.build B3C ([(bk3 (r3[0]'e1) (r3[1]'e2) (r3[2]'e3))] : List B3) rfl Tryz.underlying24 inf65 rfl rfl rfl (by first | decide | (simp; done)) (by kernel_rfl), rfl, rfl, ?_⟩
     rintro _ _ ⟨A3, hA3, rfl, rfl⟩ hs
     refine ⟨fun w hw => hw.sub (Sub.keep 1 rfl (Sub.keep 1 rfl (Sub.keep 1 rfl (Sub.keep 1 rfl (Sub.keep 1 rfl (Sub.keep 1 rfl (Sub.keep 1 rfl (Sub.drop (Sub.refl _))))))))), (D.f hwf 1 rfl (Ef.build B3C ([] : List B3) rfl Tryz.underlying24 inf65 rfl rfl rfl (by first | decide | (simp; done)) (by kernel_rfl)) ?_)⟩
     rintro _ _ ⟨A4, hA4, rfl, rfl⟩ hs
     refine ⟨fun w hw => hw.sub (Sub.keep 2 rfl (Sub.keep 2 rfl (Sub.keep 2 rfl (Sub.keep 2 rfl (Sub.keep 2 rfl (Sub.keep 2 rfl (Sub.keep 2 rfl (Sub.drop (Sub.drop (Sub.refl _)))))))))), (D.f hwf 4 rfl (Ef.appendN (xs := ([] : List B3)) (ys := xs) 0 rfl Tryz.underlying24 inf65 rfl rfl rfl rfl rfl rfl (fun w hw h => Own.nilc hw (i := 6) (by exact rfl) h) (Ld.own 6 (by exact rfl)) (by simp only [List.length_append, List.length_cons, List.length_nil] at *; omega) (by decide)) ?_)⟩
     rintro _ _ ⟨A5, k1, rfl, rfl, hA5⟩ hs
     replace hA5 := hA5 (.inl hA4)
     refine ⟨fun w hw => hw.sub (Sub.keep 2 rfl (Sub.keep 2 rfl (Sub.keep 2 rfl (Sub.keep 2 rfl (Sub.keep 2 rfl (Sub.keep 2 rfl (Sub.keep 2 rfl (Sub.drop (Sub.drop (Sub.refl _)))))))))), (D.f hwf 7 rfl (Ef.append (xs := (([] : List B3) ++ xs)) (ys := ([(bk3 (r3[0]'e1) (r3[1]'e2) (r3[2]'e3))] : List B3)) 0 rfl Tryz.underlying24 inf65 rfl rfl rfl rfl rfl rfl hA3 (Ld.own 1 (by exact rfl)) (by simp only [List.length_append, List.length_cons, List.length_nil] at *; omega) (by decide)) ?_)⟩
     rintro _ _ ⟨A6, k2, rfl, rfl, hA6⟩ hs
     replace hA6 := hA6 (.inr (by simp))
     refine ⟨fun w hw => hw.sub (Sub.keep 2 rfl (Sub.keep 2 rfl (Sub.keep 2 rfl (Sub.keep 2 rfl (Sub.keep 2 rfl (Sub.keep 2 rfl (Sub.keep 2 rfl (Sub.drop (Sub.drop (Sub.refl _)))))))))), (D.f hwf 8 rfl (Ef.call1 call71 rfl rfl (fun w hw => l01Made_ok  v_ ((([] : List B3) ++ xs) ++ ([(bk3 (r3[0]'e1) (r3[1]'e2) (r3[2]'e3))] : List B3)) _ _ w ((Ld.own 0 (by exact rfl)) w hw) (by first | omega | (simp only [List.length_append, List.length_cons, List.length_nil, List.length_take, List.length_drop]; omega)) (by first | omega | (simp only [List.length_append, List.length_cons, List.length_nil, List.length_take, List.length_drop]; omega)))) ?_)⟩
     rintro _ _ rfl hs
     refine ⟨fun w hw => hs w hw.tail, (D.exi (fun r4A => D.exi (fun r4c => D.exi (fun r4 => D.sep (D.pur1 ?_)))))⟩
     rintro ⟨rfl, hr4_1, hr4_2⟩
     refine D.effX (Hs' := []) hwf (e := 9) rfl rfl rfl rfl (Ef.storeAll 6 rfl sz26 rfl rfl rfl rfl (by simp [Value.oneCell']) rfl) rfl [] rfl (List.forall_mem_nil _) ?_
     rintro _ _ rfl
     exact ⟨fun w hw => hw.sub (Sub.nil _), (D.done hwf rfl (X.blockNormal (X.next (V.region (O.m rfl (O.q rfl (Pu.sub64 rfl (by omega) rfl rfl rfl) (O.m rfl (O.nil (X.back3 ((k - (1 : Int)), r4A, r4c, r4) (by (try dsimp only); exact ⟨fun d hd => good_snoc hg hgb d (hr4_1.mem_iff.1 hd), by have h := hr4_1.length_eq; simp only [List.length_append, List.length_singleton, List.length_nil] at h; omega⟩) (by first | omega | (dsimp only; omega)) (Ent.cons rfl (Ent.nil _)) (Ent.cons (t := 0) rfl (Ent.cons (t := 1) rfl (Ent.cons (t := 4) rfl (Ent.cons (t := 5) rfl (Ent.nil _))))) (Sub.keep 6 rfl (Sub.k (Sub.keep 4 rfl (Sub.keep 5 rfl (Sub.keep 5 rfl (Sub.drop (Sub.drop (Sub.drop (Sub.drop (Sub.drop (Sub.refl _))))))))))))))))))))⟩
   ·exact V.skip (X.blockNormal (X.next (V.region (O.m rfl (O.q rfl (Pu.sub64 rfl (by omega) rfl rfl rfl) (O.m rfl (O.nil (X.back3 ((k - (1 : Int)), xsA, xsc, xs) (by (try dsimp only); exact ⟨hg, by omega⟩) (by first | omega | (dsimp only; omega)) (Ent.cons rfl (Ent.nil _)) (Ent.cons (t := 0) rfl (Ent.cons (t := 1) rfl (Ent.cons (t := 4) rfl (Ent.cons (t := 5) rfl (Ent.nil _))))) (Sub.keep 3 rfl (Sub.keep 3 rfl (Sub.keep 2 rfl (Sub.keep 2 rfl (Sub.keep 2 rfl (Sub.drop (Sub.drop (Sub.refl _))))))))))))))))
  ·refine ⟨_, _, rfl, rfl, fun _ _ => wanted_none rfl _, Ef.alloc rfl zr65 rfl, rfl, rfl, ?_⟩
   rintro _ _ ⟨b3, rfl, rfl⟩ hs
   refine ⟨fun w hw => hw.sub (Sub.keep 1 rfl (Sub.keep 1 rfl (Sub.keep 1 rfl (Sub.keep 1 rfl (Sub.keep 1 rfl (Sub.keep 1 rfl (Sub.drop (Sub.refl _)))))))), (D.f hwf 9 rfl (Ef.callP call98 rfl rfl (fun w hw => l01BlockD_ok  (r3[0]'e1) (r3[1]'e2) (r3[2]'e3) w   (by first | assumption | omega | (try dsimp only at *; omega)) (by first | assumption | omega | (try dsimp only at *; omega)) (by first | assumption | omega | (try dsimp only at *; omega)))) ?_)⟩
   rintro _ _ ⟨rfl, rfl⟩ hs
   refine ⟨fun w hw => hw.sub (Sub.keep 1 rfl (Sub.keep 1 rfl (Sub.keep 1 rfl (Sub.keep 1 rfl (Sub.keep 1 rfl (Sub.keep 1 rfl (Sub.drop (Sub.refl _)))))))), (D.f hwf 11 rfl (Ef.storeAll 0 rfl sz65 rfl rfl rfl rfl (by simp [Value.oneCell']) rfl) ?_)⟩
   rintro _ _ rfl hs
   refine ⟨fun w hw => hw.sub (Sub.keep 1 rfl (Sub.keep 1 rfl (Sub.keep 1 rfl (Sub.keep 1 rfl (Sub.keep 1 rfl (Sub.keep 1 rfl (Sub.drop (Sub.refl _)))))))), (D.done hwf rfl (X.next (V.seq (V.region (O.q rfl (Pu.loadAgg rfl ag26 sz26 rfl rfl (Ld.whole 3 rfl)) (O.q rfl (Pu.loadAgg' (v := B3.v (bk3 (r3[0]'e1) (r3[1]'e2) (r3[2]'e3))) rfl rfl ag65 sz65 rfl rfl (Ld.whole 0 rfl)) (O.f rfl (Ef.callP call154 rfl rfl (fun w hw => l01Free_ok  v_ xs (bk3 (r3[0]'e1) (r3[1]'e2) (r3[2]'e3)) _ _ w ((Ld.own 4 (by exact rfl)) w hw) (by first | omega | (simp only [tops_len, conts_len, bl, List.length_append, List.length_cons, List.length_nil] at *; omega)) )) ?_)))))))⟩
   rintro _ _ ⟨rfl, rfl⟩
   refine O.nil (X.next (V.condD rfl (fun c2 => ?_) (fun c2 => ?_)))
   ·refine V.draw mo (by kernel_rfl) (fun hwf => D.m 0 rfl (D.q 2 rfl (Pu.fieldAddr 1 rfl Tryz.underlying26 rfl sz24 rfl rfl) (D.q 3 rfl (Pu.load rfl pl24 rfl (Ld.blk 3 rfl rfl)) (D.q 5 rfl (Pu.loadAgg' (v := B3.v (bk3 (r3[0]'e1) (r3[1]'e2) (r3[2]'e3))) rfl rfl ag65 sz65 rfl rfl (Ld.whole 0 rfl)) (D.either hwf (e1 := 1) (e2 := 6) rfl ?_ ?_)))))
    ·refine ⟨_, _, rfl, rfl, fun _ _ => wanted_none rfl _, Ef.build B3C ([] : List B3) rfl Tryz.underlying24 inf65 rfl rfl rfl (by first | decide | (simp; done)) (by kernel_rfl), rfl, rfl, ?_⟩
     rintro _ _ ⟨A3, hA3, rfl, rfl⟩ hs
     refine ⟨fun w hw => hw.sub (Sub.keep 1 rfl (Sub.keep 1 rfl (Sub.keep 1 rfl (Sub.keep 1 rfl (Sub.keep 1 rfl (Sub.keep 1 rfl (Sub.keep 1 rfl (Sub.drop (Sub.refl _))))))))), (D.either hwf (e1 := 4) (e2 := 6) rfl ?_ ?_)⟩
     ·refine ⟨_, _, rfl, rfl, fun _ _ => wanted_none rfl _, Ef.appendN (xs := ([] : List B3)) (ys := xs) 0 rfl Tryz.underlying24 inf65 rfl rfl rfl rfl rfl rfl (fun w hw h => Own.nilc hw (i := 5) (by exact rfl) h) (Ld.own 5 (by exact rfl)) (by simp only [List.length_append, List.length_cons, List.length_nil] at *; omega) (by decide), rfl, rfl, ?_⟩
      rintro _ _ ⟨A4, k1, rfl, rfl, hA4⟩ hs
      replace hA4 := hA4 (.inl hA3)
      refine ⟨fun w hw => hw.sub (Sub.keep 1 rfl (Sub.keep 1 rfl (Sub.keep 1 rfl (Sub.keep 1 rfl (Sub.keep 1 rfl (Sub.keep 1 rfl (Sub.keep 1 rfl (Sub.drop (Sub.refl _))))))))), (D.f hwf 6 rfl (Ef.build B3C ([(bk3 (r3[0]'e1) (r3[1]'e2) (r3[2]'e3))] : List B3) rfl Tryz.underlying24 inf65 rfl rfl rfl (by first | decide | (simp; done)) (by kernel_rfl)) ?_)⟩
      rintro _ _ ⟨A5, hA5, rfl, rfl⟩ hs
      refine ⟨fun w hw => hw.sub (Sub.keep 2 rfl (Sub.keep 2 rfl (Sub.keep 2 rfl (Sub.keep 2 rfl (Sub.keep 2 rfl (Sub.keep 2 rfl (Sub.keep 2 rfl (Sub.drop (Sub.drop (Sub.refl _)))))))))), (D.f hwf 7 rfl (Ef.append (xs := (([] : List B3) ++ xs)) (ys := ([(bk3 (r3[0]'e1) (r3[1]'e2) (r3[2]'e3))] : List B3)) 1 rfl Tryz.underlying24 inf65 rfl rfl rfl rfl rfl rfl hA5 (Ld.own 0 (by exact rfl)) (by simp only [List.length_append, List.length_cons, List.length_nil] at *; omega) (by decide)) ?_)⟩
      rintro _ _ ⟨A6, k2, rfl, rfl, hA6⟩ hs
      replace hA6 := hA6 (.inr (by simp))
      refine ⟨fun w hw => hw.sub (Sub.keep 2 rfl (Sub.keep 2 rfl (Sub.keep 2 rfl (Sub.keep 2 rfl (Sub.keep 2 rfl (Sub.keep 2 rfl (Sub.keep 2 rfl (Sub.drop (Sub.drop (Sub.refl _)))))))))), (D.f hwf 8 rfl (Ef.call1 call71 rfl rfl (fun w hw => l01Made_ok  v_ ((([] : List B3) ++ xs) ++ ([(bk3 (r3[0]'e1) (r3[1]'e2) (r3[2]'e3))] : List B3)) _ _ w ((Ld.own 1 (by exact rfl)) w hw) (by first | omega | (simp only [List.length_append, List.length_cons, List.length_nil, List.length_take, List.length_drop]; omega)) (by first | omega | (simp only [List.length_append, List.length_cons, List.length_nil, List.length_take, List.length_drop]; omega)))) ?_)⟩
      rintro _ _ rfl hs
      refine ⟨fun w hw => hs w hw.tail, (D.exi (fun r4A => D.exi (fun r4c => D.exi (fun r4 => D.sep (D.pur1 ?_)))))⟩
      rintro ⟨rfl, hr4_1, hr4_2⟩
      refine D.effX (Hs' := []) hwf (e := 9) rfl rfl rfl rfl (Ef.storeAll 6 rfl sz26 rfl rfl rfl rfl (by simp [Value.oneCell']) rfl) rfl [] rfl (List.forall_mem_nil _) ?_
      rintro _ _ rfl
      exact ⟨fun w hw => hw.sub (Sub.nil _), (D.done hwf rfl (X.blockNormal (X.next (V.region (O.m rfl (O.q rfl (Pu.sub64 rfl (by omega) rfl rfl rfl) (O.m rfl (O.nil (X.back3 ((k - (1 : Int)), r4A, r4c, r4) (by (try dsimp only); exact ⟨fun d hd => good_snoc hg hgb d (hr4_1.mem_iff.1 hd), by have h := hr4_1.length_eq; simp only [List.length_append, List.length_singleton, List.length_nil] at h; omega⟩) (by first | omega | (dsimp only; omega)) (Ent.cons rfl (Ent.nil _)) (Ent.cons (t := 0) rfl (Ent.cons (t := 1) rfl (Ent.cons (t := 4) rfl (Ent.cons (t := 5) rfl (Ent.nil _))))) (Sub.keep 6 rfl (Sub.k (Sub.keep 4 rfl (Sub.keep 5 rfl (Sub.keep 5 rfl (Sub.drop (Sub.drop (Sub.drop (Sub.drop (Sub.drop (Sub.refl _))))))))))))))))))))⟩
     ·refine ⟨_, _, rfl, rfl, fun _ _ => wanted_none rfl _, Ef.build B3C ([(bk3 (r3[0]'e1) (r3[1]'e2) (r3[2]'e3))] : List B3) rfl Tryz.underlying24 inf65 rfl rfl rfl (by first | decide | (simp; done)) (by kernel_rfl), rfl, rfl, ?_⟩
      rintro _ _ ⟨A4, hA4, rfl, rfl⟩ hs
      refine ⟨fun w hw => hw.sub (Sub.keep 2 rfl (Sub.keep 2 rfl (Sub.keep 2 rfl (Sub.keep 2 rfl (Sub.keep 2 rfl (Sub.keep 2 rfl (Sub.keep 2 rfl (Sub.drop (Sub.drop (Sub.refl _)))))))))), (D.f hwf 4 rfl (Ef.appendN (xs := ([] : List B3)) (ys := xs) 1 rfl Tryz.underlying24 inf65 rfl rfl rfl rfl rfl rfl (fun w hw h => Own.nilc hw (i := 6) (by exact rfl) h) (Ld.own 6 (by exact rfl)) (by simp only [List.length_append, List.length_cons, List.length_nil] at *; omega) (by decide)) ?_)⟩
      rintro _ _ ⟨A5, k1, rfl, rfl, hA5⟩ hs
      replace hA5 := hA5 (.inl hA3)
      refine ⟨fun w hw => hw.sub (Sub.keep 2 rfl (Sub.keep 2 rfl (Sub.keep 2 rfl (Sub.keep 2 rfl (Sub.keep 2 rfl (Sub.keep 2 rfl (Sub.keep 2 rfl (Sub.drop (Sub.drop (Sub.refl _)))))))))), (D.f hwf 7 rfl (Ef.append (xs := (([] : List B3) ++ xs)) (ys := ([(bk3 (r3[0]'e1) (r3[1]'e2) (r3[2]'e3))] : List B3)) 1 rfl Tryz.underlying24 inf65 rfl rfl rfl rfl rfl rfl hA4 (Ld.own 0 (by exact rfl)) (by simp only [List.length_append, List.length_cons, List.length_nil] at *; omega) (by decide)) ?_)⟩
      rintro _ _ ⟨A6, k2, rfl, rfl, hA6⟩ hs
      replace hA6 := hA6 (.inr (by simp))
      refine ⟨fun w hw => hw.sub (Sub.keep 2 rfl (Sub.keep 2 rfl (Sub.keep 2 rfl (Sub.keep 2 rfl (Sub.keep 2 rfl (Sub.keep 2 rfl (Sub.keep 2 rfl (Sub.drop (Sub.drop (Sub.refl _)))))))))), (D.f hwf 8 rfl (Ef.call1 call71 rfl rfl (fun w hw => l01Made_ok  v_ ((([] : List B3) ++ xs) ++ ([(bk3 (r3[0]'e1) (r3[1]'e2) (r3[2]'e3))] : List B3)) _ _ w ((Ld.own 1 (by exact rfl)) w hw) (by first | omega | (simp only [List.length_append, List.length_cons, List.length_nil, List.length_take, List.length_drop]; omega)) (by first | omega | (simp only [List.length_append, List.length_cons, List.length_nil, List.length_take, List.length_drop]; omega)))) ?_)⟩
      rintro _ _ rfl hs
      refine ⟨fun w hw => hs w hw.tail, (D.exi (fun r4A => D.exi (fun r4c => D.exi (fun r4 => D.sep (D.pur1 ?_)))))⟩
      rintro ⟨rfl, hr4_1, hr4_2⟩
      refine D.effX (Hs' := []) hwf (e := 9) rfl rfl rfl rfl (Ef.storeAll 6 rfl sz26 rfl rfl rfl rfl (by simp [Value.oneCell']) rfl) rfl [] rfl (List.forall_mem_nil _) ?_
      rintro _ _ rfl
      exact ⟨fun w hw => hw.sub (Sub.nil _), (D.done hwf rfl (X.blockNormal (X.next (V.region (O.m rfl (O.q rfl (Pu.sub64 rfl (by omega) rfl rfl rfl) (O.m rfl (O.nil (X.back3 ((k - (1 : Int)), r4A, r4c, r4) (by (try dsimp only); exact ⟨fun d hd => good_snoc hg hgb d (hr4_1.mem_iff.1 hd), by have h := hr4_1.length_eq; simp only [List.length_append, List.length_singleton, List.length_nil] at h; omega⟩) (by first | omega | (dsimp only; omega)) (Ent.cons rfl (Ent.nil _)) (Ent.cons (t := 0) rfl (Ent.cons (t := 1) rfl (Ent.cons (t := 4) rfl (Ent.cons (t := 5) rfl (Ent.nil _))))) (Sub.keep 6 rfl (Sub.k (Sub.keep 4 rfl (Sub.keep 5 rfl (Sub.keep 5 rfl (Sub.drop (Sub.drop (Sub.drop (Sub.drop (Sub.drop (Sub.refl _))))))))))))))))))))⟩
    ·refine ⟨_, _, rfl, rfl, fun _ _ => wanted_none rfl _, Ef.build B3C ([(bk3 (r3[0]'e1) (r3[1]'e2) (r3[2]'e3))] : List B3) rfl Tryz.underlying24 inf65 rfl rfl rfl (by first | decide | (simp; done)) (by kernel_rfl), rfl, rfl, ?_⟩
     rintro _ _ ⟨A3, hA3, rfl, rfl⟩ hs
     refine ⟨fun w hw => hw.sub (Sub.keep 1 rfl (Sub.keep 1 rfl (Sub.keep 1 rfl (Sub.keep 1 rfl (Sub.keep 1 rfl (Sub.keep 1 rfl (Sub.keep 1 rfl (Sub.drop (Sub.refl _))))))))), (D.f hwf 1 rfl (Ef.build B3C ([] : List B3) rfl Tryz.underlying24 inf65 rfl rfl rfl (by first | decide | (simp; done)) (by kernel_rfl)) ?_)⟩
     rintro _ _ ⟨A4, hA4, rfl, rfl⟩ hs
     refine ⟨fun w hw => hw.sub (Sub.keep 2 rfl (Sub.keep 2 rfl (Sub.keep 2 rfl (Sub.keep 2 rfl (Sub.keep 2 rfl (Sub.keep 2 rfl (Sub.keep 2 rfl (Sub.drop (Sub.drop (Sub.refl _)))))))))), (D.f hwf 4 rfl (Ef.appendN (xs := ([] : List B3)) (ys := xs) 0 rfl Tryz.underlying24 inf65 rfl rfl rfl rfl rfl rfl (fun w hw h => Own.nilc hw (i := 6) (by exact rfl) h) (Ld.own 6 (by exact rfl)) (by simp only [List.length_append, List.length_cons, List.length_nil] at *; omega) (by decide)) ?_)⟩
     rintro _ _ ⟨A5, k1, rfl, rfl, hA5⟩ hs
     replace hA5 := hA5 (.inl hA4)
     refine ⟨fun w hw => hw.sub (Sub.keep 2 rfl (Sub.keep 2 rfl (Sub.keep 2 rfl (Sub.keep 2 rfl (Sub.keep 2 rfl (Sub.keep 2 rfl (Sub.keep 2 rfl (Sub.drop (Sub.drop (Sub.refl _)))))))))), (D.f hwf 7 rfl (Ef.append (xs := (([] : List B3) ++ xs)) (ys := ([(bk3 (r3[0]'e1) (r3[1]'e2) (r3[2]'e3))] : List B3)) 0 rfl Tryz.underlying24 inf65 rfl rfl rfl rfl rfl rfl hA3 (Ld.own 1 (by exact rfl)) (by simp only [List.length_append, List.length_cons, List.length_nil] at *; omega) (by decide)) ?_)⟩
     rintro _ _ ⟨A6, k2, rfl, rfl, hA6⟩ hs
     replace hA6 := hA6 (.inr (by simp))
     refine ⟨fun w hw => hw.sub (Sub.keep 2 rfl (Sub.keep 2 rfl (Sub.keep 2 rfl (Sub.keep 2 rfl (Sub.keep 2 rfl (Sub.keep 2 rfl (Sub.keep 2 rfl (Sub.drop (Sub.drop (Sub.refl _)))))))))), (D.f hwf 8 rfl (Ef.call1 call71 rfl rfl (fun w hw => l01Made_ok  v_ ((([] : List B3) ++ xs) ++ ([(bk3 (r3[0]'e1) (r3[1]'e2) (r3[2]'e3))] : List B3)) _ _ w ((Ld.own 0 (by exact rfl)) w hw) (by first | omega | (simp only [List.length_append, List.length_cons, List.length_nil, List.length_take, List.length_drop]; omega)) (by first | omega | (simp only [List.length_append, List.length_cons, List.length_nil, List.length_take, List.length_drop]; omega)))) ?_)⟩
     rintro _ _ rfl hs
     refine ⟨fun w hw => hs w hw.tail, (D.exi (fun r4A => D.exi (fun r4c => D.exi (fun r4 => D.sep (D.pur1 ?_)))))⟩
     rintro ⟨rfl, hr4_1, hr4_2⟩
     refine D.effX (Hs' := []) hwf (e := 9) rfl rfl rfl rfl (Ef.storeAll 6 rfl sz26 rfl rfl rfl rfl (by simp [Value.oneCell']) rfl) rfl [] rfl (List.forall_mem_nil _) ?_
     rintro _ _ rfl
     exact ⟨fun w hw => hw.sub (Sub.nil _), (D.done hwf rfl (X.blockNormal (X.next (V.region (O.m rfl (O.q rfl (Pu.sub64 rfl (by omega) rfl rfl rfl) (O.m rfl (O.nil (X.back3 ((k - (1 : Int)), r4A, r4c, r4) (by (try dsimp only); exact ⟨fun d hd => good_snoc hg hgb d (hr4_1.mem_iff.1 hd), by have h := hr4_1.length_eq; simp only [List.length_append, List.length_singleton, List.length_nil] at h; omega⟩) (by first | omega | (dsimp only; omega)) (Ent.cons rfl (Ent.nil _)) (Ent.cons (t := 0) rfl (Ent.cons (t := 1) rfl (Ent.cons (t := 4) rfl (Ent.cons (t := 5) rfl (Ent.nil _))))) (Sub.keep 6 rfl (Sub.k (Sub.keep 4 rfl (Sub.keep 5 rfl (Sub.keep 5 rfl (Sub.drop (Sub.drop (Sub.drop (Sub.drop (Sub.drop (Sub.refl _))))))))))))))))))))⟩
   ·exact V.skip (X.blockNormal (X.next (V.region (O.m rfl (O.q rfl (Pu.sub64 rfl (by omega) rfl rfl rfl) (O.m rfl (O.nil (X.back3 ((k - (1 : Int)), xsA, xsc, xs) (by (try dsimp only); exact ⟨hg, by omega⟩) (by first | omega | (dsimp only; omega)) (Ent.cons rfl (Ent.nil _)) (Ent.cons (t := 0) rfl (Ent.cons (t := 1) rfl (Ent.cons (t := 4) rfl (Ent.cons (t := 5) rfl (Ent.nil _))))) (Sub.keep 3 rfl (Sub.keep 3 rfl (Sub.keep 2 rfl (Sub.keep 2 rfl (Sub.keep 2 rfl (Sub.drop (Sub.drop (Sub.refl _))))))))))))))))
 ·refine V.exit (X.thenExit (X.thenExit (X.blockHit (X.next (V.seq (V.region (O.q rfl (Pu.loadAgg rfl ag26 sz26 rfl rfl (Ld.whole 0 rfl)) (O.s rfl rfl (Ef.storeAll 4 rfl sz26 rfl rfl rfl rfl (by simp [Value.oneCell']) rfl) ?_))))))))
  rintro _ _ rfl
  exact O.nil (X.next (V.ret (X.retCell rfl ag26 sz26 rfl rfl (Ld.whole 4 rfl) (fun w hw => St.mkExi xsA (St.mkExi xsc (St.mkExi xs (St.unsep (St.addPur ⟨rfl, ⟨hv, hg, by omega⟩⟩ (St.unsep (hw.sub (Sub.keep 1 rfl (Sub.keep 1 rfl (Sub.drop (Sub.drop (Sub.drop (Sub.refl _))))))))))))))))
end Go.Proofs.YthlmfgmmbfbhhaaGreat
