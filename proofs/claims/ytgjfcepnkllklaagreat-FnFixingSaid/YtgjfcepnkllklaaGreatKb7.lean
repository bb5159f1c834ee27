/-
  Contracts, part 7.
-/
import Derived.Test.YtgjfcepnkllklaaGreatKb6
set_option linter.unusedVariables false
set_option linter.unusedSimpArgs false
namespace Go.Proofs.YtgjfcepnkllklaaGreat
open Go Go.RowKit Go.Vc Go.Proofs
set_option maxRecDepth 100000 in
set_option maxHeartbeats 1000000 in
theorem l01Names_ok (w : World) : Does Tryz.prog 192 [] w [] (fun rv_ => [.exi fun (rA : Option Addr) => .exi fun (rc : Nat) => .exi fun (r : List ByteArray) => .sep (.pur (rv_ = .slice rA r.length rc ∧ r = nmL)) (Own 9 StrC rA rc r)]) := by
  refine Does.enter Tryz.func192 rfl rfl [] rfl ?_
  refine V.seq ?_
  refine V.region ?_
  refine O.p rfl rfl rfl (Pu.assign rfl rfl) ?_
  refine O.nil ?_
  refine X.next ?_
  refine V.seq ?_
  refine V.region ?_
  refine O.e rfl rfl rfl (Ef.build StrC ([(ByteArray.mk #[115, 105, 110, 103, 108, 101]), (ByteArray.mk #[102, 97, 110, 111]), (ByteArray.mk #[97, 102, 102, 105, 110, 101]), (ByteArray.mk #[99, 121, 99, 108, 105, 99, 49, 51]), (ByteArray.mk #[99, 121, 99, 108, 105, 99, 49, 53]), (ByteArray.mk #[112, 114, 111, 106, 101, 99, 116, 105, 118, 101, 49, 53])] : List ByteArray) rfl Tryz.underlying110 inf9 rfl rfl rfl (by first | decide | (simp; done)) (by kernel_rfl)) ?_
  rintro _ _ ⟨A1, hA1, rfl, rfl⟩
  refine O.p rfl rfl rfl (Pu.assign rfl rfl) ?_
  refine O.nil ?_
  refine X.next ?_
  refine V.ret ?_
  refine X.ret1 rfl rfl ?_
  exact fun w hw => St.mkExi A1 (St.mkExi 6 (St.mkExi ([(ByteArray.mk #[115, 105, 110, 103, 108, 101]), (ByteArray.mk #[102, 97, 110, 111]), (ByteArray.mk #[97, 102, 102, 105, 110, 101]), (ByteArray.mk #[99, 121, 99, 108, 105, 99, 49, 51]), (ByteArray.mk #[99, 121, 99, 108, 105, 99, 49, 53]), (ByteArray.mk #[112, 114, 111, 106, 101, 99, 116, 105, 118, 101, 49, 53])] : List ByteArray) (St.unsep (St.addPur ⟨rfl, rfl⟩ (hw.sub (Sub.keep 0 rfl (Sub.nil _)))))))
set_option maxRecDepth 100000 in
set_option maxHeartbeats 1000000 in
theorem l01BlockD_ok (a : Int) (b : Int) (c_ : Int) (w : World) (ha : (-1000000 ≤ a ∧ a ≤ 1000000)) (hb : (-1000000 ≤ b ∧ b ≤ 1000000)) (hc : (-1000000 ≤ c_ ∧ c_ ≤ 1000000)) : Does Tryz.prog 206 [.int .i64 a, .int .i64 b, .int .i64 c_] w [] (fun r => [.pur (r = B3.v (bk3 a b c_))]) := by
  refine Does.enter Tryz.func206 rfl rfl [(0, .int .i64 a), (1, .int .i64 b), (2, .int .i64 c_)] rfl ?_
  refine V.seq ?_
  refine V.region ?_
  refine O.e rfl rfl rfl (Ef.alloc rfl zr51 rfl) ?_
  rintro _ _ ⟨b1, rfl, rfl⟩
  refine O.nil ?_
  refine X.next ?_
  refine V.seq ?_
  refine V.region ?_
  refine O.p rfl rfl rfl (Pu.move rfl rfl) ?_
  refine O.p rfl rfl rfl (Pu.move rfl rfl) ?_
  refine O.p rfl rfl rfl (Pu.move rfl rfl) ?_
  refine O.p rfl rfl rfl (Pu.min3 (r := (min (min a b) c_)) (by omega) rfl rfl rfl rfl) ?_
  refine O.p rfl rfl rfl (Pu.move rfl rfl) ?_
  refine O.p rfl rfl rfl (Pu.move rfl rfl) ?_
  refine O.p rfl rfl rfl (Pu.move rfl rfl) ?_
  refine O.p rfl rfl rfl (Pu.max3 (r := (max (max a b) c_)) (by omega) rfl rfl rfl rfl) ?_
  refine O.p rfl rfl rfl (Pu.assign rfl rfl) ?_
  refine O.p rfl rfl rfl (Pu.assign rfl rfl) ?_
  refine O.nil ?_
  refine X.next ?_
  refine V.seq ?_
  refine V.region ?_
  refine O.p rfl rfl rfl (Pu.move rfl rfl) ?_
  refine O.p rfl rfl rfl (Pu.move rfl rfl) ?_
  refine O.p rfl rfl rfl (Pu.move rfl rfl) ?_
  refine O.p rfl rfl rfl (Pu.add64 rfl (by omega) rfl rfl rfl) ?_
  refine O.p rfl rfl rfl (Pu.move rfl rfl) ?_
  refine O.p rfl rfl rfl (Pu.add64 rfl (by omega) rfl rfl rfl) ?_
  refine O.p rfl rfl rfl (Pu.move rfl rfl) ?_
  refine O.p rfl rfl rfl (Pu.sub64 rfl (by omega) rfl rfl rfl) ?_
  refine O.p rfl rfl rfl (Pu.move rfl rfl) ?_
  refine O.p rfl rfl rfl (Pu.sub64 rfl (by omega) rfl rfl rfl) ?_
  refine O.p rfl rfl rfl (Pu.move rfl rfl) ?_
  refine O.p rfl rfl rfl (Pu.buildA (cs := [.int .i64 (min (min a b) c_), .int .i64 ((((a + b) + c_) - (min (min a b) c_)) - (max (max a b) c_)), .int .i64 (max (max a b) c_)]) (v := B3.v ((min (min a b) c_), ((((a + b) + c_) - (min (min a b) c_)) - (max (max a b) c_)), (max (max a b) c_))) rfl rfl Tryz.underlying51 zr51 sz2 rfl (by kernel_rfl)) ?_
  refine O.s rfl rfl (Ef.storeAll 0 rfl sz51 rfl rfl rfl rfl (by simp [Value.oneCell']) rfl) ?_
  rintro _ _ rfl
  refine O.nil ?_
  refine X.next ?_
  refine V.ret ?_
  refine X.retCell rfl ag51 sz51 rfl rfl (Ld.whole 0 rfl) ?_
  exact fun w hw => St.retP (rfl) hw
set_option maxRecDepth 100000 in
set_option maxHeartbeats 1000000 in
theorem l01RenamedD_ok (v : Int) (bs : List B3) (p : List Int) (A : Option Addr) (c : Nat) (pA : Option Addr) (pc : Nat) (w : World) (hx : Rd B3C w A bs) (hp : Rd I64 w pA p) (lx : bs.length ≤ 4611686018427387904) (lp : p.length ≤ 1099511627776) (hb : ∀ b ∈ bs, good (p.length : Int) b) (lb : bs.length ≤ 100000) (hq : ∀ q ∈ p, 0 ≤ q ∧ q < 16) : Does Tryz.prog 126 [.agg #[.int .i64 v, .slice A bs.length c], .slice pA p.length pc] w [] (fun rv_ => [.exi fun (rA : Option Addr) => .exi fun (rc : Nat) => .exi fun (r : List B3) => .sep (.pur (rv_ = .agg #[.int .i64 v, .slice rA r.length rc] ∧ r.Perm (bs.map (renB p)) ∧ SrtB r)) (Own 51 B3C rA rc r)]) := by
  refine Does.enter Tryz.func126 rfl rfl [(0, .agg #[.int .i64 v, .slice A bs.length c]), (1, .slice pA p.length pc)] rfl ?_
  refine V.seq ?_
  refine V.region ?_
  refine O.e rfl rfl rfl (Ef.box rfl rfl rfl) ?_
  rintro _ _ ⟨b1, rfl, rfl⟩
  refine O.e rfl rfl rfl (Ef.alloc rfl zr26 rfl) ?_
  rintro _ _ ⟨b2, rfl, rfl⟩
  refine O.nil ?_
  refine X.next ?_
  refine V.seq ?_
  refine V.region ?_
  refine O.e rfl rfl rfl (Ef.build B3C ([] : List B3) rfl Tryz.underlying24 inf51 rfl rfl rfl (by first | decide | (simp; done)) (by kernel_rfl)) ?_
  rintro _ _ ⟨A1, hA1, rfl, rfl⟩
  refine O.p rfl rfl rfl (Pu.assign rfl rfl) ?_
  refine O.nil ?_
  refine X.next ?_
  refine V.seq ?_
  refine V.seq ?_
  refine V.region ?_
  refine O.p rfl rfl rfl (Pu.assign rfl rfl) ?_
  refine O.nil ?_
  refine X.next ?_
  refine V.block ?_
  refine V.loop3 (β := (Option Addr) × Nat × (List B3) × Nat) (fun x => [(5, .slice x.1 x.2.2.1.length x.2.1), (6, .int .i64 (x.2.2.2 : Int))]) _ (fun x => [Own 51 B3C x.1 x.2.1 x.2.2.1]) _ (fun x => x.2.2.2 ≤ bs.length ∧ x.2.2.1 = (bs.take x.2.2.2).map (renB p)) (fun x => bs.length - x.2.2.2) (A1, 0, ([] : List B3), 0) (by (try dsimp only); exact ⟨by omega, rfl⟩) (Ent.cons rfl (Ent.cons rfl (Ent.nil _))) (Ent.cons (t := 1) rfl (Ent.cons (t := 2) rfl (Ent.cons (t := 4) rfl (Ent.nil _)))) (Sub.keep 0 rfl (Sub.keep 0 rfl (Sub.keep 0 rfl (Sub.nil _)))) ?_
  rintro ⟨blocksA, blocksc, blocks, i⟩ ⟨hi, ho⟩
  dsimp only at hi ho ⊢
  have hol : blocks.length ≤ bs.length := by rw [ho, List.length_map, List.length_take]; omega
  refine V.seq ?_
  refine V.seq ?_
  refine V.region ?_
  refine O.p rfl rfl rfl (Pu.move rfl rfl) ?_
  refine O.p rfl rfl rfl (Pu.fieldAddr 1 rfl Tryz.underlying26 rfl sz24 rfl rfl) ?_
  refine O.p rfl rfl rfl (Pu.load rfl pl24 rfl (Ld.blk 2 rfl rfl)) ?_
  refine O.p rfl rfl rfl (Pu.len rfl Tryz.underlying24 rfl) ?_
  refine O.p rfl rfl rfl (Pu.lss rfl rfl rfl) ?_
  refine O.nil ?_
  refine X.next ?_
  refine V.condD rfl (fun c1 => ?_) (fun c1 => ?_)
  · skip
    refine V.skip ?_
    refine X.next ?_
    refine V.seq ?_
    refine V.block ?_
    refine V.seq ?_
    have ei : i < bs.length := by omega
    have hg := hb (bs[i]'ei) (List.getElem_mem ei)
    unfold good at hg
    have hq1 := hq (p[(bs[i]'ei).1.toNat]'(by omega)) (List.getElem_mem _)
    have hq2 := hq (p[(bs[i]'ei).2.1.toNat]'(by omega)) (List.getElem_mem _)
    have hq3 := hq (p[(bs[i]'ei).2.2.toNat]'(by omega)) (List.getElem_mem _)
    refine V.region ?_
    refine O.p rfl rfl rfl (Pu.fieldAddr 1 rfl Tryz.underlying26 rfl sz24 rfl rfl) ?_
    refine O.p rfl rfl rfl (Pu.load rfl pl24 rfl (Ld.blk 2 rfl rfl)) ?_
    refine O.p rfl rfl rfl (Pu.move rfl rfl) ?_
    refine O.p rfl rfl rfl (Pu.indexAddr (i) rfl Tryz.underlying24 sz51 rfl rfl (by omega) (by omega) (hx.some (by omega))) ?_
    refine O.p rfl rfl rfl (Pu.loadAgg' (v := B3.v (bs[i]'ei)) rfl rfl ag51 sz51 rfl rfl (Ld.rds (Ld.old hx) (k := i) ei rfl)) ?_
    refine O.e rfl rfl rfl (Ef.alloc rfl zr51 rfl) ?_
    rintro _ _ ⟨b3, rfl, rfl⟩
    refine O.s rfl rfl (Ef.storeAll 0 rfl sz51 rfl rfl rfl rfl (by simp [Value.oneCell']) rfl) ?_
    rintro _ _ rfl
    refine O.nil ?_
    refine X.next ?_
    refine V.drawS mo (by kernel_rfl) (Sub.keep 0 rfl (Sub.keep 1 rfl (Sub.keep 1 rfl (Sub.nil _)))) (fun hwf => ?_)
    refine D.p 0 rfl rfl rfl rfl rfl rfl (Pu.move rfl rfl) ?_
    refine D.p 1 rfl rfl rfl rfl rfl rfl (Pu.move rfl rfl) ?_
    refine D.p 2 rfl rfl rfl rfl rfl rfl (Pu.indexArr 0 0 rfl Tryz.underlying51 sz2 rfl rfl (by decide) (by decide) (by decide)) ?_
    refine D.p 3 rfl rfl rfl rfl rfl rfl (Pu.load rfl pl2 rfl (Ld.blk 0 rfl rfl)) ?_
    refine D.p 4 rfl rfl rfl rfl rfl rfl (Pu.indexAddr (((bs[i]'ei).1).toNat) rfl Tryz.underlying34 sz2 rfl rfl (by omega) (by omega) (hp.some (by omega))) ?_
    have e1 : ((bs[i]'ei).1).toNat < p.length := by omega
    refine D.p 5 rfl rfl rfl rfl rfl rfl (Pu.load rfl pl2 rfl (Ld.rd (Ld.old hp) (k := ((bs[i]'ei).1).toNat) e1 rfl rfl)) ?_
    refine D.p 6 rfl rfl rfl rfl rfl rfl (Pu.move rfl rfl) ?_
    refine D.p 7 rfl rfl rfl rfl rfl rfl (Pu.indexArr 1 1 rfl Tryz.underlying51 sz2 rfl rfl (by decide) (by decide) (by decide)) ?_
    refine D.p 8 rfl rfl rfl rfl rfl rfl (Pu.load rfl pl2 rfl (Ld.blk 0 rfl rfl)) ?_
    refine D.p 9 rfl rfl rfl rfl rfl rfl (Pu.indexAddr (((bs[i]'ei).2.1).toNat) rfl Tryz.underlying34 sz2 rfl rfl (by omega) (by omega) (hp.some (by omega))) ?_
    have e2 : ((bs[i]'ei).2.1).toNat < p.length := by omega
    refine D.p 10 rfl rfl rfl rfl rfl rfl (Pu.load rfl pl2 rfl (Ld.rd (Ld.old hp) (k := ((bs[i]'ei).2.1).toNat) e2 rfl rfl)) ?_
    refine D.p 11 rfl rfl rfl rfl rfl rfl (Pu.move rfl rfl) ?_
    refine D.p 12 rfl rfl rfl rfl rfl rfl (Pu.indexArr 2 2 rfl Tryz.underlying51 sz2 rfl rfl (by decide) (by decide) (by decide)) ?_
    refine D.p 13 rfl rfl rfl rfl rfl rfl (Pu.load rfl pl2 rfl (Ld.blk 0 rfl rfl)) ?_
    refine D.p 14 rfl rfl rfl rfl rfl rfl (Pu.indexAddr (((bs[i]'ei).2.2).toNat) rfl Tryz.underlying34 sz2 rfl rfl (by omega) (by omega) (hp.some (by omega))) ?_
    have e3 : ((bs[i]'ei).2.2).toNat < p.length := by omega
    refine D.p 15 rfl rfl rfl rfl rfl rfl (Pu.load rfl pl2 rfl (Ld.rd (Ld.old hp) (k := ((bs[i]'ei).2.2).toNat) e3 rfl rfl)) ?_
    refine D.eff hwf (e := 16) rfl rfl rfl rfl (Ef.callP call206 rfl rfl (fun w hw => l01BlockD_ok  (p[((bs[i]'ei).1).toNat]'e1) (p[((bs[i]'ei).2.1).toNat]'e2) (p[((bs[i]'ei).2.2).toNat]'e3) w   (by first | assumption | omega | (try dsimp only at *; omega)) (by first | assumption | omega | (try dsimp only at *; omega)) (by first | assumption | omega | (try dsimp only at *; omega)))) rfl rfl rfl ?_
    rintro _ _ ⟨rfl, rfl⟩ hs
    refine ⟨fun w hw => hw.sub (Sub.keep 0 rfl (Sub.keep 1 rfl (Sub.keep 1 rfl (Sub.nil _)))), ?_⟩
    refine D.eff hwf (e := 17) rfl rfl rfl rfl (Ef.build B3C ([(bk3 (p[((bs[i]'ei).1).toNat]'e1) (p[((bs[i]'ei).2.1).toNat]'e2) (p[((bs[i]'ei).2.2).toNat]'e3))] : List B3) rfl Tryz.underlying24 inf51 rfl rfl rfl (by first | decide | (simp; done)) (by kernel_rfl)) rfl rfl rfl ?_
    rintro _ _ ⟨A2, hA2, rfl, rfl⟩ hs
    refine ⟨fun w hw => hw.sub (Sub.keep 1 rfl (Sub.keep 2 rfl (Sub.keep 2 rfl (Sub.nil _)))), ?_⟩
    refine D.eff hwf (e := 18) rfl rfl rfl rfl (Ef.append (xs := blocks) (ys := ([(bk3 (p[((bs[i]'ei).1).toNat]'e1) (p[((bs[i]'ei).2.1).toNat]'e2) (p[((bs[i]'ei).2.2).toNat]'e3))] : List B3)) 2 rfl Tryz.underlying24 inf51 rfl rfl rfl rfl rfl rfl hA2 (Ld.own 0 (by exact rfl)) (by simp only [List.length_append, List.length_cons, List.length_nil] at *; omega) (by decide)) rfl rfl rfl ?_
    rintro _ _ ⟨A3, k1, rfl, rfl, hA3⟩ hs
    replace hA3 := hA3 (.inr (by simp))
    refine ⟨fun w hw => hw.sub (Sub.keep 1 rfl (Sub.keep 2 rfl (Sub.keep 2 rfl (Sub.nil _)))), ?_⟩
    refine D.last hwf (e := 19) rfl rfl rfl rfl rfl rfl (Pu.assign rfl rfl) ?_
    refine X.blockNormal ?_
    refine X.next ?_
    refine V.region ?_
    refine O.p rfl rfl rfl (Pu.move rfl rfl) ?_
    refine O.p rfl rfl rfl (Pu.add64 (r := ((i + 1 : Nat) : Int)) rfl (by omega) rfl rfl rfl) ?_
    refine O.p rfl rfl rfl (Pu.assign rfl rfl) ?_
    refine O.nil ?_
    exact X.back3 (A3, k1, (blocks ++ ([(bk3 (p[((bs[i]'ei).1).toNat]'e1) (p[((bs[i]'ei).2.1).toNat]'e2) (p[((bs[i]'ei).2.2).toNat]'e3))] : List B3)), i + 1) (by (try dsimp only); exact ⟨by omega, by rw [take_snoc ei, List.map_append, ho]; simp only [List.map_cons, List.map_nil, renB]; rw [getD_at (by omega), getD_at (by omega), getD_at (by omega)]⟩) (by first | omega | (dsimp only; omega)) (Ent.cons rfl (Ent.cons rfl (Ent.nil _))) (Ent.cons (t := 1) rfl (Ent.cons (t := 2) rfl (Ent.cons (t := 4) rfl (Ent.nil _)))) (Sub.keep 2 rfl (Sub.keep 2 rfl (Sub.keep 2 rfl (Sub.nil _))))
  · skip
    refine V.exit ?_
    refine X.thenExit ?_
    refine X.thenExit ?_
    refine X.blockHit ?_
    refine X.next ?_
    refine V.seq ?_
    refine V.region ?_
    refine O.p rfl rfl rfl (Pu.fieldAddr 0 rfl Tryz.underlying26 rfl sz2 rfl rfl) ?_
    refine O.p rfl rfl rfl (Pu.load rfl pl2 rfl (Ld.blk 2 rfl rfl)) ?_
    refine O.p rfl rfl rfl (Pu.move rfl rfl) ?_
    refine O.e rfl rfl rfl (Ef.call1 call199 rfl rfl (fun w hw => l01Made_ok  v blocks _ _ w ((Ld.own 0 (by exact rfl)) w hw) (by first | omega | (simp only [tops_len, conts_len, bl, List.length_append, List.length_cons, List.length_nil] at *; omega)) (by first | assumption | omega | (try dsimp only at *; omega)))) ?_
    rintro _ _ rfl
    refine O.exi (fun r1A => ?_)
    refine O.exi (fun r1c => ?_)
    refine O.exi (fun r1 => ?_)
    refine O.sep ?_
    refine O.pur ?_
    rintro ⟨rfl, hr1_1, hr1_2⟩
    refine O.s rfl rfl (Ef.storeAll 2 rfl sz26 rfl rfl rfl rfl (by simp [Value.oneCell']) rfl) ?_
    rintro _ _ rfl
    refine O.nil ?_
    refine X.next ?_
    refine V.ret ?_
    refine X.retCell rfl ag26 sz26 rfl rfl (Ld.whole 2 rfl) ?_
    exact fun w hw => St.mkExi r1A (St.mkExi r1c (St.mkExi r1 (St.unsep (St.addPur ⟨rfl, by rw [ho, List.take_of_length_le (by omega)] at hr1_1; exact hr1_1, hr1_2⟩ (hw.sub (Sub.keep 0 rfl (Sub.nil _)))))))
set_option maxRecDepth 100000 in
set_option maxHeartbeats 1000000 in
theorem l01Turned_ok (blocks : List B3) (v_ : Int) (a : Int) (b : Int) (c_ : Int) (blocksA : Option Addr) (blocksc : Nat) (w0 : World) (H : List Assn) (hv : 0 < v_ ∧ v_ ≤ 15) (ha : (0 ≤ a ∧ a ≤ 1000)) (hb : (0 ≤ b ∧ b ≤ 1000)) (hc : (0 ≤ c_ ∧ c_ ≤ 1000)) (lb : blocks.length ≤ 1000) : Does Tryz.prog 205 [.slice blocksA blocks.length blocksc, .int .i64 v_, .int .i64 a, .int .i64 b, .int .i64 c_] w0 (Own 51 B3C blocksA blocksc blocks :: H) (fun rv_ => [.exi fun (rA : Option Addr) => .exi fun (rc : Nat) => .exi fun (r : List B3) => .sep (.pur (rv_ = .slice rA r.length rc ∧ r = rowT v_ blocks (a, b, c_) v_.toNat)) (Own 51 B3C rA rc r)] ++ H) := by
  refine Does.enter Tryz.func205 rfl rfl [(0, .slice blocksA blocks.length blocksc), (1, .int .i64 v_), (2, .int .i64 a), (3, .int .i64 b), (4, .int .i64 c_)] rfl ?_
  refine V.seq ?_
  refine V.region ?_
  refine O.p rfl rfl rfl (Pu.assign rfl rfl) ?_
  refine O.nil ?_
  refine X.next ?_
  refine V.seq ?_
  refine V.seq ?_
  refine V.region ?_
  refine O.p rfl rfl rfl (Pu.assign rfl rfl) ?_
  refine O.nil ?_
  refine X.next ?_
  refine V.block ?_
  refine V.loop3 (β := (Option Addr) × Nat × (List B3) × Nat) (fun x => [(0, .slice x.1 x.2.2.1.length x.2.1), (11, .int .i64 (x.2.2.2 : Int))]) _ (fun x => [Own 51 B3C x.1 x.2.1 x.2.2.1]) _ (fun x => x.2.2.2 ≤ v_.toNat ∧ x.2.2.1 = rowT v_ blocks (a, b, c_) x.2.2.2) (fun x => v_.toNat - x.2.2.2) (blocksA, blocksc, blocks, 0) (by (try dsimp only); exact ⟨by omega, rfl⟩) (Ent.cons rfl (Ent.cons rfl (Ent.nil _))) (Ent.cons (t := 1) rfl (Ent.cons (t := 2) rfl (Ent.cons (t := 3) rfl (Ent.cons (t := 4) rfl (Ent.nil _))))) (Sub.keep 0 rfl (Sub.refl _)) ?_
  rintro ⟨zA, zc, z, i⟩ ⟨hi, hz⟩
  dsimp only at hi hz ⊢
  have hzl : z.length ≤ blocks.length + i := by rw [hz]; exact rowT_len i
  refine V.seq ?_
  refine V.seq ?_
  refine V.region ?_
  refine O.p rfl rfl rfl (Pu.move rfl rfl) ?_
  refine O.p rfl rfl rfl (Pu.move rfl rfl) ?_
  refine O.p rfl rfl rfl (Pu.lss rfl rfl rfl) ?_
  refine O.nil ?_
  refine X.next ?_
  refine V.condD rfl (fun c1 => ?_) (fun c1 => ?_)
  · skip
    refine V.skip ?_
    refine X.next ?_
    refine V.seq ?_
    refine V.block ?_
    refine V.seq ?_
    refine V.draw mo (by kernel_rfl) (fun hwf => ?_)
    refine D.p 0 rfl rfl rfl rfl rfl rfl (Pu.move rfl rfl) ?_
    refine D.p 1 rfl rfl rfl rfl rfl rfl (Pu.move rfl rfl) ?_
    refine D.p 2 rfl rfl rfl rfl rfl rfl (Pu.add64 rfl (by omega) rfl rfl rfl) ?_
    refine D.p 3 rfl rfl rfl rfl rfl rfl (Pu.move rfl rfl) ?_
    refine D.p 4 rfl rfl rfl rfl rfl rfl (Pu.rem64 (by omega) (by omega) rfl rfl rfl) ?_
    refine D.p 5 rfl rfl rfl rfl rfl rfl (Pu.move rfl rfl) ?_
    refine D.p 6 rfl rfl rfl rfl rfl rfl (Pu.move rfl rfl) ?_
    refine D.p 7 rfl rfl rfl rfl rfl rfl (Pu.add64 rfl (by omega) rfl rfl rfl) ?_
    refine D.p 8 rfl rfl rfl rfl rfl rfl (Pu.move rfl rfl) ?_
    refine D.p 9 rfl rfl rfl rfl rfl rfl (Pu.rem64 (by omega) (by omega) rfl rfl rfl) ?_
    refine D.p 10 rfl rfl rfl rfl rfl rfl (Pu.move rfl rfl) ?_
    refine D.p 11 rfl rfl rfl rfl rfl rfl (Pu.move rfl rfl) ?_
    refine D.p 12 rfl rfl rfl rfl rfl rfl (Pu.add64 rfl (by omega) rfl rfl rfl) ?_
    refine D.p 13 rfl rfl rfl rfl rfl rfl (Pu.move rfl rfl) ?_
    refine D.p 14 rfl rfl rfl rfl rfl rfl (Pu.rem64 (by omega) (by omega) rfl rfl rfl) ?_
    refine D.either hwf (e1 := 15) (e2 := 16) rfl ?_ ?_
    · skip
      refine ⟨_, _, rfl, rfl, fun _ _ => wanted_none rfl _, Ef.callP call206 rfl rfl (fun w hw => l01BlockD_ok  ((a + (↑i : Int)) % v_) ((b + (↑i : Int)) % v_) ((c_ + (↑i : Int)) % v_) w   (by have h1 := Int.emod_nonneg (a + (i : Int)) (show v_ ≠ 0 by omega); have h2 := Int.emod_lt_of_pos (a + (i : Int)) (show 0 < v_ by omega); omega) (by have h1 := Int.emod_nonneg (b + (i : Int)) (show v_ ≠ 0 by omega); have h2 := Int.emod_lt_of_pos (b + (i : Int)) (show 0 < v_ by omega); omega) (by have h1 := Int.emod_nonneg (c_ + (i : Int)) (show v_ ≠ 0 by omega); have h2 := Int.emod_lt_of_pos (c_ + (i : Int)) (show 0 < v_ by omega); omega)), rfl, rfl, ?_⟩
      rintro _ _ ⟨rfl, rfl⟩ hs
      refine ⟨fun w hw => hw, ?_⟩
      refine D.eff hwf (e := 16) rfl rfl rfl rfl (Ef.alloc rfl zr51 rfl) rfl rfl rfl ?_
      rintro _ _ ⟨b1, rfl, rfl⟩ hs
      refine ⟨fun w hw => hw.sub (Sub.keep 1 rfl (Sub.drop (Sub.refl _))), ?_⟩
      refine D.eff hwf (e := 17) rfl rfl rfl rfl (Ef.storeAll 0 rfl sz51 rfl rfl rfl rfl (by simp [Value.oneCell']) rfl) rfl rfl rfl ?_
      rintro _ _ rfl hs
      refine ⟨fun w hw => hw.sub (Sub.keep 1 rfl (Sub.drop (Sub.refl _))), ?_⟩
      refine D.p 18 rfl rfl rfl rfl rfl rfl (Pu.assign rfl rfl) ?_
      refine D.done hwf rfl ?_
      refine X.next ?_
      refine V.seq ?_
      refine V.seq ?_
      refine V.region ?_
      refine O.p rfl rfl rfl (Pu.assign rfl rfl) ?_
      refine O.nil ?_
      refine X.next ?_
      refine V.block ?_
      refine V.loop3 (β := Bool × Nat) (fun x => [(13, .bool x.1), (14, .int .i64 (x.2 : Int))]) _ (fun x => []) _ (fun x => x.2 ≤ z.length ∧ x.1 = decide (bkT v_ (a, b, c_) i ∈ z.take x.2)) (fun x => z.length - x.2) (false, 0) (by (try dsimp only); exact ⟨by omega, by simp⟩) (Ent.cons rfl (Ent.cons rfl (Ent.nil _))) (Ent.cons (t := 0) rfl (Ent.cons (t := 1) rfl (Ent.cons (t := 2) rfl (Ent.cons (t := 3) rfl (Ent.cons (t := 4) rfl (Ent.cons (t := 11) rfl (Ent.cons (t := 12) rfl (Ent.nil _)))))))) (Sub.keep 0 rfl (Sub.keep 0 rfl (Sub.refl _))) ?_
      rintro ⟨known, k⟩ ⟨hk, hk2⟩
      dsimp only at hk hk2 ⊢
      refine V.seq ?_
      refine V.seq ?_
      refine V.region ?_
      refine O.p rfl rfl rfl (Pu.move rfl rfl) ?_
      refine O.p rfl rfl rfl (Pu.move rfl rfl) ?_
      refine O.p rfl rfl rfl (Pu.len rfl Tryz.underlying24 rfl) ?_
      refine O.p rfl rfl rfl (Pu.lss rfl rfl rfl) ?_
      refine O.nil ?_
      refine X.next ?_
      refine V.condD rfl (fun c2 => ?_) (fun c2 => ?_)
      · skip
        refine V.skip ?_
        refine X.next ?_
        refine V.seq ?_
        refine V.block ?_
        refine V.draw mo (by kernel_rfl) (fun hwf => ?_)
        refine D.p 0 rfl rfl rfl rfl rfl rfl (Pu.move rfl rfl) ?_
        refine D.p 1 rfl rfl rfl rfl rfl rfl (Pu.move rfl rfl) ?_
        refine D.splitB 43 rfl (fun c3 => ?_) (fun c3 => ?_)
        · skip
          subst c3
          refine D.gs 2 rfl rfl rfl rfl rfl rfl rfl rfl rfl ?_
          refine D.gs 3 rfl rfl rfl rfl rfl rfl rfl rfl rfl ?_
          refine D.gs 4 rfl rfl rfl rfl rfl rfl rfl rfl rfl ?_
          refine D.gs 5 rfl rfl rfl rfl rfl rfl rfl rfl rfl ?_
          refine D.gs 6 rfl rfl rfl rfl rfl rfl rfl rfl rfl ?_
          refine D.gs 7 rfl rfl rfl rfl rfl rfl rfl rfl rfl ?_
          refine D.p 8 rfl rfl rfl rfl rfl rfl (Pu.pickT rfl rfl rfl) ?_
          refine D.last hwf (e := 9) rfl rfl rfl rfl rfl rfl (Pu.assign rfl rfl) ?_
          refine X.blockNormal ?_
          refine X.next ?_
          refine V.region ?_
          refine O.p rfl rfl rfl (Pu.move rfl rfl) ?_
          refine O.p rfl rfl rfl (Pu.add64 (r := ((k + 1 : Nat) : Int)) rfl (by omega) rfl rfl rfl) ?_
          refine O.p rfl rfl rfl (Pu.assign rfl rfl) ?_
          refine O.nil ?_
          exact X.back3 (true, k + 1) (by (try dsimp only); exact ⟨by omega, by rw [take_snoc (by omega)]; have h := hk2.symm; rw [decide_eq_true_eq] at h; exact (decide_eq_true (List.mem_append.2 (.inl h))).symm⟩) (by first | omega | (dsimp only; omega)) (Ent.cons rfl (Ent.cons rfl (Ent.nil _))) (Ent.cons (t := 0) rfl (Ent.cons (t := 1) rfl (Ent.cons (t := 2) rfl (Ent.cons (t := 3) rfl (Ent.cons (t := 4) rfl (Ent.cons (t := 11) rfl (Ent.cons (t := 12) rfl (Ent.nil _)))))))) (Sub.keep 0 rfl (Sub.keep 0 rfl (Sub.refl _)))
        · skip
          subst c3
          refine D.gp 2 rfl rfl rfl rfl rfl rfl rfl rfl (Pu.move rfl rfl) ?_
          refine D.gp 3 rfl rfl rfl rfl rfl rfl rfl rfl (Pu.move rfl rfl) ?_
          refine D.gp 4 rfl rfl rfl rfl rfl rfl rfl rfl (Pu.indexAddrS (k) rfl Tryz.underlying24 sz51 rfl rfl (by omega) (by omega) (fun w hw => Own.some hw (i := 1) (by exact rfl) (by omega))) ?_
          have e1 : k < z.length := by omega
          refine D.gp 5 rfl rfl rfl rfl rfl rfl rfl rfl (Pu.loadAgg' (v := B3.v (z[k]'e1)) rfl rfl ag51 sz51 rfl rfl (Ld.rds (C := B3C) (Ld.own 1 (by exact rfl)) (k := k) e1 rfl)) ?_
          refine D.gp 6 rfl rfl rfl rfl rfl rfl rfl rfl (Pu.loadAgg' (v := B3.v (bk3 ((a + (↑i : Int)) % v_) ((b + (↑i : Int)) % v_) ((c_ + (↑i : Int)) % v_))) rfl rfl ag51 sz51 rfl rfl (Ld.whole 0 rfl)) ?_
          refine D.gp 7 rfl rfl rfl rfl rfl rfl rfl rfl (Pu.eqlB3 Tryz.underlying51 Tryz.underlying2 sz2 (by kernel_rfl) rfl rfl rfl) ?_
          refine D.p 8 rfl rfl rfl rfl rfl rfl (Pu.pickF rfl rfl rfl) ?_
          refine D.last hwf (e := 9) rfl rfl rfl rfl rfl rfl (Pu.assign rfl rfl) ?_
          refine X.blockNormal ?_
          refine X.next ?_
          refine V.region ?_
          refine O.p rfl rfl rfl (Pu.move rfl rfl) ?_
          refine O.p rfl rfl rfl (Pu.add64 (r := ((k + 1 : Nat) : Int)) rfl (by omega) rfl rfl rfl) ?_
          refine O.p rfl rfl rfl (Pu.assign rfl rfl) ?_
          refine O.nil ?_
          exact X.back3 ((decide ((z[k]'e1) = (bk3 ((a + (↑i : Int)) % v_) ((b + (↑i : Int)) % v_) ((c_ + (↑i : Int)) % v_)))), k + 1) (by (try dsimp only); exact ⟨by omega, by rw [take_snoc (by omega)]; have h := hk2.symm; rw [decide_eq_false_iff_not] at h; apply decide_eq_decide.2; rw [List.mem_append, List.mem_singleton]; exact ⟨fun e => .inr e.symm, fun e => e.elim (fun e => absurd e h) Eq.symm⟩⟩) (by first | omega | (dsimp only; omega)) (Ent.cons rfl (Ent.cons rfl (Ent.nil _))) (Ent.cons (t := 0) rfl (Ent.cons (t := 1) rfl (Ent.cons (t := 2) rfl (Ent.cons (t := 3) rfl (Ent.cons (t := 4) rfl (Ent.cons (t := 11) rfl (Ent.cons (t := 12) rfl (Ent.nil _)))))))) (Sub.keep 0 rfl (Sub.keep 0 rfl (Sub.refl _)))
      · skip
        refine V.exit ?_
        refine X.thenExit ?_
        refine X.thenExit ?_
        refine X.blockHit ?_
        refine X.next ?_
        refine V.seq ?_
        refine V.region ?_
        refine O.p rfl rfl rfl (Pu.move rfl rfl) ?_
        refine O.p rfl rfl rfl (Pu.not rfl rfl) ?_
        refine O.nil ?_
        refine X.next ?_
        refine V.cond rfl (fun c4 => ?_) (fun c4 => ?_)
        · skip
          have hnk : ¬ bkT v_ (a, b, c_) i ∈ z := by rw [List.take_of_length_le (by omega)] at hk2; intro h; rw [decide_eq_true h] at hk2; simp_all
          refine V.region ?_
          refine O.p rfl rfl rfl (Pu.move rfl rfl) ?_
          refine O.p rfl rfl rfl (Pu.loadAgg' (v := B3.v (bk3 ((a + (↑i : Int)) % v_) ((b + (↑i : Int)) % v_) ((c_ + (↑i : Int)) % v_))) rfl rfl ag51 sz51 rfl rfl (Ld.whole 0 rfl)) ?_
          refine O.e rfl rfl rfl (Ef.build B3C ([(bk3 ((a + (↑i : Int)) % v_) ((b + (↑i : Int)) % v_) ((c_ + (↑i : Int)) % v_))] : List B3) rfl Tryz.underlying24 inf51 rfl rfl rfl (by first | decide | (simp; done)) (by kernel_rfl)) ?_
          rintro _ _ ⟨A1, hA1, rfl, rfl⟩
          refine O.e rfl rfl rfl (Ef.append (xs := z) (ys := ([(bk3 ((a + (↑i : Int)) % v_) ((b + (↑i : Int)) % v_) ((c_ + (↑i : Int)) % v_))] : List B3)) 2 rfl Tryz.underlying24 inf51 rfl rfl rfl rfl rfl rfl hA1 (Ld.own 0 (by exact rfl)) (by simp only [List.length_append, List.length_cons, List.length_nil] at *; omega) (by decide)) ?_
          rintro _ _ ⟨A2, k1, rfl, rfl, hA2⟩
          replace hA2 := hA2 (.inr (by simp))
          refine O.p rfl rfl rfl (Pu.assign rfl rfl) ?_
          refine O.nil ?_
          refine X.blockNormal ?_
          refine X.next ?_
          refine V.region ?_
          refine O.p rfl rfl rfl (Pu.move rfl rfl) ?_
          refine O.p rfl rfl rfl (Pu.add64 (r := ((i + 1 : Nat) : Int)) rfl (by omega) rfl rfl rfl) ?_
          refine O.p rfl rfl rfl (Pu.assign rfl rfl) ?_
          refine O.nil ?_
          exact X.back3 (A2, k1, (z ++ ([(bk3 ((a + (↑i : Int)) % v_) ((b + (↑i : Int)) % v_) ((c_ + (↑i : Int)) % v_))] : List B3)), i + 1) (by (try dsimp only); exact ⟨by omega, by rw [hz]; exact (rowT_no (by rw [← hz]; exact hnk)).symm⟩) (by first | omega | (dsimp only; omega)) (Ent.cons rfl (Ent.cons rfl (Ent.nil _))) (Ent.cons (t := 1) rfl (Ent.cons (t := 2) rfl (Ent.cons (t := 3) rfl (Ent.cons (t := 4) rfl (Ent.nil _))))) (Sub.keep 2 rfl (Sub.drop (Sub.drop (Sub.refl _))))
        · skip
          have hkn : bkT v_ (a, b, c_) i ∈ z := by rw [List.take_of_length_le (by omega)] at hk2; apply Decidable.byContradiction; intro h; rw [decide_eq_false h] at hk2; simp_all
          refine V.skip ?_
          refine X.blockNormal ?_
          refine X.next ?_
          refine V.region ?_
          refine O.p rfl rfl rfl (Pu.move rfl rfl) ?_
          refine O.p rfl rfl rfl (Pu.add64 (r := ((i + 1 : Nat) : Int)) rfl (by omega) rfl rfl rfl) ?_
          refine O.p rfl rfl rfl (Pu.assign rfl rfl) ?_
          refine O.nil ?_
          exact X.back3 (zA, zc, z, i + 1) (by (try dsimp only); exact ⟨by omega, by rw [hz]; exact (rowT_yes (by rw [← hz]; exact hkn)).symm⟩) (by first | omega | (dsimp only; omega)) (Ent.cons rfl (Ent.cons rfl (Ent.nil _))) (Ent.cons (t := 1) rfl (Ent.cons (t := 2) rfl (Ent.cons (t := 3) rfl (Ent.cons (t := 4) rfl (Ent.nil _))))) (Sub.keep 1 rfl (Sub.drop (Sub.refl _)))
    · skip
      refine ⟨_, _, rfl, rfl, fun _ _ => wanted_none rfl _, Ef.alloc rfl zr51 rfl, rfl, rfl, ?_⟩
      rintro _ _ ⟨b1, rfl, rfl⟩ hs
      refine ⟨fun w hw => hw.sub (Sub.keep 1 rfl (Sub.drop (Sub.refl _))), ?_⟩
      refine D.eff hwf (e := 15) rfl rfl rfl rfl (Ef.callP call206 rfl rfl (fun w hw => l01BlockD_ok  ((a + (↑i : Int)) % v_) ((b + (↑i : Int)) % v_) ((c_ + (↑i : Int)) % v_) w   (by have h1 := Int.emod_nonneg (a + (i : Int)) (show v_ ≠ 0 by omega); have h2 := Int.emod_lt_of_pos (a + (i : Int)) (show 0 < v_ by omega); omega) (by have h1 := Int.emod_nonneg (b + (i : Int)) (show v_ ≠ 0 by omega); have h2 := Int.emod_lt_of_pos (b + (i : Int)) (show 0 < v_ by omega); omega) (by have h1 := Int.emod_nonneg (c_ + (i : Int)) (show v_ ≠ 0 by omega); have h2 := Int.emod_lt_of_pos (c_ + (i : Int)) (show 0 < v_ by omega); omega))) rfl rfl rfl ?_
      rintro _ _ ⟨rfl, rfl⟩ hs
      refine ⟨fun w hw => hw.sub (Sub.keep 1 rfl (Sub.drop (Sub.refl _))), ?_⟩
      refine D.eff hwf (e := 17) rfl rfl rfl rfl (Ef.storeAll 0 rfl sz51 rfl rfl rfl rfl (by simp [Value.oneCell']) rfl) rfl rfl rfl ?_
      rintro _ _ rfl hs
      refine ⟨fun w hw => hw.sub (Sub.keep 1 rfl (Sub.drop (Sub.refl _))), ?_⟩
      refine D.p 18 rfl rfl rfl rfl rfl rfl (Pu.assign rfl rfl) ?_
      refine D.done hwf rfl ?_
      refine X.next ?_
      refine V.seq ?_
      refine V.seq ?_
      refine V.region ?_
      refine O.p rfl rfl rfl (Pu.assign rfl rfl) ?_
      refine O.nil ?_
      refine X.next ?_
      refine V.block ?_
      refine V.loop3 (β := Bool × Nat) (fun x => [(13, .bool x.1), (14, .int .i64 (x.2 : Int))]) _ (fun x => []) _ (fun x => x.2 ≤ z.length ∧ x.1 = decide (bkT v_ (a, b, c_) i ∈ z.take x.2)) (fun x => z.length - x.2) (false, 0) (by (try dsimp only); exact ⟨by omega, by simp⟩) (Ent.cons rfl (Ent.cons rfl (Ent.nil _))) (Ent.cons (t := 0) rfl (Ent.cons (t := 1) rfl (Ent.cons (t := 2) rfl (Ent.cons (t := 3) rfl (Ent.cons (t := 4) rfl (Ent.cons (t := 11) rfl (Ent.cons (t := 12) rfl (Ent.nil _)))))))) (Sub.keep 0 rfl (Sub.keep 0 rfl (Sub.refl _))) ?_
      rintro ⟨known, k⟩ ⟨hk, hk2⟩
      dsimp only at hk hk2 ⊢
      refine V.seq ?_
      refine V.seq ?_
      refine V.region ?_
      refine O.p rfl rfl rfl (Pu.move rfl rfl) ?_
      refine O.p rfl rfl rfl (Pu.move rfl rfl) ?_
      refine O.p rfl rfl rfl (Pu.len rfl Tryz.underlying24 rfl) ?_
      refine O.p rfl rfl rfl (Pu.lss rfl rfl rfl) ?_
      refine O.nil ?_
      refine X.next ?_
      refine V.condD rfl (fun c2 => ?_) (fun c2 => ?_)
      · skip
        refine V.skip ?_
        refine X.next ?_
        refine V.seq ?_
        refine V.block ?_
        refine V.draw mo (by kernel_rfl) (fun hwf => ?_)
        refine D.p 0 rfl rfl rfl rfl rfl rfl (Pu.move rfl rfl) ?_
        refine D.p 1 rfl rfl rfl rfl rfl rfl (Pu.move rfl rfl) ?_
        refine D.splitB 43 rfl (fun c3 => ?_) (fun c3 => ?_)
        · skip
          subst c3
          refine D.gs 2 rfl rfl rfl rfl rfl rfl rfl rfl rfl ?_
          refine D.gs 3 rfl rfl rfl rfl rfl rfl rfl rfl rfl ?_
          refine D.gs 4 rfl rfl rfl rfl rfl rfl rfl rfl rfl ?_
          refine D.gs 5 rfl rfl rfl rfl rfl rfl rfl rfl rfl ?_
          refine D.gs 6 rfl rfl rfl rfl rfl rfl rfl rfl rfl ?_
          refine D.gs 7 rfl rfl rfl rfl rfl rfl rfl rfl rfl ?_
          refine D.p 8 rfl rfl rfl rfl rfl rfl (Pu.pickT rfl rfl rfl) ?_
          refine D.last hwf (e := 9) rfl rfl rfl rfl rfl rfl (Pu.assign rfl rfl) ?_
          refine X.blockNormal ?_
          refine X.next ?_
          refine V.region ?_
          refine O.p rfl rfl rfl (Pu.move rfl rfl) ?_
          refine O.p rfl rfl rfl (Pu.add64 (r := ((k + 1 : Nat) : Int)) rfl (by omega) rfl rfl rfl) ?_
          refine O.p rfl rfl rfl (Pu.assign rfl rfl) ?_
          refine O.nil ?_
          exact X.back3 (true, k + 1) (by (try dsimp only); exact ⟨by omega, by rw [take_snoc (by omega)]; have h := hk2.symm; rw [decide_eq_true_eq] at h; exact (decide_eq_true (List.mem_append.2 (.inl h))).symm⟩) (by first | omega | (dsimp only; omega)) (Ent.cons rfl (Ent.cons rfl (Ent.nil _))) (Ent.cons (t := 0) rfl (Ent.cons (t := 1) rfl (Ent.cons (t := 2) rfl (Ent.cons (t := 3) rfl (Ent.cons (t := 4) rfl (Ent.cons (t := 11) rfl (Ent.cons (t := 12) rfl (Ent.nil _)))))))) (Sub.keep 0 rfl (Sub.keep 0 rfl (Sub.refl _)))
        · skip
          subst c3
          refine D.gp 2 rfl rfl rfl rfl rfl rfl rfl rfl (Pu.move rfl rfl) ?_
          refine D.gp 3 rfl rfl rfl rfl rfl rfl rfl rfl (Pu.move rfl rfl) ?_
          refine D.gp 4 rfl rfl rfl rfl rfl rfl rfl rfl (Pu.indexAddrS (k) rfl Tryz.underlying24 sz51 rfl rfl (by omega) (by omega) (fun w hw => Own.some hw (i := 1) (by exact rfl) (by omega))) ?_
          have e1 : k < z.length := by omega
          refine D.gp 5 rfl rfl rfl rfl rfl rfl rfl rfl (Pu.loadAgg' (v := B3.v (z[k]'e1)) rfl rfl ag51 sz51 rfl rfl (Ld.rds (C := B3C) (Ld.own 1 (by exact rfl)) (k := k) e1 rfl)) ?_
          refine D.gp 6 rfl rfl rfl rfl rfl rfl rfl rfl (Pu.loadAgg' (v := B3.v (bk3 ((a + (↑i : Int)) % v_) ((b + (↑i : Int)) % v_) ((c_ + (↑i : Int)) % v_))) rfl rfl ag51 sz51 rfl rfl (Ld.whole 0 rfl)) ?_
          refine D.gp 7 rfl rfl rfl rfl rfl rfl rfl rfl (Pu.eqlB3 Tryz.underlying51 Tryz.underlying2 sz2 (by kernel_rfl) rfl rfl rfl) ?_
          refine D.p 8 rfl rfl rfl rfl rfl rfl (Pu.pickF rfl rfl rfl) ?_
          refine D.last hwf (e := 9) rfl rfl rfl rfl rfl rfl (Pu.assign rfl rfl) ?_
          refine X.blockNormal ?_
          refine X.next ?_
          refine V.region ?_
          refine O.p rfl rfl rfl (Pu.move rfl rfl) ?_
          refine O.p rfl rfl rfl (Pu.add64 (r := ((k + 1 : Nat) : Int)) rfl (by omega) rfl rfl rfl) ?_
          refine O.p rfl rfl rfl (Pu.assign rfl rfl) ?_
          refine O.nil ?_
          exact X.back3 ((decide ((z[k]'e1) = (bk3 ((a + (↑i : Int)) % v_) ((b + (↑i : Int)) % v_) ((c_ + (↑i : Int)) % v_)))), k + 1) (by (try dsimp only); exact ⟨by omega, by rw [take_snoc (by omega)]; have h := hk2.symm; rw [decide_eq_false_iff_not] at h; apply decide_eq_decide.2; rw [List.mem_append, List.mem_singleton]; exact ⟨fun e => .inr e.symm, fun e => e.elim (fun e => absurd e h) Eq.symm⟩⟩) (by first | omega | (dsimp only; omega)) (Ent.cons rfl (Ent.cons rfl (Ent.nil _))) (Ent.cons (t := 0) rfl (Ent.cons (t := 1) rfl (Ent.cons (t := 2) rfl (Ent.cons (t := 3) rfl (Ent.cons (t := 4) rfl (Ent.cons (t := 11) rfl (Ent.cons (t := 12) rfl (Ent.nil _)))))))) (Sub.keep 0 rfl (Sub.keep 0 rfl (Sub.refl _)))
      · skip
        refine V.exit ?_
        refine X.thenExit ?_
        refine X.thenExit ?_
        refine X.blockHit ?_
        refine X.next ?_
        refine V.seq ?_
        refine V.region ?_
        refine O.p rfl rfl rfl (Pu.move rfl rfl) ?_
        refine O.p rfl rfl rfl (Pu.not rfl rfl) ?_
        refine O.nil ?_
        refine X.next ?_
        refine V.cond rfl (fun c4 => ?_) (fun c4 => ?_)
        · skip
          have hnk : ¬ bkT v_ (a, b, c_) i ∈ z := by rw [List.take_of_length_le (by omega)] at hk2; intro h; rw [decide_eq_true h] at hk2; simp_all
          refine V.region ?_
          refine O.p rfl rfl rfl (Pu.move rfl rfl) ?_
          refine O.p rfl rfl rfl (Pu.loadAgg' (v := B3.v (bk3 ((a + (↑i : Int)) % v_) ((b + (↑i : Int)) % v_) ((c_ + (↑i : Int)) % v_))) rfl rfl ag51 sz51 rfl rfl (Ld.whole 0 rfl)) ?_
          refine O.e rfl rfl rfl (Ef.build B3C ([(bk3 ((a + (↑i : Int)) % v_) ((b + (↑i : Int)) % v_) ((c_ + (↑i : Int)) % v_))] : List B3) rfl Tryz.underlying24 inf51 rfl rfl rfl (by first | decide | (simp; done)) (by kernel_rfl)) ?_
          rintro _ _ ⟨A1, hA1, rfl, rfl⟩
          refine O.e rfl rfl rfl (Ef.append (xs := z) (ys := ([(bk3 ((a + (↑i : Int)) % v_) ((b + (↑i : Int)) % v_) ((c_ + (↑i : Int)) % v_))] : List B3)) 2 rfl Tryz.underlying24 inf51 rfl rfl rfl rfl rfl rfl hA1 (Ld.own 0 (by exact rfl)) (by simp only [List.length_append, List.length_cons, List.length_nil] at *; omega) (by decide)) ?_
          rintro _ _ ⟨A2, k1, rfl, rfl, hA2⟩
          replace hA2 := hA2 (.inr (by simp))
          refine O.p rfl rfl rfl (Pu.assign rfl rfl) ?_
          refine O.nil ?_
          refine X.blockNormal ?_
          refine X.next ?_
          refine V.region ?_
          refine O.p rfl rfl rfl (Pu.move rfl rfl) ?_
          refine O.p rfl rfl rfl (Pu.add64 (r := ((i + 1 : Nat) : Int)) rfl (by omega) rfl rfl rfl) ?_
          refine O.p rfl rfl rfl (Pu.assign rfl rfl) ?_
          refine O.nil ?_
          exact X.back3 (A2, k1, (z ++ ([(bk3 ((a + (↑i : Int)) % v_) ((b + (↑i : Int)) % v_) ((c_ + (↑i : Int)) % v_))] : List B3)), i + 1) (by (try dsimp only); exact ⟨by omega, by rw [hz]; exact (rowT_no (by rw [← hz]; exact hnk)).symm⟩) (by first | omega | (dsimp only; omega)) (Ent.cons rfl (Ent.cons rfl (Ent.nil _))) (Ent.cons (t := 1) rfl (Ent.cons (t := 2) rfl (Ent.cons (t := 3) rfl (Ent.cons (t := 4) rfl (Ent.nil _))))) (Sub.keep 2 rfl (Sub.drop (Sub.drop (Sub.refl _))))
        · skip
          have hkn : bkT v_ (a, b, c_) i ∈ z := by rw [List.take_of_length_le (by omega)] at hk2; apply Decidable.byContradiction; intro h; rw [decide_eq_false h] at hk2; simp_all
          refine V.skip ?_
          refine X.blockNormal ?_
          refine X.next ?_
          refine V.region ?_
          refine O.p rfl rfl rfl (Pu.move rfl rfl) ?_
          refine O.p rfl rfl rfl (Pu.add64 (r := ((i + 1 : Nat) : Int)) rfl (by omega) rfl rfl rfl) ?_
          refine O.p rfl rfl rfl (Pu.assign rfl rfl) ?_
          refine O.nil ?_
          exact X.back3 (zA, zc, z, i + 1) (by (try dsimp only); exact ⟨by omega, by rw [hz]; exact (rowT_yes (by rw [← hz]; exact hkn)).symm⟩) (by first | omega | (dsimp only; omega)) (Ent.cons rfl (Ent.cons rfl (Ent.nil _))) (Ent.cons (t := 1) rfl (Ent.cons (t := 2) rfl (Ent.cons (t := 3) rfl (Ent.cons (t := 4) rfl (Ent.nil _))))) (Sub.keep 1 rfl (Sub.drop (Sub.refl _)))
  · skip
    refine V.exit ?_
    refine X.thenExit ?_
    refine X.thenExit ?_
    refine X.blockHit ?_
    refine X.next ?_
    refine V.seq ?_
    refine V.region ?_
    refine O.p rfl rfl rfl (Pu.move rfl rfl) ?_
    refine O.p rfl rfl rfl (Pu.assign rfl rfl) ?_
    refine O.nil ?_
    refine X.next ?_
    refine V.ret ?_
    refine X.ret1 rfl rfl ?_
    exact fun w hw => St.mkExi zA (St.mkExi zc (St.mkExi z (St.unsep (St.addPur ⟨rfl, by rw [hz, show i = v_.toNat by omega]⟩ (hw.sub (Sub.keep 0 rfl (Sub.refl _)))))))
set_option maxRecDepth 100000 in
set_option maxHeartbeats 1000000 in
theorem l01NamedD0_ok (w : World) : Does Tryz.prog 125 [.string (ByteArray.mk #[115, 105, 110, 103, 108, 101])] w [] (fun rv_ => [.exi fun (rA : Option Addr) => .exi fun (rc : Nat) => .exi fun (r : List B3) => .sep (.pur (rv_ = .tuple #[.agg #[.int .i64 3, .slice rA r.length rc], .bool true] ∧ DrS 4000 3 r)) (Own 51 B3C rA rc r)]) := by
  refine Does.enter Tryz.func125 rfl rfl [(0, .string (ByteArray.mk #[115, 105, 110, 103, 108, 101]))] rfl ?_
  refine V.seq ?_
  refine V.region ?_
  refine O.e rfl rfl rfl (Ef.alloc rfl zr26 rfl) ?_
  rintro _ _ ⟨b1, rfl, rfl⟩
  refine O.p rfl rfl rfl (Pu.assign rfl rfl) ?_
  refine O.nil ?_
  refine X.next ?_
  refine V.seq ?_
  refine V.region ?_
  refine O.e rfl rfl rfl (Ef.build B3C ([] : List B3) rfl Tryz.underlying24 inf51 rfl rfl rfl (by first | decide | (simp; done)) (by kernel_rfl)) ?_
  rintro _ _ ⟨A1, hA1, rfl, rfl⟩
  refine O.p rfl rfl rfl (Pu.assign rfl rfl) ?_
  refine O.nil ?_
  refine X.next ?_
  refine V.seq ?_
  refine V.seq ?_
  refine V.region ?_
  refine O.p rfl rfl rfl (Pu.move rfl rfl) ?_
  refine O.nil ?_
  refine X.next ?_
  refine V.block ?_
  refine V.seq ?_
  refine V.region ?_
  refine O.p rfl rfl rfl (Pu.eqlStr (b := true) (by kernel_rfl) rfl rfl rfl) ?_
  refine O.p rfl rfl rfl (Pu.assign rfl rfl) ?_
  refine O.nil ?_
  refine X.next ?_
  refine V.condT rfl ?_
  refine V.seq ?_
  refine V.region ?_
  refine O.p rfl rfl rfl (Pu.buildA (cs := [.int .i64 (0 : Int), .int .i64 (1 : Int), .int .i64 (2 : Int)]) (v := B3.v ((0 : Int), (1 : Int), (2 : Int))) rfl rfl Tryz.underlying51 zr51 sz2 rfl (by kernel_rfl)) ?_
  refine O.e rfl rfl rfl (Ef.build B3C ([((0 : Int), (1 : Int), (2 : Int))] : List B3) rfl Tryz.underlying24 inf51 rfl rfl rfl (by first | decide | (simp; done)) (by kernel_rfl)) ?_
  rintro _ _ ⟨A2, hA2, rfl, rfl⟩
  refine O.e rfl rfl rfl (Ef.call1 call199 rfl rfl (fun w hw => l01Made_ok  (3 : Int) ([((0 : Int), (1 : Int), (2 : Int))] : List B3) _ _ w ((Ld.own 0 (by exact rfl)) w hw) (by simp) (by simp))) ?_
  rintro _ _ rfl
  refine O.exi (fun r1A => ?_)
  refine O.exi (fun r1c => ?_)
  refine O.exi (fun r1 => ?_)
  refine O.sep ?_
  refine O.pur ?_
  rintro ⟨rfl, hr1_1, hr1_2⟩
  refine O.s rfl rfl (Ef.storeAll 3 rfl sz26 rfl rfl rfl rfl (by simp [Value.oneCell']) rfl) ?_
  rintro _ _ rfl
  refine O.p rfl rfl rfl (Pu.assign rfl rfl) ?_
  refine O.nil ?_
  refine X.next ?_
  refine V.ret ?_
  refine X.blockRet ?_
  refine X.thenRet ?_
  refine X.retCell2 rfl ag26 sz26 rfl rfl rfl (Ld.whole 3 rfl) ?_
  exact fun w hw => St.mkExi r1A (St.mkExi r1c (St.mkExi r1 (St.unsep (St.addPur ⟨rfl, DrS.perm ⟨by decide, by decide, by decide⟩ hr1_1⟩ (hw.sub (Sub.keep 0 rfl (Sub.nil _)))))))
set_option maxRecDepth 100000 in
set_option maxHeartbeats 1000000 in
theorem l01NamedD1_ok (w : World) : Does Tryz.prog 125 [.string (ByteArray.mk #[102, 97, 110, 111])] w [] (fun rv_ => [.exi fun (rA : Option Addr) => .exi fun (rc : Nat) => .exi fun (r : List B3) => .sep (.pur (rv_ = .tuple #[.agg #[.int .i64 7, .slice rA r.length rc], .bool true] ∧ DrS 4000 7 r)) (Own 51 B3C rA rc r)]) := by
  refine Does.enter Tryz.func125 rfl rfl [(0, .string (ByteArray.mk #[102, 97, 110, 111]))] rfl ?_
  refine V.seq ?_
  refine V.region ?_
  refine O.e rfl rfl rfl (Ef.alloc rfl zr26 rfl) ?_
  rintro _ _ ⟨b1, rfl, rfl⟩
  refine O.p rfl rfl rfl (Pu.assign rfl rfl) ?_
  refine O.nil ?_
  refine X.next ?_
  refine V.seq ?_
  refine V.region ?_
  refine O.e rfl rfl rfl (Ef.build B3C ([] : List B3) rfl Tryz.underlying24 inf51 rfl rfl rfl (by first | decide | (simp; done)) (by kernel_rfl)) ?_
  rintro _ _ ⟨A1, hA1, rfl, rfl⟩
  refine O.p rfl rfl rfl (Pu.assign rfl rfl) ?_
  refine O.nil ?_
  refine X.next ?_
  refine V.seq ?_
  refine V.seq ?_
  refine V.region ?_
  refine O.p rfl rfl rfl (Pu.move rfl rfl) ?_
  refine O.nil ?_
  refine X.next ?_
  refine V.block ?_
  refine V.seq ?_
  refine V.region ?_
  refine O.p rfl rfl rfl (Pu.eqlStr (b := false) (by kernel_rfl) rfl rfl rfl) ?_
  refine O.p rfl rfl rfl (Pu.assign rfl rfl) ?_
  refine O.nil ?_
  refine X.next ?_
  refine V.condF rfl ?_
  refine V.seq ?_
  refine V.region ?_
  refine O.p rfl rfl rfl (Pu.eqlStr (b := true) (by kernel_rfl) rfl rfl rfl) ?_
  refine O.p rfl rfl rfl (Pu.assign rfl rfl) ?_
  refine O.nil ?_
  refine X.next ?_
  refine V.condT rfl ?_
  refine V.seq ?_
  refine V.region ?_
  refine O.p rfl rfl rfl (Pu.move rfl rfl) ?_
  refine O.e rfl rfl rfl (Ef.call call205 rfl rfl (Does.pre (fun w hw => hw.sub (Sub.keep 0 rfl (Sub.keep 0 rfl (Sub.nil _)))) (l01Turned_ok  ([] : List B3) (7 : Int) (0 : Int) (1 : Int) (3 : Int) _ _ w _   (by decide) (by decide) (by decide) (by decide) (by first | (simp; done) | (rw [hr1_1]; decide +kernel) | (rw [hr2_1, hr1_1]; decide +kernel))))) ?_
  rintro _ _ rfl
  refine O.exi (fun r1A => ?_)
  refine O.exi (fun r1c => ?_)
  refine O.exi (fun r1 => ?_)
  refine O.sep ?_
  refine O.pur ?_
  rintro ⟨rfl, hr1_1⟩
  refine O.e rfl rfl rfl (Ef.call1 call199 rfl rfl (fun w hw => l01Made_ok  (7 : Int) r1 _ _ w ((Ld.own 0 (by exact rfl)) w hw) (by rw [hr1_1]; decide +kernel) (by rw [hr1_1]; decide +kernel))) ?_
  rintro _ _ rfl
  refine O.exi (fun r2A => ?_)
  refine O.exi (fun r2c => ?_)
  refine O.exi (fun r2 => ?_)
  refine O.sep ?_
  refine O.pur ?_
  rintro ⟨rfl, hr2_1, hr2_2⟩
  refine O.s rfl rfl (Ef.storeAll 2 rfl sz26 rfl rfl rfl rfl (by simp [Value.oneCell']) rfl) ?_
  rintro _ _ rfl
  refine O.p rfl rfl rfl (Pu.assign rfl rfl) ?_
  refine O.nil ?_
  refine X.next ?_
  refine V.ret ?_
  refine X.blockRet ?_
  refine X.thenRet ?_
  refine X.retCell2 rfl ag26 sz26 rfl rfl rfl (Ld.whole 2 rfl) ?_
  exact fun w hw => St.mkExi r2A (St.mkExi r2c (St.mkExi r2 (St.unsep (St.addPur ⟨rfl, DrS.perm (bs := r1) (by rw [hr1_1]; exact ⟨by decide, by decide +kernel, by decide +kernel⟩) hr2_1⟩ (hw.sub (Sub.keep 0 rfl (Sub.nil _)))))))
set_option maxRecDepth 100000 in
set_option maxHeartbeats 1000000 in
theorem l01NamedD2_ok (w : World) : Does Tryz.prog 125 [.string (ByteArray.mk #[97, 102, 102, 105, 110, 101])] w [] (fun rv_ => [.exi fun (rA : Option Addr) => .exi fun (rc : Nat) => .exi fun (r : List B3) => .sep (.pur (rv_ = .tuple #[.agg #[.int .i64 9, .slice rA r.length rc], .bool true] ∧ DrS 4000 9 r)) (Own 51 B3C rA rc r)]) := by
  refine Does.enter Tryz.func125 rfl rfl [(0, .string (ByteArray.mk #[97, 102, 102, 105, 110, 101]))] rfl ?_
  refine V.seq ?_
  refine V.region ?_
  refine O.e rfl rfl rfl (Ef.alloc rfl zr26 rfl) ?_
  rintro _ _ ⟨b1, rfl, rfl⟩
  refine O.p rfl rfl rfl (Pu.assign rfl rfl) ?_
  refine O.nil ?_
  refine X.next ?_
  refine V.seq ?_
  refine V.region ?_
  refine O.e rfl rfl rfl (Ef.build B3C ([] : List B3) rfl Tryz.underlying24 inf51 rfl rfl rfl (by first | decide | (simp; done)) (by kernel_rfl)) ?_
  rintro _ _ ⟨A1, hA1, rfl, rfl⟩
  refine O.p rfl rfl rfl (Pu.assign rfl rfl) ?_
  refine O.nil ?_
  refine X.next ?_
  refine V.seq ?_
  refine V.seq ?_
  refine V.region ?_
  refine O.p rfl rfl rfl (Pu.move rfl rfl) ?_
  refine O.nil ?_
  refine X.next ?_
  refine V.block ?_
  refine V.seq ?_
  refine V.region ?_
  refine O.p rfl rfl rfl (Pu.eqlStr (b := false) (by kernel_rfl) rfl rfl rfl) ?_
  refine O.p rfl rfl rfl (Pu.assign rfl rfl) ?_
  refine O.nil ?_
  refine X.next ?_
  refine V.condF rfl ?_
  refine V.seq ?_
  refine V.region ?_
  refine O.p rfl rfl rfl (Pu.eqlStr (b := false) (by kernel_rfl) rfl rfl rfl) ?_
  refine O.p rfl rfl rfl (Pu.assign rfl rfl) ?_
  refine O.nil ?_
  refine X.next ?_
  refine V.condF rfl ?_
  refine V.seq ?_
  refine V.region ?_
  refine O.p rfl rfl rfl (Pu.eqlStr (b := false) (by kernel_rfl) rfl rfl rfl) ?_
  refine O.p rfl rfl rfl (Pu.assign rfl rfl) ?_
  refine O.nil ?_
  refine X.next ?_
  refine V.condF rfl ?_
  refine V.seq ?_
  refine V.region ?_
  refine O.p rfl rfl rfl (Pu.eqlStr (b := false) (by kernel_rfl) rfl rfl rfl) ?_
  refine O.p rfl rfl rfl (Pu.assign rfl rfl) ?_
  refine O.nil ?_
  refine X.next ?_
  refine V.condF rfl ?_
  refine V.seq ?_
  refine V.seq ?_
  refine V.region ?_
  refine O.p rfl rfl rfl (Pu.eqlStr (b := true) (by kernel_rfl) rfl rfl rfl) ?_
  refine O.p rfl rfl rfl (Pu.assign rfl rfl) ?_
  refine O.nil ?_
  refine X.next ?_
  refine V.condT rfl ?_
  refine V.skip ?_
  refine X.next ?_
  refine V.condT rfl ?_
  refine V.seq ?_
  refine V.region ?_
  refine O.p rfl rfl rfl (Pu.assign rfl rfl) ?_
  refine O.nil ?_
  refine X.next ?_
  refine V.seq ?_
  refine V.seq ?_
  refine V.region ?_
  refine O.p rfl rfl rfl (Pu.move rfl rfl) ?_
  refine O.p rfl rfl rfl (Pu.eqlStr (b := false) (by kernel_rfl) rfl rfl rfl) ?_
  refine O.nil ?_
  refine X.next ?_
  refine V.condF rfl ?_
  refine V.skip ?_
  refine X.next ?_
  refine V.seq ?_
  refine V.seq ?_
  refine V.region ?_
  refine O.p rfl rfl rfl (Pu.assign rfl rfl) ?_
  refine O.nil ?_
  refine X.next ?_
  refine V.block ?_
  refine V.loop3 (β := (Option Addr) × Nat × (List B3) × Nat) (fun x => [(4, .slice x.1 x.2.2.1.length x.2.1), (6, .int .i64 (x.2.2.2 : Int))]) _ (fun x => [Own 51 B3C x.1 x.2.1 x.2.2.1]) _ (fun x => x.2.2.2 ≤ 9 ∧ (∀ d ∈ x.2.2.1, good 9 d) ∧ x.2.2.1.length ≤ 225 * x.2.2.2) (fun x => 9 - x.2.2.2) (A1, 0, ([] : List B3), 0) (by (try dsimp only); exact ⟨by omega, by simp, by simp⟩) (Ent.cons rfl (Ent.cons rfl (Ent.nil _))) (Ent.cons (t := 2) rfl (Ent.cons (t := 5) rfl (Ent.nil _))) (Sub.keep 0 rfl (Sub.keep 0 rfl (Sub.nil _))) ?_
  rintro ⟨z0A, z0c, z0, a⟩ ⟨ha, hg0, hl0⟩
  dsimp only at ha hg0 hl0 ⊢
  refine V.seq ?_
  refine V.seq ?_
  refine V.region ?_
  refine O.p rfl rfl rfl (Pu.move rfl rfl) ?_
  refine O.p rfl rfl rfl (Pu.move rfl rfl) ?_
  refine O.p rfl rfl rfl (Pu.lss rfl rfl rfl) ?_
  refine O.nil ?_
  refine X.next ?_
  refine V.condD rfl (fun c1 => ?_) (fun c1 => ?_)
  · skip
    refine V.skip ?_
    refine X.next ?_
    refine V.seq ?_
    refine V.block ?_
    refine V.seq ?_
    refine V.region ?_
    refine O.p rfl rfl rfl (Pu.move rfl rfl) ?_
    refine O.p rfl rfl rfl (Pu.add64 (r := ((a + 1 : Nat) : Int)) rfl (by omega) rfl rfl rfl) ?_
    refine O.p rfl rfl rfl (Pu.assign rfl rfl) ?_
    refine O.nil ?_
    refine X.next ?_
    refine V.block ?_
    refine V.loop3 (β := (Option Addr) × Nat × (List B3) × Nat) (fun x => [(4, .slice x.1 x.2.2.1.length x.2.1), (7, .int .i64 (x.2.2.2 : Int))]) _ (fun x => [Own 51 B3C x.1 x.2.1 x.2.2.1]) _ (fun x => a < x.2.2.2 ∧ x.2.2.2 ≤ 9 ∧ (∀ d ∈ x.2.2.1, good 9 d) ∧ x.2.2.1.length ≤ 225 * a + 15 * x.2.2.2) (fun x => 9 - x.2.2.2) (z0A, z0c, z0, a + 1) (by (try dsimp only); exact ⟨by omega, by omega, hg0, by omega⟩) (Ent.cons rfl (Ent.cons rfl (Ent.nil _))) (Ent.cons (t := 2) rfl (Ent.cons (t := 5) rfl (Ent.cons (t := 6) rfl (Ent.nil _)))) (Sub.keep 0 rfl (Sub.keep 0 rfl (Sub.nil _))) ?_
    rintro ⟨z1A, z1c, z1, b⟩ ⟨hab, hb, hg1, hl1⟩
    dsimp only at hab hb hg1 hl1 ⊢
    refine V.seq ?_
    refine V.seq ?_
    refine V.region ?_
    refine O.p rfl rfl rfl (Pu.move rfl rfl) ?_
    refine O.p rfl rfl rfl (Pu.move rfl rfl) ?_
    refine O.p rfl rfl rfl (Pu.lss rfl rfl rfl) ?_
    refine O.nil ?_
    refine X.next ?_
    refine V.condD rfl (fun c2 => ?_) (fun c2 => ?_)
    · skip
      refine V.skip ?_
      refine X.next ?_
      refine V.seq ?_
      refine V.block ?_
      refine V.seq ?_
      refine V.region ?_
      refine O.p rfl rfl rfl (Pu.move rfl rfl) ?_
      refine O.p rfl rfl rfl (Pu.add64 (r := ((b + 1 : Nat) : Int)) rfl (by omega) rfl rfl rfl) ?_
      refine O.p rfl rfl rfl (Pu.assign rfl rfl) ?_
      refine O.nil ?_
      refine X.next ?_
      refine V.block ?_
      refine V.loop3 (β := (Option Addr) × Nat × (List B3) × Nat) (fun x => [(4, .slice x.1 x.2.2.1.length x.2.1), (8, .int .i64 (x.2.2.2 : Int))]) _ (fun x => [Own 51 B3C x.1 x.2.1 x.2.2.1]) _ (fun x => b < x.2.2.2 ∧ x.2.2.2 ≤ 9 ∧ (∀ d ∈ x.2.2.1, good 9 d) ∧ x.2.2.1.length ≤ 225 * a + 15 * b + x.2.2.2) (fun x => 9 - x.2.2.2) (z1A, z1c, z1, b + 1) (by (try dsimp only); exact ⟨by omega, by omega, hg1, by omega⟩) (Ent.cons rfl (Ent.cons rfl (Ent.nil _))) (Ent.cons (t := 2) rfl (Ent.cons (t := 5) rfl (Ent.cons (t := 6) rfl (Ent.cons (t := 7) rfl (Ent.nil _))))) (Sub.keep 0 rfl (Sub.keep 0 rfl (Sub.nil _))) ?_
      rintro ⟨z2A, z2c, z2, e⟩ ⟨hbe, he, hg2, hl2⟩
      dsimp only at hbe he hg2 hl2 ⊢
      refine V.seq ?_
      refine V.seq ?_
      refine V.region ?_
      refine O.p rfl rfl rfl (Pu.move rfl rfl) ?_
      refine O.p rfl rfl rfl (Pu.move rfl rfl) ?_
      refine O.p rfl rfl rfl (Pu.lss rfl rfl rfl) ?_
      refine O.nil ?_
      refine X.next ?_
      refine V.condD rfl (fun c3 => ?_) (fun c3 => ?_)
      · skip
        refine V.skip ?_
        refine X.next ?_
        refine V.seq ?_
        refine V.block ?_
        refine V.seq ?_
        refine V.region ?_
        refine O.p rfl rfl rfl (Pu.move rfl rfl) ?_
        refine O.p rfl rfl rfl (Pu.isT (by decide) (Pu.eql rfl rfl rfl)) ?_
        refine O.p rfl rfl rfl (Pu.move rfl rfl) ?_
        refine O.gp rfl rfl rfl rfl rfl (Pu.move rfl rfl) ?_
        refine O.gp rfl rfl rfl rfl rfl (Pu.quo64 (by omega) (by omega) (by omega) rfl rfl rfl) ?_
        refine O.gp rfl rfl rfl rfl rfl (Pu.move rfl rfl) ?_
        refine O.gp rfl rfl rfl rfl rfl (Pu.quo64 (by omega) (by omega) (by omega) rfl rfl rfl) ?_
        refine O.gp rfl rfl rfl rfl rfl (Pu.add64 rfl (by omega) rfl rfl rfl) ?_
        refine O.gp rfl rfl rfl rfl rfl (Pu.move rfl rfl) ?_
        refine O.gp rfl rfl rfl rfl rfl (Pu.quo64 (by omega) (by omega) (by omega) rfl rfl rfl) ?_
        refine O.gp rfl rfl rfl rfl rfl (Pu.add64 rfl (by omega) rfl rfl rfl) ?_
        refine O.gp rfl rfl rfl rfl rfl (Pu.rem64 (by omega) (by omega) rfl rfl rfl) ?_
        refine O.gp rfl rfl rfl rfl rfl (Pu.eql rfl rfl rfl) ?_
        refine O.p rfl rfl rfl (Pu.pickT rfl rfl rfl) ?_
        refine O.p rfl rfl rfl (Pu.move rfl rfl) ?_
        refine O.splitD 72 rfl (fun c4 => ?_) (fun c4 => ?_)
        · skip
          refine O.gp rfl rfl rfl rfl rfl (Pu.move rfl rfl) ?_
          refine O.gp rfl rfl rfl rfl rfl (Pu.rem64 (by omega) (by omega) rfl rfl rfl) ?_
          refine O.gp rfl rfl rfl rfl rfl (Pu.move rfl rfl) ?_
          refine O.gp rfl rfl rfl rfl rfl (Pu.rem64 (by omega) (by omega) rfl rfl rfl) ?_
          refine O.gp rfl rfl rfl rfl rfl (Pu.add64 rfl (by omega) rfl rfl rfl) ?_
          refine O.gp rfl rfl rfl rfl rfl (Pu.move rfl rfl) ?_
          refine O.gp rfl rfl rfl rfl rfl (Pu.rem64 (by omega) (by omega) rfl rfl rfl) ?_
          refine O.gp rfl rfl rfl rfl rfl (Pu.add64 rfl (by omega) rfl rfl rfl) ?_
          refine O.gp rfl rfl rfl rfl rfl (Pu.rem64 (by omega) (by omega) rfl rfl rfl) ?_
          refine O.gp rfl rfl rfl rfl rfl (Pu.eql rfl rfl rfl) ?_
          refine O.p rfl rfl rfl (Pu.pickT rfl rfl rfl) ?_
          refine O.p rfl rfl rfl (Pu.move rfl rfl) ?_
          refine O.splitD 84 rfl (fun c5 => ?_) (fun c5 => ?_)
          · skip
            refine O.gs rfl rfl rfl rfl rfl rfl ?_
            refine O.gs rfl rfl rfl rfl rfl rfl ?_
            refine O.gs rfl rfl rfl rfl rfl rfl ?_
            refine O.gs rfl rfl rfl rfl rfl rfl ?_
            refine O.gs rfl rfl rfl rfl rfl rfl ?_
            refine O.gs rfl rfl rfl rfl rfl rfl ?_
            refine O.gs rfl rfl rfl rfl rfl rfl ?_
            refine O.gs rfl rfl rfl rfl rfl rfl ?_
            refine O.gs rfl rfl rfl rfl rfl rfl ?_
            refine O.gs rfl rfl rfl rfl rfl rfl ?_
            refine O.gs rfl rfl rfl rfl rfl rfl ?_
            refine O.gs rfl rfl rfl rfl rfl rfl ?_
            refine O.gs rfl rfl rfl rfl rfl rfl ?_
            refine O.p rfl rfl rfl (Pu.pickT rfl rfl rfl) ?_
            refine O.nil ?_
            refine X.next ?_
            refine V.condT rfl ?_
            refine V.region ?_
            refine O.p rfl rfl rfl (Pu.move rfl rfl) ?_
            refine O.p rfl rfl rfl (Pu.move rfl rfl) ?_
            refine O.p rfl rfl rfl (Pu.move rfl rfl) ?_
            refine O.p rfl rfl rfl (Pu.move rfl rfl) ?_
            refine O.p rfl rfl rfl (Pu.buildA (cs := [.int .i64 (↑a : Int), .int .i64 (↑b : Int), .int .i64 (↑e : Int)]) (v := B3.v ((↑a : Int), (↑b : Int), (↑e : Int))) rfl rfl Tryz.underlying51 zr51 sz2 rfl (by kernel_rfl)) ?_
            refine O.e rfl rfl rfl (Ef.build B3C ([((↑a : Int), (↑b : Int), (↑e : Int))] : List B3) rfl Tryz.underlying24 inf51 rfl rfl rfl (by first | decide | (simp; done)) (by kernel_rfl)) ?_
            rintro _ _ ⟨A2, hA2, rfl, rfl⟩
            refine O.e rfl rfl rfl (Ef.append (xs := z2) (ys := ([((↑a : Int), (↑b : Int), (↑e : Int))] : List B3)) 1 rfl Tryz.underlying24 inf51 rfl rfl rfl rfl rfl rfl hA2 (Ld.own 0 (by exact rfl)) (by simp only [List.length_append, List.length_cons, List.length_nil] at *; omega) (by decide)) ?_
            rintro _ _ ⟨A3, k1, rfl, rfl, hA3⟩
            replace hA3 := hA3 (.inr (by simp))
            refine O.p rfl rfl rfl (Pu.assign rfl rfl) ?_
            refine O.nil ?_
            refine X.blockNormal ?_
            refine X.next ?_
            refine V.region ?_
            refine O.p rfl rfl rfl (Pu.move rfl rfl) ?_
            refine O.p rfl rfl rfl (Pu.add64 (r := ((e + 1 : Nat) : Int)) rfl (by omega) rfl rfl rfl) ?_
            refine O.p rfl rfl rfl (Pu.assign rfl rfl) ?_
            refine O.nil ?_
            exact X.back3 (A3, k1, (z2 ++ ([((↑a : Int), (↑b : Int), (↑e : Int))] : List B3)), e + 1) (by (try dsimp only); exact ⟨by omega, by omega, (by first | exact hg2 | exact good_snoc hg2 (by unfold good; simp only; omega)), (by first | omega | (simp only [List.length_append, List.length_singleton]; omega))⟩) (by first | omega | (dsimp only; omega)) (Ent.cons rfl (Ent.cons rfl (Ent.nil _))) (Ent.cons (t := 2) rfl (Ent.cons (t := 5) rfl (Ent.cons (t := 6) rfl (Ent.cons (t := 7) rfl (Ent.nil _))))) (Sub.keep 1 rfl (Sub.keep 1 rfl (Sub.nil _)))
          · skip
            refine O.gp rfl rfl rfl rfl rfl (Pu.move rfl rfl) ?_
            refine O.gp rfl rfl rfl rfl rfl (Pu.isF (by decide) (Pu.eql rfl rfl rfl)) ?_
            refine O.gp rfl rfl rfl rfl rfl (Pu.move rfl rfl) ?_
            refine O.gs rfl rfl rfl rfl rfl rfl ?_
            refine O.gs rfl rfl rfl rfl rfl rfl ?_
            refine O.gs rfl rfl rfl rfl rfl rfl ?_
            refine O.gs rfl rfl rfl rfl rfl rfl ?_
            refine O.gs rfl rfl rfl rfl rfl rfl ?_
            refine O.gs rfl rfl rfl rfl rfl rfl ?_
            refine O.gs rfl rfl rfl rfl rfl rfl ?_
            refine O.gs rfl rfl rfl rfl rfl rfl ?_
            refine O.gs rfl rfl rfl rfl rfl rfl ?_
            refine O.gp rfl rfl rfl rfl rfl (Pu.pickF rfl rfl rfl) ?_
            refine O.p rfl rfl rfl (Pu.pickF rfl rfl rfl) ?_
            refine O.nil ?_
            refine X.next ?_
            refine V.condF rfl ?_
            refine V.skip ?_
            refine X.blockNormal ?_
            refine X.next ?_
            refine V.region ?_
            refine O.p rfl rfl rfl (Pu.move rfl rfl) ?_
            refine O.p rfl rfl rfl (Pu.add64 (r := ((e + 1 : Nat) : Int)) rfl (by omega) rfl rfl rfl) ?_
            refine O.p rfl rfl rfl (Pu.assign rfl rfl) ?_
            refine O.nil ?_
            exact X.back3 (z2A, z2c, z2, e + 1) (by (try dsimp only); exact ⟨by omega, by omega, (by first | exact hg2 | exact good_snoc hg2 (by unfold good; simp only; omega)), (by first | omega | (simp only [List.length_append, List.length_singleton]; omega))⟩) (by first | omega | (dsimp only; omega)) (Ent.cons rfl (Ent.cons rfl (Ent.nil _))) (Ent.cons (t := 2) rfl (Ent.cons (t := 5) rfl (Ent.cons (t := 6) rfl (Ent.cons (t := 7) rfl (Ent.nil _))))) (Sub.keep 0 rfl (Sub.keep 0 rfl (Sub.nil _)))
        · skip
          refine O.gs rfl rfl rfl rfl rfl rfl ?_
          refine O.gs rfl rfl rfl rfl rfl rfl ?_
          refine O.gs rfl rfl rfl rfl rfl rfl ?_
          refine O.gs rfl rfl rfl rfl rfl rfl ?_
          refine O.gs rfl rfl rfl rfl rfl rfl ?_
          refine O.gs rfl rfl rfl rfl rfl rfl ?_
          refine O.gs rfl rfl rfl rfl rfl rfl ?_
          refine O.gs rfl rfl rfl rfl rfl rfl ?_
          refine O.gs rfl rfl rfl rfl rfl rfl ?_
          refine O.gs rfl rfl rfl rfl rfl rfl ?_
          refine O.p rfl rfl rfl (Pu.pickF rfl rfl rfl) ?_
          refine O.p rfl rfl rfl (Pu.move rfl rfl) ?_
          refine O.gp rfl rfl rfl rfl rfl (Pu.move rfl rfl) ?_
          refine O.gp rfl rfl rfl rfl rfl (Pu.isF (by decide) (Pu.eql rfl rfl rfl)) ?_
          refine O.gp rfl rfl rfl rfl rfl (Pu.move rfl rfl) ?_
          refine O.gs rfl rfl rfl rfl rfl rfl ?_
          refine O.gs rfl rfl rfl rfl rfl rfl ?_
          refine O.gs rfl rfl rfl rfl rfl rfl ?_
          refine O.gs rfl rfl rfl rfl rfl rfl ?_
          refine O.gs rfl rfl rfl rfl rfl rfl ?_
          refine O.gs rfl rfl rfl rfl rfl rfl ?_
          refine O.gs rfl rfl rfl rfl rfl rfl ?_
          refine O.gs rfl rfl rfl rfl rfl rfl ?_
          refine O.gs rfl rfl rfl rfl rfl rfl ?_
          refine O.gp rfl rfl rfl rfl rfl (Pu.pickF rfl rfl rfl) ?_
          refine O.p rfl rfl rfl (Pu.pickF rfl rfl rfl) ?_
          refine O.nil ?_
          refine X.next ?_
          refine V.condF rfl ?_
          refine V.skip ?_
          refine X.blockNormal ?_
          refine X.next ?_
          refine V.region ?_
          refine O.p rfl rfl rfl (Pu.move rfl rfl) ?_
          refine O.p rfl rfl rfl (Pu.add64 (r := ((e + 1 : Nat) : Int)) rfl (by omega) rfl rfl rfl) ?_
          refine O.p rfl rfl rfl (Pu.assign rfl rfl) ?_
          refine O.nil ?_
          exact X.back3 (z2A, z2c, z2, e + 1) (by (try dsimp only); exact ⟨by omega, by omega, (by first | exact hg2 | exact good_snoc hg2 (by unfold good; simp only; omega)), (by first | omega | (simp only [List.length_append, List.length_singleton]; omega))⟩) (by first | omega | (dsimp only; omega)) (Ent.cons rfl (Ent.cons rfl (Ent.nil _))) (Ent.cons (t := 2) rfl (Ent.cons (t := 5) rfl (Ent.cons (t := 6) rfl (Ent.cons (t := 7) rfl (Ent.nil _))))) (Sub.keep 0 rfl (Sub.keep 0 rfl (Sub.nil _)))
      · skip
        refine V.exit ?_
        refine X.thenExit ?_
        refine X.thenExit ?_
        refine X.blockHit ?_
        refine X.blockNormal ?_
        refine X.next ?_
        refine V.region ?_
        refine O.p rfl rfl rfl (Pu.move rfl rfl) ?_
        refine O.p rfl rfl rfl (Pu.add64 (r := ((b + 1 : Nat) : Int)) rfl (by omega) rfl rfl rfl) ?_
        refine O.p rfl rfl rfl (Pu.assign rfl rfl) ?_
        refine O.nil ?_
        exact X.back3 (z2A, z2c, z2, b + 1) (by (try dsimp only); exact ⟨by omega, by omega, hg2, by omega⟩) (by first | omega | (dsimp only; omega)) (Ent.cons rfl (Ent.cons rfl (Ent.nil _))) (Ent.cons (t := 2) rfl (Ent.cons (t := 5) rfl (Ent.cons (t := 6) rfl (Ent.nil _)))) (Sub.keep 0 rfl (Sub.keep 0 rfl (Sub.nil _)))
    · skip
      refine V.exit ?_
      refine X.thenExit ?_
      refine X.thenExit ?_
      refine X.blockHit ?_
      refine X.blockNormal ?_
      refine X.next ?_
      refine V.region ?_
      refine O.p rfl rfl rfl (Pu.move rfl rfl) ?_
      refine O.p rfl rfl rfl (Pu.add64 (r := ((a + 1 : Nat) : Int)) rfl (by omega) rfl rfl rfl) ?_
      refine O.p rfl rfl rfl (Pu.assign rfl rfl) ?_
      refine O.nil ?_
      exact X.back3 (z1A, z1c, z1, a + 1) (by (try dsimp only); exact ⟨by omega, hg1, by omega⟩) (by first | omega | (dsimp only; omega)) (Ent.cons rfl (Ent.cons rfl (Ent.nil _))) (Ent.cons (t := 2) rfl (Ent.cons (t := 5) rfl (Ent.nil _))) (Sub.keep 0 rfl (Sub.keep 0 rfl (Sub.nil _)))
  · skip
    refine V.exit ?_
    refine X.thenExit ?_
    refine X.thenExit ?_
    refine X.blockHit ?_
    refine X.next ?_
    refine V.seq ?_
    refine V.region ?_
    refine O.p rfl rfl rfl (Pu.move rfl rfl) ?_
    refine O.p rfl rfl rfl (Pu.move rfl rfl) ?_
    refine O.e rfl rfl rfl (Ef.call1 call199 rfl rfl (fun w hw => l01Made_ok  (9 : Int) z0 _ _ w ((Ld.own 0 (by exact rfl)) w hw) (by first | omega | (simp only [tops_len, conts_len, bl, List.length_append, List.length_cons, List.length_nil] at *; omega)) (by first | assumption | omega | (try dsimp only at *; omega)))) ?_
    rintro _ _ rfl
    refine O.exi (fun r1A => ?_)
    refine O.exi (fun r1c => ?_)
    refine O.exi (fun r1 => ?_)
    refine O.sep ?_
    refine O.pur ?_
    rintro ⟨rfl, hr1_1, hr1_2⟩
    refine O.s rfl rfl (Ef.storeAll 2 rfl sz26 rfl rfl rfl rfl (by simp [Value.oneCell']) rfl) ?_
    rintro _ _ rfl
    refine O.p rfl rfl rfl (Pu.assign rfl rfl) ?_
    refine O.nil ?_
    refine X.next ?_
    refine V.ret ?_
    refine X.blockRet ?_
    refine X.thenRet ?_
    refine X.retCell2 rfl ag26 sz26 rfl rfl rfl (Ld.whole 2 rfl) ?_
    exact fun w hw => St.mkExi r1A (St.mkExi r1c (St.mkExi r1 (St.unsep (St.addPur ⟨rfl, DrS.perm ⟨by decide, hg0, by omega⟩ hr1_1⟩ (hw.sub (Sub.keep 0 rfl (Sub.nil _)))))))
set_option maxRecDepth 100000 in
set_option maxHeartbeats 1000000 in
theorem l01NamedD3_ok (w : World) : Does Tryz.prog 125 [.string (ByteArray.mk #[99, 121, 99, 108, 105, 99, 49, 51])] w [] (fun rv_ => [.exi fun (rA : Option Addr) => .exi fun (rc : Nat) => .exi fun (r : List B3) => .sep (.pur (rv_ = .tuple #[.agg #[.int .i64 13, .slice rA r.length rc], .bool true] ∧ DrS 4000 13 r)) (Own 51 B3C rA rc r)]) := by
  refine Does.enter Tryz.func125 rfl rfl [(0, .string (ByteArray.mk #[99, 121, 99, 108, 105, 99, 49, 51]))] rfl ?_
  refine V.seq ?_
  refine V.region ?_
  refine O.e rfl rfl rfl (Ef.alloc rfl zr26 rfl) ?_
  rintro _ _ ⟨b1, rfl, rfl⟩
  refine O.p rfl rfl rfl (Pu.assign rfl rfl) ?_
  refine O.nil ?_
  refine X.next ?_
  refine V.seq ?_
  refine V.region ?_
  refine O.e rfl rfl rfl (Ef.build B3C ([] : List B3) rfl Tryz.underlying24 inf51 rfl rfl rfl (by first | decide | (simp; done)) (by kernel_rfl)) ?_
  rintro _ _ ⟨A1, hA1, rfl, rfl⟩
  refine O.p rfl rfl rfl (Pu.assign rfl rfl) ?_
  refine O.nil ?_
  refine X.next ?_
  refine V.seq ?_
  refine V.seq ?_
  refine V.region ?_
  refine O.p rfl rfl rfl (Pu.move rfl rfl) ?_
  refine O.nil ?_
  refine X.next ?_
  refine V.block ?_
  refine V.seq ?_
  refine V.region ?_
  refine O.p rfl rfl rfl (Pu.eqlStr (b := false) (by kernel_rfl) rfl rfl rfl) ?_
  refine O.p rfl rfl rfl (Pu.assign rfl rfl) ?_
  refine O.nil ?_
  refine X.next ?_
  refine V.condF rfl ?_
  refine V.seq ?_
  refine V.region ?_
  refine O.p rfl rfl rfl (Pu.eqlStr (b := false) (by kernel_rfl) rfl rfl rfl) ?_
  refine O.p rfl rfl rfl (Pu.assign rfl rfl) ?_
  refine O.nil ?_
  refine X.next ?_
  refine V.condF rfl ?_
  refine V.seq ?_
  refine V.region ?_
  refine O.p rfl rfl rfl (Pu.eqlStr (b := true) (by kernel_rfl) rfl rfl rfl) ?_
  refine O.p rfl rfl rfl (Pu.assign rfl rfl) ?_
  refine O.nil ?_
  refine X.next ?_
  refine V.condT rfl ?_
  refine V.seq ?_
  refine V.region ?_
  refine O.p rfl rfl rfl (Pu.move rfl rfl) ?_
  refine O.e rfl rfl rfl (Ef.call call205 rfl rfl (Does.pre (fun w hw => hw.sub (Sub.keep 0 rfl (Sub.keep 0 rfl (Sub.nil _)))) (l01Turned_ok  ([] : List B3) (13 : Int) (0 : Int) (1 : Int) (4 : Int) _ _ w _   (by decide) (by decide) (by decide) (by decide) (by first | (simp; done) | (rw [hr1_1]; decide +kernel) | (rw [hr2_1, hr1_1]; decide +kernel))))) ?_
  rintro _ _ rfl
  refine O.exi (fun r1A => ?_)
  refine O.exi (fun r1c => ?_)
  refine O.exi (fun r1 => ?_)
  refine O.sep ?_
  refine O.pur ?_
  rintro ⟨rfl, hr1_1⟩
  refine O.e rfl rfl rfl (Ef.call call205 rfl rfl (Does.pre (fun w hw => hw.sub (Sub.keep 0 rfl (Sub.keep 0 rfl (Sub.nil _)))) (l01Turned_ok  r1 (13 : Int) (0 : Int) (2 : Int) (7 : Int) _ _ w _   (by decide) (by decide) (by decide) (by decide) (by first | (simp; done) | (rw [hr1_1]; decide +kernel) | (rw [hr2_1, hr1_1]; decide +kernel))))) ?_
  rintro _ _ rfl
  refine O.exi (fun r2A => ?_)
  refine O.exi (fun r2c => ?_)
  refine O.exi (fun r2 => ?_)
  refine O.sep ?_
  refine O.pur ?_
  rintro ⟨rfl, hr2_1⟩
  refine O.e rfl rfl rfl (Ef.call1 call199 rfl rfl (fun w hw => l01Made_ok  (13 : Int) r2 _ _ w ((Ld.own 0 (by exact rfl)) w hw) (by rw [hr2_1, hr1_1]; decide +kernel) (by rw [hr2_1, hr1_1]; decide +kernel))) ?_
  rintro _ _ rfl
  refine O.exi (fun r3A => ?_)
  refine O.exi (fun r3c => ?_)
  refine O.exi (fun r3 => ?_)
  refine O.sep ?_
  refine O.pur ?_
  rintro ⟨rfl, hr3_1, hr3_2⟩
  refine O.s rfl rfl (Ef.storeAll 2 rfl sz26 rfl rfl rfl rfl (by simp [Value.oneCell']) rfl) ?_
  rintro _ _ rfl
  refine O.p rfl rfl rfl (Pu.assign rfl rfl) ?_
  refine O.nil ?_
  refine X.next ?_
  refine V.ret ?_
  refine X.blockRet ?_
  refine X.thenRet ?_
  refine X.retCell2 rfl ag26 sz26 rfl rfl rfl (Ld.whole 2 rfl) ?_
  exact fun w hw => St.mkExi r3A (St.mkExi r3c (St.mkExi r3 (St.unsep (St.addPur ⟨rfl, DrS.perm (bs := r2) (by rw [hr2_1, hr1_1]; exact ⟨by decide, by decide +kernel, by decide +kernel⟩) hr3_1⟩ (hw.sub (Sub.keep 0 rfl (Sub.nil _)))))))
set_option maxRecDepth 100000 in
set_option maxHeartbeats 1000000 in
theorem l01NamedD4_ok (w : World) : Does Tryz.prog 125 [.string (ByteArray.mk #[99, 121, 99, 108, 105, 99, 49, 53])] w [] (fun rv_ => [.exi fun (rA : Option Addr) => .exi fun (rc : Nat) => .exi fun (r : List B3) => .sep (.pur (rv_ = .tuple #[.agg #[.int .i64 15, .slice rA r.length rc], .bool true] ∧ DrS 4000 15 r)) (Own 51 B3C rA rc r)]) := by
  refine Does.enter Tryz.func125 rfl rfl [(0, .string (ByteArray.mk #[99, 121, 99, 108, 105, 99, 49, 53]))] rfl ?_
  refine V.seq ?_
  refine V.region ?_
  refine O.e rfl rfl rfl (Ef.alloc rfl zr26 rfl) ?_
  rintro _ _ ⟨b1, rfl, rfl⟩
  refine O.p rfl rfl rfl (Pu.assign rfl rfl) ?_
  refine O.nil ?_
  refine X.next ?_
  refine V.seq ?_
  refine V.region ?_
  refine O.e rfl rfl rfl (Ef.build B3C ([] : List B3) rfl Tryz.underlying24 inf51 rfl rfl rfl (by first | decide | (simp; done)) (by kernel_rfl)) ?_
  rintro _ _ ⟨A1, hA1, rfl, rfl⟩
  refine O.p rfl rfl rfl (Pu.assign rfl rfl) ?_
  refine O.nil ?_
  refine X.next ?_
  refine V.seq ?_
  refine V.seq ?_
  refine V.region ?_
  refine O.p rfl rfl rfl (Pu.move rfl rfl) ?_
  refine O.nil ?_
  refine X.next ?_
  refine V.block ?_
  refine V.seq ?_
  refine V.region ?_
  refine O.p rfl rfl rfl (Pu.eqlStr (b := false) (by kernel_rfl) rfl rfl rfl) ?_
  refine O.p rfl rfl rfl (Pu.assign rfl rfl) ?_
  refine O.nil ?_
  refine X.next ?_
  refine V.condF rfl ?_
  refine V.seq ?_
  refine V.region ?_
  refine O.p rfl rfl rfl (Pu.eqlStr (b := false) (by kernel_rfl) rfl rfl rfl) ?_
  refine O.p rfl rfl rfl (Pu.assign rfl rfl) ?_
  refine O.nil ?_
  refine X.next ?_
  refine V.condF rfl ?_
  refine V.seq ?_
  refine V.region ?_
  refine O.p rfl rfl rfl (Pu.eqlStr (b := false) (by kernel_rfl) rfl rfl rfl) ?_
  refine O.p rfl rfl rfl (Pu.assign rfl rfl) ?_
  refine O.nil ?_
  refine X.next ?_
  refine V.condF rfl ?_
  refine V.seq ?_
  refine V.region ?_
  refine O.p rfl rfl rfl (Pu.eqlStr (b := true) (by kernel_rfl) rfl rfl rfl) ?_
  refine O.p rfl rfl rfl (Pu.assign rfl rfl) ?_
  refine O.nil ?_
  refine X.next ?_
  refine V.condT rfl ?_
  refine V.seq ?_
  refine V.region ?_
  refine O.p rfl rfl rfl (Pu.move rfl rfl) ?_
  refine O.e rfl rfl rfl (Ef.call call205 rfl rfl (Does.pre (fun w hw => hw.sub (Sub.keep 0 rfl (Sub.keep 0 rfl (Sub.nil _)))) (l01Turned_ok  ([] : List B3) (15 : Int) (0 : Int) (1 : Int) (4 : Int) _ _ w _   (by decide) (by decide) (by decide) (by decide) (by first | (simp; done) | (rw [hr1_1]; decide +kernel) | (rw [hr2_1, hr1_1]; decide +kernel))))) ?_
  rintro _ _ rfl
  refine O.exi (fun r1A => ?_)
  refine O.exi (fun r1c => ?_)
  refine O.exi (fun r1 => ?_)
  refine O.sep ?_
  refine O.pur ?_
  rintro ⟨rfl, hr1_1⟩
  refine O.e rfl rfl rfl (Ef.call call205 rfl rfl (Does.pre (fun w hw => hw.sub (Sub.keep 0 rfl (Sub.keep 0 rfl (Sub.nil _)))) (l01Turned_ok  r1 (15 : Int) (0 : Int) (2 : Int) (8 : Int) _ _ w _   (by decide) (by decide) (by decide) (by decide) (by first | (simp; done) | (rw [hr1_1]; decide +kernel) | (rw [hr2_1, hr1_1]; decide +kernel))))) ?_
  rintro _ _ rfl
  refine O.exi (fun r2A => ?_)
  refine O.exi (fun r2c => ?_)
  refine O.exi (fun r2 => ?_)
  refine O.sep ?_
  refine O.pur ?_
  rintro ⟨rfl, hr2_1⟩
  refine O.e rfl rfl rfl (Ef.call call205 rfl rfl (Does.pre (fun w hw => hw.sub (Sub.keep 0 rfl (Sub.keep 0 rfl (Sub.nil _)))) (l01Turned_ok  r2 (15 : Int) (0 : Int) (5 : Int) (10 : Int) _ _ w _   (by decide) (by decide) (by decide) (by decide) (by first | (simp; done) | (rw [hr1_1]; decide +kernel) | (rw [hr2_1, hr1_1]; decide +kernel))))) ?_
  rintro _ _ rfl
  refine O.exi (fun r3A => ?_)
  refine O.exi (fun r3c => ?_)
  refine O.exi (fun r3 => ?_)
  refine O.sep ?_
  refine O.pur ?_
  rintro ⟨rfl, hr3_1⟩
  refine O.e rfl rfl rfl (Ef.call1 call199 rfl rfl (fun w hw => l01Made_ok  (15 : Int) r3 _ _ w ((Ld.own 0 (by exact rfl)) w hw) (by rw [hr3_1, hr2_1, hr1_1]; decide +kernel) (by rw [hr3_1, hr2_1, hr1_1]; decide +kernel))) ?_
  rintro _ _ rfl
  refine O.exi (fun r4A => ?_)
  refine O.exi (fun r4c => ?_)
  refine O.exi (fun r4 => ?_)
  refine O.sep ?_
  refine O.pur ?_
  rintro ⟨rfl, hr4_1, hr4_2⟩
  refine O.s rfl rfl (Ef.storeAll 2 rfl sz26 rfl rfl rfl rfl (by simp [Value.oneCell']) rfl) ?_
  rintro _ _ rfl
  refine O.p rfl rfl rfl (Pu.assign rfl rfl) ?_
  refine O.nil ?_
  refine X.next ?_
  refine V.ret ?_
  refine X.blockRet ?_
  refine X.thenRet ?_
  refine X.retCell2 rfl ag26 sz26 rfl rfl rfl (Ld.whole 2 rfl) ?_
  exact fun w hw => St.mkExi r4A (St.mkExi r4c (St.mkExi r4 (St.unsep (St.addPur ⟨rfl, DrS.perm (bs := r3) (by rw [hr3_1, hr2_1, hr1_1]; exact ⟨by decide, by decide +kernel, by decide +kernel⟩) hr4_1⟩ (hw.sub (Sub.keep 0 rfl (Sub.nil _)))))))
set_option maxRecDepth 100000 in
set_option maxHeartbeats 1000000 in
theorem l01NamedD5_ok (w : World) : Does Tryz.prog 125 [.string (ByteArray.mk #[112, 114, 111, 106, 101, 99, 116, 105, 118, 101, 49, 53])] w [] (fun rv_ => [.exi fun (rA : Option Addr) => .exi fun (rc : Nat) => .exi fun (r : List B3) => .sep (.pur (rv_ = .tuple #[.agg #[.int .i64 15, .slice rA r.length rc], .bool true] ∧ DrS 4000 15 r)) (Own 51 B3C rA rc r)]) := by
  refine Does.enter Tryz.func125 rfl rfl [(0, .string (ByteArray.mk #[112, 114, 111, 106, 101, 99, 116, 105, 118, 101, 49, 53]))] rfl ?_
  refine V.seq ?_
  refine V.region ?_
  refine O.e rfl rfl rfl (Ef.alloc rfl zr26 rfl) ?_
  rintro _ _ ⟨b1, rfl, rfl⟩
  refine O.p rfl rfl rfl (Pu.assign rfl rfl) ?_
  refine O.nil ?_
  refine X.next ?_
  refine V.seq ?_
  refine V.region ?_
  refine O.e rfl rfl rfl (Ef.build B3C ([] : List B3) rfl Tryz.underlying24 inf51 rfl rfl rfl (by first | decide | (simp; done)) (by kernel_rfl)) ?_
  rintro _ _ ⟨A1, hA1, rfl, rfl⟩
  refine O.p rfl rfl rfl (Pu.assign rfl rfl) ?_
  refine O.nil ?_
  refine X.next ?_
  refine V.seq ?_
  refine V.seq ?_
  refine V.region ?_
  refine O.p rfl rfl rfl (Pu.move rfl rfl) ?_
  refine O.nil ?_
  refine X.next ?_
  refine V.block ?_
  refine V.seq ?_
  refine V.region ?_
  refine O.p rfl rfl rfl (Pu.eqlStr (b := false) (by kernel_rfl) rfl rfl rfl) ?_
  refine O.p rfl rfl rfl (Pu.assign rfl rfl) ?_
  refine O.nil ?_
  refine X.next ?_
  refine V.condF rfl ?_
  refine V.seq ?_
  refine V.region ?_
  refine O.p rfl rfl rfl (Pu.eqlStr (b := false) (by kernel_rfl) rfl rfl rfl) ?_
  refine O.p rfl rfl rfl (Pu.assign rfl rfl) ?_
  refine O.nil ?_
  refine X.next ?_
  refine V.condF rfl ?_
  refine V.seq ?_
  refine V.region ?_
  refine O.p rfl rfl rfl (Pu.eqlStr (b := false) (by kernel_rfl) rfl rfl rfl) ?_
  refine O.p rfl rfl rfl (Pu.assign rfl rfl) ?_
  refine O.nil ?_
  refine X.next ?_
  refine V.condF rfl ?_
  refine V.seq ?_
  refine V.region ?_
  refine O.p rfl rfl rfl (Pu.eqlStr (b := false) (by kernel_rfl) rfl rfl rfl) ?_
  refine O.p rfl rfl rfl (Pu.assign rfl rfl) ?_
  refine O.nil ?_
  refine X.next ?_
  refine V.condF rfl ?_
  refine V.seq ?_
  refine V.seq ?_
  refine V.region ?_
  refine O.p rfl rfl rfl (Pu.eqlStr (b := false) (by kernel_rfl) rfl rfl rfl) ?_
  refine O.p rfl rfl rfl (Pu.assign rfl rfl) ?_
  refine O.nil ?_
  refine X.next ?_
  refine V.condF rfl ?_
  refine V.region ?_
  refine O.p rfl rfl rfl (Pu.eqlStr (b := true) (by kernel_rfl) rfl rfl rfl) ?_
  refine O.p rfl rfl rfl (Pu.assign rfl rfl) ?_
  refine O.nil ?_
  refine X.next ?_
  refine V.condT rfl ?_
  refine V.seq ?_
  refine V.region ?_
  refine O.p rfl rfl rfl (Pu.assign rfl rfl) ?_
  refine O.nil ?_
  refine X.next ?_
  refine V.seq ?_
  refine V.seq ?_
  refine V.region ?_
  refine O.p rfl rfl rfl (Pu.move rfl rfl) ?_
  refine O.p rfl rfl rfl (Pu.eqlStr (b := true) (by kernel_rfl) rfl rfl rfl) ?_
  refine O.nil ?_
  refine X.next ?_
  refine V.condT rfl ?_
  refine V.region ?_
  refine O.p rfl rfl rfl (Pu.assign rfl rfl) ?_
  refine O.nil ?_
  refine X.next ?_
  refine V.seq ?_
  refine V.seq ?_
  refine V.region ?_
  refine O.p rfl rfl rfl (Pu.assign rfl rfl) ?_
  refine O.nil ?_
  refine X.next ?_
  refine V.block ?_
  refine V.loop3 (β := (Option Addr) × Nat × (List B3) × Nat) (fun x => [(4, .slice x.1 x.2.2.1.length x.2.1), (6, .int .i64 (x.2.2.2 : Int))]) _ (fun x => [Own 51 B3C x.1 x.2.1 x.2.2.1]) _ (fun x => x.2.2.2 ≤ 15 ∧ (∀ d ∈ x.2.2.1, good 15 d) ∧ x.2.2.1.length ≤ 225 * x.2.2.2) (fun x => 15 - x.2.2.2) (A1, 0, ([] : List B3), 0) (by (try dsimp only); exact ⟨by omega, by simp, by simp⟩) (Ent.cons rfl (Ent.cons rfl (Ent.nil _))) (Ent.cons (t := 2) rfl (Ent.cons (t := 5) rfl (Ent.nil _))) (Sub.keep 0 rfl (Sub.keep 0 rfl (Sub.nil _))) ?_
  rintro ⟨z0A, z0c, z0, a⟩ ⟨ha, hg0, hl0⟩
  dsimp only at ha hg0 hl0 ⊢
  refine V.seq ?_
  refine V.seq ?_
  refine V.region ?_
  refine O.p rfl rfl rfl (Pu.move rfl rfl) ?_
  refine O.p rfl rfl rfl (Pu.move rfl rfl) ?_
  refine O.p rfl rfl rfl (Pu.lss rfl rfl rfl) ?_
  refine O.nil ?_
  refine X.next ?_
  refine V.condD rfl (fun c1 => ?_) (fun c1 => ?_)
  · skip
    refine V.skip ?_
    refine X.next ?_
    refine V.seq ?_
    refine V.block ?_
    refine V.seq ?_
    refine V.region ?_
    refine O.p rfl rfl rfl (Pu.move rfl rfl) ?_
    refine O.p rfl rfl rfl (Pu.add64 (r := ((a + 1 : Nat) : Int)) rfl (by omega) rfl rfl rfl) ?_
    refine O.p rfl rfl rfl (Pu.assign rfl rfl) ?_
    refine O.nil ?_
    refine X.next ?_
    refine V.block ?_
    refine V.loop3 (β := (Option Addr) × Nat × (List B3) × Nat) (fun x => [(4, .slice x.1 x.2.2.1.length x.2.1), (7, .int .i64 (x.2.2.2 : Int))]) _ (fun x => [Own 51 B3C x.1 x.2.1 x.2.2.1]) _ (fun x => a < x.2.2.2 ∧ x.2.2.2 ≤ 15 ∧ (∀ d ∈ x.2.2.1, good 15 d) ∧ x.2.2.1.length ≤ 225 * a + 15 * x.2.2.2) (fun x => 15 - x.2.2.2) (z0A, z0c, z0, a + 1) (by (try dsimp only); exact ⟨by omega, by omega, hg0, by omega⟩) (Ent.cons rfl (Ent.cons rfl (Ent.nil _))) (Ent.cons (t := 2) rfl (Ent.cons (t := 5) rfl (Ent.cons (t := 6) rfl (Ent.nil _)))) (Sub.keep 0 rfl (Sub.keep 0 rfl (Sub.nil _))) ?_
    rintro ⟨z1A, z1c, z1, b⟩ ⟨hab, hb, hg1, hl1⟩
    dsimp only at hab hb hg1 hl1 ⊢
    refine V.seq ?_
    refine V.seq ?_
    refine V.region ?_
    refine O.p rfl rfl rfl (Pu.move rfl rfl) ?_
    refine O.p rfl rfl rfl (Pu.move rfl rfl) ?_
    refine O.p rfl rfl rfl (Pu.lss rfl rfl rfl) ?_
    refine O.nil ?_
    refine X.next ?_
    refine V.condD rfl (fun c2 => ?_) (fun c2 => ?_)
    · skip
      refine V.skip ?_
      refine X.next ?_
      refine V.seq ?_
      refine V.block ?_
      refine V.seq ?_
      refine V.region ?_
      refine O.p rfl rfl rfl (Pu.move rfl rfl) ?_
      refine O.p rfl rfl rfl (Pu.add64 (r := ((b + 1 : Nat) : Int)) rfl (by omega) rfl rfl rfl) ?_
      refine O.p rfl rfl rfl (Pu.assign rfl rfl) ?_
      refine O.nil ?_
      refine X.next ?_
      refine V.block ?_
      refine V.loop3 (β := (Option Addr) × Nat × (List B3) × Nat) (fun x => [(4, .slice x.1 x.2.2.1.length x.2.1), (8, .int .i64 (x.2.2.2 : Int))]) _ (fun x => [Own 51 B3C x.1 x.2.1 x.2.2.1]) _ (fun x => b < x.2.2.2 ∧ x.2.2.2 ≤ 15 ∧ (∀ d ∈ x.2.2.1, good 15 d) ∧ x.2.2.1.length ≤ 225 * a + 15 * b + x.2.2.2) (fun x => 15 - x.2.2.2) (z1A, z1c, z1, b + 1) (by (try dsimp only); exact ⟨by omega, by omega, hg1, by omega⟩) (Ent.cons rfl (Ent.cons rfl (Ent.nil _))) (Ent.cons (t := 2) rfl (Ent.cons (t := 5) rfl (Ent.cons (t := 6) rfl (Ent.cons (t := 7) rfl (Ent.nil _))))) (Sub.keep 0 rfl (Sub.keep 0 rfl (Sub.nil _))) ?_
      rintro ⟨z2A, z2c, z2, e⟩ ⟨hbe, he, hg2, hl2⟩
      dsimp only at hbe he hg2 hl2 ⊢
      refine V.seq ?_
      refine V.seq ?_
      refine V.region ?_
      refine O.p rfl rfl rfl (Pu.move rfl rfl) ?_
      refine O.p rfl rfl rfl (Pu.move rfl rfl) ?_
      refine O.p rfl rfl rfl (Pu.lss rfl rfl rfl) ?_
      refine O.nil ?_
      refine X.next ?_
      refine V.condD rfl (fun c3 => ?_) (fun c3 => ?_)
      · skip
        refine V.skip ?_
        refine X.next ?_
        refine V.seq ?_
        refine V.block ?_
        refine V.seq ?_
        refine V.region ?_
        refine O.p rfl rfl rfl (Pu.move rfl rfl) ?_
        refine O.p rfl rfl rfl (Pu.isF (by decide) (Pu.eql rfl rfl rfl)) ?_
        refine O.p rfl rfl rfl (Pu.move rfl rfl) ?_
        refine O.gs rfl rfl rfl rfl rfl rfl ?_
        refine O.gs rfl rfl rfl rfl rfl rfl ?_
        refine O.gs rfl rfl rfl rfl rfl rfl ?_
        refine O.gs rfl rfl rfl rfl rfl rfl ?_
        refine O.gs rfl rfl rfl rfl rfl rfl ?_
        refine O.gs rfl rfl rfl rfl rfl rfl ?_
        refine O.gs rfl rfl rfl rfl rfl rfl ?_
        refine O.gs rfl rfl rfl rfl rfl rfl ?_
        refine O.gs rfl rfl rfl rfl rfl rfl ?_
        refine O.gs rfl rfl rfl rfl rfl rfl ?_
        refine O.p rfl rfl rfl (Pu.pickF rfl rfl rfl) ?_
        refine O.p rfl rfl rfl (Pu.move rfl rfl) ?_
        refine O.gs rfl rfl rfl rfl rfl rfl ?_
        refine O.gs rfl rfl rfl rfl rfl rfl ?_
        refine O.gs rfl rfl rfl rfl rfl rfl ?_
        refine O.gs rfl rfl rfl rfl rfl rfl ?_
        refine O.gs rfl rfl rfl rfl rfl rfl ?_
        refine O.gs rfl rfl rfl rfl rfl rfl ?_
        refine O.gs rfl rfl rfl rfl rfl rfl ?_
        refine O.gs rfl rfl rfl rfl rfl rfl ?_
        refine O.gs rfl rfl rfl rfl rfl rfl ?_
        refine O.gs rfl rfl rfl rfl rfl rfl ?_
        refine O.p rfl rfl rfl (Pu.pickF rfl rfl rfl) ?_
        refine O.p rfl rfl rfl (Pu.move rfl rfl) ?_
        refine O.gp rfl rfl rfl rfl rfl (Pu.move rfl rfl) ?_
        refine O.gp rfl rfl rfl rfl rfl (Pu.isT (by decide) (Pu.eql rfl rfl rfl)) ?_
        refine O.gp rfl rfl rfl rfl rfl (Pu.move rfl rfl) ?_
        refine O.gp rfl rfl rfl rfl rfl (Pu.move rfl rfl) ?_
        refine O.gp rfl rfl rfl rfl rfl (Pu.add64 (r := ((a + 1 : Nat) : Int)) rfl (by omega) rfl rfl rfl) ?_
        refine O.gp rfl rfl rfl rfl rfl (Pu.move rfl rfl) ?_
        refine O.gp rfl rfl rfl rfl rfl (Pu.add64 (r := ((b + 1 : Nat) : Int)) rfl (by omega) rfl rfl rfl) ?_
        refine O.gp rfl rfl rfl rfl rfl (Pu.xor (m := a + 1) (n := b + 1) K64.i (by omega) (by omega) rfl rfl rfl) ?_
        refine O.gp rfl rfl rfl rfl rfl (Pu.move rfl rfl) ?_
        refine O.gp rfl rfl rfl rfl rfl (Pu.add64 (r := ((e + 1 : Nat) : Int)) rfl (by omega) rfl rfl rfl) ?_
        refine O.gp rfl rfl rfl rfl rfl (Pu.xor (m := (a + 1 ^^^ b + 1)) (n := e + 1) K64.i (xor_lt (by omega) (by omega)) (by omega) rfl rfl rfl) ?_
        refine O.gp rfl rfl rfl rfl rfl (Pu.eql rfl rfl rfl) ?_
        refine O.gp rfl rfl rfl rfl rfl (Pu.pickT rfl rfl rfl) ?_
        refine O.p rfl rfl rfl (Pu.pickF rfl rfl rfl) ?_
        refine O.nil ?_
        refine X.next ?_
        refine V.condD rfl (fun c4 => ?_) (fun c4 => ?_)
        · skip
          refine V.region ?_
          refine O.p rfl rfl rfl (Pu.move rfl rfl) ?_
          refine O.p rfl rfl rfl (Pu.move rfl rfl) ?_
          refine O.p rfl rfl rfl (Pu.move rfl rfl) ?_
          refine O.p rfl rfl rfl (Pu.move rfl rfl) ?_
          refine O.p rfl rfl rfl (Pu.buildA (cs := [.int .i64 (↑a : Int), .int .i64 (↑b : Int), .int .i64 (↑e : Int)]) (v := B3.v ((↑a : Int), (↑b : Int), (↑e : Int))) rfl rfl Tryz.underlying51 zr51 sz2 rfl (by kernel_rfl)) ?_
          refine O.e rfl rfl rfl (Ef.build B3C ([((↑a : Int), (↑b : Int), (↑e : Int))] : List B3) rfl Tryz.underlying24 inf51 rfl rfl rfl (by first | decide | (simp; done)) (by kernel_rfl)) ?_
          rintro _ _ ⟨A2, hA2, rfl, rfl⟩
          refine O.e rfl rfl rfl (Ef.append (xs := z2) (ys := ([((↑a : Int), (↑b : Int), (↑e : Int))] : List B3)) 1 rfl Tryz.underlying24 inf51 rfl rfl rfl rfl rfl rfl hA2 (Ld.own 0 (by exact rfl)) (by simp only [List.length_append, List.length_cons, List.length_nil] at *; omega) (by decide)) ?_
          rintro _ _ ⟨A3, k1, rfl, rfl, hA3⟩
          replace hA3 := hA3 (.inr (by simp))
          refine O.p rfl rfl rfl (Pu.assign rfl rfl) ?_
          refine O.nil ?_
          refine X.blockNormal ?_
          refine X.next ?_
          refine V.region ?_
          refine O.p rfl rfl rfl (Pu.move rfl rfl) ?_
          refine O.p rfl rfl rfl (Pu.add64 (r := ((e + 1 : Nat) : Int)) rfl (by omega) rfl rfl rfl) ?_
          refine O.p rfl rfl rfl (Pu.assign rfl rfl) ?_
          refine O.nil ?_
          exact X.back3 (A3, k1, (z2 ++ ([((↑a : Int), (↑b : Int), (↑e : Int))] : List B3)), e + 1) (by (try dsimp only); exact ⟨by omega, by omega, (by first | exact hg2 | exact good_snoc hg2 (by unfold good; simp only; omega)), (by first | omega | (simp only [List.length_append, List.length_singleton]; omega))⟩) (by first | omega | (dsimp only; omega)) (Ent.cons rfl (Ent.cons rfl (Ent.nil _))) (Ent.cons (t := 2) rfl (Ent.cons (t := 5) rfl (Ent.cons (t := 6) rfl (Ent.cons (t := 7) rfl (Ent.nil _))))) (Sub.keep 1 rfl (Sub.keep 1 rfl (Sub.nil _)))
        · skip
          refine V.skip ?_
          refine X.blockNormal ?_
          refine X.next ?_
          refine V.region ?_
          refine O.p rfl rfl rfl (Pu.move rfl rfl) ?_
          refine O.p rfl rfl rfl (Pu.add64 (r := ((e + 1 : Nat) : Int)) rfl (by omega) rfl rfl rfl) ?_
          refine O.p rfl rfl rfl (Pu.assign rfl rfl) ?_
          refine O.nil ?_
          exact X.back3 (z2A, z2c, z2, e + 1) (by (try dsimp only); exact ⟨by omega, by omega, (by first | exact hg2 | exact good_snoc hg2 (by unfold good; simp only; omega)), (by first | omega | (simp only [List.length_append, List.length_singleton]; omega))⟩) (by first | omega | (dsimp only; omega)) (Ent.cons rfl (Ent.cons rfl (Ent.nil _))) (Ent.cons (t := 2) rfl (Ent.cons (t := 5) rfl (Ent.cons (t := 6) rfl (Ent.cons (t := 7) rfl (Ent.nil _))))) (Sub.keep 0 rfl (Sub.keep 0 rfl (Sub.nil _)))
      · skip
        refine V.exit ?_
        refine X.thenExit ?_
        refine X.thenExit ?_
        refine X.blockHit ?_
        refine X.blockNormal ?_
        refine X.next ?_
        refine V.region ?_
        refine O.p rfl rfl rfl (Pu.move rfl rfl) ?_
        refine O.p rfl rfl rfl (Pu.add64 (r := ((b + 1 : Nat) : Int)) rfl (by omega) rfl rfl rfl) ?_
        refine O.p rfl rfl rfl (Pu.assign rfl rfl) ?_
        refine O.nil ?_
        exact X.back3 (z2A, z2c, z2, b + 1) (by (try dsimp only); exact ⟨by omega, by omega, hg2, by omega⟩) (by first | omega | (dsimp only; omega)) (Ent.cons rfl (Ent.cons rfl (Ent.nil _))) (Ent.cons (t := 2) rfl (Ent.cons (t := 5) rfl (Ent.cons (t := 6) rfl (Ent.nil _)))) (Sub.keep 0 rfl (Sub.keep 0 rfl (Sub.nil _)))
    · skip
      refine V.exit ?_
      refine X.thenExit ?_
      refine X.thenExit ?_
      refine X.blockHit ?_
      refine X.blockNormal ?_
      refine X.next ?_
      refine V.region ?_
      refine O.p rfl rfl rfl (Pu.move rfl rfl) ?_
      refine O.p rfl rfl rfl (Pu.add64 (r := ((a + 1 : Nat) : Int)) rfl (by omega) rfl rfl rfl) ?_
      refine O.p rfl rfl rfl (Pu.assign rfl rfl) ?_
      refine O.nil ?_
      exact X.back3 (z1A, z1c, z1, a + 1) (by (try dsimp only); exact ⟨by omega, hg1, by omega⟩) (by first | omega | (dsimp only; omega)) (Ent.cons rfl (Ent.cons rfl (Ent.nil _))) (Ent.cons (t := 2) rfl (Ent.cons (t := 5) rfl (Ent.nil _))) (Sub.keep 0 rfl (Sub.keep 0 rfl (Sub.nil _)))
  · skip
    refine V.exit ?_
    refine X.thenExit ?_
    refine X.thenExit ?_
    refine X.blockHit ?_
    refine X.next ?_
    refine V.seq ?_
    refine V.region ?_
    refine O.p rfl rfl rfl (Pu.move rfl rfl) ?_
    refine O.p rfl rfl rfl (Pu.move rfl rfl) ?_
    refine O.e rfl rfl rfl (Ef.call1 call199 rfl rfl (fun w hw => l01Made_ok  (15 : Int) z0 _ _ w ((Ld.own 0 (by exact rfl)) w hw) (by first | omega | (simp only [tops_len, conts_len, bl, List.length_append, List.length_cons, List.length_nil] at *; omega)) (by first | assumption | omega | (try dsimp only at *; omega)))) ?_
    rintro _ _ rfl
    refine O.exi (fun r1A => ?_)
    refine O.exi (fun r1c => ?_)
    refine O.exi (fun r1 => ?_)
    refine O.sep ?_
    refine O.pur ?_
    rintro ⟨rfl, hr1_1, hr1_2⟩
    refine O.s rfl rfl (Ef.storeAll 2 rfl sz26 rfl rfl rfl rfl (by simp [Value.oneCell']) rfl) ?_
    rintro _ _ rfl
    refine O.p rfl rfl rfl (Pu.assign rfl rfl) ?_
    refine O.nil ?_
    refine X.next ?_
    refine V.ret ?_
    refine X.blockRet ?_
    refine X.thenRet ?_
    refine X.retCell2 rfl ag26 sz26 rfl rfl rfl (Ld.whole 2 rfl) ?_
    exact fun w hw => St.mkExi r1A (St.mkExi r1c (St.mkExi r1 (St.unsep (St.addPur ⟨rfl, DrS.perm ⟨by decide, hg0, by omega⟩ hr1_1⟩ (hw.sub (Sub.keep 0 rfl (Sub.nil _)))))))
theorem l01NamedAny_ok (x : ByteArray) (w : World) (hx : x ∈ nmL) : Does Tryz.prog 125 [.string x] w [] (fun v => [.exi fun pv : Int => .exi fun rA : Option Addr => .exi fun rc : Nat => .exi fun r : List B3 => .sep (.pur (v = .tuple #[.agg #[.int .i64 pv, .slice rA r.length rc], .bool true] ∧ DrS 4000 pv r)) (Own 51 B3C rA rc r)]) := by
  unfold nmL at hx
  simp only [List.mem_cons, List.not_mem_nil, or_false] at hx
  rcases hx with rfl | rfl | rfl | rfl | rfl | rfl
  · exact (l01NamedD0_ok w).mono (fun v w hs => St.mkExi 3 hs)
  · exact (l01NamedD1_ok w).mono (fun v w hs => St.mkExi 7 hs)
  · exact (l01NamedD2_ok w).mono (fun v w hs => St.mkExi 9 hs)
  · exact (l01NamedD3_ok w).mono (fun v w hs => St.mkExi 13 hs)
  · exact (l01NamedD4_ok w).mono (fun v w hs => St.mkExi 15 hs)
  · exact (l01NamedD5_ok w).mono (fun v w hs => St.mkExi 15 hs)
theorem l01OwnN_ok (xs : List Int) (n : Nat) (A : Option Addr) (c : Nat) (w : World) (hn : n = xs.length) (hx : Rd I64 w A xs) (hA : A.isSome = true) (lx : xs.length ≤ 1099511627776) : Does Tryz.prog 187 [.slice A n c] w [] (fun v => [.exi fun p : (Option Addr × Nat) × List Int => .sep (.pur (v = .slice p.1.1 p.2.length p.1.2 ∧ p.2 = xs)) (Own 2 I64 p.1.1 p.1.2 p.2)]) := by
  subst hn
  exact l01Own_ok xs A c w hx hA lx
set_option maxRecDepth 100000 in
set_option maxHeartbeats 1000000 in
theorem l01DrawOrder_ok (cA : Option Addr) (cc : Nat) (code : List UInt8) (s : Nat) (n : Int) (w0 : World) (H : List Assn) (hc : Rd U8C w0 cA code) (lc : code.length ≤ 1048576) (hn : 0 ≤ n ∧ n ≤ 1000) : Does Tryz.prog 90 [.pointer (some ⟨s, 0, none⟩), .int .i64 n] w0 (SrcK 132 cA cc code s :: H) (fun rv_ => [.exi fun (rA : Option Addr) => .exi fun (rc : Nat) => .exi fun (r : List Int) => .sep (.pur (rv_ = .slice rA r.length rc ∧ OrdP n r)) (.sep (Own 2 I64 rA rc r) (SrcK 132 cA cc code s))] ++ H) := by
  refine Does.enter Tryz.func90 rfl rfl [(0, .pointer (some ⟨s, 0, none⟩)), (1, .int .i64 n)] rfl ?_
  refine V.seq ?_
  refine V.region ?_
  refine O.p rfl rfl rfl (Pu.assign rfl rfl) ?_
  refine O.nil ?_
  refine X.next ?_
  refine V.seq ?_
  refine V.region ?_
  refine O.e rfl rfl rfl (Ef.build I64 ([] : List Int) rfl Tryz.underlying34 inf2 rfl rfl rfl (by first | decide | (simp; done)) (by kernel_rfl)) ?_
  rintro _ _ ⟨A1, hA1, rfl, rfl⟩
  refine O.p rfl rfl rfl (Pu.assign rfl rfl) ?_
  refine O.nil ?_
  refine X.next ?_
  refine V.seq ?_
  refine V.seq ?_
  refine V.region ?_
  refine O.p rfl rfl rfl (Pu.assign rfl rfl) ?_
  refine O.nil ?_
  refine X.next ?_
  refine V.block ?_
  refine V.loop3 (β := (Option Addr) × Nat × (List Int) × Nat) (fun x => [(5, .slice x.1 x.2.2.1.length x.2.1), (6, .int .i64 (x.2.2.2 : Int))]) _ (fun x => [Own 2 I64 x.1 x.2.1 x.2.2.1]) _ (fun x => x.2.2.2 ≤ n.toNat ∧ OrdP (x.2.2.2 : Int) x.2.2.1 ∧ x.1.isSome = true) (fun x => n.toNat - x.2.2.2) (A1, 0, ([] : List Int), 0) (by (try dsimp only); exact ⟨by omega, ord_nil, hA1⟩) (Ent.cons rfl (Ent.cons rfl (Ent.nil _))) (Ent.cons (t := 0) rfl (Ent.cons (t := 1) rfl (Ent.nil _))) (Sub.keep 0 rfl (Sub.keep 0 rfl (Sub.refl _))) ?_
  rintro ⟨outA, outc, out, i⟩ ⟨hi, ho, hoS⟩
  dsimp only at hi ho hoS ⊢
  have hol := ho.1
  refine V.seq ?_
  refine V.seq ?_
  refine V.region ?_
  refine O.p rfl rfl rfl (Pu.move rfl rfl) ?_
  refine O.p rfl rfl rfl (Pu.move rfl rfl) ?_
  refine O.p rfl rfl rfl (Pu.lss rfl rfl rfl) ?_
  refine O.nil ?_
  refine X.next ?_
  refine V.condD rfl (fun c1 => ?_) (fun c1 => ?_)
  · skip
    refine V.skip ?_
    refine X.next ?_
    refine V.seq ?_
    refine V.block ?_
    refine V.seq ?_
    refine V.region ?_
    refine O.p rfl rfl rfl (Pu.move rfl rfl) ?_
    refine O.p rfl rfl rfl (Pu.move rfl rfl) ?_
    refine O.p rfl rfl rfl (Pu.add64 (r := ((i + 1 : Nat) : Int)) rfl (by omega) rfl rfl rfl) ?_
    refine O.e rfl rfl rfl (Ef.call call92 rfl rfl (Does.pre (fun w hw => hw.sub (Sub.keep 1 rfl (Sub.keep 0 rfl (Sub.refl _)))) (l01Next_ok _ _ _ s (↑(i + 1) : Int) w0 _   (by first | assumption | omega | (try dsimp only at *; omega)) (by first | assumption | omega | (try dsimp only at *; omega))))) ?_
    rintro _ _ rfl
    refine O.exi (fun r1 => ?_)
    refine O.sep ?_
    refine O.pur ?_
    rintro ⟨rfl, hr1_1, hr1_2, hr1_3⟩
    refine O.p rfl rfl rfl (Pu.assign rfl rfl) ?_
    refine O.nil ?_
    refine X.next ?_
    refine V.fact (fun w hw => Own.cap hw (i := 1) rfl) (fun hcap => ?_)
    have hol := ho.1
    have hdl : (out.drop r1.toNat).length = out.length - r1.toNat := List.length_drop
    refine V.draw mo (by kernel_rfl) (fun hwf => ?_)
    refine D.p 0 rfl rfl rfl rfl rfl rfl (Pu.move rfl rfl) ?_
    refine D.p 1 rfl rfl rfl rfl rfl rfl (Pu.move rfl rfl) ?_
    refine D.p 2 rfl rfl rfl rfl rfl rfl (Pu.sliceH ((r1).toNat) rfl Tryz.underlying34 sz2 rfl rfl (by omega) (by omega)) ?_
    refine D.p 4 rfl rfl rfl rfl rfl rfl (Pu.move rfl rfl) ?_
    refine D.p 7 rfl rfl rfl rfl rfl rfl (Pu.move rfl rfl) ?_
    refine D.p 8 rfl rfl rfl rfl rfl rfl (Pu.move rfl rfl) ?_
    refine D.p 9 rfl rfl rfl rfl rfl rfl (Pu.sliceL ((r1).toNat) rfl Tryz.underlying34 sz2 rfl rfl (by omega) (by omega)) ?_
    refine D.twoBC hwf (e1 := 5) (e2 := 3) rfl rfl rfl rfl rfl rfl rfl rfl rfl rfl rfl rfl rfl rfl rfl rfl rfl (fun H hs => Ef.build I64 ([(↑i : Int)] : List Int) rfl Tryz.underlying34 inf2 rfl rfl rfl (by first | decide | (simp; done)) (by kernel_rfl)) (fun H hs => Ef.call1 call187 rfl rfl (fun w hw => l01OwnN_ok (out.take ((r1).toNat)) _ _ _ w (by rw [List.length_take]; omega) (((Ld.own 1 (by exact rfl)) w (hs w hw)).take ((r1).toNat)) hoS (by rw [List.length_take]; omega))) ?_
    rintro A2 _ hA2
    refine D.exi (fun p1 => ?_)
    refine D.sep ?_
    refine D.pur1 ?_
    rintro ⟨rfl, hp1⟩
    have hpl : p1.2.length = r1.toNat := by rw [hp1, List.length_take]; omega
    refine D.eff hwf (e := 6) rfl rfl rfl rfl (Ef.append (xs := p1.2) (ys := ([(↑i : Int)] : List Int)) 0 rfl Tryz.underlying34 inf2 rfl rfl rfl rfl rfl rfl hA2 (Ld.own 1 (by exact rfl)) (by simp only [List.length_append, List.length_cons, List.length_nil] at *; omega) (by decide)) rfl rfl rfl ?_
    rintro _ _ ⟨A3, k1, rfl, rfl, hA3⟩ hs
    replace hA3 := hA3 (.inr (by simp))
    refine ⟨fun w hw => hw.sub (Sub.keep 2 rfl (Sub.keep 2 rfl (Sub.drop (Sub.drop (Sub.refl _))))), ?_⟩
    refine D.eff hwf (e := 10) rfl rfl rfl rfl (Ef.append (xs := (p1.2 ++ ([(↑i : Int)] : List Int))) (ys := (out.drop ((r1).toNat))) 0 rfl Tryz.underlying34 inf2 rfl rfl rfl rfl rfl (by first | (simp only [List.length_take, List.length_drop]; done) | (simp only [List.length_take, List.length_drop]; omega)) (by split <;> simp [hoS]) (fun w hw => ((Ld.own 3 (by exact rfl)) w hw).drop rfl (Own.cap hw (i := 3) (by exact rfl))) (by simp only [List.length_append, List.length_cons, List.length_nil] at *; omega) (by decide)) rfl rfl rfl ?_
    rintro _ _ ⟨A4, k2, rfl, rfl, hA4⟩ hs
    replace hA4 := hA4 (.inl hA3)
    refine ⟨fun w hw => hw.sub (Sub.keep 2 rfl (Sub.keep 2 rfl (Sub.drop (Sub.drop (Sub.refl _))))), ?_⟩
    refine D.last hwf (e := 11) rfl rfl rfl rfl rfl rfl (Pu.assign rfl rfl) ?_
    refine X.blockNormal ?_
    refine X.next ?_
    refine V.region ?_
    refine O.p rfl rfl rfl (Pu.move rfl rfl) ?_
    refine O.p rfl rfl rfl (Pu.add64 (r := ((i + 1 : Nat) : Int)) rfl (by omega) rfl rfl rfl) ?_
    refine O.p rfl rfl rfl (Pu.assign rfl rfl) ?_
    refine O.nil ?_
    exact X.back3 (A4, k2, ((p1.2 ++ ([(↑i : Int)] : List Int)) ++ (out.drop ((r1).toNat))), i + 1) (by (try dsimp only); exact ⟨by omega, by rw [hp1]; exact ord_ins ho, hA4⟩) (by first | omega | (dsimp only; omega)) (Ent.cons rfl (Ent.cons rfl (Ent.nil _))) (Ent.cons (t := 0) rfl (Ent.cons (t := 1) rfl (Ent.nil _))) (Sub.keep 0 rfl (Sub.keep 1 rfl (Sub.drop (Sub.drop (Sub.refl _)))))
  · skip
    refine V.exit ?_
    refine X.thenExit ?_
    refine X.thenExit ?_
    refine X.blockHit ?_
    refine X.next ?_
    refine V.seq ?_
    refine V.region ?_
    refine O.p rfl rfl rfl (Pu.move rfl rfl) ?_
    refine O.p rfl rfl rfl (Pu.assign rfl rfl) ?_
    refine O.nil ?_
    refine X.next ?_
    refine V.ret ?_
    refine X.ret1 rfl rfl ?_
    exact fun w hw => St.mkExi outA (St.mkExi outc (St.mkExi out (St.unsep (St.addPur ⟨rfl, (by have e : (i : Int) = n := (by omega); rw [← e]; exact ho)⟩ (St.unsep (hw.sub (Sub.keep 0 rfl (Sub.keep 0 rfl (Sub.refl _)))))))))
set_option maxRecDepth 100000 in
set_option maxHeartbeats 1000000 in
theorem l01Free_ok (v : Int) (bs : List B3) (b : B3) (A : Option Addr) (c : Nat) (w : World) (hx : Rd B3C w A bs) (lx : bs.length ≤ 4611686018427387904) : Does Tryz.prog 213 [.agg #[.int .i64 v, .slice A bs.length c], B3.v b] w [] (fun r => [.pur (r = .bool (decide (∀ d ∈ bs, common d b ≤ 1)))]) := by
  refine Does.enter Tryz.func213 rfl rfl [(0, .agg #[.int .i64 v, .slice A bs.length c]), (1, B3.v b)] rfl ?_
  refine V.seq ?_
  refine V.region ?_
  refine O.e rfl rfl rfl (Ef.box rfl rfl rfl) ?_
  rintro _ _ ⟨b1, rfl, rfl⟩
  refine O.e rfl rfl rfl (Ef.box rfl rfl rfl) ?_
  rintro _ _ ⟨b2, rfl, rfl⟩
  refine O.p rfl rfl rfl (Pu.assign rfl rfl) ?_
  refine O.nil ?_
  refine X.next ?_
  refine V.seq ?_
  refine V.seq ?_
  refine V.region ?_
  refine O.p rfl rfl rfl (Pu.assign rfl rfl) ?_
  refine O.nil ?_
  refine X.next ?_
  refine V.block ?_
  refine V.loop3 (β := Nat) (fun i => [(5, .int .i64 (i : Int))]) _ (fun i => []) _ (fun i => i ≤ bs.length ∧ ∀ j (hj : j < bs.length), j < i → common bs[j] b ≤ 1) (fun i => bs.length - i) 0 ⟨by omega, fun j hj h => by omega⟩ (Ent.cons rfl (Ent.nil _)) (Ent.cons (t := 2) rfl (Ent.cons (t := 3) rfl (Ent.nil _))) (Sub.keep 0 rfl (Sub.keep 0 rfl (Sub.nil _))) ?_
  rintro i ⟨hi, hn⟩
  refine V.seq ?_
  refine V.seq ?_
  refine V.region ?_
  refine O.p rfl rfl rfl (Pu.move rfl rfl) ?_
  refine O.p rfl rfl rfl (Pu.fieldAddr 1 rfl Tryz.underlying26 rfl sz24 rfl rfl) ?_
  refine O.p rfl rfl rfl (Pu.load rfl pl24 rfl (Ld.blk 1 rfl rfl)) ?_
  refine O.p rfl rfl rfl (Pu.len rfl Tryz.underlying24 rfl) ?_
  refine O.p rfl rfl rfl (Pu.lss rfl rfl rfl) ?_
  refine O.nil ?_
  refine X.next ?_
  refine V.condD rfl (fun c1 => ?_) (fun c1 => ?_)
  · skip
    refine V.skip ?_
    refine X.next ?_
    refine V.seq ?_
    refine V.block ?_
    refine V.seq ?_
    refine V.draw mo (by kernel_rfl) (fun hwf => ?_)
    refine D.p 0 rfl rfl rfl rfl rfl rfl (Pu.fieldAddr 1 rfl Tryz.underlying26 rfl sz24 rfl rfl) ?_
    refine D.p 1 rfl rfl rfl rfl rfl rfl (Pu.load rfl pl24 rfl (Ld.blk 1 rfl rfl)) ?_
    refine D.p 2 rfl rfl rfl rfl rfl rfl (Pu.move rfl rfl) ?_
    refine D.p 3 rfl rfl rfl rfl rfl rfl (Pu.indexAddr (i) rfl Tryz.underlying24 sz51 rfl rfl (by omega) (by omega) (hx.some (by omega))) ?_
    have e1 : i < bs.length := by omega
    refine D.p 4 rfl rfl rfl rfl rfl rfl (Pu.loadAgg' (v := B3.v (bs[i]'e1)) rfl rfl ag51 sz51 rfl rfl (Ld.rds (Ld.old hx) (k := i) e1 rfl)) ?_
    refine D.p 5 rfl rfl rfl rfl rfl rfl (Pu.loadAgg' (v := B3.v b) rfl rfl ag51 sz51 rfl rfl (Ld.whole 0 rfl)) ?_
    refine D.eff hwf (e := 6) rfl rfl rfl rfl (Ef.callP call223 rfl rfl (fun w hw => l01Common_ok _ _ _)) rfl rfl rfl ?_
    rintro _ _ ⟨rfl, rfl⟩ hs
    refine ⟨fun w hw => hw, ?_⟩
    refine D.p 7 rfl rfl rfl rfl rfl rfl (Pu.gtr rfl rfl rfl) ?_
    refine D.done hwf rfl ?_
    refine X.next ?_
    refine V.condD rfl (fun c2 => ?_) (fun c2 => ?_)
    · skip
      refine V.seq ?_
      refine V.region ?_
      refine O.p rfl rfl rfl (Pu.assign rfl rfl) ?_
      refine O.nil ?_
      refine X.next ?_
      refine V.ret ?_
      refine X.blockRet ?_
      refine X.thenRet ?_
      refine X.thenRet ?_
      refine X.blockRet ?_
      refine X.thenRet ?_
      refine X.ret1 rfl rfl ?_
      exact fun w hw => St.retP (boolF (fun h => by have := h _ (List.getElem_mem e1); omega)) hw
    · skip
      refine V.skip ?_
      refine X.blockNormal ?_
      refine X.next ?_
      refine V.region ?_
      refine O.p rfl rfl rfl (Pu.move rfl rfl) ?_
      refine O.p rfl rfl rfl (Pu.add64 (r := ((i + 1 : Nat) : Int)) rfl (by omega) rfl rfl rfl) ?_
      refine O.p rfl rfl rfl (Pu.assign rfl rfl) ?_
      refine O.nil ?_
      exact X.back3 (i + 1) ⟨by omega, fun j hj h => by by_cases e : j = i; (· subst e; omega); (· exact hn j hj (by omega))⟩ (by first | omega | (dsimp only; omega)) (Ent.cons rfl (Ent.nil _)) (Ent.cons (t := 2) rfl (Ent.cons (t := 3) rfl (Ent.nil _))) (Sub.keep 0 rfl (Sub.keep 0 rfl (Sub.nil _)))
  · skip
    refine V.exit ?_
    refine X.thenExit ?_
    refine X.thenExit ?_
    refine X.blockHit ?_
    refine X.next ?_
    refine V.seq ?_
    refine V.region ?_
    refine O.p rfl rfl rfl (Pu.assign rfl rfl) ?_
    refine O.nil ?_
    refine X.next ?_
    refine V.ret ?_
    refine X.ret1 rfl rfl ?_
    exact fun w hw => St.retP (boolT (fun d hd => by obtain ⟨j, hj, rfl⟩ := List.getElem_of_mem hd; exact hn j hj (by omega))) hw
end Go.Proofs.YtgjfcepnkllklaaGreat
