/-
  Contracts, part 8.
-/
import Derived.Test.YtgjfcepnkllklaaGreatKb7
set_option linter.unusedVariables false
set_option linter.unusedSimpArgs false
namespace Go.Proofs.YtgjfcepnkllklaaGreat
open Go Go.RowKit Go.Vc Go.Proofs
set_option maxRecDepth 100000 in
set_option maxHeartbeats 1000000 in
theorem l01Draw_ok (cA : Option Addr) (cc : Nat) (code : List UInt8) (s : Nat) (w0 : World) (H : List Assn) (hc : Rd U8C w0 cA code) (lc : code.length ≤ 1048576) : Does Tryz.prog 89 [.pointer (some ⟨s, 0, none⟩)] w0 (SrcK 132 cA cc code s :: H) (fun rv_ => [.exi fun (pv : Int) => .exi fun (rA : Option Addr) => .exi fun (rc : Nat) => .exi fun (r : List B3) => .sep (.pur (rv_ = .agg #[.int .i64 pv, .slice rA r.length rc] ∧ DrS 4100 pv r)) (.sep (Own 51 B3C rA rc r) (SrcK 132 cA cc code s))] ++ H) := by
  refine Does.enter Tryz.func89 rfl rfl [(0, .pointer (some ⟨s, 0, none⟩))] rfl ?_
  refine V.seq ?_
  refine V.region ?_
  refine O.e rfl rfl rfl (Ef.alloc rfl zr26 rfl) ?_
  rintro _ _ ⟨b1, rfl, rfl⟩
  refine O.nil ?_
  refine X.next ?_
  refine V.seq ?_
  refine V.seq ?_
  refine V.region ?_
  refine O.p rfl rfl rfl (Pu.move rfl rfl) ?_
  refine O.e rfl rfl rfl (Ef.call call92 rfl rfl (Does.pre (fun w hw => hw.sub (Sub.keep 1 rfl (Sub.keep 0 rfl (Sub.refl _)))) (l01Next_ok _ _ _ s (4 : Int) w0 _   (by first | assumption | omega | (try dsimp only at *; omega)) (by first | assumption | omega | (try dsimp only at *; omega))))) ?_
  rintro _ _ rfl
  refine O.exi (fun r1 => ?_)
  refine O.sep ?_
  refine O.pur ?_
  rintro ⟨rfl, hr1_1, hr1_2, hr1_3⟩
  refine O.nil ?_
  refine X.next ?_
  refine V.block ?_
  refine V.seq ?_
  refine V.region ?_
  refine O.p rfl rfl rfl (Pu.eql rfl rfl rfl) ?_
  refine O.p rfl rfl rfl (Pu.assign rfl rfl) ?_
  refine O.nil ?_
  refine X.next ?_
  refine V.condD rfl (fun c1 => ?_) (fun c1 => ?_)
  · skip
    refine V.seq ?_
    refine V.region ?_
    refine O.p rfl rfl rfl (Pu.move rfl rfl) ?_
    refine O.e rfl rfl rfl (Ef.call call184 rfl rfl (Does.pre (fun w hw => hw.sub (Sub.keep 0 rfl (Sub.keep 0 rfl (Sub.refl _)))) (l01DrawFull_ok _ _ _ s w0 _   (by first | assumption | omega | (try dsimp only at *; omega)) (by first | assumption | omega | (try dsimp only at *; omega))))) ?_
    rintro _ _ rfl
    refine O.exi (fun pv1 => ?_)
    refine O.exi (fun r2A => ?_)
    refine O.exi (fun r2c => ?_)
    refine O.exi (fun r2 => ?_)
    refine O.sep ?_
    refine O.pur ?_
    rintro ⟨rfl, hpv1_1⟩
    refine O.sep ?_
    refine O.s rfl rfl (Ef.storeAll 2 rfl sz26 rfl rfl rfl rfl (by simp [Value.oneCell']) rfl) ?_
    rintro _ _ rfl
    refine O.nil ?_
    refine X.next ?_
    refine V.ret ?_
    refine X.blockRet ?_
    refine X.thenRet ?_
    refine X.retCell rfl ag26 sz26 rfl rfl (Ld.whole 2 rfl) ?_
    exact fun w hw => St.mkExi pv1 (St.mkExi r2A (St.mkExi r2c (St.mkExi r2 (St.unsep (St.addPur ⟨rfl, (by first | exact hpv1_1 | exact hpv2_1 | exact DrS.mono hr3_1 (by decide) | exact DrS.mono hr2_1 (by decide))⟩ (St.unsep (hw.sub (Sub.keep 0 rfl (Sub.keep 0 rfl (Sub.drop (Sub.refl _)))))))))))
  · skip
    refine V.seq ?_
    refine V.region ?_
    refine O.p rfl rfl rfl (Pu.eql rfl rfl rfl) ?_
    refine O.p rfl rfl rfl (Pu.assign rfl rfl) ?_
    refine O.nil ?_
    refine X.next ?_
    refine V.condD rfl (fun c2 => ?_) (fun c2 => ?_)
    · skip
      refine V.seq ?_
      refine V.region ?_
      refine O.p rfl rfl rfl (Pu.move rfl rfl) ?_
      refine O.e rfl rfl rfl (Ef.call call184 rfl rfl (Does.pre (fun w hw => hw.sub (Sub.keep 0 rfl (Sub.keep 0 rfl (Sub.refl _)))) (l01DrawFull_ok _ _ _ s w0 _   (by first | assumption | omega | (try dsimp only at *; omega)) (by first | assumption | omega | (try dsimp only at *; omega))))) ?_
      rintro _ _ rfl
      refine O.exi (fun pv2 => ?_)
      refine O.exi (fun r3A => ?_)
      refine O.exi (fun r3c => ?_)
      refine O.exi (fun r3 => ?_)
      refine O.sep ?_
      refine O.pur ?_
      rintro ⟨rfl, hpv2_1⟩
      refine O.sep ?_
      refine O.e rfl rfl rfl (Ef.alloc rfl zr26 rfl) ?_
      rintro _ _ ⟨b2, rfl, rfl⟩
      refine O.s rfl rfl (Ef.storeAll 0 rfl sz26 rfl rfl rfl rfl (by simp [Value.oneCell']) rfl) ?_
      rintro _ _ rfl
      refine O.nil ?_
      refine X.next ?_
      refine V.seq ?_
      refine V.seq ?_
      refine V.region ?_
      refine O.p rfl rfl rfl (Pu.move rfl rfl) ?_
      refine O.e rfl rfl rfl (Ef.call call92 rfl rfl (Does.pre (fun w hw => hw.sub (Sub.keep 2 rfl (Sub.keep 0 rfl (Sub.keep 0 rfl (Sub.keep 0 rfl (Sub.refl _)))))) (l01Next_ok _ _ _ s (5 : Int) w0 _   (by first | assumption | omega | (try dsimp only at *; omega)) (by first | assumption | omega | (try dsimp only at *; omega))))) ?_
      rintro _ _ rfl
      refine O.exi (fun r4 => ?_)
      refine O.sep ?_
      refine O.pur ?_
      rintro ⟨rfl, hr4_1, hr4_2, hr4_3⟩
      refine O.p rfl rfl rfl (Pu.assign rfl rfl) ?_
      refine O.nil ?_
      refine X.next ?_
      refine V.block ?_
      refine V.loop3 (β := Int × (Option Addr) × Nat × (List B3)) (fun x => [(4, .int .i64 (x.1 : Int))]) _ (fun x => [Blk b2 [.int .i64 pv2, .slice x.2.1 x.2.2.2.length x.2.2.1] 26, Own 51 B3C x.2.1 x.2.2.1 x.2.2.2]) _ (fun x => x.1 ≤ 4 ∧ DrS 4100 pv2 x.2.2.2) (fun x => x.1.toNat) (r4, r3A, r3c, r3) (by (try dsimp only); exact ⟨by omega, hpv2_1⟩) (Ent.cons rfl (Ent.nil _)) (Ent.cons (t := 0) rfl (Ent.cons (t := 2) rfl (Ent.cons (t := 3) rfl (Ent.nil _)))) (Sub.keep 1 rfl (Sub.keep 1 rfl (Sub.keep 0 rfl (Sub.keep 0 rfl (Sub.refl _))))) ?_
      rintro ⟨k, xsA, xsc, xs⟩ ⟨hk, hDx⟩
      dsimp only at hk hDx ⊢
      refine V.seq ?_
      refine V.seq ?_
      refine V.region ?_
      refine O.p rfl rfl rfl (Pu.move rfl rfl) ?_
      refine O.p rfl rfl rfl (Pu.gtr rfl rfl rfl) ?_
      refine O.p rfl rfl rfl (Pu.move rfl rfl) ?_
      refine O.splitD 19 rfl (fun c3 => ?_) (fun c3 => ?_)
      · skip
        refine O.gp rfl rfl rfl rfl rfl (Pu.fieldAddr 1 rfl Tryz.underlying26 rfl sz24 rfl rfl) ?_
        refine O.gp rfl rfl rfl rfl rfl (Pu.load rfl pl24 rfl (Ld.blk 0 rfl rfl)) ?_
        refine O.gp rfl rfl rfl rfl rfl (Pu.len rfl Tryz.underlying24 rfl) ?_
        refine O.gp rfl rfl rfl rfl rfl (Pu.gtr rfl rfl rfl) ?_
        refine O.p rfl rfl rfl (Pu.pickT rfl rfl rfl) ?_
        refine O.nil ?_
        refine X.next ?_
        refine V.condD rfl (fun c4 => ?_) (fun c4 => ?_)
        · skip
          refine V.skip ?_
          refine X.next ?_
          refine V.seq ?_
          refine V.block ?_
          have hlx := hDx.2.2
          refine V.drawS mo (by kernel_rfl) (Sub.keep 0 rfl (Sub.keep 2 rfl (Sub.drop (Sub.drop (Sub.refl _))))) (fun hwf => ?_)
          refine D.p 0 rfl rfl rfl rfl rfl rfl (Pu.loadAgg rfl ag26 sz26 rfl rfl (Ld.whole 0 rfl)) ?_
          refine D.p 1 rfl rfl rfl rfl rfl rfl (Pu.move rfl rfl) ?_
          refine D.p 2 rfl rfl rfl rfl rfl rfl (Pu.fieldAddr 1 rfl Tryz.underlying26 rfl sz24 rfl rfl) ?_
          refine D.p 3 rfl rfl rfl rfl rfl rfl (Pu.load rfl pl24 rfl (Ld.blk 0 rfl rfl)) ?_
          refine D.p 4 rfl rfl rfl rfl rfl rfl (Pu.len rfl Tryz.underlying24 rfl) ?_
          refine D.eff hwf (e := 5) rfl rfl rfl rfl (Ef.call call92 rfl rfl (Does.pre (fun w hw => hw.sub (Sub.keep 2 rfl (Sub.keep 0 rfl (Sub.keep 0 rfl (Sub.keep 0 rfl (Sub.refl _)))))) (l01Next_ok _ _ _ s (↑xs.length : Int) w0 _   (by first | assumption | omega | (try dsimp only at *; omega)) (by first | assumption | omega | (try dsimp only at *; omega))))) rfl rfl rfl ?_
          rintro _ _ rfl hs
          refine ⟨fun w hw => hw.tail.sub (Sub.keep 0 rfl (Sub.keep 1 rfl (Sub.drop (Sub.refl _)))), ?_⟩
          refine D.exi (fun r5 => ?_)
          refine D.sep ?_
          refine D.pur1 ?_
          rintro ⟨rfl, hr5_1, hr5_2, hr5_3⟩
          refine D.eff hwf (e := 6) rfl rfl rfl rfl (Ef.call call185 rfl rfl (Does.pre (fun w hw => hw.sub (Sub.keep 2 rfl (Sub.keep 0 rfl (Sub.keep 0 rfl (Sub.keep 0 rfl (Sub.refl _)))))) (l01Without_ok  pv2 xs r5 _ _ w0 _   (by omega) (by omega)))) rfl rfl rfl ?_
          rintro _ _ rfl hs
          refine ⟨fun w hw => hw.tail.sub (Sub.keep 1 rfl (Sub.keep 1 rfl (Sub.drop (Sub.refl _)))), ?_⟩
          refine D.exi (fun r6A => ?_)
          refine D.exi (fun r6c => ?_)
          refine D.exi (fun r6 => ?_)
          refine D.sep ?_
          refine D.pur1 ?_
          rintro ⟨rfl, hr6_1⟩
          refine D.effX (Hs' := []) hwf (e := 7) rfl rfl rfl rfl (Ef.storeAll 2 rfl sz26 rfl rfl rfl rfl (by simp [Value.oneCell']) rfl) rfl [] rfl (List.forall_mem_nil _) ?_
          rintro _ _ rfl
          refine ⟨fun w hw => hw.sub (Sub.nil _), ?_⟩
          refine D.done hwf rfl ?_
          refine X.blockNormal ?_
          refine X.next ?_
          refine V.region ?_
          refine O.p rfl rfl rfl (Pu.move rfl rfl) ?_
          refine O.p rfl rfl rfl (Pu.sub64 rfl (by omega) rfl rfl rfl) ?_
          refine O.p rfl rfl rfl (Pu.assign rfl rfl) ?_
          refine O.nil ?_
          exact X.back3 ((k - (1 : Int)), r6A, r6c, r6) (by (try dsimp only); exact ⟨by omega, hDx.cut hr6_1⟩) (by first | omega | (dsimp only; omega)) (Ent.cons rfl (Ent.nil _)) (Ent.cons (t := 0) rfl (Ent.cons (t := 2) rfl (Ent.cons (t := 3) rfl (Ent.nil _)))) (Sub.keep 2 rfl (Sub.keep 0 rfl (Sub.keep 0 rfl (Sub.keep 0 rfl (Sub.refl _)))))
        · skip
          refine V.exit ?_
          refine X.thenExit ?_
          refine X.thenExit ?_
          refine X.blockHit ?_
          refine X.next ?_
          refine V.seq ?_
          refine V.region ?_
          refine O.p rfl rfl rfl (Pu.loadAgg rfl ag26 sz26 rfl rfl (Ld.whole 0 rfl)) ?_
          refine O.s rfl rfl (Ef.storeAll 3 rfl sz26 rfl rfl rfl rfl (by simp [Value.oneCell']) rfl) ?_
          rintro _ _ rfl
          refine O.nil ?_
          refine X.next ?_
          refine V.ret ?_
          refine X.blockRet ?_
          refine X.thenRet ?_
          refine X.retCell rfl ag26 sz26 rfl rfl (Ld.whole 3 rfl) ?_
          exact fun w hw => St.mkExi pv2 (St.mkExi xsA (St.mkExi xsc (St.mkExi xs (St.unsep (St.addPur ⟨rfl, hDx⟩ (St.unsep (hw.sub (Sub.keep 1 rfl (Sub.keep 1 rfl (Sub.drop (Sub.drop (Sub.refl _))))))))))))
      · skip
        refine O.gs rfl rfl rfl rfl rfl rfl ?_
        refine O.gs rfl rfl rfl rfl rfl rfl ?_
        refine O.gs rfl rfl rfl rfl rfl rfl ?_
        refine O.gs rfl rfl rfl rfl rfl rfl ?_
        refine O.p rfl rfl rfl (Pu.pickF rfl rfl rfl) ?_
        refine O.nil ?_
        refine X.next ?_
        refine V.condF rfl ?_
        refine V.exit ?_
        refine X.thenExit ?_
        refine X.thenExit ?_
        refine X.blockHit ?_
        refine X.next ?_
        refine V.seq ?_
        refine V.region ?_
        refine O.p rfl rfl rfl (Pu.loadAgg rfl ag26 sz26 rfl rfl (Ld.whole 0 rfl)) ?_
        refine O.s rfl rfl (Ef.storeAll 3 rfl sz26 rfl rfl rfl rfl (by simp [Value.oneCell']) rfl) ?_
        rintro _ _ rfl
        refine O.nil ?_
        refine X.next ?_
        refine V.ret ?_
        refine X.blockRet ?_
        refine X.thenRet ?_
        refine X.retCell rfl ag26 sz26 rfl rfl (Ld.whole 3 rfl) ?_
        exact fun w hw => St.mkExi pv2 (St.mkExi xsA (St.mkExi xsc (St.mkExi xs (St.unsep (St.addPur ⟨rfl, hDx⟩ (St.unsep (hw.sub (Sub.keep 1 rfl (Sub.keep 1 rfl (Sub.drop (Sub.drop (Sub.refl _))))))))))))
    · skip
      refine V.skip ?_
      refine X.blockNormal ?_
      refine X.next ?_
      refine V.seq ?_
      refine V.region ?_
      refine O.p rfl rfl rfl (Pu.move rfl rfl) ?_
      refine O.p rfl rfl rfl (Pu.move rfl rfl) ?_
      refine O.e rfl rfl rfl (Ef.call call92 rfl rfl (Does.pre (fun w hw => hw.sub (Sub.keep 0 rfl (Sub.keep 0 rfl (Sub.refl _)))) (l01Next_ok _ _ _ s (13 : Int) w0 _   (by first | assumption | omega | (try dsimp only at *; omega)) (by first | assumption | omega | (try dsimp only at *; omega))))) ?_
      rintro _ _ rfl
      refine O.exi (fun r7 => ?_)
      refine O.sep ?_
      refine O.pur ?_
      rintro ⟨rfl, hr7_1, hr7_2, hr7_3⟩
      refine O.p rfl rfl rfl (Pu.add64 rfl (by omega) rfl rfl rfl) ?_
      refine O.e rfl rfl rfl (Ef.call call186 rfl rfl (Does.pre (fun w hw => hw.sub (Sub.keep 0 rfl (Sub.keep 0 rfl (Sub.refl _)))) (l01DrawOf_ok _ _ _ s ((3 : Int) + r7) w0 _   (by first | assumption | omega | (try dsimp only at *; omega)) (by first | assumption | omega | (try dsimp only at *; omega)) (by omega)))) ?_
      rintro _ _ rfl
      refine O.exi (fun r8A => ?_)
      refine O.exi (fun r8c => ?_)
      refine O.exi (fun r8 => ?_)
      refine O.sep ?_
      refine O.pur ?_
      rintro ⟨rfl, hr8_1⟩
      refine O.sep ?_
      refine O.s rfl rfl (Ef.storeAll 2 rfl sz26 rfl rfl rfl rfl (by simp [Value.oneCell']) rfl) ?_
      rintro _ _ rfl
      refine O.nil ?_
      refine X.next ?_
      refine V.ret ?_
      refine X.retCell rfl ag26 sz26 rfl rfl (Ld.whole 2 rfl) ?_
      exact fun w hw => St.mkExi ((3 : Int) + r7) (St.mkExi r8A (St.mkExi r8c (St.mkExi r8 (St.unsep (St.addPur ⟨rfl, (by first | exact hpv1_1 | exact hpv2_1 | exact DrS.mono hr3_1 (by decide) | exact DrS.mono hr8_1 (by decide))⟩ (St.unsep (hw.sub (Sub.keep 0 rfl (Sub.keep 0 rfl (Sub.drop (Sub.refl _)))))))))))
set_option maxRecDepth 100000 in
set_option maxHeartbeats 1000000 in
theorem l01Bad_ok (cA : Option Addr) (cc : Nat) (code : List UInt8) (s : Nat) (v : Int) (bs : List B3) (A : Option Addr) (c : Nat) (w0 : World) (H : List Assn) (hc : Rd U8C w0 cA code) (lc : code.length ≤ 1048576) (hD : DrS 4100 v bs) : Does Tryz.prog 94 [.pointer (some ⟨s, 0, none⟩), .agg #[.int .i64 v, .slice A bs.length c]] w0 (SrcK 132 cA cc code s :: Own 51 B3C A c bs :: H) (fun rv_ => [.exi fun (pv : Int) => .exi fun (rA : Option Addr) => .exi fun (rc : Nat) => .exi fun (r : List B3) => .sep (.pur (rv_ = .agg #[.int .i64 pv, .slice rA r.length rc] ∧ (-1 ≤ pv ∧ pv ≤ 16) ∧ r.length ≤ 4200)) (.sep (Own 51 B3C rA rc r) (SrcK 132 cA cc code s))] ++ H) := by
  refine Does.enter Tryz.func94 rfl rfl [(0, .pointer (some ⟨s, 0, none⟩)), (1, .agg #[.int .i64 v, .slice A bs.length c])] rfl ?_
  have hv := hD.1
  have hl := hD.2.2
  refine V.seq ?_
  refine V.region ?_
  refine O.e rfl rfl rfl (Ef.box rfl rfl rfl) ?_
  rintro _ _ ⟨b1, rfl, rfl⟩
  refine O.e rfl rfl rfl (Ef.alloc rfl zr26 rfl) ?_
  rintro _ _ ⟨b2, rfl, rfl⟩
  refine O.nil ?_
  refine X.next ?_
  refine V.seq ?_
  refine V.region ?_
  refine O.e rfl rfl rfl (Ef.build B3C ([] : List B3) rfl Tryz.underlying24 inf51 rfl rfl rfl (by first | decide | (simp; done)) (by kernel_rfl)) ?_
  rintro _ _ ⟨A1, hA1, rfl, rfl⟩
  refine O.p rfl rfl rfl (Pu.fieldAddr 1 rfl Tryz.underlying26 rfl sz24 rfl rfl) ?_
  refine O.p rfl rfl rfl (Pu.load rfl pl24 rfl (Ld.blk 2 rfl rfl)) ?_
  refine O.e rfl rfl rfl (Ef.appendN (xs := ([] : List B3)) (ys := bs) 0 rfl Tryz.underlying24 inf51 rfl rfl rfl rfl rfl rfl (fun w hw h => Own.nilc hw (i := 4) (by exact rfl) h) (Ld.own 4 (by exact rfl)) (by simp only [List.length_append, List.length_cons, List.length_nil] at *; omega) (by decide)) ?_
  rintro _ _ ⟨A2, k1, rfl, rfl, hA2⟩
  replace hA2 := hA2 (.inl hA1)
  refine O.p rfl rfl rfl (Pu.assign rfl rfl) ?_
  refine O.nil ?_
  refine X.next ?_
  refine V.seq ?_
  refine V.seq ?_
  refine V.region ?_
  refine O.p rfl rfl rfl (Pu.move rfl rfl) ?_
  refine O.e rfl rfl rfl (Ef.call call92 rfl rfl (Does.pre (fun w hw => hw.sub (Sub.keep 3 rfl (Sub.keep 0 rfl (Sub.keep 0 rfl (Sub.keep 0 rfl (Sub.keep 0 rfl (Sub.refl _))))))) (l01Next_ok _ _ _ s (50 : Int) w0 _   (by first | assumption | omega | (try dsimp only at *; omega)) (by first | assumption | omega | (try dsimp only at *; omega))))) ?_
  rintro _ _ rfl
  refine O.exi (fun r1 => ?_)
  refine O.sep ?_
  refine O.pur ?_
  rintro ⟨rfl, hr1_1, hr1_2, hr1_3⟩
  refine O.nil ?_
  refine X.next ?_
  refine V.block ?_
  refine V.seq ?_
  refine V.region ?_
  refine O.p rfl rfl rfl (Pu.eql rfl rfl rfl) ?_
  refine O.p rfl rfl rfl (Pu.assign rfl rfl) ?_
  refine O.nil ?_
  refine X.next ?_
  refine V.condD rfl (fun c1 => ?_) (fun c1 => ?_)
  · skip
    refine V.seq ?_
    refine V.region ?_
    refine O.p rfl rfl rfl (Pu.move rfl rfl) ?_
    refine O.e rfl rfl rfl (Ef.build I64 ([(2 : Int), (16 : Int), (0 : Int), (-1 : Int)] : List Int) rfl Tryz.underlying34 inf2 rfl rfl rfl (by first | decide | (simp; done)) (by kernel_rfl)) ?_
    rintro _ _ ⟨A3, hA3, rfl, rfl⟩
    refine O.e rfl rfl rfl (Ef.call call93 rfl rfl (Does.pre (fun w hw => hw.sub (Sub.keep 1 rfl (Sub.keep 0 rfl (Sub.keep 0 rfl (Sub.keep 0 rfl (Sub.keep 0 rfl (Sub.keep 0 rfl (Sub.refl _)))))))) (l01Pick_ok _ _ _ s ([(2 : Int), (16 : Int), (0 : Int), (-1 : Int)] : List Int) _ _ w0 _ (Ld.own 0 (by exact rfl)) (by first | omega | (simp only [tops_len, conts_len, bl, List.length_append, List.length_cons, List.length_nil] at *; omega)) (by first | assumption | omega | (try dsimp only at *; omega)) (by first | assumption | omega | (try dsimp only at *; omega)) (by first | (simp; done) | omega)))) ?_
    rintro _ _ rfl
    refine O.exi (fun r2 => ?_)
    refine O.sep ?_
    refine O.pur ?_
    rintro ⟨rfl, hr2_1⟩
    have hpk : r2 = 2 ∨ r2 = 16 ∨ r2 = 0 ∨ r2 = -1 := by simpa using hr2_1
    refine O.p rfl rfl rfl (Pu.move rfl rfl) ?_
    refine O.p rfl rfl rfl (Pu.buildS (cs := [.int .i64 r2, .slice A2 ((([] : List B3) ++ bs).length) k1]) rfl rfl Tryz.underlying26 zr26 (by kernel_rfl) rfl (by kernel_rfl)) ?_
    refine O.s rfl rfl (Ef.storeAll 3 rfl sz26 rfl rfl rfl rfl (by simp [Value.oneCell']) rfl) ?_
    rintro _ _ rfl
    refine O.nil ?_
    refine X.next ?_
    refine V.ret ?_
    refine X.blockRet ?_
    refine X.thenRet ?_
    refine X.retCell rfl ag26 sz26 rfl rfl (Ld.whole 3 rfl) ?_
    exact fun w hw => St.mkExi r2 (St.mkExi A2 (St.mkExi k1 (St.mkExi (([] : List B3) ++ bs) (St.unsep (St.addPur ⟨(by first | rfl | (simp only [List.length_set])), by omega, by first | omega | (simp only [List.length_append, List.length_cons, List.length_nil, List.length_set]; omega)⟩ (St.unsep (hw.sub (Sub.keep 2 rfl (Sub.keep 0 rfl (Sub.drop (Sub.drop (Sub.drop (Sub.drop (Sub.refl _))))))))))))))
  · skip
    refine V.seq ?_
    refine V.region ?_
    refine O.p rfl rfl rfl (Pu.eql rfl rfl rfl) ?_
    refine O.p rfl rfl rfl (Pu.assign rfl rfl) ?_
    refine O.nil ?_
    refine X.next ?_
    refine V.condD rfl (fun c2 => ?_) (fun c2 => ?_)
    · skip
      refine V.drawS mo (by kernel_rfl) (Sub.keep 2 rfl (Sub.keep 2 rfl (Sub.keep 2 rfl (Sub.drop (Sub.drop (Sub.refl _)))))) (fun hwf => ?_)
      refine D.p 0 rfl rfl rfl rfl rfl rfl (Pu.move rfl rfl) ?_
      refine D.p 1 rfl rfl rfl rfl rfl rfl (Pu.move rfl rfl) ?_
      refine D.p 3 rfl rfl rfl rfl rfl rfl (Pu.move rfl rfl) ?_
      refine D.p 4 rfl rfl rfl rfl rfl rfl (Pu.fieldAddr 0 rfl Tryz.underlying26 rfl sz2 rfl rfl) ?_
      refine D.p 5 rfl rfl rfl rfl rfl rfl (Pu.load rfl pl2 rfl (Ld.blk 1 rfl rfl)) ?_
      refine D.p 8 rfl rfl rfl rfl rfl rfl (Pu.move rfl rfl) ?_
      refine D.p 9 rfl rfl rfl rfl rfl rfl (Pu.fieldAddr 0 rfl Tryz.underlying26 rfl sz2 rfl rfl) ?_
      refine D.p 10 rfl rfl rfl rfl rfl rfl (Pu.load rfl pl2 rfl (Ld.blk 1 rfl rfl)) ?_
      refine D.p 11 rfl rfl rfl rfl rfl rfl (Pu.fieldAddr 0 rfl Tryz.underlying26 rfl sz2 rfl rfl) ?_
      refine D.p 12 rfl rfl rfl rfl rfl rfl (Pu.load rfl pl2 rfl (Ld.blk 1 rfl rfl)) ?_
      refine D.p 13 rfl rfl rfl rfl rfl rfl (Pu.sub64 rfl (by omega) rfl rfl rfl) ?_
      refine D.either3 hwf (e1 := 2) (e2 := 6) (e3 := 14) rfl ?_ ?_ ?_
      · skip
        refine ⟨_, _, rfl, rfl, fun _ _ => wanted_none rfl _, Ef.call call92 rfl rfl (Does.pre (fun w hw => hw.sub (Sub.keep 0 rfl (Sub.keep 0 rfl (Sub.keep 0 rfl (Sub.keep 0 rfl (Sub.keep 0 rfl (Sub.refl _))))))) (l01Next_ok _ _ _ s (3 : Int) w0 _   (by first | assumption | omega | (try dsimp only at *; omega)) (by first | assumption | omega | (try dsimp only at *; omega)))), rfl, rfl, ?_⟩
        rintro _ _ rfl hs
        refine ⟨fun w hw => hw.tail.sub (Sub.keep 1 rfl (Sub.keep 1 rfl (Sub.keep 1 rfl (Sub.drop (Sub.refl _))))), ?_⟩
        refine D.exi (fun r3 => ?_)
        refine D.sep ?_
        refine D.pur1 ?_
        rintro ⟨rfl, hr3_1, hr3_2, hr3_3⟩
        refine D.either hwf (e1 := 6) (e2 := 14) rfl ?_ ?_
        · skip
          refine ⟨_, _, rfl, rfl, fun _ _ => wanted_none rfl _, Ef.build I64 ([(1 : Int), (2 : Int), v] : List Int) rfl Tryz.underlying34 inf2 rfl rfl rfl (by first | decide | (simp; done)) (by kernel_rfl), rfl, rfl, ?_⟩
          rintro _ _ ⟨A4, hA4, rfl, rfl⟩ hs
          refine ⟨fun w hw => hw.sub (Sub.keep 3 rfl (Sub.keep 3 rfl (Sub.keep 3 rfl (Sub.drop (Sub.drop (Sub.drop (Sub.refl _))))))), ?_⟩
          refine D.either hwf (e1 := 7) (e2 := 14) rfl ?_ ?_
          · skip
            refine ⟨_, _, rfl, rfl, fun _ _ => wanted_none rfl _, Ef.call call93 rfl rfl (Does.pre (fun w hw => hw.sub (Sub.keep 1 rfl (Sub.keep 0 rfl (Sub.keep 0 rfl (Sub.keep 0 rfl (Sub.keep 0 rfl (Sub.keep 0 rfl (Sub.refl _)))))))) (l01Pick_ok _ _ _ s ([(1 : Int), (2 : Int), v] : List Int) _ _ w0 _ (Ld.own 0 (by exact rfl)) (by first | omega | (simp only [tops_len, conts_len, bl, List.length_append, List.length_cons, List.length_nil] at *; omega)) (by first | assumption | omega | (try dsimp only at *; omega)) (by first | assumption | omega | (try dsimp only at *; omega)) (by first | (simp; done) | omega))), rfl, rfl, ?_⟩
            rintro _ _ rfl hs
            refine ⟨fun w hw => hw.tail.sub (Sub.keep 2 rfl (Sub.keep 2 rfl (Sub.keep 2 rfl (Sub.drop (Sub.drop (Sub.refl _)))))), ?_⟩
            refine D.exi (fun r4 => ?_)
            refine D.sep ?_
            refine D.pur1 ?_
            rintro ⟨rfl, hr4_1⟩
            refine D.eff hwf (e := 14) rfl rfl rfl rfl (Ef.build I64 ([(2 : Int), v, (v - (1 : Int))] : List Int) rfl Tryz.underlying34 inf2 rfl rfl rfl (by first | decide | (simp; done)) (by kernel_rfl)) rfl rfl rfl ?_
            rintro _ _ ⟨A5, hA5, rfl, rfl⟩ hs
            refine ⟨fun w hw => hw.sub (Sub.keep 4 rfl (Sub.keep 4 rfl (Sub.keep 4 rfl (Sub.drop (Sub.drop (Sub.drop (Sub.drop (Sub.refl _)))))))), ?_⟩
            refine D.eff hwf (e := 15) rfl rfl rfl rfl (Ef.call call93 rfl rfl (Does.pre (fun w hw => hw.sub (Sub.keep 1 rfl (Sub.keep 0 rfl (Sub.keep 0 rfl (Sub.keep 0 rfl (Sub.keep 0 rfl (Sub.keep 0 rfl (Sub.keep 0 rfl (Sub.refl _))))))))) (l01Pick_ok _ _ _ s ([(2 : Int), v, (v - (1 : Int))] : List Int) _ _ w0 _ (Ld.own 0 (by exact rfl)) (by first | omega | (simp only [tops_len, conts_len, bl, List.length_append, List.length_cons, List.length_nil] at *; omega)) (by first | assumption | omega | (try dsimp only at *; omega)) (by first | assumption | omega | (try dsimp only at *; omega)) (by first | (simp; done) | omega)))) rfl rfl rfl ?_
            rintro _ _ rfl hs
            refine ⟨fun w hw => hw.tail.sub (Sub.keep 3 rfl (Sub.keep 3 rfl (Sub.keep 3 rfl (Sub.drop (Sub.drop (Sub.drop (Sub.refl _))))))), ?_⟩
            refine D.exi (fun r5 => ?_)
            refine D.sep ?_
            refine D.pur1 ?_
            rintro ⟨rfl, hr5_1⟩
            refine D.p 16 rfl rfl rfl rfl rfl rfl (Pu.buildA (cs := [.int .i64 r3, .int .i64 r4, .int .i64 r5]) (v := B3.v (r3, r4, r5)) rfl rfl Tryz.underlying51 zr51 sz2 rfl (by kernel_rfl)) ?_
            refine D.eff hwf (e := 17) rfl rfl rfl rfl (Ef.build B3C ([(r3, r4, r5)] : List B3) rfl Tryz.underlying24 inf51 rfl rfl rfl (by first | decide | (simp; done)) (by kernel_rfl)) rfl rfl rfl ?_
            rintro _ _ ⟨A6, hA6, rfl, rfl⟩ hs
            refine ⟨fun w hw => hw.sub (Sub.keep 5 rfl (Sub.keep 5 rfl (Sub.keep 5 rfl (Sub.drop (Sub.drop (Sub.drop (Sub.drop (Sub.drop (Sub.refl _))))))))), ?_⟩
            refine D.eff hwf (e := 18) rfl rfl rfl rfl (Ef.append (xs := (([] : List B3) ++ bs)) (ys := ([(r3, r4, r5)] : List B3)) 4 rfl Tryz.underlying24 inf51 rfl rfl rfl rfl rfl rfl hA6 (Ld.own 0 (by exact rfl)) (by simp only [List.length_append, List.length_cons, List.length_nil] at *; omega) (by decide)) rfl rfl rfl ?_
            rintro _ _ ⟨A7, k2, rfl, rfl, hA7⟩ hs
            replace hA7 := hA7 (.inr (by simp))
            refine ⟨fun w hw => hw.sub (Sub.keep 5 rfl (Sub.keep 5 rfl (Sub.keep 5 rfl (Sub.drop (Sub.drop (Sub.drop (Sub.drop (Sub.drop (Sub.refl _))))))))), ?_⟩
            refine D.last hwf (e := 19) rfl rfl rfl rfl rfl rfl (Pu.assign rfl rfl) ?_
            refine X.blockNormal ?_
            refine X.next ?_
            refine V.seq ?_
            refine V.region ?_
            refine O.p rfl rfl rfl (Pu.fieldAddr 0 rfl Tryz.underlying26 rfl sz2 rfl rfl) ?_
            refine O.p rfl rfl rfl (Pu.load rfl pl2 rfl (Ld.blk 6 rfl rfl)) ?_
            refine O.p rfl rfl rfl (Pu.move rfl rfl) ?_
            refine O.p rfl rfl rfl (Pu.buildS (cs := [.int .i64 v, .slice A7 (((([] : List B3) ++ bs) ++ ([(r3, r4, r5)] : List B3)).length) k2]) rfl rfl Tryz.underlying26 zr26 (by kernel_rfl) rfl (by kernel_rfl)) ?_
            refine O.s rfl rfl (Ef.storeAll 5 rfl sz26 rfl rfl rfl rfl (by simp [Value.oneCell']) rfl) ?_
            rintro _ _ rfl
            refine O.nil ?_
            refine X.next ?_
            refine V.ret ?_
            refine X.retCell rfl ag26 sz26 rfl rfl (Ld.whole 5 rfl) ?_
            exact fun w hw => St.mkExi v (St.mkExi A7 (St.mkExi k2 (St.mkExi ((([] : List B3) ++ bs) ++ ([(r3, r4, r5)] : List B3)) (St.unsep (St.addPur ⟨(by first | rfl | (simp only [List.length_set])), by omega, by first | omega | (simp only [List.length_append, List.length_cons, List.length_nil, List.length_set]; omega)⟩ (St.unsep (hw.sub (Sub.keep 4 rfl (Sub.keep 1 rfl (Sub.drop (Sub.drop (Sub.drop (Sub.drop (Sub.drop (Sub.drop (Sub.refl _))))))))))))))))
          · skip
            refine ⟨_, _, rfl, rfl, fun _ _ => wanted_none rfl _, Ef.build I64 ([(2 : Int), v, (v - (1 : Int))] : List Int) rfl Tryz.underlying34 inf2 rfl rfl rfl (by first | decide | (simp; done)) (by kernel_rfl), rfl, rfl, ?_⟩
            rintro _ _ ⟨A5, hA5, rfl, rfl⟩ hs
            refine ⟨fun w hw => hw.sub (Sub.keep 4 rfl (Sub.keep 4 rfl (Sub.keep 4 rfl (Sub.drop (Sub.drop (Sub.drop (Sub.drop (Sub.refl _)))))))), ?_⟩
            refine D.eff hwf (e := 7) rfl rfl rfl rfl (Ef.call call93 rfl rfl (Does.pre (fun w hw => hw.sub (Sub.keep 2 rfl (Sub.keep 0 rfl (Sub.keep 0 rfl (Sub.keep 0 rfl (Sub.keep 0 rfl (Sub.keep 0 rfl (Sub.keep 0 rfl (Sub.refl _))))))))) (l01Pick_ok _ _ _ s ([(1 : Int), (2 : Int), v] : List Int) _ _ w0 _ (Ld.own 1 (by exact rfl)) (by first | omega | (simp only [tops_len, conts_len, bl, List.length_append, List.length_cons, List.length_nil] at *; omega)) (by first | assumption | omega | (try dsimp only at *; omega)) (by first | assumption | omega | (try dsimp only at *; omega)) (by first | (simp; done) | omega)))) rfl rfl rfl ?_
            rintro _ _ rfl hs
            refine ⟨fun w hw => hw.tail.sub (Sub.keep 3 rfl (Sub.keep 3 rfl (Sub.keep 3 rfl (Sub.drop (Sub.drop (Sub.drop (Sub.refl _))))))), ?_⟩
            refine D.exi (fun r4 => ?_)
            refine D.sep ?_
            refine D.pur1 ?_
            rintro ⟨rfl, hr4_1⟩
            refine D.eff hwf (e := 15) rfl rfl rfl rfl (Ef.call call93 rfl rfl (Does.pre (fun w hw => hw.sub (Sub.keep 0 rfl (Sub.keep 0 rfl (Sub.keep 0 rfl (Sub.keep 0 rfl (Sub.keep 0 rfl (Sub.keep 0 rfl (Sub.keep 0 rfl (Sub.refl _))))))))) (l01Pick_ok _ _ _ s ([(2 : Int), v, (v - (1 : Int))] : List Int) _ _ w0 _ (Ld.own 0 (by exact rfl)) (by first | omega | (simp only [tops_len, conts_len, bl, List.length_append, List.length_cons, List.length_nil] at *; omega)) (by first | assumption | omega | (try dsimp only at *; omega)) (by first | assumption | omega | (try dsimp only at *; omega)) (by first | (simp; done) | omega)))) rfl rfl rfl ?_
            rintro _ _ rfl hs
            refine ⟨fun w hw => hw.tail.sub (Sub.keep 3 rfl (Sub.keep 3 rfl (Sub.keep 3 rfl (Sub.drop (Sub.drop (Sub.drop (Sub.refl _))))))), ?_⟩
            refine D.exi (fun r5 => ?_)
            refine D.sep ?_
            refine D.pur1 ?_
            rintro ⟨rfl, hr5_1⟩
            refine D.p 16 rfl rfl rfl rfl rfl rfl (Pu.buildA (cs := [.int .i64 r3, .int .i64 r4, .int .i64 r5]) (v := B3.v (r3, r4, r5)) rfl rfl Tryz.underlying51 zr51 sz2 rfl (by kernel_rfl)) ?_
            refine D.eff hwf (e := 17) rfl rfl rfl rfl (Ef.build B3C ([(r3, r4, r5)] : List B3) rfl Tryz.underlying24 inf51 rfl rfl rfl (by first | decide | (simp; done)) (by kernel_rfl)) rfl rfl rfl ?_
            rintro _ _ ⟨A6, hA6, rfl, rfl⟩ hs
            refine ⟨fun w hw => hw.sub (Sub.keep 5 rfl (Sub.keep 5 rfl (Sub.keep 5 rfl (Sub.drop (Sub.drop (Sub.drop (Sub.drop (Sub.drop (Sub.refl _))))))))), ?_⟩
            refine D.eff hwf (e := 18) rfl rfl rfl rfl (Ef.append (xs := (([] : List B3) ++ bs)) (ys := ([(r3, r4, r5)] : List B3)) 4 rfl Tryz.underlying24 inf51 rfl rfl rfl rfl rfl rfl hA6 (Ld.own 0 (by exact rfl)) (by simp only [List.length_append, List.length_cons, List.length_nil] at *; omega) (by decide)) rfl rfl rfl ?_
            rintro _ _ ⟨A7, k2, rfl, rfl, hA7⟩ hs
            replace hA7 := hA7 (.inr (by simp))
            refine ⟨fun w hw => hw.sub (Sub.keep 5 rfl (Sub.keep 5 rfl (Sub.keep 5 rfl (Sub.drop (Sub.drop (Sub.drop (Sub.drop (Sub.drop (Sub.refl _))))))))), ?_⟩
            refine D.last hwf (e := 19) rfl rfl rfl rfl rfl rfl (Pu.assign rfl rfl) ?_
            refine X.blockNormal ?_
            refine X.next ?_
            refine V.seq ?_
            refine V.region ?_
            refine O.p rfl rfl rfl (Pu.fieldAddr 0 rfl Tryz.underlying26 rfl sz2 rfl rfl) ?_
            refine O.p rfl rfl rfl (Pu.load rfl pl2 rfl (Ld.blk 6 rfl rfl)) ?_
            refine O.p rfl rfl rfl (Pu.move rfl rfl) ?_
            refine O.p rfl rfl rfl (Pu.buildS (cs := [.int .i64 v, .slice A7 (((([] : List B3) ++ bs) ++ ([(r3, r4, r5)] : List B3)).length) k2]) rfl rfl Tryz.underlying26 zr26 (by kernel_rfl) rfl (by kernel_rfl)) ?_
            refine O.s rfl rfl (Ef.storeAll 5 rfl sz26 rfl rfl rfl rfl (by simp [Value.oneCell']) rfl) ?_
            rintro _ _ rfl
            refine O.nil ?_
            refine X.next ?_
            refine V.ret ?_
            refine X.retCell rfl ag26 sz26 rfl rfl (Ld.whole 5 rfl) ?_
            exact fun w hw => St.mkExi v (St.mkExi A7 (St.mkExi k2 (St.mkExi ((([] : List B3) ++ bs) ++ ([(r3, r4, r5)] : List B3)) (St.unsep (St.addPur ⟨(by first | rfl | (simp only [List.length_set])), by omega, by first | omega | (simp only [List.length_append, List.length_cons, List.length_nil, List.length_set]; omega)⟩ (St.unsep (hw.sub (Sub.keep 4 rfl (Sub.keep 1 rfl (Sub.drop (Sub.drop (Sub.drop (Sub.drop (Sub.drop (Sub.drop (Sub.refl _))))))))))))))))
        · skip
          refine ⟨_, _, rfl, rfl, fun _ _ => wanted_none rfl _, Ef.build I64 ([(2 : Int), v, (v - (1 : Int))] : List Int) rfl Tryz.underlying34 inf2 rfl rfl rfl (by first | decide | (simp; done)) (by kernel_rfl), rfl, rfl, ?_⟩
          rintro _ _ ⟨A4, hA4, rfl, rfl⟩ hs
          refine ⟨fun w hw => hw.sub (Sub.keep 3 rfl (Sub.keep 3 rfl (Sub.keep 3 rfl (Sub.drop (Sub.drop (Sub.drop (Sub.refl _))))))), ?_⟩
          refine D.eff hwf (e := 6) rfl rfl rfl rfl (Ef.build I64 ([(1 : Int), (2 : Int), v] : List Int) rfl Tryz.underlying34 inf2 rfl rfl rfl (by first | decide | (simp; done)) (by kernel_rfl)) rfl rfl rfl ?_
          rintro _ _ ⟨A5, hA5, rfl, rfl⟩ hs
          refine ⟨fun w hw => hw.sub (Sub.keep 4 rfl (Sub.keep 4 rfl (Sub.keep 4 rfl (Sub.drop (Sub.drop (Sub.drop (Sub.drop (Sub.refl _)))))))), ?_⟩
          refine D.eff hwf (e := 7) rfl rfl rfl rfl (Ef.call call93 rfl rfl (Does.pre (fun w hw => hw.sub (Sub.keep 2 rfl (Sub.keep 0 rfl (Sub.keep 0 rfl (Sub.keep 0 rfl (Sub.keep 0 rfl (Sub.keep 0 rfl (Sub.keep 0 rfl (Sub.refl _))))))))) (l01Pick_ok _ _ _ s ([(1 : Int), (2 : Int), v] : List Int) _ _ w0 _ (Ld.own 0 (by exact rfl)) (by first | omega | (simp only [tops_len, conts_len, bl, List.length_append, List.length_cons, List.length_nil] at *; omega)) (by first | assumption | omega | (try dsimp only at *; omega)) (by first | assumption | omega | (try dsimp only at *; omega)) (by first | (simp; done) | omega)))) rfl rfl rfl ?_
          rintro _ _ rfl hs
          refine ⟨fun w hw => hw.tail.sub (Sub.keep 3 rfl (Sub.keep 3 rfl (Sub.keep 3 rfl (Sub.drop (Sub.drop (Sub.drop (Sub.refl _))))))), ?_⟩
          refine D.exi (fun r4 => ?_)
          refine D.sep ?_
          refine D.pur1 ?_
          rintro ⟨rfl, hr4_1⟩
          refine D.eff hwf (e := 15) rfl rfl rfl rfl (Ef.call call93 rfl rfl (Does.pre (fun w hw => hw.sub (Sub.keep 0 rfl (Sub.keep 0 rfl (Sub.keep 0 rfl (Sub.keep 0 rfl (Sub.keep 0 rfl (Sub.keep 0 rfl (Sub.keep 0 rfl (Sub.refl _))))))))) (l01Pick_ok _ _ _ s ([(2 : Int), v, (v - (1 : Int))] : List Int) _ _ w0 _ (Ld.own 1 (by exact rfl)) (by first | omega | (simp only [tops_len, conts_len, bl, List.length_append, List.length_cons, List.length_nil] at *; omega)) (by first | assumption | omega | (try dsimp only at *; omega)) (by first | assumption | omega | (try dsimp only at *; omega)) (by first | (simp; done) | omega)))) rfl rfl rfl ?_
          rintro _ _ rfl hs
          refine ⟨fun w hw => hw.tail.sub (Sub.keep 3 rfl (Sub.keep 3 rfl (Sub.keep 3 rfl (Sub.drop (Sub.drop (Sub.drop (Sub.refl _))))))), ?_⟩
          refine D.exi (fun r5 => ?_)
          refine D.sep ?_
          refine D.pur1 ?_
          rintro ⟨rfl, hr5_1⟩
          refine D.p 16 rfl rfl rfl rfl rfl rfl (Pu.buildA (cs := [.int .i64 r3, .int .i64 r4, .int .i64 r5]) (v := B3.v (r3, r4, r5)) rfl rfl Tryz.underlying51 zr51 sz2 rfl (by kernel_rfl)) ?_
          refine D.eff hwf (e := 17) rfl rfl rfl rfl (Ef.build B3C ([(r3, r4, r5)] : List B3) rfl Tryz.underlying24 inf51 rfl rfl rfl (by first | decide | (simp; done)) (by kernel_rfl)) rfl rfl rfl ?_
          rintro _ _ ⟨A6, hA6, rfl, rfl⟩ hs
          refine ⟨fun w hw => hw.sub (Sub.keep 5 rfl (Sub.keep 5 rfl (Sub.keep 5 rfl (Sub.drop (Sub.drop (Sub.drop (Sub.drop (Sub.drop (Sub.refl _))))))))), ?_⟩
          refine D.eff hwf (e := 18) rfl rfl rfl rfl (Ef.append (xs := (([] : List B3) ++ bs)) (ys := ([(r3, r4, r5)] : List B3)) 4 rfl Tryz.underlying24 inf51 rfl rfl rfl rfl rfl rfl hA6 (Ld.own 0 (by exact rfl)) (by simp only [List.length_append, List.length_cons, List.length_nil] at *; omega) (by decide)) rfl rfl rfl ?_
          rintro _ _ ⟨A7, k2, rfl, rfl, hA7⟩ hs
          replace hA7 := hA7 (.inr (by simp))
          refine ⟨fun w hw => hw.sub (Sub.keep 5 rfl (Sub.keep 5 rfl (Sub.keep 5 rfl (Sub.drop (Sub.drop (Sub.drop (Sub.drop (Sub.drop (Sub.refl _))))))))), ?_⟩
          refine D.last hwf (e := 19) rfl rfl rfl rfl rfl rfl (Pu.assign rfl rfl) ?_
          refine X.blockNormal ?_
          refine X.next ?_
          refine V.seq ?_
          refine V.region ?_
          refine O.p rfl rfl rfl (Pu.fieldAddr 0 rfl Tryz.underlying26 rfl sz2 rfl rfl) ?_
          refine O.p rfl rfl rfl (Pu.load rfl pl2 rfl (Ld.blk 6 rfl rfl)) ?_
          refine O.p rfl rfl rfl (Pu.move rfl rfl) ?_
          refine O.p rfl rfl rfl (Pu.buildS (cs := [.int .i64 v, .slice A7 (((([] : List B3) ++ bs) ++ ([(r3, r4, r5)] : List B3)).length) k2]) rfl rfl Tryz.underlying26 zr26 (by kernel_rfl) rfl (by kernel_rfl)) ?_
          refine O.s rfl rfl (Ef.storeAll 5 rfl sz26 rfl rfl rfl rfl (by simp [Value.oneCell']) rfl) ?_
          rintro _ _ rfl
          refine O.nil ?_
          refine X.next ?_
          refine V.ret ?_
          refine X.retCell rfl ag26 sz26 rfl rfl (Ld.whole 5 rfl) ?_
          exact fun w hw => St.mkExi v (St.mkExi A7 (St.mkExi k2 (St.mkExi ((([] : List B3) ++ bs) ++ ([(r3, r4, r5)] : List B3)) (St.unsep (St.addPur ⟨(by first | rfl | (simp only [List.length_set])), by omega, by first | omega | (simp only [List.length_append, List.length_cons, List.length_nil, List.length_set]; omega)⟩ (St.unsep (hw.sub (Sub.keep 4 rfl (Sub.keep 1 rfl (Sub.drop (Sub.drop (Sub.drop (Sub.drop (Sub.drop (Sub.drop (Sub.refl _))))))))))))))))
      · skip
        refine ⟨_, _, rfl, rfl, fun _ _ => wanted_none rfl _, Ef.build I64 ([(1 : Int), (2 : Int), v] : List Int) rfl Tryz.underlying34 inf2 rfl rfl rfl (by first | decide | (simp; done)) (by kernel_rfl), rfl, rfl, ?_⟩
        rintro _ _ ⟨A4, hA4, rfl, rfl⟩ hs
        refine ⟨fun w hw => hw.sub (Sub.keep 3 rfl (Sub.keep 3 rfl (Sub.keep 3 rfl (Sub.drop (Sub.drop (Sub.drop (Sub.refl _))))))), ?_⟩
        refine D.either hwf (e1 := 2) (e2 := 14) rfl ?_ ?_
        · skip
          refine ⟨_, _, rfl, rfl, fun _ _ => wanted_none rfl _, Ef.call call92 rfl rfl (Does.pre (fun w hw => hw.sub (Sub.keep 1 rfl (Sub.keep 0 rfl (Sub.keep 0 rfl (Sub.keep 0 rfl (Sub.keep 0 rfl (Sub.keep 0 rfl (Sub.refl _)))))))) (l01Next_ok _ _ _ s (3 : Int) w0 _   (by first | assumption | omega | (try dsimp only at *; omega)) (by first | assumption | omega | (try dsimp only at *; omega)))), rfl, rfl, ?_⟩
          rintro _ _ rfl hs
          refine ⟨fun w hw => hw.tail.sub (Sub.keep 2 rfl (Sub.keep 2 rfl (Sub.keep 2 rfl (Sub.drop (Sub.drop (Sub.refl _)))))), ?_⟩
          refine D.exi (fun r3 => ?_)
          refine D.sep ?_
          refine D.pur1 ?_
          rintro ⟨rfl, hr3_1, hr3_2, hr3_3⟩
          refine D.either hwf (e1 := 7) (e2 := 14) rfl ?_ ?_
          · skip
            refine ⟨_, _, rfl, rfl, fun _ _ => wanted_none rfl _, Ef.call call93 rfl rfl (Does.pre (fun w hw => hw.sub (Sub.keep 0 rfl (Sub.keep 0 rfl (Sub.keep 0 rfl (Sub.keep 0 rfl (Sub.keep 0 rfl (Sub.keep 0 rfl (Sub.refl _)))))))) (l01Pick_ok _ _ _ s ([(1 : Int), (2 : Int), v] : List Int) _ _ w0 _ (Ld.own 0 (by exact rfl)) (by first | omega | (simp only [tops_len, conts_len, bl, List.length_append, List.length_cons, List.length_nil] at *; omega)) (by first | assumption | omega | (try dsimp only at *; omega)) (by first | assumption | omega | (try dsimp only at *; omega)) (by first | (simp; done) | omega))), rfl, rfl, ?_⟩
            rintro _ _ rfl hs
            refine ⟨fun w hw => hw.tail.sub (Sub.keep 2 rfl (Sub.keep 2 rfl (Sub.keep 2 rfl (Sub.drop (Sub.drop (Sub.refl _)))))), ?_⟩
            refine D.exi (fun r4 => ?_)
            refine D.sep ?_
            refine D.pur1 ?_
            rintro ⟨rfl, hr4_1⟩
            refine D.eff hwf (e := 14) rfl rfl rfl rfl (Ef.build I64 ([(2 : Int), v, (v - (1 : Int))] : List Int) rfl Tryz.underlying34 inf2 rfl rfl rfl (by first | decide | (simp; done)) (by kernel_rfl)) rfl rfl rfl ?_
            rintro _ _ ⟨A5, hA5, rfl, rfl⟩ hs
            refine ⟨fun w hw => hw.sub (Sub.keep 4 rfl (Sub.keep 4 rfl (Sub.keep 4 rfl (Sub.drop (Sub.drop (Sub.drop (Sub.drop (Sub.refl _)))))))), ?_⟩
            refine D.eff hwf (e := 15) rfl rfl rfl rfl (Ef.call call93 rfl rfl (Does.pre (fun w hw => hw.sub (Sub.keep 1 rfl (Sub.keep 0 rfl (Sub.keep 0 rfl (Sub.keep 0 rfl (Sub.keep 0 rfl (Sub.keep 0 rfl (Sub.keep 0 rfl (Sub.refl _))))))))) (l01Pick_ok _ _ _ s ([(2 : Int), v, (v - (1 : Int))] : List Int) _ _ w0 _ (Ld.own 0 (by exact rfl)) (by first | omega | (simp only [tops_len, conts_len, bl, List.length_append, List.length_cons, List.length_nil] at *; omega)) (by first | assumption | omega | (try dsimp only at *; omega)) (by first | assumption | omega | (try dsimp only at *; omega)) (by first | (simp; done) | omega)))) rfl rfl rfl ?_
            rintro _ _ rfl hs
            refine ⟨fun w hw => hw.tail.sub (Sub.keep 3 rfl (Sub.keep 3 rfl (Sub.keep 3 rfl (Sub.drop (Sub.drop (Sub.drop (Sub.refl _))))))), ?_⟩
            refine D.exi (fun r5 => ?_)
            refine D.sep ?_
            refine D.pur1 ?_
            rintro ⟨rfl, hr5_1⟩
            refine D.p 16 rfl rfl rfl rfl rfl rfl (Pu.buildA (cs := [.int .i64 r3, .int .i64 r4, .int .i64 r5]) (v := B3.v (r3, r4, r5)) rfl rfl Tryz.underlying51 zr51 sz2 rfl (by kernel_rfl)) ?_
            refine D.eff hwf (e := 17) rfl rfl rfl rfl (Ef.build B3C ([(r3, r4, r5)] : List B3) rfl Tryz.underlying24 inf51 rfl rfl rfl (by first | decide | (simp; done)) (by kernel_rfl)) rfl rfl rfl ?_
            rintro _ _ ⟨A6, hA6, rfl, rfl⟩ hs
            refine ⟨fun w hw => hw.sub (Sub.keep 5 rfl (Sub.keep 5 rfl (Sub.keep 5 rfl (Sub.drop (Sub.drop (Sub.drop (Sub.drop (Sub.drop (Sub.refl _))))))))), ?_⟩
            refine D.eff hwf (e := 18) rfl rfl rfl rfl (Ef.append (xs := (([] : List B3) ++ bs)) (ys := ([(r3, r4, r5)] : List B3)) 4 rfl Tryz.underlying24 inf51 rfl rfl rfl rfl rfl rfl hA6 (Ld.own 0 (by exact rfl)) (by simp only [List.length_append, List.length_cons, List.length_nil] at *; omega) (by decide)) rfl rfl rfl ?_
            rintro _ _ ⟨A7, k2, rfl, rfl, hA7⟩ hs
            replace hA7 := hA7 (.inr (by simp))
            refine ⟨fun w hw => hw.sub (Sub.keep 5 rfl (Sub.keep 5 rfl (Sub.keep 5 rfl (Sub.drop (Sub.drop (Sub.drop (Sub.drop (Sub.drop (Sub.refl _))))))))), ?_⟩
            refine D.last hwf (e := 19) rfl rfl rfl rfl rfl rfl (Pu.assign rfl rfl) ?_
            refine X.blockNormal ?_
            refine X.next ?_
            refine V.seq ?_
            refine V.region ?_
            refine O.p rfl rfl rfl (Pu.fieldAddr 0 rfl Tryz.underlying26 rfl sz2 rfl rfl) ?_
            refine O.p rfl rfl rfl (Pu.load rfl pl2 rfl (Ld.blk 6 rfl rfl)) ?_
            refine O.p rfl rfl rfl (Pu.move rfl rfl) ?_
            refine O.p rfl rfl rfl (Pu.buildS (cs := [.int .i64 v, .slice A7 (((([] : List B3) ++ bs) ++ ([(r3, r4, r5)] : List B3)).length) k2]) rfl rfl Tryz.underlying26 zr26 (by kernel_rfl) rfl (by kernel_rfl)) ?_
            refine O.s rfl rfl (Ef.storeAll 5 rfl sz26 rfl rfl rfl rfl (by simp [Value.oneCell']) rfl) ?_
            rintro _ _ rfl
            refine O.nil ?_
            refine X.next ?_
            refine V.ret ?_
            refine X.retCell rfl ag26 sz26 rfl rfl (Ld.whole 5 rfl) ?_
            exact fun w hw => St.mkExi v (St.mkExi A7 (St.mkExi k2 (St.mkExi ((([] : List B3) ++ bs) ++ ([(r3, r4, r5)] : List B3)) (St.unsep (St.addPur ⟨(by first | rfl | (simp only [List.length_set])), by omega, by first | omega | (simp only [List.length_append, List.length_cons, List.length_nil, List.length_set]; omega)⟩ (St.unsep (hw.sub (Sub.keep 4 rfl (Sub.keep 1 rfl (Sub.drop (Sub.drop (Sub.drop (Sub.drop (Sub.drop (Sub.drop (Sub.refl _))))))))))))))))
          · skip
            refine ⟨_, _, rfl, rfl, fun _ _ => wanted_none rfl _, Ef.build I64 ([(2 : Int), v, (v - (1 : Int))] : List Int) rfl Tryz.underlying34 inf2 rfl rfl rfl (by first | decide | (simp; done)) (by kernel_rfl), rfl, rfl, ?_⟩
            rintro _ _ ⟨A5, hA5, rfl, rfl⟩ hs
            refine ⟨fun w hw => hw.sub (Sub.keep 4 rfl (Sub.keep 4 rfl (Sub.keep 4 rfl (Sub.drop (Sub.drop (Sub.drop (Sub.drop (Sub.refl _)))))))), ?_⟩
            refine D.eff hwf (e := 7) rfl rfl rfl rfl (Ef.call call93 rfl rfl (Does.pre (fun w hw => hw.sub (Sub.keep 1 rfl (Sub.keep 0 rfl (Sub.keep 0 rfl (Sub.keep 0 rfl (Sub.keep 0 rfl (Sub.keep 0 rfl (Sub.keep 0 rfl (Sub.refl _))))))))) (l01Pick_ok _ _ _ s ([(1 : Int), (2 : Int), v] : List Int) _ _ w0 _ (Ld.own 1 (by exact rfl)) (by first | omega | (simp only [tops_len, conts_len, bl, List.length_append, List.length_cons, List.length_nil] at *; omega)) (by first | assumption | omega | (try dsimp only at *; omega)) (by first | assumption | omega | (try dsimp only at *; omega)) (by first | (simp; done) | omega)))) rfl rfl rfl ?_
            rintro _ _ rfl hs
            refine ⟨fun w hw => hw.tail.sub (Sub.keep 3 rfl (Sub.keep 3 rfl (Sub.keep 3 rfl (Sub.drop (Sub.drop (Sub.drop (Sub.refl _))))))), ?_⟩
            refine D.exi (fun r4 => ?_)
            refine D.sep ?_
            refine D.pur1 ?_
            rintro ⟨rfl, hr4_1⟩
            refine D.eff hwf (e := 15) rfl rfl rfl rfl (Ef.call call93 rfl rfl (Does.pre (fun w hw => hw.sub (Sub.keep 0 rfl (Sub.keep 0 rfl (Sub.keep 0 rfl (Sub.keep 0 rfl (Sub.keep 0 rfl (Sub.keep 0 rfl (Sub.keep 0 rfl (Sub.refl _))))))))) (l01Pick_ok _ _ _ s ([(2 : Int), v, (v - (1 : Int))] : List Int) _ _ w0 _ (Ld.own 0 (by exact rfl)) (by first | omega | (simp only [tops_len, conts_len, bl, List.length_append, List.length_cons, List.length_nil] at *; omega)) (by first | assumption | omega | (try dsimp only at *; omega)) (by first | assumption | omega | (try dsimp only at *; omega)) (by first | (simp; done) | omega)))) rfl rfl rfl ?_
            rintro _ _ rfl hs
            refine ⟨fun w hw => hw.tail.sub (Sub.keep 3 rfl (Sub.keep 3 rfl (Sub.keep 3 rfl (Sub.drop (Sub.drop (Sub.drop (Sub.refl _))))))), ?_⟩
            refine D.exi (fun r5 => ?_)
            refine D.sep ?_
            refine D.pur1 ?_
            rintro ⟨rfl, hr5_1⟩
            refine D.p 16 rfl rfl rfl rfl rfl rfl (Pu.buildA (cs := [.int .i64 r3, .int .i64 r4, .int .i64 r5]) (v := B3.v (r3, r4, r5)) rfl rfl Tryz.underlying51 zr51 sz2 rfl (by kernel_rfl)) ?_
            refine D.eff hwf (e := 17) rfl rfl rfl rfl (Ef.build B3C ([(r3, r4, r5)] : List B3) rfl Tryz.underlying24 inf51 rfl rfl rfl (by first | decide | (simp; done)) (by kernel_rfl)) rfl rfl rfl ?_
            rintro _ _ ⟨A6, hA6, rfl, rfl⟩ hs
            refine ⟨fun w hw => hw.sub (Sub.keep 5 rfl (Sub.keep 5 rfl (Sub.keep 5 rfl (Sub.drop (Sub.drop (Sub.drop (Sub.drop (Sub.drop (Sub.refl _))))))))), ?_⟩
            refine D.eff hwf (e := 18) rfl rfl rfl rfl (Ef.append (xs := (([] : List B3) ++ bs)) (ys := ([(r3, r4, r5)] : List B3)) 4 rfl Tryz.underlying24 inf51 rfl rfl rfl rfl rfl rfl hA6 (Ld.own 0 (by exact rfl)) (by simp only [List.length_append, List.length_cons, List.length_nil] at *; omega) (by decide)) rfl rfl rfl ?_
            rintro _ _ ⟨A7, k2, rfl, rfl, hA7⟩ hs
            replace hA7 := hA7 (.inr (by simp))
            refine ⟨fun w hw => hw.sub (Sub.keep 5 rfl (Sub.keep 5 rfl (Sub.keep 5 rfl (Sub.drop (Sub.drop (Sub.drop (Sub.drop (Sub.drop (Sub.refl _))))))))), ?_⟩
            refine D.last hwf (e := 19) rfl rfl rfl rfl rfl rfl (Pu.assign rfl rfl) ?_
            refine X.blockNormal ?_
            refine X.next ?_
            refine V.seq ?_
            refine V.region ?_
            refine O.p rfl rfl rfl (Pu.fieldAddr 0 rfl Tryz.underlying26 rfl sz2 rfl rfl) ?_
            refine O.p rfl rfl rfl (Pu.load rfl pl2 rfl (Ld.blk 6 rfl rfl)) ?_
            refine O.p rfl rfl rfl (Pu.move rfl rfl) ?_
            refine O.p rfl rfl rfl (Pu.buildS (cs := [.int .i64 v, .slice A7 (((([] : List B3) ++ bs) ++ ([(r3, r4, r5)] : List B3)).length) k2]) rfl rfl Tryz.underlying26 zr26 (by kernel_rfl) rfl (by kernel_rfl)) ?_
            refine O.s rfl rfl (Ef.storeAll 5 rfl sz26 rfl rfl rfl rfl (by simp [Value.oneCell']) rfl) ?_
            rintro _ _ rfl
            refine O.nil ?_
            refine X.next ?_
            refine V.ret ?_
            refine X.retCell rfl ag26 sz26 rfl rfl (Ld.whole 5 rfl) ?_
            exact fun w hw => St.mkExi v (St.mkExi A7 (St.mkExi k2 (St.mkExi ((([] : List B3) ++ bs) ++ ([(r3, r4, r5)] : List B3)) (St.unsep (St.addPur ⟨(by first | rfl | (simp only [List.length_set])), by omega, by first | omega | (simp only [List.length_append, List.length_cons, List.length_nil, List.length_set]; omega)⟩ (St.unsep (hw.sub (Sub.keep 4 rfl (Sub.keep 1 rfl (Sub.drop (Sub.drop (Sub.drop (Sub.drop (Sub.drop (Sub.drop (Sub.refl _))))))))))))))))
        · skip
          refine ⟨_, _, rfl, rfl, fun _ _ => wanted_none rfl _, Ef.build I64 ([(2 : Int), v, (v - (1 : Int))] : List Int) rfl Tryz.underlying34 inf2 rfl rfl rfl (by first | decide | (simp; done)) (by kernel_rfl), rfl, rfl, ?_⟩
          rintro _ _ ⟨A5, hA5, rfl, rfl⟩ hs
          refine ⟨fun w hw => hw.sub (Sub.keep 4 rfl (Sub.keep 4 rfl (Sub.keep 4 rfl (Sub.drop (Sub.drop (Sub.drop (Sub.drop (Sub.refl _)))))))), ?_⟩
          refine D.eff hwf (e := 2) rfl rfl rfl rfl (Ef.call call92 rfl rfl (Does.pre (fun w hw => hw.sub (Sub.keep 2 rfl (Sub.keep 0 rfl (Sub.keep 0 rfl (Sub.keep 0 rfl (Sub.keep 0 rfl (Sub.keep 0 rfl (Sub.keep 0 rfl (Sub.refl _))))))))) (l01Next_ok _ _ _ s (3 : Int) w0 _   (by first | assumption | omega | (try dsimp only at *; omega)) (by first | assumption | omega | (try dsimp only at *; omega))))) rfl rfl rfl ?_
          rintro _ _ rfl hs
          refine ⟨fun w hw => hw.tail.sub (Sub.keep 3 rfl (Sub.keep 3 rfl (Sub.keep 3 rfl (Sub.drop (Sub.drop (Sub.drop (Sub.refl _))))))), ?_⟩
          refine D.exi (fun r3 => ?_)
          refine D.sep ?_
          refine D.pur1 ?_
          rintro ⟨rfl, hr3_1, hr3_2, hr3_3⟩
          refine D.eff hwf (e := 7) rfl rfl rfl rfl (Ef.call call93 rfl rfl (Does.pre (fun w hw => hw.sub (Sub.keep 0 rfl (Sub.keep 0 rfl (Sub.keep 0 rfl (Sub.keep 0 rfl (Sub.keep 0 rfl (Sub.keep 0 rfl (Sub.keep 0 rfl (Sub.refl _))))))))) (l01Pick_ok _ _ _ s ([(1 : Int), (2 : Int), v] : List Int) _ _ w0 _ (Ld.own 1 (by exact rfl)) (by first | omega | (simp only [tops_len, conts_len, bl, List.length_append, List.length_cons, List.length_nil] at *; omega)) (by first | assumption | omega | (try dsimp only at *; omega)) (by first | assumption | omega | (try dsimp only at *; omega)) (by first | (simp; done) | omega)))) rfl rfl rfl ?_
          rintro _ _ rfl hs
          refine ⟨fun w hw => hw.tail.sub (Sub.keep 3 rfl (Sub.keep 3 rfl (Sub.keep 3 rfl (Sub.drop (Sub.drop (Sub.drop (Sub.refl _))))))), ?_⟩
          refine D.exi (fun r4 => ?_)
          refine D.sep ?_
          refine D.pur1 ?_
          rintro ⟨rfl, hr4_1⟩
          refine D.eff hwf (e := 15) rfl rfl rfl rfl (Ef.call call93 rfl rfl (Does.pre (fun w hw => hw.sub (Sub.keep 0 rfl (Sub.keep 0 rfl (Sub.keep 0 rfl (Sub.keep 0 rfl (Sub.keep 0 rfl (Sub.keep 0 rfl (Sub.keep 0 rfl (Sub.refl _))))))))) (l01Pick_ok _ _ _ s ([(2 : Int), v, (v - (1 : Int))] : List Int) _ _ w0 _ (Ld.own 0 (by exact rfl)) (by first | omega | (simp only [tops_len, conts_len, bl, List.length_append, List.length_cons, List.length_nil] at *; omega)) (by first | assumption | omega | (try dsimp only at *; omega)) (by first | assumption | omega | (try dsimp only at *; omega)) (by first | (simp; done) | omega)))) rfl rfl rfl ?_
          rintro _ _ rfl hs
          refine ⟨fun w hw => hw.tail.sub (Sub.keep 3 rfl (Sub.keep 3 rfl (Sub.keep 3 rfl (Sub.drop (Sub.drop (Sub.drop (Sub.refl _))))))), ?_⟩
          refine D.exi (fun r5 => ?_)
          refine D.sep ?_
          refine D.pur1 ?_
          rintro ⟨rfl, hr5_1⟩
          refine D.p 16 rfl rfl rfl rfl rfl rfl (Pu.buildA (cs := [.int .i64 r3, .int .i64 r4, .int .i64 r5]) (v := B3.v (r3, r4, r5)) rfl rfl Tryz.underlying51 zr51 sz2 rfl (by kernel_rfl)) ?_
          refine D.eff hwf (e := 17) rfl rfl rfl rfl (Ef.build B3C ([(r3, r4, r5)] : List B3) rfl Tryz.underlying24 inf51 rfl rfl rfl (by first | decide | (simp; done)) (by kernel_rfl)) rfl rfl rfl ?_
          rintro _ _ ⟨A6, hA6, rfl, rfl⟩ hs
          refine ⟨fun w hw => hw.sub (Sub.keep 5 rfl (Sub.keep 5 rfl (Sub.keep 5 rfl (Sub.drop (Sub.drop (Sub.drop (Sub.drop (Sub.drop (Sub.refl _))))))))), ?_⟩
          refine D.eff hwf (e := 18) rfl rfl rfl rfl (Ef.append (xs := (([] : List B3) ++ bs)) (ys := ([(r3, r4, r5)] : List B3)) 4 rfl Tryz.underlying24 inf51 rfl rfl rfl rfl rfl rfl hA6 (Ld.own 0 (by exact rfl)) (by simp only [List.length_append, List.length_cons, List.length_nil] at *; omega) (by decide)) rfl rfl rfl ?_
          rintro _ _ ⟨A7, k2, rfl, rfl, hA7⟩ hs
          replace hA7 := hA7 (.inr (by simp))
          refine ⟨fun w hw => hw.sub (Sub.keep 5 rfl (Sub.keep 5 rfl (Sub.keep 5 rfl (Sub.drop (Sub.drop (Sub.drop (Sub.drop (Sub.drop (Sub.refl _))))))))), ?_⟩
          refine D.last hwf (e := 19) rfl rfl rfl rfl rfl rfl (Pu.assign rfl rfl) ?_
          refine X.blockNormal ?_
          refine X.next ?_
          refine V.seq ?_
          refine V.region ?_
          refine O.p rfl rfl rfl (Pu.fieldAddr 0 rfl Tryz.underlying26 rfl sz2 rfl rfl) ?_
          refine O.p rfl rfl rfl (Pu.load rfl pl2 rfl (Ld.blk 6 rfl rfl)) ?_
          refine O.p rfl rfl rfl (Pu.move rfl rfl) ?_
          refine O.p rfl rfl rfl (Pu.buildS (cs := [.int .i64 v, .slice A7 (((([] : List B3) ++ bs) ++ ([(r3, r4, r5)] : List B3)).length) k2]) rfl rfl Tryz.underlying26 zr26 (by kernel_rfl) rfl (by kernel_rfl)) ?_
          refine O.s rfl rfl (Ef.storeAll 5 rfl sz26 rfl rfl rfl rfl (by simp [Value.oneCell']) rfl) ?_
          rintro _ _ rfl
          refine O.nil ?_
          refine X.next ?_
          refine V.ret ?_
          refine X.retCell rfl ag26 sz26 rfl rfl (Ld.whole 5 rfl) ?_
          exact fun w hw => St.mkExi v (St.mkExi A7 (St.mkExi k2 (St.mkExi ((([] : List B3) ++ bs) ++ ([(r3, r4, r5)] : List B3)) (St.unsep (St.addPur ⟨(by first | rfl | (simp only [List.length_set])), by omega, by first | omega | (simp only [List.length_append, List.length_cons, List.length_nil, List.length_set]; omega)⟩ (St.unsep (hw.sub (Sub.keep 4 rfl (Sub.keep 1 rfl (Sub.drop (Sub.drop (Sub.drop (Sub.drop (Sub.drop (Sub.drop (Sub.refl _))))))))))))))))
      · skip
        refine ⟨_, _, rfl, rfl, fun _ _ => wanted_none rfl _, Ef.build I64 ([(2 : Int), v, (v - (1 : Int))] : List Int) rfl Tryz.underlying34 inf2 rfl rfl rfl (by first | decide | (simp; done)) (by kernel_rfl), rfl, rfl, ?_⟩
        rintro _ _ ⟨A4, hA4, rfl, rfl⟩ hs
        refine ⟨fun w hw => hw.sub (Sub.keep 3 rfl (Sub.keep 3 rfl (Sub.keep 3 rfl (Sub.drop (Sub.drop (Sub.drop (Sub.refl _))))))), ?_⟩
        refine D.either hwf (e1 := 2) (e2 := 6) rfl ?_ ?_
        · skip
          refine ⟨_, _, rfl, rfl, fun _ _ => wanted_none rfl _, Ef.call call92 rfl rfl (Does.pre (fun w hw => hw.sub (Sub.keep 1 rfl (Sub.keep 0 rfl (Sub.keep 0 rfl (Sub.keep 0 rfl (Sub.keep 0 rfl (Sub.keep 0 rfl (Sub.refl _)))))))) (l01Next_ok _ _ _ s (3 : Int) w0 _   (by first | assumption | omega | (try dsimp only at *; omega)) (by first | assumption | omega | (try dsimp only at *; omega)))), rfl, rfl, ?_⟩
          rintro _ _ rfl hs
          refine ⟨fun w hw => hw.tail.sub (Sub.keep 2 rfl (Sub.keep 2 rfl (Sub.keep 2 rfl (Sub.drop (Sub.drop (Sub.refl _)))))), ?_⟩
          refine D.exi (fun r3 => ?_)
          refine D.sep ?_
          refine D.pur1 ?_
          rintro ⟨rfl, hr3_1, hr3_2, hr3_3⟩
          refine D.eff hwf (e := 6) rfl rfl rfl rfl (Ef.build I64 ([(1 : Int), (2 : Int), v] : List Int) rfl Tryz.underlying34 inf2 rfl rfl rfl (by first | decide | (simp; done)) (by kernel_rfl)) rfl rfl rfl ?_
          rintro _ _ ⟨A5, hA5, rfl, rfl⟩ hs
          refine ⟨fun w hw => hw.sub (Sub.keep 4 rfl (Sub.keep 4 rfl (Sub.keep 4 rfl (Sub.drop (Sub.drop (Sub.drop (Sub.drop (Sub.refl _)))))))), ?_⟩
          refine D.eff hwf (e := 7) rfl rfl rfl rfl (Ef.call call93 rfl rfl (Does.pre (fun w hw => hw.sub (Sub.keep 1 rfl (Sub.keep 0 rfl (Sub.keep 0 rfl (Sub.keep 0 rfl (Sub.keep 0 rfl (Sub.keep 0 rfl (Sub.keep 0 rfl (Sub.refl _))))))))) (l01Pick_ok _ _ _ s ([(1 : Int), (2 : Int), v] : List Int) _ _ w0 _ (Ld.own 0 (by exact rfl)) (by first | omega | (simp only [tops_len, conts_len, bl, List.length_append, List.length_cons, List.length_nil] at *; omega)) (by first | assumption | omega | (try dsimp only at *; omega)) (by first | assumption | omega | (try dsimp only at *; omega)) (by first | (simp; done) | omega)))) rfl rfl rfl ?_
          rintro _ _ rfl hs
          refine ⟨fun w hw => hw.tail.sub (Sub.keep 3 rfl (Sub.keep 3 rfl (Sub.keep 3 rfl (Sub.drop (Sub.drop (Sub.drop (Sub.refl _))))))), ?_⟩
          refine D.exi (fun r4 => ?_)
          refine D.sep ?_
          refine D.pur1 ?_
          rintro ⟨rfl, hr4_1⟩
          refine D.eff hwf (e := 15) rfl rfl rfl rfl (Ef.call call93 rfl rfl (Does.pre (fun w hw => hw.sub (Sub.keep 0 rfl (Sub.keep 0 rfl (Sub.keep 0 rfl (Sub.keep 0 rfl (Sub.keep 0 rfl (Sub.keep 0 rfl (Sub.keep 0 rfl (Sub.refl _))))))))) (l01Pick_ok _ _ _ s ([(2 : Int), v, (v - (1 : Int))] : List Int) _ _ w0 _ (Ld.own 1 (by exact rfl)) (by first | omega | (simp only [tops_len, conts_len, bl, List.length_append, List.length_cons, List.length_nil] at *; omega)) (by first | assumption | omega | (try dsimp only at *; omega)) (by first | assumption | omega | (try dsimp only at *; omega)) (by first | (simp; done) | omega)))) rfl rfl rfl ?_
          rintro _ _ rfl hs
          refine ⟨fun w hw => hw.tail.sub (Sub.keep 3 rfl (Sub.keep 3 rfl (Sub.keep 3 rfl (Sub.drop (Sub.drop (Sub.drop (Sub.refl _))))))), ?_⟩
          refine D.exi (fun r5 => ?_)
          refine D.sep ?_
          refine D.pur1 ?_
          rintro ⟨rfl, hr5_1⟩
          refine D.p 16 rfl rfl rfl rfl rfl rfl (Pu.buildA (cs := [.int .i64 r3, .int .i64 r4, .int .i64 r5]) (v := B3.v (r3, r4, r5)) rfl rfl Tryz.underlying51 zr51 sz2 rfl (by kernel_rfl)) ?_
          refine D.eff hwf (e := 17) rfl rfl rfl rfl (Ef.build B3C ([(r3, r4, r5)] : List B3) rfl Tryz.underlying24 inf51 rfl rfl rfl (by first | decide | (simp; done)) (by kernel_rfl)) rfl rfl rfl ?_
          rintro _ _ ⟨A6, hA6, rfl, rfl⟩ hs
          refine ⟨fun w hw => hw.sub (Sub.keep 5 rfl (Sub.keep 5 rfl (Sub.keep 5 rfl (Sub.drop (Sub.drop (Sub.drop (Sub.drop (Sub.drop (Sub.refl _))))))))), ?_⟩
          refine D.eff hwf (e := 18) rfl rfl rfl rfl (Ef.append (xs := (([] : List B3) ++ bs)) (ys := ([(r3, r4, r5)] : List B3)) 4 rfl Tryz.underlying24 inf51 rfl rfl rfl rfl rfl rfl hA6 (Ld.own 0 (by exact rfl)) (by simp only [List.length_append, List.length_cons, List.length_nil] at *; omega) (by decide)) rfl rfl rfl ?_
          rintro _ _ ⟨A7, k2, rfl, rfl, hA7⟩ hs
          replace hA7 := hA7 (.inr (by simp))
          refine ⟨fun w hw => hw.sub (Sub.keep 5 rfl (Sub.keep 5 rfl (Sub.keep 5 rfl (Sub.drop (Sub.drop (Sub.drop (Sub.drop (Sub.drop (Sub.refl _))))))))), ?_⟩
          refine D.last hwf (e := 19) rfl rfl rfl rfl rfl rfl (Pu.assign rfl rfl) ?_
          refine X.blockNormal ?_
          refine X.next ?_
          refine V.seq ?_
          refine V.region ?_
          refine O.p rfl rfl rfl (Pu.fieldAddr 0 rfl Tryz.underlying26 rfl sz2 rfl rfl) ?_
          refine O.p rfl rfl rfl (Pu.load rfl pl2 rfl (Ld.blk 6 rfl rfl)) ?_
          refine O.p rfl rfl rfl (Pu.move rfl rfl) ?_
          refine O.p rfl rfl rfl (Pu.buildS (cs := [.int .i64 v, .slice A7 (((([] : List B3) ++ bs) ++ ([(r3, r4, r5)] : List B3)).length) k2]) rfl rfl Tryz.underlying26 zr26 (by kernel_rfl) rfl (by kernel_rfl)) ?_
          refine O.s rfl rfl (Ef.storeAll 5 rfl sz26 rfl rfl rfl rfl (by simp [Value.oneCell']) rfl) ?_
          rintro _ _ rfl
          refine O.nil ?_
          refine X.next ?_
          refine V.ret ?_
          refine X.retCell rfl ag26 sz26 rfl rfl (Ld.whole 5 rfl) ?_
          exact fun w hw => St.mkExi v (St.mkExi A7 (St.mkExi k2 (St.mkExi ((([] : List B3) ++ bs) ++ ([(r3, r4, r5)] : List B3)) (St.unsep (St.addPur ⟨(by first | rfl | (simp only [List.length_set])), by omega, by first | omega | (simp only [List.length_append, List.length_cons, List.length_nil, List.length_set]; omega)⟩ (St.unsep (hw.sub (Sub.keep 4 rfl (Sub.keep 1 rfl (Sub.drop (Sub.drop (Sub.drop (Sub.drop (Sub.drop (Sub.drop (Sub.refl _))))))))))))))))
        · skip
          refine ⟨_, _, rfl, rfl, fun _ _ => wanted_none rfl _, Ef.build I64 ([(1 : Int), (2 : Int), v] : List Int) rfl Tryz.underlying34 inf2 rfl rfl rfl (by first | decide | (simp; done)) (by kernel_rfl), rfl, rfl, ?_⟩
          rintro _ _ ⟨A5, hA5, rfl, rfl⟩ hs
          refine ⟨fun w hw => hw.sub (Sub.keep 4 rfl (Sub.keep 4 rfl (Sub.keep 4 rfl (Sub.drop (Sub.drop (Sub.drop (Sub.drop (Sub.refl _)))))))), ?_⟩
          refine D.eff hwf (e := 2) rfl rfl rfl rfl (Ef.call call92 rfl rfl (Does.pre (fun w hw => hw.sub (Sub.keep 2 rfl (Sub.keep 0 rfl (Sub.keep 0 rfl (Sub.keep 0 rfl (Sub.keep 0 rfl (Sub.keep 0 rfl (Sub.keep 0 rfl (Sub.refl _))))))))) (l01Next_ok _ _ _ s (3 : Int) w0 _   (by first | assumption | omega | (try dsimp only at *; omega)) (by first | assumption | omega | (try dsimp only at *; omega))))) rfl rfl rfl ?_
          rintro _ _ rfl hs
          refine ⟨fun w hw => hw.tail.sub (Sub.keep 3 rfl (Sub.keep 3 rfl (Sub.keep 3 rfl (Sub.drop (Sub.drop (Sub.drop (Sub.refl _))))))), ?_⟩
          refine D.exi (fun r3 => ?_)
          refine D.sep ?_
          refine D.pur1 ?_
          rintro ⟨rfl, hr3_1, hr3_2, hr3_3⟩
          refine D.eff hwf (e := 7) rfl rfl rfl rfl (Ef.call call93 rfl rfl (Does.pre (fun w hw => hw.sub (Sub.keep 0 rfl (Sub.keep 0 rfl (Sub.keep 0 rfl (Sub.keep 0 rfl (Sub.keep 0 rfl (Sub.keep 0 rfl (Sub.keep 0 rfl (Sub.refl _))))))))) (l01Pick_ok _ _ _ s ([(1 : Int), (2 : Int), v] : List Int) _ _ w0 _ (Ld.own 0 (by exact rfl)) (by first | omega | (simp only [tops_len, conts_len, bl, List.length_append, List.length_cons, List.length_nil] at *; omega)) (by first | assumption | omega | (try dsimp only at *; omega)) (by first | assumption | omega | (try dsimp only at *; omega)) (by first | (simp; done) | omega)))) rfl rfl rfl ?_
          rintro _ _ rfl hs
          refine ⟨fun w hw => hw.tail.sub (Sub.keep 3 rfl (Sub.keep 3 rfl (Sub.keep 3 rfl (Sub.drop (Sub.drop (Sub.drop (Sub.refl _))))))), ?_⟩
          refine D.exi (fun r4 => ?_)
          refine D.sep ?_
          refine D.pur1 ?_
          rintro ⟨rfl, hr4_1⟩
          refine D.eff hwf (e := 15) rfl rfl rfl rfl (Ef.call call93 rfl rfl (Does.pre (fun w hw => hw.sub (Sub.keep 0 rfl (Sub.keep 0 rfl (Sub.keep 0 rfl (Sub.keep 0 rfl (Sub.keep 0 rfl (Sub.keep 0 rfl (Sub.keep 0 rfl (Sub.refl _))))))))) (l01Pick_ok _ _ _ s ([(2 : Int), v, (v - (1 : Int))] : List Int) _ _ w0 _ (Ld.own 1 (by exact rfl)) (by first | omega | (simp only [tops_len, conts_len, bl, List.length_append, List.length_cons, List.length_nil] at *; omega)) (by first | assumption | omega | (try dsimp only at *; omega)) (by first | assumption | omega | (try dsimp only at *; omega)) (by first | (simp; done) | omega)))) rfl rfl rfl ?_
          rintro _ _ rfl hs
          refine ⟨fun w hw => hw.tail.sub (Sub.keep 3 rfl (Sub.keep 3 rfl (Sub.keep 3 rfl (Sub.drop (Sub.drop (Sub.drop (Sub.refl _))))))), ?_⟩
          refine D.exi (fun r5 => ?_)
          refine D.sep ?_
          refine D.pur1 ?_
          rintro ⟨rfl, hr5_1⟩
          refine D.p 16 rfl rfl rfl rfl rfl rfl (Pu.buildA (cs := [.int .i64 r3, .int .i64 r4, .int .i64 r5]) (v := B3.v (r3, r4, r5)) rfl rfl Tryz.underlying51 zr51 sz2 rfl (by kernel_rfl)) ?_
          refine D.eff hwf (e := 17) rfl rfl rfl rfl (Ef.build B3C ([(r3, r4, r5)] : List B3) rfl Tryz.underlying24 inf51 rfl rfl rfl (by first | decide | (simp; done)) (by kernel_rfl)) rfl rfl rfl ?_
          rintro _ _ ⟨A6, hA6, rfl, rfl⟩ hs
          refine ⟨fun w hw => hw.sub (Sub.keep 5 rfl (Sub.keep 5 rfl (Sub.keep 5 rfl (Sub.drop (Sub.drop (Sub.drop (Sub.drop (Sub.drop (Sub.refl _))))))))), ?_⟩
          refine D.eff hwf (e := 18) rfl rfl rfl rfl (Ef.append (xs := (([] : List B3) ++ bs)) (ys := ([(r3, r4, r5)] : List B3)) 4 rfl Tryz.underlying24 inf51 rfl rfl rfl rfl rfl rfl hA6 (Ld.own 0 (by exact rfl)) (by simp only [List.length_append, List.length_cons, List.length_nil] at *; omega) (by decide)) rfl rfl rfl ?_
          rintro _ _ ⟨A7, k2, rfl, rfl, hA7⟩ hs
          replace hA7 := hA7 (.inr (by simp))
          refine ⟨fun w hw => hw.sub (Sub.keep 5 rfl (Sub.keep 5 rfl (Sub.keep 5 rfl (Sub.drop (Sub.drop (Sub.drop (Sub.drop (Sub.drop (Sub.refl _))))))))), ?_⟩
          refine D.last hwf (e := 19) rfl rfl rfl rfl rfl rfl (Pu.assign rfl rfl) ?_
          refine X.blockNormal ?_
          refine X.next ?_
          refine V.seq ?_
          refine V.region ?_
          refine O.p rfl rfl rfl (Pu.fieldAddr 0 rfl Tryz.underlying26 rfl sz2 rfl rfl) ?_
          refine O.p rfl rfl rfl (Pu.load rfl pl2 rfl (Ld.blk 6 rfl rfl)) ?_
          refine O.p rfl rfl rfl (Pu.move rfl rfl) ?_
          refine O.p rfl rfl rfl (Pu.buildS (cs := [.int .i64 v, .slice A7 (((([] : List B3) ++ bs) ++ ([(r3, r4, r5)] : List B3)).length) k2]) rfl rfl Tryz.underlying26 zr26 (by kernel_rfl) rfl (by kernel_rfl)) ?_
          refine O.s rfl rfl (Ef.storeAll 5 rfl sz26 rfl rfl rfl rfl (by simp [Value.oneCell']) rfl) ?_
          rintro _ _ rfl
          refine O.nil ?_
          refine X.next ?_
          refine V.ret ?_
          refine X.retCell rfl ag26 sz26 rfl rfl (Ld.whole 5 rfl) ?_
          exact fun w hw => St.mkExi v (St.mkExi A7 (St.mkExi k2 (St.mkExi ((([] : List B3) ++ bs) ++ ([(r3, r4, r5)] : List B3)) (St.unsep (St.addPur ⟨(by first | rfl | (simp only [List.length_set])), by omega, by first | omega | (simp only [List.length_append, List.length_cons, List.length_nil, List.length_set]; omega)⟩ (St.unsep (hw.sub (Sub.keep 4 rfl (Sub.keep 1 rfl (Sub.drop (Sub.drop (Sub.drop (Sub.drop (Sub.drop (Sub.drop (Sub.refl _))))))))))))))))
    · skip
      refine V.seq ?_
      refine V.region ?_
      refine O.p rfl rfl rfl (Pu.eql rfl rfl rfl) ?_
      refine O.p rfl rfl rfl (Pu.assign rfl rfl) ?_
      refine O.nil ?_
      refine X.next ?_
      refine V.condD rfl (fun c3 => ?_) (fun c3 => ?_)
      · skip
        refine V.seq ?_
        refine V.region ?_
        refine O.p rfl rfl rfl (Pu.move rfl rfl) ?_
        refine O.p rfl rfl rfl (Pu.len rfl Tryz.underlying24 rfl) ?_
        refine O.p rfl rfl rfl (Pu.gtr rfl rfl rfl) ?_
        refine O.nil ?_
        refine X.next ?_
        refine V.condD rfl (fun c4 => ?_) (fun c4 => ?_)
        · skip
          refine V.seq ?_
          refine V.region ?_
          refine O.p rfl rfl rfl (Pu.move rfl rfl) ?_
          refine O.p rfl rfl rfl (Pu.indexAddr (0) rfl Tryz.underlying24 sz51 rfl rfl (by omega) (by omega) hA2) ?_
          have e1 : 0 < (([] : List B3) ++ bs).length := by omega
          refine O.p rfl rfl rfl (Pu.loadAgg' (v := B3.v ((([] : List B3) ++ bs)[0]'e1)) rfl rfl ag51 sz51 rfl rfl (Ld.rds (C := B3C) (Ld.own 1 (by exact rfl)) (k := 0) e1 rfl)) ?_
          refine O.e rfl rfl rfl (Ef.alloc rfl zr51 rfl) ?_
          rintro _ _ ⟨b3, rfl, rfl⟩
          refine O.s rfl rfl (Ef.storeAll 0 rfl sz51 rfl rfl rfl rfl (by simp [Value.oneCell']) rfl) ?_
          rintro _ _ rfl
          refine O.nil ?_
          refine X.next ?_
          refine V.seq ?_
          refine V.region ?_
          refine O.p rfl rfl rfl (Pu.move rfl rfl) ?_
          refine O.p rfl rfl rfl (Pu.move rfl rfl) ?_
          refine O.p rfl rfl rfl (Pu.indexAddr (1) rfl Tryz.underlying24 sz51 rfl rfl (by omega) (by omega) hA2) ?_
          have e2 : 1 < (([] : List B3) ++ bs).length := by omega
          refine O.p rfl rfl rfl (Pu.loadAgg' (v := B3.v ((([] : List B3) ++ bs)[1]'e2)) rfl rfl ag51 sz51 rfl rfl (Ld.rds (C := B3C) (Ld.own 2 (by exact rfl)) (k := 1) e2 rfl)) ?_
          refine O.p rfl rfl rfl (Pu.indexAddr (0) rfl Tryz.underlying24 sz51 rfl rfl (by omega) (by omega) hA2) ?_
          refine O.s rfl rfl (Ef.storeOwn 2 (0) ((([] : List B3) ++ bs)[1]'e2) rfl sz51 rfl rfl rfl rfl (by first | omega | (rw [List.length_set]; omega)) rfl) ?_
          rintro _ _ rfl
          refine O.nil ?_
          refine X.next ?_
          refine V.region ?_
          refine O.p rfl rfl rfl (Pu.move rfl rfl) ?_
          refine O.p rfl rfl rfl (Pu.loadAgg' (v := B3.v ((([] : List B3) ++ bs)[0]'e1)) rfl rfl ag51 sz51 rfl rfl (Ld.whole 0 rfl)) ?_
          refine O.p rfl rfl rfl (Pu.indexAddr (1) rfl Tryz.underlying24 sz51 rfl rfl (by omega) (by omega) hA2) ?_
          refine O.s rfl rfl (Ef.storeOwn 2 (1) ((([] : List B3) ++ bs)[0]'e1) rfl sz51 rfl rfl rfl rfl (by first | omega | (rw [List.length_set]; omega)) rfl) ?_
          rintro _ _ rfl
          refine O.nil ?_
          refine X.blockNormal ?_
          refine X.next ?_
          refine V.seq ?_
          refine V.region ?_
          refine O.p rfl rfl rfl (Pu.fieldAddr 0 rfl Tryz.underlying26 rfl sz2 rfl rfl) ?_
          refine O.p rfl rfl rfl (Pu.load rfl pl2 rfl (Ld.blk 4 rfl rfl)) ?_
          refine O.p rfl rfl rfl (Pu.move rfl rfl) ?_
          refine O.p rfl rfl rfl (Pu.buildS (cs := [.int .i64 v, .slice A2 ((([] : List B3) ++ bs).length) k1]) rfl rfl Tryz.underlying26 zr26 (by kernel_rfl) rfl (by kernel_rfl)) ?_
          refine O.s rfl rfl (Ef.storeAll 3 rfl sz26 rfl rfl rfl rfl (by simp [Value.oneCell']) rfl) ?_
          rintro _ _ rfl
          refine O.nil ?_
          refine X.next ?_
          refine V.ret ?_
          refine X.retCell rfl ag26 sz26 rfl rfl (Ld.whole 3 rfl) ?_
          exact fun w hw => St.mkExi v (St.mkExi A2 (St.mkExi k1 (St.mkExi (((([] : List B3) ++ bs).set (0) ((([] : List B3) ++ bs)[1]'e2)).set (1) ((([] : List B3) ++ bs)[0]'e1)) (St.unsep (St.addPur ⟨(by first | rfl | (simp only [List.length_set])), by omega, by first | omega | (simp only [List.length_append, List.length_cons, List.length_nil, List.length_set]; omega)⟩ (St.unsep (hw.sub (Sub.keep 2 rfl (Sub.keep 1 rfl (Sub.drop (Sub.drop (Sub.drop (Sub.drop (Sub.refl _))))))))))))))
        · skip
          refine V.skip ?_
          refine X.blockNormal ?_
          refine X.next ?_
          refine V.seq ?_
          refine V.region ?_
          refine O.p rfl rfl rfl (Pu.fieldAddr 0 rfl Tryz.underlying26 rfl sz2 rfl rfl) ?_
          refine O.p rfl rfl rfl (Pu.load rfl pl2 rfl (Ld.blk 3 rfl rfl)) ?_
          refine O.p rfl rfl rfl (Pu.move rfl rfl) ?_
          refine O.p rfl rfl rfl (Pu.buildS (cs := [.int .i64 v, .slice A2 ((([] : List B3) ++ bs).length) k1]) rfl rfl Tryz.underlying26 zr26 (by kernel_rfl) rfl (by kernel_rfl)) ?_
          refine O.s rfl rfl (Ef.storeAll 2 rfl sz26 rfl rfl rfl rfl (by simp [Value.oneCell']) rfl) ?_
          rintro _ _ rfl
          refine O.nil ?_
          refine X.next ?_
          refine V.ret ?_
          refine X.retCell rfl ag26 sz26 rfl rfl (Ld.whole 2 rfl) ?_
          exact fun w hw => St.mkExi v (St.mkExi A2 (St.mkExi k1 (St.mkExi (([] : List B3) ++ bs) (St.unsep (St.addPur ⟨(by first | rfl | (simp only [List.length_set])), by omega, by first | omega | (simp only [List.length_append, List.length_cons, List.length_nil, List.length_set]; omega)⟩ (St.unsep (hw.sub (Sub.keep 1 rfl (Sub.keep 0 rfl (Sub.drop (Sub.drop (Sub.drop (Sub.refl _)))))))))))))
      · skip
        refine V.seq ?_
        refine V.region ?_
        refine O.p rfl rfl rfl (Pu.loadAgg rfl ag26 sz26 rfl rfl (Ld.whole 3 rfl)) ?_
        refine O.s rfl rfl (Ef.storeAll 2 rfl sz26 rfl rfl rfl rfl (by simp [Value.oneCell']) rfl) ?_
        rintro _ _ rfl
        refine O.nil ?_
        refine X.next ?_
        refine V.ret ?_
        refine X.blockRet ?_
        refine X.thenRet ?_
        refine X.retCell rfl ag26 sz26 rfl rfl (Ld.whole 2 rfl) ?_
        exact fun w hw => St.mkExi v (St.mkExi A (St.mkExi c (St.mkExi bs (St.unsep (St.addPur ⟨(by first | rfl | (simp only [List.length_set])), by omega, by first | omega | (simp only [List.length_append, List.length_cons, List.length_nil, List.length_set]; omega)⟩ (St.unsep (hw.sub (Sub.keep 4 rfl (Sub.keep 0 rfl (Sub.drop (Sub.drop (Sub.drop (Sub.refl _)))))))))))))
set_option maxRecDepth 100000 in
set_option maxHeartbeats 1000000 in
theorem l01Spoil_ok (cA : Option Addr) (cc : Nat) (code : List UInt8) (s : Nat) (w0 : World) (H : List Assn) (hc : Rd U8C w0 cA code) (lc : code.length ≤ 1048576) : Does Tryz.prog 75 [.pointer (some ⟨s, 0, none⟩)] w0 (SrcK 132 cA cc code s :: H) (fun rv_ => [.exi fun (pv : Int) => .exi fun (rA : Option Addr) => .exi fun (rc : Nat) => .exi fun (r : List B3) => .sep (.pur (rv_ = .agg #[.int .i64 pv, .slice rA r.length rc] ∧ (-1 ≤ pv ∧ pv ≤ 16) ∧ r.length ≤ 4200)) (.sep (Own 51 B3C rA rc r) (SrcK 132 cA cc code s))] ++ H) := by
  refine Does.enter Tryz.func75 rfl rfl [(0, .pointer (some ⟨s, 0, none⟩))] rfl ?_
  refine V.seq ?_
  refine V.region ?_
  refine O.e rfl rfl rfl (Ef.alloc rfl zr26 rfl) ?_
  rintro _ _ ⟨b1, rfl, rfl⟩
  refine O.nil ?_
  refine X.next ?_
  refine V.seq ?_
  refine V.region ?_
  refine O.p rfl rfl rfl (Pu.move rfl rfl) ?_
  refine O.p rfl rfl rfl (Pu.move rfl rfl) ?_
  refine O.e rfl rfl rfl (Ef.call call89 rfl rfl (Does.pre (fun w hw => hw.sub (Sub.keep 1 rfl (Sub.keep 0 rfl (Sub.refl _)))) (l01Draw_ok _ _ _ s w0 _   (by first | assumption | omega | (try dsimp only at *; omega)) (by first | assumption | omega | (try dsimp only at *; omega))))) ?_
  rintro _ _ rfl
  refine O.exi (fun pv1 => ?_)
  refine O.exi (fun r1A => ?_)
  refine O.exi (fun r1c => ?_)
  refine O.exi (fun r1 => ?_)
  refine O.sep ?_
  refine O.pur ?_
  rintro ⟨rfl, hpv1_1⟩
  refine O.sep ?_
  refine O.e rfl rfl rfl (Ef.call call94 rfl rfl (Does.pre (fun w hw => hw.sub (Sub.keep 1 rfl (Sub.keep 0 rfl (Sub.keep 0 rfl (Sub.refl _))))) (l01Bad_ok _ _ _ s pv1 r1 _ _ w0 _   (by first | assumption | omega | (try dsimp only at *; omega)) (by first | assumption | omega | (try dsimp only at *; omega)) (by first | assumption | omega | (try dsimp only at *; omega))))) ?_
  rintro _ _ rfl
  refine O.exi (fun pv2 => ?_)
  refine O.exi (fun r2A => ?_)
  refine O.exi (fun r2c => ?_)
  refine O.exi (fun r2 => ?_)
  refine O.sep ?_
  refine O.pur ?_
  rintro ⟨rfl, hpv2_1, hpv2_2⟩
  refine O.sep ?_
  refine O.s rfl rfl (Ef.storeAll 2 rfl sz26 rfl rfl rfl rfl (by simp [Value.oneCell']) rfl) ?_
  rintro _ _ rfl
  refine O.nil ?_
  refine X.next ?_
  refine V.ret ?_
  refine X.retCell rfl ag26 sz26 rfl rfl (Ld.whole 2 rfl) ?_
  exact fun w hw => St.mkExi pv2 (St.mkExi r2A (St.mkExi r2c (St.mkExi r2 (St.unsep (St.addPur ⟨rfl, hpv2_1, hpv2_2⟩ (St.unsep (hw.sub (Sub.keep 0 rfl (Sub.keep 0 rfl (Sub.drop (Sub.refl _)))))))))))
set_option maxRecDepth 100000 in
set_option maxHeartbeats 1000000 in
theorem big_ok (code : List UInt8) (codeA : Option Addr) (codec : Nat) (w : World) (hcode : Rd U8C w codeA code) (lcode : code.length ≤ 9223372036854775807) : Does Tryz.prog 7 [.slice codeA code.length codec] w [] (fun r => [.pur (r = .bool (decide (4096 < code.length)))]) := by
  refine Does.enter Tryz.func7 rfl rfl [(0, .slice codeA code.length codec)] rfl ?_
  refine V.seq ?_
  refine V.region ?_
  refine O.p rfl rfl rfl (Pu.assign rfl rfl) ?_
  refine O.nil ?_
  refine X.next ?_
  refine V.seq ?_
  refine V.region ?_
  refine O.p rfl rfl rfl (Pu.move rfl rfl) ?_
  refine O.p rfl rfl rfl (Pu.len rfl Tryz.underlying22 rfl) ?_
  refine O.p rfl rfl rfl (Pu.gtr rfl rfl rfl) ?_
  refine O.p rfl rfl rfl (Pu.assign rfl rfl) ?_
  refine O.nil ?_
  refine X.next ?_
  refine V.ret ?_
  refine X.ret1 rfl rfl ?_
  exact fun w hw => St.retP (boolD (by omega)) hw
set_option maxRecDepth 100000 in
set_option maxHeartbeats 1000000 in
theorem likeInts_ok (a : List Int) (b : List Int) (aA : Option Addr) (ac : Nat) (bA : Option Addr) (bc : Nat) (w : World) (ha : Rd I64 w aA a) (hb : Rd I64 w bA b) (la : a.length ≤ 9223372036854775807) (lb : b.length ≤ 9223372036854775807) : Does Tryz.prog 27 [.slice aA a.length ac, .slice bA b.length bc] w [] (fun r => [.pur (r = .bool (decide (a = b)))]) := by
  refine Does.enter Tryz.func27 rfl rfl [(0, .slice aA a.length ac), (1, .slice bA b.length bc)] rfl ?_
  refine V.seq ?_
  refine V.region ?_
  refine O.p rfl rfl rfl (Pu.assign rfl rfl) ?_
  refine O.nil ?_
  refine X.next ?_
  refine V.seq ?_
  refine V.seq ?_
  refine V.region ?_
  refine O.p rfl rfl rfl (Pu.move rfl rfl) ?_
  refine O.p rfl rfl rfl (Pu.len rfl Tryz.underlying34 rfl) ?_
  refine O.p rfl rfl rfl (Pu.move rfl rfl) ?_
  refine O.p rfl rfl rfl (Pu.len rfl Tryz.underlying34 rfl) ?_
  refine O.p rfl rfl rfl (Pu.neq rfl rfl rfl) ?_
  refine O.nil ?_
  refine X.next ?_
  refine V.condNot rfl (fun c1 => ?_) (fun c1 => ?_)
  · skip
    refine V.seq ?_
    refine V.region ?_
    refine O.p rfl rfl rfl (Pu.assign rfl rfl) ?_
    refine O.nil ?_
    refine X.next ?_
    refine V.ret ?_
    refine X.thenRet ?_
    refine X.ret1 rfl rfl ?_
    exact fun w hw => St.retP (boolF (fun h => c1 (by rw [h]))) hw
  · skip
    refine V.skip ?_
    refine X.next ?_
    refine V.seq ?_
    refine V.seq ?_
    refine V.region ?_
    refine O.p rfl rfl rfl (Pu.assign rfl rfl) ?_
    refine O.nil ?_
    refine X.next ?_
    refine V.block ?_
    refine V.loop2 (β := Nat) (fun i => [(5, .int .i64 (i : Int))]) _ (fun i => []) (fun i => i ≤ a.length ∧ ∀ j (h1 : j < a.length) (h2 : j < b.length), j < i → a[j] = b[j]) (fun i => a.length - i) 0 ⟨by omega, fun j _ _ h => by omega⟩ (Ent.cons rfl (Ent.nil _)) (Ent.cons (t := 0) rfl (Ent.cons (t := 1) rfl (Ent.nil _))) (Sub.nil _) ?_
    rintro i ⟨hi, he⟩
    refine V.seq ?_
    refine V.seq ?_
    refine V.region ?_
    refine O.p rfl rfl rfl (Pu.move rfl rfl) ?_
    refine O.p rfl rfl rfl (Pu.move rfl rfl) ?_
    refine O.p rfl rfl rfl (Pu.len rfl Tryz.underlying34 rfl) ?_
    refine O.p rfl rfl rfl (Pu.lss rfl rfl rfl) ?_
    refine O.nil ?_
    refine X.next ?_
    refine V.condD rfl (fun c2 => ?_) (fun c2 => ?_)
    · skip
      refine V.skip ?_
      refine X.next ?_
      refine V.seq ?_
      refine V.block ?_
      refine V.seq ?_
      refine V.draw mo (by kernel_rfl) (fun hwf => ?_)
      refine D.p 0 rfl rfl rfl rfl rfl rfl (Pu.move rfl rfl) ?_
      refine D.p 1 rfl rfl rfl rfl rfl rfl (Pu.move rfl rfl) ?_
      refine D.p 2 rfl rfl rfl rfl rfl rfl (Pu.indexAddr (i) rfl Tryz.underlying34 sz2 rfl rfl (by omega) (by omega) (ha.some (by omega))) ?_
      have e1 : i < a.length := by omega
      refine D.p 3 rfl rfl rfl rfl rfl rfl (Pu.load rfl pl2 rfl (Ld.rd (Ld.old ha) (k := i) e1 rfl rfl)) ?_
      refine D.p 4 rfl rfl rfl rfl rfl rfl (Pu.move rfl rfl) ?_
      refine D.p 5 rfl rfl rfl rfl rfl rfl (Pu.move rfl rfl) ?_
      refine D.p 6 rfl rfl rfl rfl rfl rfl (Pu.indexAddr (i) rfl Tryz.underlying34 sz2 rfl rfl (by omega) (by omega) (hb.some (by omega))) ?_
      have e2 : i < b.length := by omega
      refine D.p 7 rfl rfl rfl rfl rfl rfl (Pu.load rfl pl2 rfl (Ld.rd (Ld.old hb) (k := i) e2 rfl rfl)) ?_
      refine D.p 8 rfl rfl rfl rfl rfl rfl (Pu.neq rfl rfl rfl) ?_
      refine D.done hwf rfl ?_
      refine X.next ?_
      refine V.condNot rfl (fun c3 => ?_) (fun c3 => ?_)
      · skip
        refine V.seq ?_
        refine V.region ?_
        refine O.p rfl rfl rfl (Pu.assign rfl rfl) ?_
        refine O.nil ?_
        refine X.next ?_
        refine V.ret ?_
        refine X.blockRet ?_
        refine X.thenRet ?_
        refine X.thenRet ?_
        refine X.blockRet ?_
        refine X.thenRet ?_
        refine X.ret1 rfl rfl ?_
        exact fun w hw => St.retP (boolF (fun h => c3 (by simp [h]))) hw
      · skip
        refine V.skip ?_
        refine X.blockNormal ?_
        refine X.next ?_
        refine V.region ?_
        refine O.p rfl rfl rfl (Pu.move rfl rfl) ?_
        refine O.p rfl rfl rfl (Pu.add64 (r := ((i + 1 : Nat) : Int)) rfl (by omega) rfl rfl rfl) ?_
        refine O.p rfl rfl rfl (Pu.assign rfl rfl) ?_
        refine O.nil ?_
        exact X.back2 (i + 1) ⟨by omega, fun j h1 h2 hj => by by_cases e : j = i; (· subst e; exact c3); (· exact he j h1 h2 (by omega))⟩ (by first | omega | (dsimp only; omega)) (Ent.cons rfl (Ent.nil _)) (Ent.cons (t := 0) rfl (Ent.cons (t := 1) rfl (Ent.nil _))) (Sub.nil _)
    · skip
      refine V.exit ?_
      refine X.thenExit ?_
      refine X.thenExit ?_
      refine X.blockHit ?_
      refine X.next ?_
      refine V.seq ?_
      refine V.region ?_
      refine O.p rfl rfl rfl (Pu.assign rfl rfl) ?_
      refine O.nil ?_
      refine X.next ?_
      refine V.ret ?_
      refine X.ret1 rfl rfl ?_
      exact fun w hw => St.retP (boolT (List.ext_getElem (by omega) (fun j h1 h2 => he j h1 h2 (by omega)))) hw
set_option maxRecDepth 100000 in
set_option maxHeartbeats 1000000 in
theorem hasInt_ok (list : List Int) (x_ : Int) (listA : Option Addr) (listc : Nat) (w : World) (hlist : Rd I64 w listA list) (llist : list.length ≤ 1099511627776) : Does Tryz.prog 32 [.slice listA list.length listc, .int .i64 x_] w [] (fun r => [.pur (r = .bool (decide (x_ ∈ list)))]) := by
  refine Does.enter Tryz.func32 rfl rfl [(0, .slice listA list.length listc), (1, .int .i64 x_)] rfl ?_
  refine V.seq ?_
  refine V.region ?_
  refine O.p rfl rfl rfl (Pu.assign rfl rfl) ?_
  refine O.nil ?_
  refine X.next ?_
  refine V.seq ?_
  refine V.seq ?_
  refine V.region ?_
  refine O.p rfl rfl rfl (Pu.assign rfl rfl) ?_
  refine O.nil ?_
  refine X.next ?_
  refine V.block ?_
  refine V.loop2 (β := Nat) (fun i => [(5, .int .i64 (i : Int))]) _ (fun i => []) (fun i => i ≤ list.length ∧ ∀ j (hj : j < list.length), j < i → ¬ list[j] = x_) (fun i => list.length - i) 0 ⟨by omega, fun j hj h => by omega⟩ (Ent.cons rfl (Ent.nil _)) (Ent.cons (t := 0) rfl (Ent.cons (t := 1) rfl (Ent.nil _))) (Sub.nil _) ?_
  rintro i ⟨hi, hn⟩
  refine V.seq ?_
  refine V.seq ?_
  refine V.region ?_
  refine O.p rfl rfl rfl (Pu.move rfl rfl) ?_
  refine O.p rfl rfl rfl (Pu.move rfl rfl) ?_
  refine O.p rfl rfl rfl (Pu.len rfl Tryz.underlying34 rfl) ?_
  refine O.p rfl rfl rfl (Pu.lss rfl rfl rfl) ?_
  refine O.nil ?_
  refine X.next ?_
  refine V.condD rfl (fun c1 => ?_) (fun c1 => ?_)
  · skip
    refine V.skip ?_
    refine X.next ?_
    refine V.seq ?_
    refine V.block ?_
    refine V.seq ?_
    refine V.region ?_
    refine O.p rfl rfl rfl (Pu.move rfl rfl) ?_
    refine O.p rfl rfl rfl (Pu.move rfl rfl) ?_
    refine O.p rfl rfl rfl (Pu.indexAddr (i) rfl Tryz.underlying34 sz2 rfl rfl (by omega) (by omega) (hlist.some (by omega))) ?_
    have e1 : i < list.length := by omega
    refine O.p rfl rfl rfl (Pu.load rfl pl2 rfl (Ld.rd (Ld.old hlist) (k := i) e1 rfl rfl)) ?_
    refine O.p rfl rfl rfl (Pu.move rfl rfl) ?_
    refine O.p rfl rfl rfl (Pu.eql rfl rfl rfl) ?_
    refine O.nil ?_
    refine X.next ?_
    refine V.condD rfl (fun c2 => ?_) (fun c2 => ?_)
    · skip
      refine V.seq ?_
      refine V.region ?_
      refine O.p rfl rfl rfl (Pu.assign rfl rfl) ?_
      refine O.nil ?_
      refine X.next ?_
      refine V.ret ?_
      refine X.blockRet ?_
      refine X.thenRet ?_
      refine X.thenRet ?_
      refine X.blockRet ?_
      refine X.thenRet ?_
      refine X.ret1 rfl rfl ?_
      exact fun w hw => St.retP (boolT (c2 ▸ List.getElem_mem e1)) hw
    · skip
      refine V.skip ?_
      refine X.blockNormal ?_
      refine X.next ?_
      refine V.region ?_
      refine O.p rfl rfl rfl (Pu.move rfl rfl) ?_
      refine O.p rfl rfl rfl (Pu.add64 (r := ((i + 1 : Nat) : Int)) rfl (by omega) rfl rfl rfl) ?_
      refine O.p rfl rfl rfl (Pu.assign rfl rfl) ?_
      refine O.nil ?_
      exact X.back2 (i + 1) ⟨by omega, fun j hj h => by by_cases e : j = i; (· subst e; exact c2); (· exact hn j hj (by omega))⟩ (by first | omega | (dsimp only; omega)) (Ent.cons rfl (Ent.nil _)) (Ent.cons (t := 0) rfl (Ent.cons (t := 1) rfl (Ent.nil _))) (Sub.nil _)
  · skip
    refine V.exit ?_
    refine X.thenExit ?_
    refine X.thenExit ?_
    refine X.blockHit ?_
    refine X.next ?_
    refine V.seq ?_
    refine V.region ?_
    refine O.p rfl rfl rfl (Pu.assign rfl rfl) ?_
    refine O.nil ?_
    refine X.next ?_
    refine V.ret ?_
    refine X.ret1 rfl rfl ?_
    exact fun w hw => St.retP (boolF (fun h => by obtain ⟨j, hj, e⟩ := List.getElem_of_mem h; exact hn j hj (by omega) e)) hw
set_option maxRecDepth 100000 in
set_option maxHeartbeats 1000000 in
theorem implIsFull_ok (v : Int) (bs : List B3) (A : Option Addr) (c : Nat) (w : World) (hx : Rd B3C w A bs) (lx : bs.length ≤ 4611686018427387904) : Does Tryz.prog 37 [.agg #[.int .i64 v, .slice A bs.length c]] w [] (fun r => [.pur (r = .tuple #[.bool (decide (STS v bs ∧ 6 * (bs.length : Int) = v * (v - 1))), .int .i64 (if STS v bs then 0 else 1)])]) := by
  refine Does.enter Tryz.func37 rfl rfl [(0, .agg #[.int .i64 v, .slice A bs.length c])] rfl ?_
  refine V.seq ?_
  refine V.region ?_
  refine O.e rfl rfl rfl (Ef.box rfl rfl rfl) ?_
  rintro _ _ ⟨b1, rfl, rfl⟩
  refine O.p rfl rfl rfl (Pu.assign rfl rfl) ?_
  refine O.p rfl rfl rfl (Pu.assign rfl rfl) ?_
  refine O.nil ?_
  refine X.next ?_
  refine V.seq ?_
  refine V.seq ?_
  refine V.region ?_
  refine O.p rfl rfl rfl (Pu.loadAgg rfl ag26 sz26 rfl rfl (Ld.whole 0 rfl)) ?_
  refine O.e rfl rfl rfl (Ef.callP call77 rfl rfl (fun w hw => IsSystem_ok _ bs _ _ w ((Ld.old hx) w hw) (by omega))) ?_
  rintro _ _ ⟨rfl, rfl⟩
  refine O.p rfl rfl rfl (Pu.not rfl rfl) ?_
  refine O.nil ?_
  refine X.next ?_
  refine V.condNot rfl (fun c1 => ?_) (fun c1 => ?_)
  · skip
    refine V.seq ?_
    refine V.region ?_
    refine O.p rfl rfl rfl (Pu.assign rfl rfl) ?_
    refine O.p rfl rfl rfl (Pu.assign rfl rfl) ?_
    refine O.nil ?_
    refine X.next ?_
    refine V.ret ?_
    refine X.thenRet ?_
    refine X.ret2 rfl rfl rfl ?_
    exact fun w hw => St.addPur (by rw [if_neg c1]; simp [c1]) (hw.sub (Sub.nil _))
  · skip
    have hmul := sts_mul c1
    have hlo := c1.lo
    have hhi := c1.hi
    have hfw := c1.few
    refine V.skip ?_
    refine X.next ?_
    refine V.seq ?_
    refine V.region ?_
    refine O.p rfl rfl rfl (Pu.loadAgg rfl ag26 sz26 rfl rfl (Ld.whole 0 rfl)) ?_
    refine O.e rfl rfl rfl (Ef.callP call116 rfl rfl (fun w hw => isFullI_ok  v bs _ _ w ((Ld.old hx) w hw) (by first | omega | (simp only [tops_len, conts_len, bl, List.length_append, List.length_cons, List.length_nil] at *; omega)) (by first | assumption | omega | (try dsimp only at *; omega)) (by first | assumption | omega | (try dsimp only at *; omega)) (by first | assumption | omega | (try dsimp only at *; omega)))) ?_
    rintro _ _ ⟨rfl, rfl⟩
    refine O.p rfl rfl rfl (Pu.assign rfl rfl) ?_
    refine O.p rfl rfl rfl (Pu.assign rfl rfl) ?_
    refine O.nil ?_
    refine X.next ?_
    refine V.ret ?_
    refine X.ret2 rfl rfl rfl ?_
    exact fun w hw => St.addPur (by rw [if_pos c1]; simp [c1]) (hw.sub (Sub.nil _))
set_option maxRecDepth 100000 in
set_option maxHeartbeats 1000000 in
theorem rows5_ok (a : List (Sl × List Int)) (b : List (Sl × List Int)) (aA : Option Addr) (ac : Nat) (bA : Option Addr) (bc : Nat) (w : World) (ha : RdL I64 w aA a) (hb : RdL I64 w bA b) (la : a.length ≤ 1099511627776) (lb : b.length ≤ 1099511627776) : Does Tryz.prog 13 [.slice aA (tops a).length ac, .slice bA (tops b).length bc] w [] (fun r => [.pur (r = .bool (decide (conts a = conts b)))]) := by
  refine Does.enter Tryz.func13 rfl rfl [(0, .slice aA (tops a).length ac), (1, .slice bA (tops b).length bc)] rfl ?_
  have htp := tops_len a
  have htq := tops_len b
  have hcp := conts_len a
  have hcq := conts_len b
  refine V.seq ?_
  refine V.region ?_
  refine O.p rfl rfl rfl (Pu.assign rfl rfl) ?_
  refine O.nil ?_
  refine X.next ?_
  refine V.seq ?_
  refine V.seq ?_
  refine V.region ?_
  refine O.p rfl rfl rfl (Pu.move rfl rfl) ?_
  refine O.p rfl rfl rfl (Pu.len rfl Tryz.underlying28 rfl) ?_
  refine O.p rfl rfl rfl (Pu.move rfl rfl) ?_
  refine O.p rfl rfl rfl (Pu.len rfl Tryz.underlying28 rfl) ?_
  refine O.p rfl rfl rfl (Pu.neq rfl rfl rfl) ?_
  refine O.nil ?_
  refine X.next ?_
  refine V.condNot rfl (fun c1 => ?_) (fun c1 => ?_)
  · skip
    refine V.seq ?_
    refine V.region ?_
    refine O.p rfl rfl rfl (Pu.assign rfl rfl) ?_
    refine O.nil ?_
    refine X.next ?_
    refine V.ret ?_
    refine X.thenRet ?_
    refine X.ret1 rfl rfl ?_
    exact fun w hw => St.retP (boolF (fun h => c1 (by have := congrArg List.length h; omega))) hw
  · skip
    refine V.skip ?_
    refine X.next ?_
    refine V.seq ?_
    refine V.seq ?_
    refine V.region ?_
    refine O.p rfl rfl rfl (Pu.assign rfl rfl) ?_
    refine O.nil ?_
    refine X.next ?_
    refine V.block ?_
    refine V.loop2 (β := Nat) (fun i => [(5, .int .i64 (i : Int))]) _ (fun i => []) (fun i => i ≤ a.length ∧ ∀ j (h1 : j < a.length) (h2 : j < b.length), j < i → (a[j]).2 = (b[j]).2) (fun i => a.length - i) 0 ⟨by omega, fun j _ _ h => by omega⟩ (Ent.cons rfl (Ent.nil _)) (Ent.cons (t := 0) rfl (Ent.cons (t := 1) rfl (Ent.nil _))) (Sub.nil _) ?_
    rintro i ⟨hi, he⟩
    refine V.seq ?_
    refine V.seq ?_
    refine V.region ?_
    refine O.p rfl rfl rfl (Pu.move rfl rfl) ?_
    refine O.p rfl rfl rfl (Pu.move rfl rfl) ?_
    refine O.p rfl rfl rfl (Pu.len rfl Tryz.underlying28 rfl) ?_
    refine O.p rfl rfl rfl (Pu.lss rfl rfl rfl) ?_
    refine O.nil ?_
    refine X.next ?_
    refine V.condD rfl (fun c2 => ?_) (fun c2 => ?_)
    · skip
      refine V.skip ?_
      refine X.next ?_
      refine V.seq ?_
      refine V.block ?_
      refine V.seq ?_
      refine V.draw mo (by kernel_rfl) (fun hwf => ?_)
      refine D.p 0 rfl rfl rfl rfl rfl rfl (Pu.move rfl rfl) ?_
      refine D.p 1 rfl rfl rfl rfl rfl rfl (Pu.move rfl rfl) ?_
      refine D.p 2 rfl rfl rfl rfl rfl rfl (Pu.indexAddr (i) rfl Tryz.underlying28 sz34 rfl rfl (by omega) (by omega) (ha.top.some (by omega))) ?_
      have e1 : i < a.length := by have := tops_len a; omega
      refine D.p 3 rfl rfl rfl rfl rfl rfl (Pu.load rfl pl34 rfl (Ld.row (Ld.old ha.top) ha.len e1 rfl)) ?_
      refine D.p 4 rfl rfl rfl rfl rfl rfl (Pu.move rfl rfl) ?_
      refine D.p 5 rfl rfl rfl rfl rfl rfl (Pu.move rfl rfl) ?_
      refine D.p 6 rfl rfl rfl rfl rfl rfl (Pu.indexAddr (i) rfl Tryz.underlying28 sz34 rfl rfl (by omega) (by omega) (hb.top.some (by omega))) ?_
      have e2 : i < b.length := by have := tops_len b; omega
      refine D.p 7 rfl rfl rfl rfl rfl rfl (Pu.load rfl pl34 rfl (Ld.row (Ld.old hb.top) hb.len e2 rfl)) ?_
      refine D.eff hwf (e := 8) rfl rfl rfl rfl (Ef.callP call27 rfl rfl (fun w hw => likeInts_ok  ((a[i]'e1).2) ((b[i]'e2).2) _ _ _ _ w ((Ld.old (ha.row i e1)) w hw) ((Ld.old (hb.row i e2)) w hw) (ha.len.le e1) (hb.len.le e2) )) rfl rfl rfl ?_
      rintro _ _ ⟨rfl, rfl⟩ hs
      refine ⟨fun w hw => hw, ?_⟩
      refine D.p 9 rfl rfl rfl rfl rfl rfl (Pu.not rfl rfl) ?_
      refine D.done hwf rfl ?_
      refine X.next ?_
      refine V.condNot rfl (fun c3 => ?_) (fun c3 => ?_)
      · skip
        refine V.seq ?_
        refine V.region ?_
        refine O.p rfl rfl rfl (Pu.assign rfl rfl) ?_
        refine O.nil ?_
        refine X.next ?_
        refine V.ret ?_
        refine X.blockRet ?_
        refine X.thenRet ?_
        refine X.thenRet ?_
        refine X.blockRet ?_
        refine X.thenRet ?_
        refine X.ret1 rfl rfl ?_
        exact fun w hw => St.retP (boolF (fun h => c3 (by rw [← conts_get a (by omega), ← conts_get b (by omega)]; simp [h]))) hw
      · skip
        refine V.skip ?_
        refine X.blockNormal ?_
        refine X.next ?_
        refine V.region ?_
        refine O.p rfl rfl rfl (Pu.move rfl rfl) ?_
        refine O.p rfl rfl rfl (Pu.add64 (r := ((i + 1 : Nat) : Int)) rfl (by omega) rfl rfl rfl) ?_
        refine O.p rfl rfl rfl (Pu.assign rfl rfl) ?_
        refine O.nil ?_
        exact X.back2 (i + 1) ⟨by omega, fun j h1 h2 hj => by by_cases e : j = i; (· subst e; exact c3); (· exact he j h1 h2 (by omega))⟩ (by first | omega | (dsimp only; omega)) (Ent.cons rfl (Ent.nil _)) (Ent.cons (t := 0) rfl (Ent.cons (t := 1) rfl (Ent.nil _))) (Sub.nil _)
    · skip
      refine V.exit ?_
      refine X.thenExit ?_
      refine X.thenExit ?_
      refine X.blockHit ?_
      refine X.next ?_
      refine V.seq ?_
      refine V.region ?_
      refine O.p rfl rfl rfl (Pu.assign rfl rfl) ?_
      refine O.nil ?_
      refine X.next ?_
      refine V.ret ?_
      refine X.ret1 rfl rfl ?_
      exact fun w hw => St.retP (boolT (List.ext_getElem (by omega) (fun j h1 h2 => by rw [conts_get, conts_get]; exact he j (by omega) (by omega) (by omega)))) hw
set_option maxRecDepth 100000 in
set_option maxHeartbeats 1000000 in
theorem gridSpan_ok (v : Int) (bs : List B3) (g : Nat) (G : Int → Int → Int) (s : Nat) (w : World) (hg : GridAt w g G 206) (hS : STS v bs) (hG : G = tab bs) (hs : s < 32768) : Does Tryz.prog 97 [.pointer (some ⟨g, 0, none⟩), .int .u64 (s : Int)] w [] (fun r => [.exi fun (t : Nat) => .pur (r = .int .u64 (t : Int) ∧ SpanP bs s t)]) := by
  refine Does.enter Tryz.func97 rfl rfl [(0, .pointer (some ⟨g, 0, none⟩)), (1, .int .u64 (s : Int))] rfl ?_
  refine V.seq ?_
  refine V.region ?_
  refine O.p rfl rfl rfl (Pu.assign rfl rfl) ?_
  refine O.nil ?_
  refine X.next ?_
  refine V.seq ?_
  refine V.seq ?_
  refine V.region ?_
  refine O.p rfl rfl rfl (Pu.assign rfl rfl) ?_
  refine O.nil ?_
  refine X.next ?_
  refine V.block ?_
  refine V.loop2 (β := Nat × Bool) (fun x => [(1, .int .u64 (x.1 : Int)), (5, .bool x.2)]) _ (fun x => []) (fun x => SpI bs s x.1 ∧ (x.2 = false → Clo bs x.1)) (fun x => spM x.1 x.2) (s, true) (by (try dsimp only); exact ⟨spi_start hs, fun h => by cases h⟩) (Ent.cons rfl (Ent.cons rfl (Ent.nil _))) (Ent.cons (t := 0) rfl (Ent.nil _)) (Sub.nil _) ?_
  rintro ⟨sr, again⟩ ⟨hI, hc⟩
  dsimp only at hI hc ⊢
  have hsr := hI.lt
  refine V.seq ?_
  refine V.seq ?_
  refine V.region ?_
  refine O.p rfl rfl rfl (Pu.move rfl rfl) ?_
  refine O.nil ?_
  refine X.next ?_
  refine V.cond rfl (fun c1 => ?_) (fun c1 => ?_)
  · skip
    subst c1
    refine V.skip ?_
    refine X.next ?_
    refine V.block ?_
    refine V.seq ?_
    refine V.region ?_
    refine O.p rfl rfl rfl (Pu.assign rfl rfl) ?_
    refine O.nil ?_
    refine X.next ?_
    refine V.seq ?_
    refine V.region ?_
    refine O.p rfl rfl rfl (Pu.move rfl rfl) ?_
    refine O.e rfl rfl rfl (Ef.call1 call99 rfl rfl (fun w hw => list_ok sr w (by omega))) ?_
    rintro _ _ rfl
    refine O.exi (fun p1 => ?_)
    refine O.sep ?_
    refine O.pur ?_
    rintro ⟨rfl, hp1⟩
    have hpl := pts_len sr
    rw [← hp1] at hpl
    refine O.p rfl rfl rfl (Pu.assign rfl rfl) ?_
    refine O.nil ?_
    refine X.next ?_
    refine V.seq ?_
    refine V.region ?_
    refine O.p rfl rfl rfl (Pu.move rfl rfl) ?_
    refine O.p rfl rfl rfl (Pu.len rfl Tryz.underlying34 rfl) ?_
    refine O.p rfl rfl rfl (Pu.move rfl rfl) ?_
    refine O.nil ?_
    refine X.next ?_
    refine V.block ?_
    refine V.loop3 (β := Nat × Bool × Nat) (fun x => [(1, .int .u64 (x.1 : Int)), (5, .bool x.2.1), (17, .int .i64 (x.2.2 : Int))]) _ (fun x => []) _ (fun x => x.2.2 ≤ p1.2.length ∧ RdI bs s sr x.1 x.2.1 x.2.2 0) (fun x => p1.2.length - x.2.2) (sr, false, 0) (by (try dsimp only); exact ⟨by omega, rdi_start hI⟩) (Ent.cons rfl (Ent.cons rfl (Ent.cons rfl (Ent.nil _)))) (Ent.cons (t := 0) rfl (Ent.cons (t := 6) rfl (Ent.cons (t := 15) rfl (Ent.cons (t := 16) rfl (Ent.nil _))))) (Sub.keep 0 rfl (Sub.nil _)) ?_
    rintro ⟨s2, again2, i⟩ ⟨hi, hR⟩
    dsimp only at hi hR ⊢
    refine V.seq ?_
    refine V.region ?_
    refine O.p rfl rfl rfl (Pu.lss rfl rfl rfl) ?_
    refine O.nil ?_
    refine X.next ?_
    refine V.seq ?_
    refine V.condD rfl (fun c2 => ?_) (fun c2 => ?_)
    · skip
      refine V.skip ?_
      refine X.next ?_
      refine V.seq ?_
      refine V.block ?_
      refine V.seq ?_
      refine V.region ?_
      refine O.p rfl rfl rfl (Pu.indexAddrS (i) rfl Tryz.underlying34 sz2 rfl rfl (by omega) (by omega) (fun w hw => Own.some hw (i := 0) (by exact rfl) (by omega))) ?_
      have e1 : i < p1.2.length := by omega
      refine O.p rfl rfl rfl (Pu.load rfl pl2 rfl (Ld.rd (Ld.own 0 (by exact rfl)) (k := i) e1 rfl rfl)) ?_
      refine O.p rfl rfl rfl (Pu.assign rfl rfl) ?_
      refine O.nil ?_
      refine X.next ?_
      refine V.seq ?_
      refine V.region ?_
      refine O.p rfl rfl rfl (Pu.move rfl rfl) ?_
      refine O.p rfl rfl rfl (Pu.len rfl Tryz.underlying34 rfl) ?_
      refine O.p rfl rfl rfl (Pu.move rfl rfl) ?_
      refine O.nil ?_
      refine X.next ?_
      refine V.block ?_
      refine V.loop3 (β := Nat × Bool × Nat) (fun x => [(1, .int .u64 (x.1 : Int)), (5, .bool x.2.1), (23, .int .i64 (x.2.2 : Int))]) _ (fun x => []) _ (fun x => x.2.2 ≤ p1.2.length ∧ RdI bs s sr x.1 x.2.1 i x.2.2) (fun x => p1.2.length - x.2.2) (s2, again2, 0) (by (try dsimp only); exact ⟨by omega, hR⟩) (Ent.cons rfl (Ent.cons rfl (Ent.cons rfl (Ent.nil _)))) (Ent.cons (t := 0) rfl (Ent.cons (t := 6) rfl (Ent.cons (t := 8) rfl (Ent.cons (t := 15) rfl (Ent.cons (t := 16) rfl (Ent.cons (t := 17) rfl (Ent.cons (t := 21) rfl (Ent.cons (t := 22) rfl (Ent.nil _))))))))) (Sub.keep 0 rfl (Sub.nil _)) ?_
      rintro ⟨s3, again3, j⟩ ⟨hj, hR2⟩
      dsimp only at hj hR2 ⊢
      refine V.seq ?_
      refine V.region ?_
      refine O.p rfl rfl rfl (Pu.lss rfl rfl rfl) ?_
      refine O.nil ?_
      refine X.next ?_
      refine V.seq ?_
      refine V.condD rfl (fun c3 => ?_) (fun c3 => ?_)
      · skip
        refine V.skip ?_
        refine X.next ?_
        refine V.seq ?_
        refine V.block ?_
        refine V.seq ?_
        refine V.region ?_
        refine O.p rfl rfl rfl (Pu.indexAddrS (j) rfl Tryz.underlying34 sz2 rfl rfl (by omega) (by omega) (fun w hw => Own.some hw (i := 0) (by exact rfl) (by omega))) ?_
        have e2 : j < p1.2.length := by omega
        refine O.p rfl rfl rfl (Pu.load rfl pl2 rfl (Ld.rd (Ld.own 0 (by exact rfl)) (k := j) e2 rfl rfl)) ?_
        refine O.p rfl rfl rfl (Pu.assign rfl rfl) ?_
        refine O.nil ?_
        refine X.next ?_
        refine V.seq ?_
        have hxe : (p1.2[i]'e1) = (pts sr)[i]'(by rw [← hp1]; exact e1) := List.getElem_of_eq hp1 _
        have hye : (p1.2[j]'e2) = (pts sr)[j]'(by rw [← hp1]; exact e2) := List.getElem_of_eq hp1 _
        have hmx : (p1.2[i]'e1) ∈ pts sr := by rw [hxe]; exact List.getElem_mem _
        have hmy : (p1.2[j]'e2) ∈ pts sr := by rw [hye]; exact List.getElem_mem _
        have mx := mem_pts.1 hmx
        have my := mem_pts.1 hmy
        have hs3 := hR2.sp.lt
        refine V.region ?_
        refine O.p rfl rfl rfl (Pu.move rfl rfl) ?_
        refine O.p rfl rfl rfl (Pu.move rfl rfl) ?_
        refine O.p rfl rfl rfl (Pu.move rfl rfl) ?_
        refine O.p rfl rfl rfl (Pu.nilCheck rfl rfl) ?_
        refine O.p rfl rfl rfl (Pu.indexArr (((p1.2[i]'e1)).toNat) (0 + ((p1.2[i]'e1)).toNat * 15) rfl Tryz.underlying206 sz159 rfl rfl (by omega) (by omega) rfl) ?_
        refine O.p rfl rfl rfl (Pu.indexArr (((p1.2[j]'e2)).toNat) (0 + ((p1.2[i]'e1)).toNat * 15 + ((p1.2[j]'e2)).toNat * 1) rfl Tryz.underlying159 sz2 rfl rfl (by omega) (by omega) rfl) ?_
        refine O.p rfl rfl rfl (Pu.load rfl pl2 rfl (Ld.gridOld (x := (p1.2[i]'e1)) (y := (p1.2[j]'e2)) hg (by omega) (by omega) (by omega))) ?_
        refine O.p rfl rfl rfl (Pu.assign rfl rfl) ?_
        refine O.nil ?_
        refine X.next ?_
        refine V.seq ?_
        refine V.region ?_
        refine O.p rfl rfl rfl (Pu.move rfl rfl) ?_
        refine O.p rfl rfl rfl (Pu.neq rfl rfl rfl) ?_
        refine O.p rfl rfl rfl (Pu.move rfl rfl) ?_
        refine O.splitN 36 rfl (fun c4 => ?_) (fun c4 => ?_)
        · skip
          have hnn : ¬ tab bs (p1.2[i]'e1) (p1.2[j]'e2) = -1 := by rw [← hG]; exact c4
          have tb := tab_bd' hS hnn
          rw [← hG] at tb
          refine O.gp rfl rfl rfl rfl rfl (Pu.move rfl rfl) ?_
          refine O.gp rfl rfl rfl rfl rfl (Pu.move rfl rfl) ?_
          refine O.ge rfl rfl rfl rfl rfl (Ef.callP call189 rfl rfl (fun w hw => setHasI_ok _ _ w (by omega) (by omega))) ?_
          rintro _ _ ⟨rfl, rfl⟩
          refine O.gp rfl rfl rfl rfl rfl (Pu.not rfl rfl) ?_
          refine O.p rfl rfl rfl (Pu.pickT rfl rfl rfl) ?_
          refine O.nil ?_
          refine X.next ?_
          refine V.condNot rfl (fun c5 => ?_) (fun c5 => ?_)
          · skip
            refine V.seq ?_
            refine V.region ?_
            refine O.p rfl rfl rfl (Pu.move rfl rfl) ?_
            refine O.p rfl rfl rfl (Pu.move rfl rfl) ?_
            refine O.p rfl rfl rfl (Pu.shl1' (p := ((G (p1.2[i]'e1) (p1.2[j]'e2))).toNat) (by omega) K64.u (by omega) rfl rfl rfl) ?_
            refine O.p rfl rfl rfl (Pu.or (m := s3) (n := (2 ^ ((G (p1.2[i]'e1) (p1.2[j]'e2))).toNat)) K64.u (by omega) (pow_lt62 (by omega)) rfl rfl rfl) ?_
            refine O.p rfl rfl rfl (Pu.assign rfl rfl) ?_
            refine O.nil ?_
            refine X.next ?_
            refine V.region ?_
            refine O.p rfl rfl rfl (Pu.assign rfl rfl) ?_
            refine O.nil ?_
            refine X.blockNormal ?_
            refine X.next ?_
            refine V.region ?_
            refine O.p rfl rfl rfl (Pu.add64 (r := ((j + 1 : Nat) : Int)) rfl (by omega) rfl rfl rfl) ?_
            refine O.p rfl rfl rfl (Pu.move rfl rfl) ?_
            refine O.nil ?_
            exact X.back3 ((s3 ||| (2 ^ ((G (p1.2[i]'e1) (p1.2[j]'e2))).toNat)), true, j + 1) (by (try dsimp only); exact ⟨by omega, by have h := rdi_yes hS hR2 hmx hmy hnn (by rw [← hG]; exact c5); rw [← hG] at h; exact h⟩) (by first | omega | (dsimp only; omega)) (Ent.cons rfl (Ent.cons rfl (Ent.cons rfl (Ent.nil _)))) (Ent.cons (t := 0) rfl (Ent.cons (t := 6) rfl (Ent.cons (t := 8) rfl (Ent.cons (t := 15) rfl (Ent.cons (t := 16) rfl (Ent.cons (t := 17) rfl (Ent.cons (t := 21) rfl (Ent.cons (t := 22) rfl (Ent.nil _))))))))) (Sub.keep 0 rfl (Sub.nil _))
          · skip
            refine V.skip ?_
            refine X.blockNormal ?_
            refine X.next ?_
            refine V.region ?_
            refine O.p rfl rfl rfl (Pu.add64 (r := ((j + 1 : Nat) : Int)) rfl (by omega) rfl rfl rfl) ?_
            refine O.p rfl rfl rfl (Pu.move rfl rfl) ?_
            refine O.nil ?_
            exact X.back3 (s3, again3, j + 1) (by (try dsimp only); exact ⟨by omega, rdi_no hR2 (by rw [← hp1]; exact e1) (by rw [← hp1]; exact e2) (by rw [← hxe, ← hye]; exact .inr (by rw [← hG]; exact c5))⟩) (by first | omega | (dsimp only; omega)) (Ent.cons rfl (Ent.cons rfl (Ent.cons rfl (Ent.nil _)))) (Ent.cons (t := 0) rfl (Ent.cons (t := 6) rfl (Ent.cons (t := 8) rfl (Ent.cons (t := 15) rfl (Ent.cons (t := 16) rfl (Ent.cons (t := 17) rfl (Ent.cons (t := 21) rfl (Ent.cons (t := 22) rfl (Ent.nil _))))))))) (Sub.keep 0 rfl (Sub.nil _))
        · skip
          refine O.gs rfl rfl rfl rfl rfl rfl ?_
          refine O.gs rfl rfl rfl rfl rfl rfl ?_
          refine O.gs rfl rfl rfl rfl rfl rfl ?_
          refine O.gs rfl rfl rfl rfl rfl rfl ?_
          refine O.p rfl rfl rfl (Pu.pickF rfl rfl rfl) ?_
          refine O.nil ?_
          refine X.next ?_
          refine V.condF rfl ?_
          refine V.skip ?_
          refine X.blockNormal ?_
          refine X.next ?_
          refine V.region ?_
          refine O.p rfl rfl rfl (Pu.add64 (r := ((j + 1 : Nat) : Int)) rfl (by omega) rfl rfl rfl) ?_
          refine O.p rfl rfl rfl (Pu.move rfl rfl) ?_
          refine O.nil ?_
          exact X.back3 (s3, again3, j + 1) (by (try dsimp only); exact ⟨by omega, rdi_no hR2 (by rw [← hp1]; exact e1) (by rw [← hp1]; exact e2) (by rw [← hxe, ← hye]; exact .inl (by rw [← hG]; omega))⟩) (by first | omega | (dsimp only; omega)) (Ent.cons rfl (Ent.cons rfl (Ent.cons rfl (Ent.nil _)))) (Ent.cons (t := 0) rfl (Ent.cons (t := 6) rfl (Ent.cons (t := 8) rfl (Ent.cons (t := 15) rfl (Ent.cons (t := 16) rfl (Ent.cons (t := 17) rfl (Ent.cons (t := 21) rfl (Ent.cons (t := 22) rfl (Ent.nil _))))))))) (Sub.keep 0 rfl (Sub.nil _))
      · skip
        refine V.exit ?_
        refine X.thenExit ?_
        refine X.thenExit ?_
        refine X.blockHit ?_
        refine X.blockNormal ?_
        refine X.next ?_
        refine V.region ?_
        refine O.p rfl rfl rfl (Pu.add64 (r := ((i + 1 : Nat) : Int)) rfl (by omega) rfl rfl rfl) ?_
        refine O.p rfl rfl rfl (Pu.move rfl rfl) ?_
        refine O.nil ?_
        exact X.back3 (s3, again3, i + 1) (by (try dsimp only); exact ⟨by omega, rdi_row hR2 (by rw [← hp1]; omega)⟩) (by first | omega | (dsimp only; omega)) (Ent.cons rfl (Ent.cons rfl (Ent.cons rfl (Ent.nil _)))) (Ent.cons (t := 0) rfl (Ent.cons (t := 6) rfl (Ent.cons (t := 15) rfl (Ent.cons (t := 16) rfl (Ent.nil _))))) (Sub.keep 0 rfl (Sub.nil _))
    · skip
      refine V.exit ?_
      refine X.thenExit ?_
      refine X.thenExit ?_
      refine X.blockHit ?_
      refine X.blockNormal ?_
      have hend := rdi_end hS hR (by rw [← hp1]; omega)
      have hmm := hend.2.2
      exact X.back2 (s2, again2) (by (try dsimp only); exact ⟨hend.1, hend.2.1⟩) (by first | omega | (dsimp only; omega)) (Ent.cons rfl (Ent.cons rfl (Ent.nil _))) (Ent.cons (t := 0) rfl (Ent.nil _)) (Sub.nil _)
  · skip
    subst c1
    refine V.exit ?_
    refine X.thenExit ?_
    refine X.thenExit ?_
    refine X.blockHit ?_
    refine X.next ?_
    refine V.seq ?_
    refine V.region ?_
    refine O.p rfl rfl rfl (Pu.move rfl rfl) ?_
    refine O.p rfl rfl rfl (Pu.assign rfl rfl) ?_
    refine O.nil ?_
    refine X.next ?_
    refine V.ret ?_
    refine X.ret1 rfl rfl ?_
    exact fun w hw => St.mkExi sr (St.addPur ⟨rfl, ⟨hI, hc rfl⟩⟩ (hw.sub (Sub.nil _)))
set_option maxRecDepth 100000 in
set_option maxHeartbeats 1000000 in
theorem l07Bits_ok (list : List Int) (listA : Option Addr) (listc : Nat) (w : World) (hlist : Rd I64 w listA list) (llist : list.length ≤ 1099511627776) (hp : ∀ p ∈ list, 0 ≤ p ∧ p < 15) : Does Tryz.prog 103 [.slice listA list.length listc] w [] (fun r => [.pur (r = .int .i64 ((maskL list : Nat) : Int))]) := by
  refine Does.enter Tryz.func103 rfl rfl [(0, .slice listA list.length listc)] rfl ?_
  refine V.seq ?_
  refine V.region ?_
  refine O.p rfl rfl rfl (Pu.assign rfl rfl) ?_
  refine O.nil ?_
  refine X.next ?_
  refine V.seq ?_
  refine V.region ?_
  refine O.p rfl rfl rfl (Pu.assign rfl rfl) ?_
  refine O.nil ?_
  refine X.next ?_
  refine V.seq ?_
  refine V.seq ?_
  refine V.region ?_
  refine O.p rfl rfl rfl (Pu.assign rfl rfl) ?_
  refine O.nil ?_
  refine X.next ?_
  refine V.block ?_
  refine V.loop2 (β := Nat × Nat) (fun x => [(3, .int .i64 (x.1 : Int)), (4, .int .i64 (x.2 : Int))]) _ (fun x => []) (fun x => x.2 ≤ list.length ∧ x.1 = maskL (list.take x.2) ∧ x.1 < 32768) (fun x => list.length - x.2) (0, 0) (by (try dsimp only); exact ⟨by omega, rfl, by omega⟩) (Ent.cons rfl (Ent.cons rfl (Ent.nil _))) (Ent.cons (t := 0) rfl (Ent.nil _)) (Sub.nil _) ?_
  rintro ⟨z, i⟩ ⟨hi, hz, hzl⟩
  dsimp only at hi hz hzl ⊢
  refine V.seq ?_
  refine V.seq ?_
  refine V.region ?_
  refine O.p rfl rfl rfl (Pu.move rfl rfl) ?_
  refine O.p rfl rfl rfl (Pu.move rfl rfl) ?_
  refine O.p rfl rfl rfl (Pu.len rfl Tryz.underlying34 rfl) ?_
  refine O.p rfl rfl rfl (Pu.lss rfl rfl rfl) ?_
  refine O.nil ?_
  refine X.next ?_
  refine V.condD rfl (fun c1 => ?_) (fun c1 => ?_)
  · skip
    refine V.skip ?_
    refine X.next ?_
    refine V.seq ?_
    refine V.block ?_
    have e0 : i < list.length := by omega
    have hq := hp _ (List.getElem_mem e0)
    have hms := maskL_succ e0
    refine V.region ?_
    refine O.p rfl rfl rfl (Pu.move rfl rfl) ?_
    refine O.p rfl rfl rfl (Pu.move rfl rfl) ?_
    refine O.p rfl rfl rfl (Pu.move rfl rfl) ?_
    refine O.p rfl rfl rfl (Pu.indexAddr (i) rfl Tryz.underlying34 sz2 rfl rfl (by omega) (by omega) (hlist.some (by omega))) ?_
    have e1 : i < list.length := by omega
    refine O.p rfl rfl rfl (Pu.load rfl pl2 rfl (Ld.rd (Ld.old hlist) (k := i) e1 rfl rfl)) ?_
    refine O.p rfl rfl rfl (Pu.convU' (((list[i]'e1)).toNat) (by omega) ⟨_, Tryz.underlying2⟩ Tryz.underlying90 (by omega) rfl rfl) ?_
    refine O.p rfl rfl rfl (Pu.shl1' (p := (list[i]'e1).toNat) (by omega) K64.i (by omega) rfl rfl rfl) ?_
    refine O.p rfl rfl rfl (Pu.or (m := z) (n := (2 ^ (list[i]'e1).toNat)) K64.i (by omega) (pow_lt62 (by omega)) rfl rfl rfl) ?_
    refine O.p rfl rfl rfl (Pu.assign rfl rfl) ?_
    refine O.nil ?_
    refine X.blockNormal ?_
    refine X.next ?_
    refine V.region ?_
    refine O.p rfl rfl rfl (Pu.move rfl rfl) ?_
    refine O.p rfl rfl rfl (Pu.add64 (r := ((i + 1 : Nat) : Int)) rfl (by omega) rfl rfl rfl) ?_
    refine O.p rfl rfl rfl (Pu.assign rfl rfl) ?_
    refine O.nil ?_
    exact X.back2 ((z ||| (2 ^ (list[i]'e1).toNat)), i + 1) (by (try dsimp only); exact ⟨by omega, by rw [hms, hz], by rw [hz, ← hms]; exact maskL_lt (fun p h => hp p (List.mem_of_mem_take h))⟩) (by first | omega | (dsimp only; omega)) (Ent.cons rfl (Ent.cons rfl (Ent.nil _))) (Ent.cons (t := 0) rfl (Ent.nil _)) (Sub.nil _)
  · skip
    refine V.exit ?_
    refine X.thenExit ?_
    refine X.thenExit ?_
    refine X.blockHit ?_
    refine X.next ?_
    refine V.seq ?_
    refine V.region ?_
    refine O.p rfl rfl rfl (Pu.move rfl rfl) ?_
    refine O.p rfl rfl rfl (Pu.assign rfl rfl) ?_
    refine O.nil ?_
    refine X.next ?_
    refine V.ret ?_
    refine X.ret1 rfl rfl ?_
    exact fun w hw => St.retP (iv (by rw [hz, List.take_of_length_le (by omega)])) hw
end Go.Proofs.YtgjfcepnkllklaaGreat
