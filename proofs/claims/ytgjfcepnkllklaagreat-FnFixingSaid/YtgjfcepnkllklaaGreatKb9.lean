/-
  Contracts, part 9.
-/
import Derived.Test.YtgjfcepnkllklaaGreatKb8
set_option linter.unusedVariables false
set_option linter.unusedSimpArgs false
namespace Go.Proofs.YtgjfcepnkllklaaGreat
open Go Go.RowKit Go.Vc Go.Proofs
set_option maxRecDepth 100000 in
set_option maxHeartbeats 1000000 in
theorem l01Draw_ok (cA : Option Addr) (cc : Nat) (code : List UInt8) (s : Nat) (w0 : World) (H : List Assn) (hc : Rd U8C w0 cA code) (lc : code.length ≤ 1048576) : Does Tryz.prog 89 [.pointer (some ⟨s, 0, none⟩)] w0 (SrcK 132 cA cc code s :: H) (fun rv_ => [.exi fun (pv : Int) => .exi fun (rA : Option Addr) => .exi fun (rc : Nat) => .exi fun (r : List B3) => .sep (.pur (rv_ = .agg #[.int .i64 pv, .slice rA r.length rc] ∧ DrS 4100 pv r)) (.sep (Own 51 B3C rA rc r) (SrcK 132 cA cc code s))] ++ H) := by
  refine Does.enter Tryz.func89 rfl rfl [(0, .pointer (some ⟨s, 0, none⟩))] rfl ?_
  refine V.seq ?_
  refine V.region ?_
  refine O.e rfl rfl rfl (Ef.alloc rfl zr26 rfl) ?_
  rintro _ _ ⟨b1, rfl, rfl⟩
  refine O.nil ?_
  refine X.next ?_
  refine V.seq ?_
  refine V.seq ?_
  refine V.region ?_
  refine O.p rfl rfl rfl (Pu.move rfl rfl) ?_
  refine O.e rfl rfl rfl (Ef.call call92 rfl rfl (Does.pre (fun w hw => hw.sub (Sub.keep 1 rfl (Sub.keep 0 rfl (Sub.refl _)))) (l01Next_ok _ _ _ s (4 : Int) w0 _   (by first | assumption | omega | (try dsimp only at *; omega)) (by first | assumption | omega | (try dsimp only at *; omega))))) ?_
  rintro _ _ rfl
  refine O.exi (fun r1 => ?_)
  refine O.sep ?_
  refine O.pur ?_
  rintro ⟨rfl, hr1_1, hr1_2, hr1_3⟩
  refine O.nil ?_
  refine X.next ?_
  refine V.block ?_
  refine V.seq ?_
  refine V.region ?_
  refine O.p rfl rfl rfl (Pu.eql rfl rfl rfl) ?_
  refine O.p rfl rfl rfl (Pu.assign rfl rfl) ?_
  refine O.nil ?_
  refine X.next ?_
  refine V.condD rfl (fun c1 => ?_) (fun c1 => ?_)
  · skip
    refine V.seq ?_
    refine V.region ?_
    refine O.p rfl rfl rfl (Pu.move rfl rfl) ?_
    refine O.e rfl rfl rfl (Ef.call call184 rfl rfl (Does.pre (fun w hw => hw.sub (Sub.keep 0 rfl (Sub.keep 0 rfl (Sub.refl _)))) (l01DrawFull_ok _ _ _ s w0 _   (by first | assumption | omega | (try dsimp only at *; omega)) (by first | assumption | omega | (try dsimp only at *; omega))))) ?_
    rintro _ _ rfl
    refine O.exi (fun pv1 => ?_)
    refine O.exi (fun r2A => ?_)
    refine O.exi (fun r2c => ?_)
    refine O.exi (fun r2 => ?_)
    refine O.sep ?_
    refine O.pur ?_
    rintro ⟨rfl, hpv1_1⟩
    refine O.sep ?_
    refine O.s rfl rfl (Ef.storeAll 2 rfl sz26 rfl rfl rfl rfl (by simp [Value.oneCell']) rfl) ?_
    rintro _ _ rfl
    refine O.nil ?_
    refine X.next ?_
    refine V.ret ?_
    refine X.blockRet ?_
    refine X.thenRet ?_
    refine X.retCell rfl ag26 sz26 rfl rfl (Ld.whole 2 rfl) ?_
    exact fun w hw => St.mkExi pv1 (St.mkExi r2A (St.mkExi r2c (St.mkExi r2 (St.unsep (St.addPur ⟨rfl, (by first | exact hpv1_1 | exact hpv2_1 | exact DrS.mono hr3_1 (by decide) | exact DrS.mono hr2_1 (by decide))⟩ (St.unsep (hw.sub (Sub.keep 0 rfl (Sub.keep 0 rfl (Sub.drop (Sub.refl _)))))))))))
  · skip
    refine V.seq ?_
    refine V.region ?_
    refine O.p rfl rfl rfl (Pu.eql rfl rfl rfl) ?_
    refine O.p rfl rfl rfl (Pu.assign rfl rfl) ?_
    refine O.nil ?_
    refine X.next ?_
    refine V.condD rfl (fun c2 => ?_) (fun c2 => ?_)
    · skip
      refine V.seq ?_
      refine V.region ?_
      refine O.p rfl rfl rfl (Pu.move rfl rfl) ?_
      refine O.e rfl rfl rfl (Ef.call call184 rfl rfl (Does.pre (fun w hw => hw.sub (Sub.keep 0 rfl (Sub.keep 0 rfl (Sub.refl _)))) (l01DrawFull_ok _ _ _ s w0 _   (by first | assumption | omega | (try dsimp only at *; omega)) (by first | assumption | omega | (try dsimp only at *; omega))))) ?_
      rintro _ _ rfl
      refine O.exi (fun pv2 => ?_)
      refine O.exi (fun r3A => ?_)
      refine O.exi (fun r3c => ?_)
      refine O.exi (fun r3 => ?_)
      refine O.sep ?_
      refine O.pur ?_
      rintro ⟨rfl, hpv2_1⟩
      refine O.sep ?_
      refine O.e rfl rfl rfl (Ef.alloc rfl zr26 rfl) ?_
      rintro _ _ ⟨b2, rfl, rfl⟩
      refine O.s rfl rfl (Ef.storeAll 0 rfl sz26 rfl rfl rfl rfl (by simp [Value.oneCell']) rfl) ?_
      rintro _ _ rfl
      refine O.nil ?_
      refine X.next ?_
      refine V.seq ?_
      refine V.seq ?_
      refine V.region ?_
      refine O.p rfl rfl rfl (Pu.move rfl rfl) ?_
      refine O.e rfl rfl rfl (Ef.call call92 rfl rfl (Does.pre (fun w hw => hw.sub (Sub.keep 2 rfl (Sub.keep 0 rfl (Sub.keep 0 rfl (Sub.keep 0 rfl (Sub.refl _)))))) (l01Next_ok _ _ _ s (5 : Int) w0 _   (by first | assumption | omega | (try dsimp only at *; omega)) (by first | assumption | omega | (try dsimp only at *; omega))))) ?_
      rintro _ _ rfl
      refine O.exi (fun r4 => ?_)
      refine O.sep ?_
      refine O.pur ?_
      rintro ⟨rfl, hr4_1, hr4_2, hr4_3⟩
      refine O.p rfl rfl rfl (Pu.assign rfl rfl) ?_
      refine O.nil ?_
      refine X.next ?_
      refine V.block ?_
      refine V.loop3 (β := Int × (Option Addr) × Nat × (List B3)) (fun x => [(4, .int .i64 (x.1 : Int))]) _ (fun x => [Blk b2 [.int .i64 pv2, .slice x.2.1 x.2.2.2.length x.2.2.1] 26, Own 51 B3C x.2.1 x.2.2.1 x.2.2.2]) _ (fun x => x.1 ≤ 4 ∧ DrS 4100 pv2 x.2.2.2) (fun x => x.1.toNat) (r4, r3A, r3c, r3) (by (try dsimp only); exact ⟨by omega, hpv2_1⟩) (Ent.cons rfl (Ent.nil _)) (Ent.cons (t := 0) rfl (Ent.cons (t := 2) rfl (Ent.cons (t := 3) rfl (Ent.nil _)))) (Sub.keep 1 rfl (Sub.keep 1 rfl (Sub.keep 0 rfl (Sub.keep 0 rfl (Sub.refl _))))) ?_
      rintro ⟨k, xsA, xsc, xs⟩ ⟨hk, hDx⟩
      dsimp only at hk hDx ⊢
      refine V.seq ?_
      refine V.seq ?_
      refine V.region ?_
      refine O.p rfl rfl rfl (Pu.move rfl rfl) ?_
      refine O.p rfl rfl rfl (Pu.gtr rfl rfl rfl) ?_
      refine O.p rfl rfl rfl (Pu.move rfl rfl) ?_
      refine O.splitD 19 rfl (fun c3 => ?_) (fun c3 => ?_)
      · skip
        refine O.gp rfl rfl rfl rfl rfl (Pu.fieldAddr 1 rfl Tryz.underlying26 rfl sz24 rfl rfl) ?_
        refine O.gp rfl rfl rfl rfl rfl (Pu.load rfl pl24 rfl (Ld.blk 0 rfl rfl)) ?_
        refine O.gp rfl rfl rfl rfl rfl (Pu.len rfl Tryz.underlying24 rfl) ?_
        refine O.gp rfl rfl rfl rfl rfl (Pu.gtr rfl rfl rfl) ?_
        refine O.p rfl rfl rfl (Pu.pickT rfl rfl rfl) ?_
        refine O.nil ?_
        refine X.next ?_
        refine V.condD rfl (fun c4 => ?_) (fun c4 => ?_)
        · skip
          refine V.skip ?_
          refine X.next ?_
          refine V.seq ?_
          refine V.block ?_
          have hlx := hDx.2.2
          refine V.drawS mo (by kernel_rfl) (Sub.keep 0 rfl (Sub.keep 2 rfl (Sub.drop (Sub.drop (Sub.refl _))))) (fun hwf => ?_)
          refine D.p 0 rfl rfl rfl rfl rfl rfl (Pu.loadAgg rfl ag26 sz26 rfl rfl (Ld.whole 0 rfl)) ?_
          refine D.p 1 rfl rfl rfl rfl rfl rfl (Pu.move rfl rfl) ?_
          refine D.p 2 rfl rfl rfl rfl rfl rfl (Pu.fieldAddr 1 rfl Tryz.underlying26 rfl sz24 rfl rfl) ?_
          refine D.p 3 rfl rfl rfl rfl rfl rfl (Pu.load rfl pl24 rfl (Ld.blk 0 rfl rfl)) ?_
          refine D.p 4 rfl rfl rfl rfl rfl rfl (Pu.len rfl Tryz.underlying24 rfl) ?_
          refine D.eff hwf (e := 5) rfl rfl rfl rfl (Ef.call call92 rfl rfl (Does.pre (fun w hw => hw.sub (Sub.keep 2 rfl (Sub.keep 0 rfl (Sub.keep 0 rfl (Sub.keep 0 rfl (Sub.refl _)))))) (l01Next_ok _ _ _ s (↑xs.length : Int) w0 _   (by first | assumption | omega | (try dsimp only at *; omega)) (by first | assumption | omega | (try dsimp only at *; omega))))) rfl rfl rfl ?_
          rintro _ _ rfl hs
          refine ⟨fun w hw => hw.tail.sub (Sub.keep 0 rfl (Sub.keep 1 rfl (Sub.drop (Sub.refl _)))), ?_⟩
          refine D.exi (fun r5 => ?_)
          refine D.sep ?_
          refine D.pur1 ?_
          rintro ⟨rfl, hr5_1, hr5_2, hr5_3⟩
          refine D.eff hwf (e := 6) rfl rfl rfl rfl (Ef.call call185 rfl rfl (Does.pre (fun w hw => hw.sub (Sub.keep 2 rfl (Sub.keep 0 rfl (Sub.keep 0 rfl (Sub.keep 0 rfl (Sub.refl _)))))) (l01Without_ok  pv2 xs r5 _ _ w0 _   (by omega) (by omega)))) rfl rfl rfl ?_
          rintro _ _ rfl hs
          refine ⟨fun w hw => hw.tail.sub (Sub.keep 1 rfl (Sub.keep 1 rfl (Sub.drop (Sub.refl _)))), ?_⟩
          refine D.exi (fun r6A => ?_)
          refine D.exi (fun r6c => ?_)
          refine D.exi (fun r6 => ?_)
          refine D.sep ?_
          refine D.pur1 ?_
          rintro ⟨rfl, hr6_1⟩
          refine D.effX (Hs' := []) hwf (e := 7) rfl rfl rfl rfl (Ef.storeAll 2 rfl sz26 rfl rfl rfl rfl (by simp [Value.oneCell']) rfl) rfl [] rfl (List.forall_mem_nil _) ?_
          rintro _ _ rfl
          refine ⟨fun w hw => hw.sub (Sub.nil _), ?_⟩
          refine D.done hwf rfl ?_
          refine X.blockNormal ?_
          refine X.next ?_
          refine V.region ?_
          refine O.p rfl rfl rfl (Pu.move rfl rfl) ?_
          refine O.p rfl rfl rfl (Pu.sub64 rfl (by omega) rfl rfl rfl) ?_
          refine O.p rfl rfl rfl (Pu.assign rfl rfl) ?_
          refine O.nil ?_
          exact X.back3 ((k - (1 : Int)), r6A, r6c, r6) (by (try dsimp only); exact ⟨by omega, hDx.cut hr6_1⟩) (by first | omega | (dsimp only; omega)) (Ent.cons rfl (Ent.nil _)) (Ent.cons (t := 0) rfl (Ent.cons (t := 2) rfl (Ent.cons (t := 3) rfl (Ent.nil _)))) (Sub.keep 2 rfl (Sub.keep 0 rfl (Sub.keep 0 rfl (Sub.keep 0 rfl (Sub.refl _)))))
        · skip
          refine V.exit ?_
          refine X.thenExit ?_
          refine X.thenExit ?_
          refine X.blockHit ?_
          refine X.next ?_
          refine V.seq ?_
          refine V.region ?_
          refine O.p rfl rfl rfl (Pu.loadAgg rfl ag26 sz26 rfl rfl (Ld.whole 0 rfl)) ?_
          refine O.s rfl rfl (Ef.storeAll 3 rfl sz26 rfl rfl rfl rfl (by simp [Value.oneCell']) rfl) ?_
          rintro _ _ rfl
          refine O.nil ?_
          refine X.next ?_
          refine V.ret ?_
          refine X.blockRet ?_
          refine X.thenRet ?_
          refine X.retCell rfl ag26 sz26 rfl rfl (Ld.whole 3 rfl) ?_
          exact fun w hw => St.mkExi pv2 (St.mkExi xsA (St.mkExi xsc (St.mkExi xs (St.unsep (St.addPur ⟨rfl, hDx⟩ (St.unsep (hw.sub (Sub.keep 1 rfl (Sub.keep 1 rfl (Sub.drop (Sub.drop (Sub.refl _))))))))))))
      · skip
        refine O.gs rfl rfl rfl rfl rfl rfl ?_
        refine O.gs rfl rfl rfl rfl rfl rfl ?_
        refine O.gs rfl rfl rfl rfl rfl rfl ?_
        refine O.gs rfl rfl rfl rfl rfl rfl ?_
        refine O.p rfl rfl rfl (Pu.pickF rfl rfl rfl) ?_
        refine O.nil ?_
        refine X.next ?_
        refine V.condF rfl ?_
        refine V.exit ?_
        refine X.thenExit ?_
        refine X.thenExit ?_
        refine X.blockHit ?_
        refine X.next ?_
        refine V.seq ?_
        refine V.region ?_
        refine O.p rfl rfl rfl (Pu.loadAgg rfl ag26 sz26 rfl rfl (Ld.whole 0 rfl)) ?_
        refine O.s rfl rfl (Ef.storeAll 3 rfl sz26 rfl rfl rfl rfl (by simp [Value.oneCell']) rfl) ?_
        rintro _ _ rfl
        refine O.nil ?_
        refine X.next ?_
        refine V.ret ?_
        refine X.blockRet ?_
        refine X.thenRet ?_
        refine X.retCell rfl ag26 sz26 rfl rfl (Ld.whole 3 rfl) ?_
        exact fun w hw => St.mkExi pv2 (St.mkExi xsA (St.mkExi xsc (St.mkExi xs (St.unsep (St.addPur ⟨rfl, hDx⟩ (St.unsep (hw.sub (Sub.keep 1 rfl (Sub.keep 1 rfl (Sub.drop (Sub.drop (Sub.refl _))))))))))))
    · skip
      refine V.skip ?_
      refine X.blockNormal ?_
      refine X.next ?_
      refine V.seq ?_
      refine V.region ?_
      refine O.p rfl rfl rfl (Pu.move rfl rfl) ?_
      refine O.p rfl rfl rfl (Pu.move rfl rfl) ?_
      refine O.e rfl rfl rfl (Ef.call call92 rfl rfl (Does.pre (fun w hw => hw.sub (Sub.keep 0 rfl (Sub.keep 0 rfl (Sub.refl _)))) (l01Next_ok _ _ _ s (13 : Int) w0 _   (by first | assumption | omega | (try dsimp only at *; omega)) (by first | assumption | omega | (try dsimp only at *; omega))))) ?_
      rintro _ _ rfl
      refine O.exi (fun r7 => ?_)
      refine O.sep ?_
      refine O.pur ?_
      rintro ⟨rfl, hr7_1, hr7_2, hr7_3⟩
      refine O.p rfl rfl rfl (Pu.add64 rfl (by omega) rfl rfl rfl) ?_
      refine O.e rfl rfl rfl (Ef.call call186 rfl rfl (Does.pre (fun w hw => hw.sub (Sub.keep 0 rfl (Sub.keep 0 rfl (Sub.refl _)))) (l01DrawOf_ok _ _ _ s ((3 : Int) + r7) w0 _   (by first | assumption | omega | (try dsimp only at *; omega)) (by first | assumption | omega | (try dsimp only at *; omega)) (by omega)))) ?_
      rintro _ _ rfl
      refine O.exi (fun r8A => ?_)
      refine O.exi (fun r8c => ?_)
      refine O.exi (fun r8 => ?_)
      refine O.sep ?_
      refine O.pur ?_
      rintro ⟨rfl, hr8_1⟩
      refine O.sep ?_
      refine O.s rfl rfl (Ef.storeAll 2 rfl sz26 rfl rfl rfl rfl (by simp [Value.oneCell']) rfl) ?_
      rintro _ _ rfl
      refine O.nil ?_
      refine X.next ?_
      refine V.ret ?_
      refine X.retCell rfl ag26 sz26 rfl rfl (Ld.whole 2 rfl) ?_
      exact fun w hw => St.mkExi ((3 : Int) + r7) (St.mkExi r8A (St.mkExi r8c (St.mkExi r8 (St.unsep (St.addPur ⟨rfl, (by first | exact hpv1_1 | exact hpv2_1 | exact DrS.mono hr3_1 (by decide) | exact DrS.mono hr8_1 (by decide))⟩ (St.unsep (hw.sub (Sub.keep 0 rfl (Sub.keep 0 rfl (Sub.drop (Sub.refl _)))))))))))
set_option maxRecDepth 100000 in
set_option maxHeartbeats 1000000 in
theorem l01Bad_ok (cA : Option Addr) (cc : Nat) (code : List UInt8) (s : Nat) (v : Int) (bs : List B3) (A : Option Addr) (c : Nat) (w0 : World) (H : List Assn) (hc : Rd U8C w0 cA code) (lc : code.length ≤ 1048576) (hD : DrS 4100 v bs) : Does Tryz.prog 94 [.pointer (some ⟨s, 0, none⟩), .agg #[.int .i64 v, .slice A bs.length c]] w0 (SrcK 132 cA cc code s :: Own 51 B3C A c bs :: H) (fun rv_ => [.exi fun (pv : Int) => .exi fun (rA : Option Addr) => .exi fun (rc : Nat) => .exi fun (r : List B3) => .sep (.pur (rv_ = .agg #[.int .i64 pv, .slice rA r.length rc] ∧ (-1 ≤ pv ∧ pv ≤ 16) ∧ r.length ≤ 4200)) (.sep (Own 51 B3C rA rc r) (SrcK 132 cA cc code s))] ++ H) := by
  refine Does.enter Tryz.func94 rfl rfl [(0, .pointer (some ⟨s, 0, none⟩)), (1, .agg #[.int .i64 v, .slice A bs.length c])] rfl ?_
  have hv := hD.1
  have hl := hD.2.2
  refine V.seq ?_
  refine V.region ?_
  refine O.e rfl rfl rfl (Ef.box rfl rfl rfl) ?_
  rintro _ _ ⟨b1, rfl, rfl⟩
  refine O.e rfl rfl rfl (Ef.alloc rfl zr26 rfl) ?_
  rintro _ _ ⟨b2, rfl, rfl⟩
  refine O.nil ?_
  refine X.next ?_
  refine V.seq ?_
  refine V.region ?_
  refine O.e rfl rfl rfl (Ef.build B3C ([] : List B3) rfl Tryz.underlying24 inf51 rfl rfl rfl (by first | decide | (simp; done)) (by kernel_rfl)) ?_
  rintro _ _ ⟨A1, hA1, rfl, rfl⟩
  refine O.p rfl rfl rfl (Pu.fieldAddr 1 rfl Tryz.underlying26 rfl sz24 rfl rfl) ?_
  refine O.p rfl rfl rfl (Pu.load rfl pl24 rfl (Ld.blk 2 rfl rfl)) ?_
  refine O.e rfl rfl rfl (Ef.appendN (xs := ([] : List B3)) (ys := bs) 0 rfl Tryz.underlying24 inf51 rfl rfl rfl rfl rfl rfl (fun w hw h => Own.nilc hw (i := 4) (by exact rfl) h) (Ld.own 4 (by exact rfl)) (by simp only [List.length_append, List.length_cons, List.length_nil] at *; omega) (by decide)) ?_
  rintro _ _ ⟨A2, k1, rfl, rfl, hA2⟩
  replace hA2 := hA2 (.inl hA1)
  refine O.p rfl rfl rfl (Pu.assign rfl rfl) ?_
  refine O.nil ?_
  refine X.next ?_
  refine V.seq ?_
  refine V.seq ?_
  refine V.region ?_
  refine O.p rfl rfl rfl (Pu.move rfl rfl) ?_
  refine O.e rfl rfl rfl (Ef.call call92 rfl rfl (Does.pre (fun w hw => hw.sub (Sub.keep 3 rfl (Sub.keep 0 rfl (Sub.keep 0 rfl (Sub.keep 0 rfl (Sub.keep 0 rfl (Sub.refl _))))))) (l01Next_ok _ _ _ s (50 : Int) w0 _   (by first | assumption | omega | (try dsimp only at *; omega)) (by first | assumption | omega | (try dsimp only at *; omega))))) ?_
  rintro _ _ rfl
  refine O.exi (fun r1 => ?_)
  refine O.sep ?_
  refine O.pur ?_
  rintro ⟨rfl, hr1_1, hr1_2, hr1_3⟩
  refine O.nil ?_
  refine X.next ?_
  refine V.block ?_
  refine V.seq ?_
  refine V.region ?_
  refine O.p rfl rfl rfl (Pu.eql rfl rfl rfl) ?_
  refine O.p rfl rfl rfl (Pu.assign rfl rfl) ?_
  refine O.nil ?_
  refine X.next ?_
  refine V.condD rfl (fun c1 => ?_) (fun c1 => ?_)
  · skip
    refine V.seq ?_
    refine V.region ?_
    refine O.p rfl rfl rfl (Pu.move rfl rfl) ?_
    refine O.e rfl rfl rfl (Ef.build I64 ([(2 : Int), (16 : Int), (0 : Int), (-1 : Int)] : List Int) rfl Tryz.underlying34 inf2 rfl rfl rfl (by first | decide | (simp; done)) (by kernel_rfl)) ?_
    rintro _ _ ⟨A3, hA3, rfl, rfl⟩
    refine O.e rfl rfl rfl (Ef.call call93 rfl rfl (Does.pre (fun w hw => hw.sub (Sub.keep 1 rfl (Sub.keep 0 rfl (Sub.keep 0 rfl (Sub.keep 0 rfl (Sub.keep 0 rfl (Sub.keep 0 rfl (Sub.refl _)))))))) (l01Pick_ok _ _ _ s ([(2 : Int), (16 : Int), (0 : Int), (-1 : Int)] : List Int) _ _ w0 _ (Ld.own 0 (by exact rfl)) (by first | omega | (simp only [tops_len, conts_len, bl, List.length_append, List.length_cons, List.length_nil] at *; omega)) (by first | assumption | omega | (try dsimp only at *; omega)) (by first | assumption | omega | (try dsimp only at *; omega)) (by first | (simp; done) | omega)))) ?_
    rintro _ _ rfl
    refine O.exi (fun r2 => ?_)
    refine O.sep ?_
    refine O.pur ?_
    rintro ⟨rfl, hr2_1⟩
    have hpk : r2 = 2 ∨ r2 = 16 ∨ r2 = 0 ∨ r2 = -1 := by simpa using hr2_1
    refine O.p rfl rfl rfl (Pu.move rfl rfl) ?_
    refine O.p rfl rfl rfl (Pu.buildS (cs := [.int .i64 r2, .slice A2 ((([] : List B3) ++ bs).length) k1]) rfl rfl Tryz.underlying26 zr26 (by kernel_rfl) rfl (by kernel_rfl)) ?_
    refine O.s rfl rfl (Ef.storeAll 3 rfl sz26 rfl rfl rfl rfl (by simp [Value.oneCell']) rfl) ?_
    rintro _ _ rfl
    refine O.nil ?_
    refine X.next ?_
    refine V.ret ?_
    refine X.blockRet ?_
    refine X.thenRet ?_
    refine X.retCell rfl ag26 sz26 rfl rfl (Ld.whole 3 rfl) ?_
    exact fun w hw => St.mkExi r2 (St.mkExi A2 (St.mkExi k1 (St.mkExi (([] : List B3) ++ bs) (St.unsep (St.addPur ⟨(by first | rfl | (simp only [List.length_set])), by omega, by first | omega | (simp only [List.length_append, List.length_cons, List.length_nil, List.length_set]; omega)⟩ (St.unsep (hw.sub (Sub.keep 2 rfl (Sub.keep 0 rfl (Sub.drop (Sub.drop (Sub.drop (Sub.drop (Sub.refl _))))))))))))))
  · skip
    refine V.seq ?_
    refine V.region ?_
    refine O.p rfl rfl rfl (Pu.eql rfl rfl rfl) ?_
    refine O.p rfl rfl rfl (Pu.assign rfl rfl) ?_
    refine O.nil ?_
    refine X.next ?_
    refine V.condD rfl (fun c2 => ?_) (fun c2 => ?_)
    · skip
      refine V.drawS mo (by kernel_rfl) (Sub.keep 2 rfl (Sub.keep 2 rfl (Sub.keep 2 rfl (Sub.drop (Sub.drop (Sub.refl _)))))) (fun hwf => ?_)
      refine D.p 0 rfl rfl rfl rfl rfl rfl (Pu.move rfl rfl) ?_
      refine D.p 1 rfl rfl rfl rfl rfl rfl (Pu.move rfl rfl) ?_
      refine D.p 3 rfl rfl rfl rfl rfl rfl (Pu.move rfl rfl) ?_
      refine D.p 4 rfl rfl rfl rfl rfl rfl (Pu.fieldAddr 0 rfl Tryz.underlying26 rfl sz2 rfl rfl) ?_
      refine D.p 5 rfl rfl rfl rfl rfl rfl (Pu.load rfl pl2 rfl (Ld.blk 1 rfl rfl)) ?_
      refine D.p 8 rfl rfl rfl rfl rfl rfl (Pu.move rfl rfl) ?_
      refine D.p 9 rfl rfl rfl rfl rfl rfl (Pu.fieldAddr 0 rfl Tryz.underlying26 rfl sz2 rfl rfl) ?_
      refine D.p 10 rfl rfl rfl rfl rfl rfl (Pu.load rfl pl2 rfl (Ld.blk 1 rfl rfl)) ?_
      refine D.p 11 rfl rfl rfl rfl rfl rfl (Pu.fieldAddr 0 rfl Tryz.underlying26 rfl sz2 rfl rfl) ?_
      refine D.p 12 rfl rfl rfl rfl rfl rfl (Pu.load rfl pl2 rfl (Ld.blk 1 rfl rfl)) ?_
      refine D.p 13 rfl rfl rfl rfl rfl rfl (Pu.sub64 rfl (by omega) rfl rfl rfl) ?_
      refine D.either3 hwf (e1 := 2) (e2 := 6) (e3 := 14) rfl ?_ ?_ ?_
      · skip
        refine ⟨_, _, rfl, rfl, fun _ _ => wanted_none rfl _, Ef.call call92 rfl rfl (Does.pre (fun w hw => hw.sub (Sub.keep 0 rfl (Sub.keep 0 rfl (Sub.keep 0 rfl (Sub.keep 0 rfl (Sub.keep 0 rfl (Sub.refl _))))))) (l01Next_ok _ _ _ s (3 : Int) w0 _   (by first | assumption | omega | (try dsimp only at *; omega)) (by first | assumption | omega | (try dsimp only at *; omega)))), rfl, rfl, ?_⟩
        rintro _ _ rfl hs
        refine ⟨fun w hw => hw.tail.sub (Sub.keep 1 rfl (Sub.keep 1 rfl (Sub.keep 1 rfl (Sub.drop (Sub.refl _))))), ?_⟩
        refine D.exi (fun r3 => ?_)
        refine D.sep ?_
        refine D.pur1 ?_
        rintro ⟨rfl, hr3_1, hr3_2, hr3_3⟩
        refine D.either hwf (e1 := 6) (e2 := 14) rfl ?_ ?_
        · skip
          refine ⟨_, _, rfl, rfl, fun _ _ => wanted_none rfl _, Ef.build I64 ([(1 : Int), (2 : Int), v] : List Int) rfl Tryz.underlying34 inf2 rfl rfl rfl (by first | decide | (simp; done)) (by kernel_rfl), rfl, rfl, ?_⟩
          rintro _ _ ⟨A4, hA4, rfl, rfl⟩ hs
          refine ⟨fun w hw => hw.sub (Sub.keep 3 rfl (Sub.keep 3 rfl (Sub.keep 3 rfl (Sub.drop (Sub.drop (Sub.drop (Sub.refl _))))))), ?_⟩
          refine D.either hwf (e1 := 7) (e2 := 14) rfl ?_ ?_
          · skip
            refine ⟨_, _, rfl, rfl, fun _ _ => wanted_none rfl _, Ef.call call93 rfl rfl (Does.pre (fun w hw => hw.sub (Sub.keep 1 rfl (Sub.keep 0 rfl (Sub.keep 0 rfl (Sub.keep 0 rfl (Sub.keep 0 rfl (Sub.keep 0 rfl (Sub.refl _)))))))) (l01Pick_ok _ _ _ s ([(1 : Int), (2 : Int), v] : List Int) _ _ w0 _ (Ld.own 0 (by exact rfl)) (by first | omega | (simp only [tops_len, conts_len, bl, List.length_append, List.length_cons, List.length_nil] at *; omega)) (by first | assumption | omega | (try dsimp only at *; omega)) (by first | assumption | omega | (try dsimp only at *; omega)) (by first | (simp; done) | omega))), rfl, rfl, ?_⟩
            rintro _ _ rfl hs
            refine ⟨fun w hw => hw.tail.sub (Sub.keep 2 rfl (Sub.keep 2 rfl (Sub.keep 2 rfl (Sub.drop (Sub.drop (Sub.refl _)))))), ?_⟩
            refine D.exi (fun r4 => ?_)
            refine D.sep ?_
            refine D.pur1 ?_
            rintro ⟨rfl, hr4_1⟩
            refine D.eff hwf (e := 14) rfl rfl rfl rfl (Ef.build I64 ([(2 : Int), v, (v - (1 : Int))] : List Int) rfl Tryz.underlying34 inf2 rfl rfl rfl (by first | decide | (simp; done)) (by kernel_rfl)) rfl rfl rfl ?_
            rintro _ _ ⟨A5, hA5, rfl, rfl⟩ hs
            refine ⟨fun w hw => hw.sub (Sub.keep 4 rfl (Sub.keep 4 rfl (Sub.keep 4 rfl (Sub.drop (Sub.drop (Sub.drop (Sub.drop (Sub.refl _)))))))), ?_⟩
            refine D.eff hwf (e := 15) rfl rfl rfl rfl (Ef.call call93 rfl rfl (Does.pre (fun w hw => hw.sub (Sub.keep 1 rfl (Sub.keep 0 rfl (Sub.keep 0 rfl (Sub.keep 0 rfl (Sub.keep 0 rfl (Sub.keep 0 rfl (Sub.keep 0 rfl (Sub.refl _))))))))) (l01Pick_ok _ _ _ s ([(2 : Int), v, (v - (1 : Int))] : List Int) _ _ w0 _ (Ld.own 0 (by exact rfl)) (by first | omega | (simp only [tops_len, conts_len, bl, List.length_append, List.length_cons, List.length_nil] at *; omega)) (by first | assumption | omega | (try dsimp only at *; omega)) (by first | assumption | omega | (try dsimp only at *; omega)) (by first | (simp; done) | omega)))) rfl rfl rfl ?_
            rintro _ _ rfl hs
            refine ⟨fun w hw => hw.tail.sub (Sub.keep 3 rfl (Sub.keep 3 rfl (Sub.keep 3 rfl (Sub.drop (Sub.drop (Sub.drop (Sub.refl _))))))), ?_⟩
            refine D.exi (fun r5 => ?_)
            refine D.sep ?_
            refine D.pur1 ?_
            rintro ⟨rfl, hr5_1⟩
            refine D.p 16 rfl rfl rfl rfl rfl rfl (Pu.buildA (cs := [.int .i64 r3, .int .i64 r4, .int .i64 r5]) (v := B3.v (r3, r4, r5)) rfl rfl Tryz.underlying51 zr51 sz2 rfl (by kernel_rfl)) ?_
            refine D.eff hwf (e := 17) rfl rfl rfl rfl (Ef.build B3C ([(r3, r4, r5)] : List B3) rfl Tryz.underlying24 inf51 rfl rfl rfl (by first | decide | (simp; done)) (by kernel_rfl)) rfl rfl rfl ?_
            rintro _ _ ⟨A6, hA6, rfl, rfl⟩ hs
            refine ⟨fun w hw => hw.sub (Sub.keep 5 rfl (Sub.keep 5 rfl (Sub.keep 5 rfl (Sub.drop (Sub.drop (Sub.drop (Sub.drop (Sub.drop (Sub.refl _))))))))), ?_⟩
            refine D.eff hwf (e := 18) rfl rfl rfl rfl (Ef.append (xs := (([] : List B3) ++ bs)) (ys := ([(r3, r4, r5)] : List B3)) 4 rfl Tryz.underlying24 inf51 rfl rfl rfl rfl rfl rfl hA6 (Ld.own 0 (by exact rfl)) (by simp only [List.length_append, List.length_cons, List.length_nil] at *; omega) (by decide)) rfl rfl rfl ?_
            rintro _ _ ⟨A7, k2, rfl, rfl, hA7⟩ hs
            replace hA7 := hA7 (.inr (by simp))
            refine ⟨fun w hw => hw.sub (Sub.keep 5 rfl (Sub.keep 5 rfl (Sub.keep 5 rfl (Sub.drop (Sub.drop (Sub.drop (Sub.drop (Sub.drop (Sub.refl _))))))))), ?_⟩
            refine D.last hwf (e := 19) rfl rfl rfl rfl rfl rfl (Pu.assign rfl rfl) ?_
            refine X.blockNormal ?_
            refine X.next ?_
            refine V.seq ?_
            refine V.region ?_
            refine O.p rfl rfl rfl (Pu.fieldAddr 0 rfl Tryz.underlying26 rfl sz2 rfl rfl) ?_
            refine O.p rfl rfl rfl (Pu.load rfl pl2 rfl (Ld.blk 6 rfl rfl)) ?_
            refine O.p rfl rfl rfl (Pu.move rfl rfl) ?_
            refine O.p rfl rfl rfl (Pu.buildS (cs := [.int .i64 v, .slice A7 (((([] : List B3) ++ bs) ++ ([(r3, r4, r5)] : List B3)).length) k2]) rfl rfl Tryz.underlying26 zr26 (by kernel_rfl) rfl (by kernel_rfl)) ?_
            refine O.s rfl rfl (Ef.storeAll 5 rfl sz26 rfl rfl rfl rfl (by simp [Value.oneCell']) rfl) ?_
            rintro _ _ rfl
            refine O.nil ?_
            refine X.next ?_
            refine V.ret ?_
            refine X.retCell rfl ag26 sz26 rfl rfl (Ld.whole 5 rfl) ?_
            exact fun w hw => St.mkExi v (St.mkExi A7 (St.mkExi k2 (St.mkExi ((([] : List B3) ++ bs) ++ ([(r3, r4, r5)] : List B3)) (St.unsep (St.addPur ⟨(by first | rfl | (simp only [List.length_set])), by omega, by first | omega | (simp only [List.length_append, List.length_cons, List.length_nil, List.length_set]; omega)⟩ (St.unsep (hw.sub (Sub.keep 4 rfl (Sub.keep 1 rfl (Sub.drop (Sub.drop (Sub.drop (Sub.drop (Sub.drop (Sub.drop (Sub.refl _))))))))))))))))
          · skip
            refine ⟨_, _, rfl, rfl, fun _ _ => wanted_none rfl _, Ef.build I64 ([(2 : Int), v, (v - (1 : Int))] : List Int) rfl Tryz.underlying34 inf2 rfl rfl rfl (by first | decide | (simp; done)) (by kernel_rfl), rfl, rfl, ?_⟩
            rintro _ _ ⟨A5, hA5, rfl, rfl⟩ hs
            refine ⟨fun w hw => hw.sub (Sub.keep 4 rfl (Sub.keep 4 rfl (Sub.keep 4 rfl (Sub.drop (Sub.drop (Sub.drop (Sub.drop (Sub.refl _)))))))), ?_⟩
            refine D.eff hwf (e := 7) rfl rfl rfl rfl (Ef.call call93 rfl rfl (Does.pre (fun w hw => hw.sub (Sub.keep 2 rfl (Sub.keep 0 rfl (Sub.keep 0 rfl (Sub.keep 0 rfl (Sub.keep 0 rfl (Sub.keep 0 rfl (Sub.keep 0 rfl (Sub.refl _))))))))) (l01Pick_ok _ _ _ s ([(1 : Int), (2 : Int), v] : List Int) _ _ w0 _ (Ld.own 1 (by exact rfl)) (by first | omega | (simp only [tops_len, conts_len, bl, List.length_append, List.length_cons, List.length_nil] at *; omega)) (by first | assumption | omega | (try dsimp only at *; omega)) (by first | assumption | omega | (try dsimp only at *; omega)) (by first | (simp; done) | omega)))) rfl rfl rfl ?_
            rintro _ _ rfl hs
            refine ⟨fun w hw => hw.tail.sub (Sub.keep 3 rfl (Sub.keep 3 rfl (Sub.keep 3 rfl (Sub.drop (Sub.drop (Sub.drop (Sub.refl _))))))), ?_⟩
            refine D.exi (fun r4 => ?_)
            refine D.sep ?_
            refine D.pur1 ?_
            rintro ⟨rfl, hr4_1⟩
            refine D.eff hwf (e := 15) rfl rfl rfl rfl (Ef.call call93 rfl rfl (Does.pre (fun w hw => hw.sub (Sub.keep 0 rfl (Sub.keep 0 rfl (Sub.keep 0 rfl (Sub.keep 0 rfl (Sub.keep 0 rfl (Sub.keep 0 rfl (Sub.keep 0 rfl (Sub.refl _))))))))) (l01Pick_ok _ _ _ s ([(2 : Int), v, (v - (1 : Int))] : List Int) _ _ w0 _ (Ld.own 0 (by exact rfl)) (by first | omega | (simp only [tops_len, conts_len, bl, List.length_append, List.length_cons, List.length_nil] at *; omega)) (by first | assumption | omega | (try dsimp only at *; omega)) (by first | assumption | omega | (try dsimp only at *; omega)) (by first | (simp; done) | omega)))) rfl rfl rfl ?_
            rintro _ _ rfl hs
            refine ⟨fun w hw => hw.tail.sub (Sub.keep 3 rfl (Sub.keep 3 rfl (Sub.keep 3 rfl (Sub.drop (Sub.drop (Sub.drop (Sub.refl _))))))), ?_⟩
            refine D.exi (fun r5 => ?_)
            refine D.sep ?_
            refine D.pur1 ?_
            rintro ⟨rfl, hr5_1⟩
            refine D.p 16 rfl rfl rfl rfl rfl rfl (Pu.buildA (cs := [.int .i64 r3, .int .i64 r4, .int .i64 r5]) (v := B3.v (r3, r4, r5)) rfl rfl Tryz.underlying51 zr51 sz2 rfl (by kernel_rfl)) ?_
            refine D.eff hwf (e := 17) rfl rfl rfl rfl (Ef.build B3C ([(r3, r4, r5)] : List B3) rfl Tryz.underlying24 inf51 rfl rfl rfl (by first | decide | (simp; done)) (by kernel_rfl)) rfl rfl rfl ?_
            rintro _ _ ⟨A6, hA6, rfl, rfl⟩ hs
            refine ⟨fun w hw => hw.sub (Sub.keep 5 rfl (Sub.keep 5 rfl (Sub.keep 5 rfl (Sub.drop (Sub.drop (Sub.drop (Sub.drop (Sub.drop (Sub.refl _))))))))), ?_⟩
            refine D.eff hwf (e := 18) rfl rfl rfl rfl (Ef.append (xs := (([] : List B3) ++ bs)) (ys := ([(r3, r4, r5)] : List B3)) 4 rfl Tryz.underlying24 inf51 rfl rfl rfl rfl rfl rfl hA6 (Ld.own 0 (by exact rfl)) (by simp only [List.length_append, List.length_cons, List.length_nil] at *; omega) (by decide)) rfl rfl rfl ?_
            rintro _ _ ⟨A7, k2, rfl, rfl, hA7⟩ hs
            replace hA7 := hA7 (.inr (by simp))
            refine ⟨fun w hw => hw.sub (Sub.keep 5 rfl (Sub.keep 5 rfl (Sub.keep 5 rfl (Sub.drop (Sub.drop (Sub.drop (Sub.drop (Sub.drop (Sub.refl _))))))))), ?_⟩
            refine D.last hwf (e := 19) rfl rfl rfl rfl rfl rfl (Pu.assign rfl rfl) ?_
            refine X.blockNormal ?_
            refine X.next ?_
            refine V.seq ?_
            refine V.region ?_
            refine O.p rfl rfl rfl (Pu.fieldAddr 0 rfl Tryz.underlying26 rfl sz2 rfl rfl) ?_
            refine O.p rfl rfl rfl (Pu.load rfl pl2 rfl (Ld.blk 6 rfl rfl)) ?_
            refine O.p rfl rfl rfl (Pu.move rfl rfl) ?_
            refine O.p rfl rfl rfl (Pu.buildS (cs := [.int .i64 v, .slice A7 (((([] : List B3) ++ bs) ++ ([(r3, r4, r5)] : List B3)).length) k2]) rfl rfl Tryz.underlying26 zr26 (by kernel_rfl) rfl (by kernel_rfl)) ?_
            refine O.s rfl rfl (Ef.storeAll 5 rfl sz26 rfl rfl rfl rfl (by simp [Value.oneCell']) rfl) ?_
            rintro _ _ rfl
            refine O.nil ?_
            refine X.next ?_
            refine V.ret ?_
            refine X.retCell rfl ag26 sz26 rfl rfl (Ld.whole 5 rfl) ?_
            exact fun w hw => St.mkExi v (St.mkExi A7 (St.mkExi k2 (St.mkExi ((([] : List B3) ++ bs) ++ ([(r3, r4, r5)] : List B3)) (St.unsep (St.addPur ⟨(by first | rfl | (simp only [List.length_set])), by omega, by first | omega | (simp only [List.length_append, List.length_cons, List.length_nil, List.length_set]; omega)⟩ (St.unsep (hw.sub (Sub.keep 4 rfl (Sub.keep 1 rfl (Sub.drop (Sub.drop (Sub.drop (Sub.drop (Sub.drop (Sub.drop (Sub.refl _))))))))))))))))
        · skip
          refine ⟨_, _, rfl, rfl, fun _ _ => wanted_none rfl _, Ef.build I64 ([(2 : Int), v, (v - (1 : Int))] : List Int) rfl Tryz.underlying34 inf2 rfl rfl rfl (by first | decide | (simp; done)) (by kernel_rfl), rfl, rfl, ?_⟩
          rintro _ _ ⟨A4, hA4, rfl, rfl⟩ hs
          refine ⟨fun w hw => hw.sub (Sub.keep 3 rfl (Sub.keep 3 rfl (Sub.keep 3 rfl (Sub.drop (Sub.drop (Sub.drop (Sub.refl _))))))), ?_⟩
          refine D.eff hwf (e := 6) rfl rfl rfl rfl (Ef.build I64 ([(1 : Int), (2 : Int), v] : List Int) rfl Tryz.underlying34 inf2 rfl rfl rfl (by first | decide | (simp; done)) (by kernel_rfl)) rfl rfl rfl ?_
          rintro _ _ ⟨A5, hA5, rfl, rfl⟩ hs
          refine ⟨fun w hw => hw.sub (Sub.keep 4 rfl (Sub.keep 4 rfl (Sub.keep 4 rfl (Sub.drop (Sub.drop (Sub.drop (Sub.drop (Sub.refl _)))))))), ?_⟩
          refine D.eff hwf (e := 7) rfl rfl rfl rfl (Ef.call call93 rfl rfl (Does.pre (fun w hw => hw.sub (Sub.keep 2 rfl (Sub.keep 0 rfl (Sub.keep 0 rfl (Sub.keep 0 rfl (Sub.keep 0 rfl (Sub.keep 0 rfl (Sub.keep 0 rfl (Sub.refl _))))))))) (l01Pick_ok _ _ _ s ([(1 : Int), (2 : Int), v] : List Int) _ _ w0 _ (Ld.own 0 (by exact rfl)) (by first | omega | (simp only [tops_len, conts_len, bl, List.length_append, List.length_cons, List.length_nil] at *; omega)) (by first | assumption | omega | (try dsimp only at *; omega)) (by first | assumption | omega | (try dsimp only at *; omega)) (by first | (simp; done) | omega)))) rfl rfl rfl ?_
          rintro _ _ rfl hs
          refine ⟨fun w hw => hw.tail.sub (Sub.keep 3 rfl (Sub.keep 3 rfl (Sub.keep 3 rfl (Sub.drop (Sub.drop (Sub.drop (Sub.refl _))))))), ?_⟩
          refine D.exi (fun r4 => ?_)
          refine D.sep ?_
          refine D.pur1 ?_
          rintro ⟨rfl, hr4_1⟩
          refine D.eff hwf (e := 15) rfl rfl rfl rfl (Ef.call call93 rfl rfl (Does.pre (fun w hw => hw.sub (Sub.keep 0 rfl (Sub.keep 0 rfl (Sub.keep 0 rfl (Sub.keep 0 rfl (Sub.keep 0 rfl (Sub.keep 0 rfl (Sub.keep 0 rfl (Sub.refl _))))))))) (l01Pick_ok _ _ _ s ([(2 : Int), v, (v - (1 : Int))] : List Int) _ _ w0 _ (Ld.own 1 (by exact rfl)) (by first | omega | (simp only [tops_len, conts_len, bl, List.length_append, List.length_cons, List.length_nil] at *; omega)) (by first | assumption | omega | (try dsimp only at *; omega)) (by first | assumption | omega | (try dsimp only at *; omega)) (by first | (simp; done) | omega)))) rfl rfl rfl ?_
          rintro _ _ rfl hs
          refine ⟨fun w hw => hw.tail.sub (Sub.keep 3 rfl (Sub.keep 3 rfl (Sub.keep 3 rfl (Sub.drop (Sub.drop (Sub.drop (Sub.refl _))))))), ?_⟩
          refine D.exi (fun r5 => ?_)
          refine D.sep ?_
          refine D.pur1 ?_
          rintro ⟨rfl, hr5_1⟩
          refine D.p 16 rfl rfl rfl rfl rfl rfl (Pu.buildA (cs := [.int .i64 r3, .int .i64 r4, .int .i64 r5]) (v := B3.v (r3, r4, r5)) rfl rfl Tryz.underlying51 zr51 sz2 rfl (by kernel_rfl)) ?_
          refine D.eff hwf (e := 17) rfl rfl rfl rfl (Ef.build B3C ([(r3, r4, r5)] : List B3) rfl Tryz.underlying24 inf51 rfl rfl rfl (by first | decide | (simp; done)) (by kernel_rfl)) rfl rfl rfl ?_
          rintro _ _ ⟨A6, hA6, rfl, rfl⟩ hs
          refine ⟨fun w hw => hw.sub (Sub.keep 5 rfl (Sub.keep 5 rfl (Sub.keep 5 rfl (Sub.drop (Sub.drop (Sub.drop (Sub.drop (Sub.drop (Sub.refl _))))))))), ?_⟩
          refine D.eff hwf (e := 18) rfl rfl rfl rfl (Ef.append (xs := (([] : List B3) ++ bs)) (ys := ([(r3, r4, r5)] : List B3)) 4 rfl Tryz.underlying24 inf51 rfl rfl rfl rfl rfl rfl hA6 (Ld.own 0 (by exact rfl)) (by simp only [List.length_append, List.length_cons, List.length_nil] at *; omega) (by decide)) rfl rfl rfl ?_
          rintro _ _ ⟨A7, k2, rfl, rfl, hA7⟩ hs
          replace hA7 := hA7 (.inr (by simp))
          refine ⟨fun w hw => hw.sub (Sub.keep 5 rfl (Sub.keep 5 rfl (Sub.keep 5 rfl (Sub.drop (Sub.drop (Sub.drop (Sub.drop (Sub.drop (Sub.refl _))))))))), ?_⟩
          refine D.last hwf (e := 19) rfl rfl rfl rfl rfl rfl (Pu.assign rfl rfl) ?_
          refine X.blockNormal ?_
          refine X.next ?_
          refine V.seq ?_
          refine V.region ?_
          refine O.p rfl rfl rfl (Pu.fieldAddr 0 rfl Tryz.underlying26 rfl sz2 rfl rfl) ?_
          refine O.p rfl rfl rfl (Pu.load rfl pl2 rfl (Ld.blk 6 rfl rfl)) ?_
          refine O.p rfl rfl rfl (Pu.move rfl rfl) ?_
          refine O.p rfl rfl rfl (Pu.buildS (cs := [.int .i64 v, .slice A7 (((([] : List B3) ++ bs) ++ ([(r3, r4, r5)] : List B3)).length) k2]) rfl rfl Tryz.underlying26 zr26 (by kernel_rfl) rfl (by kernel_rfl)) ?_
          refine O.s rfl rfl (Ef.storeAll 5 rfl sz26 rfl rfl rfl rfl (by simp [Value.oneCell']) rfl) ?_
          rintro _ _ rfl
          refine O.nil ?_
          refine X.next ?_
          refine V.ret ?_
          refine X.retCell rfl ag26 sz26 rfl rfl (Ld.whole 5 rfl) ?_
          exact fun w hw => St.mkExi v (St.mkExi A7 (St.mkExi k2 (St.mkExi ((([] : List B3) ++ bs) ++ ([(r3, r4, r5)] : List B3)) (St.unsep (St.addPur ⟨(by first | rfl | (simp only [List.length_set])), by omega, by first | omega | (simp only [List.length_append, List.length_cons, List.length_nil, List.length_set]; omega)⟩ (St.unsep (hw.sub (Sub.keep 4 rfl (Sub.keep 1 rfl (Sub.drop (Sub.drop (Sub.drop (Sub.drop (Sub.drop (Sub.drop (Sub.refl _))))))))))))))))
      · skip
        refine ⟨_, _, rfl, rfl, fun _ _ => wanted_none rfl _, Ef.build I64 ([(1 : Int), (2 : Int), v] : List Int) rfl Tryz.underlying34 inf2 rfl rfl rfl (by first | decide | (simp; done)) (by kernel_rfl), rfl, rfl, ?_⟩
        rintro _ _ ⟨A4, hA4, rfl, rfl⟩ hs
        refine ⟨fun w hw => hw.sub (Sub.keep 3 rfl (Sub.keep 3 rfl (Sub.keep 3 rfl (Sub.drop (Sub.drop (Sub.drop (Sub.refl _))))))), ?_⟩
        refine D.either hwf (e1 := 2) (e2 := 14) rfl ?_ ?_
        · skip
          refine ⟨_, _, rfl, rfl, fun _ _ => wanted_none rfl _, Ef.call call92 rfl rfl (Does.pre (fun w hw => hw.sub (Sub.keep 1 rfl (Sub.keep 0 rfl (Sub.keep 0 rfl (Sub.keep 0 rfl (Sub.keep 0 rfl (Sub.keep 0 rfl (Sub.refl _)))))))) (l01Next_ok _ _ _ s (3 : Int) w0 _   (by first | assumption | omega | (try dsimp only at *; omega)) (by first | assumption | omega | (try dsimp only at *; omega)))), rfl, rfl, ?_⟩
          rintro _ _ rfl hs
          refine ⟨fun w hw => hw.tail.sub (Sub.keep 2 rfl (Sub.keep 2 rfl (Sub.keep 2 rfl (Sub.drop (Sub.drop (Sub.refl _)))))), ?_⟩
          refine D.exi (fun r3 => ?_)
          refine D.sep ?_
          refine D.pur1 ?_
          rintro ⟨rfl, hr3_1, hr3_2, hr3_3⟩
          refine D.either hwf (e1 := 7) (e2 := 14) rfl ?_ ?_
          · skip
            refine ⟨_, _, rfl, rfl, fun _ _ => wanted_none rfl _, Ef.call call93 rfl rfl (Does.pre (fun w hw => hw.sub (Sub.keep 0 rfl (Sub.keep 0 rfl (Sub.keep 0 rfl (Sub.keep 0 rfl (Sub.keep 0 rfl (Sub.keep 0 rfl (Sub.refl _)))))))) (l01Pick_ok _ _ _ s ([(1 : Int), (2 : Int), v] : List Int) _ _ w0 _ (Ld.own 0 (by exact rfl)) (by first | omega | (simp only [tops_len, conts_len, bl, List.length_append, List.length_cons, List.length_nil] at *; omega)) (by first | assumption | omega | (try dsimp only at *; omega)) (by first | assumption | omega | (try dsimp only at *; omega)) (by first | (simp; done) | omega))), rfl, rfl, ?_⟩
            rintro _ _ rfl hs
            refine ⟨fun w hw => hw.tail.sub (Sub.keep 2 rfl (Sub.keep 2 rfl (Sub.keep 2 rfl (Sub.drop (Sub.drop (Sub.refl _)))))), ?_⟩
            refine D.exi (fun r4 => ?_)
            refine D.sep ?_
            refine D.pur1 ?_
            rintro ⟨rfl, hr4_1⟩
            refine D.eff hwf (e := 14) rfl rfl rfl rfl (Ef.build I64 ([(2 : Int), v, (v - (1 : Int))] : List Int) rfl Tryz.underlying34 inf2 rfl rfl rfl (by first | decide | (simp; done)) (by kernel_rfl)) rfl rfl rfl ?_
            rintro _ _ ⟨A5, hA5, rfl, rfl⟩ hs
            refine ⟨fun w hw => hw.sub (Sub.keep 4 rfl (Sub.keep 4 rfl (Sub.keep 4 rfl (Sub.drop (Sub.drop (Sub.drop (Sub.drop (Sub.refl _)))))))), ?_⟩
            refine D.eff hwf (e := 15) rfl rfl rfl rfl (Ef.call call93 rfl rfl (Does.pre (fun w hw => hw.sub (Sub.keep 1 rfl (Sub.keep 0 rfl (Sub.keep 0 rfl (Sub.keep 0 rfl (Sub.keep 0 rfl (Sub.keep 0 rfl (Sub.keep 0 rfl (Sub.refl _))))))))) (l01Pick_ok _ _ _ s ([(2 : Int), v, (v - (1 : Int))] : List Int) _ _ w0 _ (Ld.own 0 (by exact rfl)) (by first | omega | (simp only [tops_len, conts_len, bl, List.length_append, List.length_cons, List.length_nil] at *; omega)) (by first | assumption | omega | (try dsimp only at *; omega)) (by first | assumption | omega | (try dsimp only at *; omega)) (by first | (simp; done) | omega)))) rfl rfl rfl ?_
            rintro _ _ rfl hs
            refine ⟨fun w hw => hw.tail.sub (Sub.keep 3 rfl (Sub.keep 3 rfl (Sub.keep 3 rfl (Sub.drop (Sub.drop (Sub.drop (Sub.refl _))))))), ?_⟩
            refine D.exi (fun r5 => ?_)
            refine D.sep ?_
            refine D.pur1 ?_
            rintro ⟨rfl, hr5_1⟩
            refine D.p 16 rfl rfl rfl rfl rfl rfl (Pu.buildA (cs := [.int .i64 r3, .int .i64 r4, .int .i64 r5]) (v := B3.v (r3, r4, r5)) rfl rfl Tryz.underlying51 zr51 sz2 rfl (by kernel_rfl)) ?_
            refine D.eff hwf (e := 17) rfl rfl rfl rfl (Ef.build B3C ([(r3, r4, r5)] : List B3) rfl Tryz.underlying24 inf51 rfl rfl rfl (by first | decide | (simp; done)) (by kernel_rfl)) rfl rfl rfl ?_
            rintro _ _ ⟨A6, hA6, rfl, rfl⟩ hs
            refine ⟨fun w hw => hw.sub (Sub.keep 5 rfl (Sub.keep 5 rfl (Sub.keep 5 rfl (Sub.drop (Sub.drop (Sub.drop (Sub.drop (Sub.drop (Sub.refl _))))))))), ?_⟩
            refine D.eff hwf (e := 18) rfl rfl rfl rfl (Ef.append (xs := (([] : List B3) ++ bs)) (ys := ([(r3, r4, r5)] : List B3)) 4 rfl Tryz.underlying24 inf51 rfl rfl rfl rfl rfl rfl hA6 (Ld.own 0 (by exact rfl)) (by simp only [List.length_append, List.length_cons, List.length_nil] at *; omega) (by decide)) rfl rfl rfl ?_
            rintro _ _ ⟨A7, k2, rfl, rfl, hA7⟩ hs
            replace hA7 := hA7 (.inr (by simp))
            refine ⟨fun w hw => hw.sub (Sub.keep 5 rfl (Sub.keep 5 rfl (Sub.keep 5 rfl (Sub.drop (Sub.drop (Sub.drop (Sub.drop (Sub.drop (Sub.refl _))))))))), ?_⟩
            refine D.last hwf (e := 19) rfl rfl rfl rfl rfl rfl (Pu.assign rfl rfl) ?_
            refine X.blockNormal ?_
            refine X.next ?_
            refine V.seq ?_
            refine V.region ?_
            refine O.p rfl rfl rfl (Pu.fieldAddr 0 rfl Tryz.underlying26 rfl sz2 rfl rfl) ?_
            refine O.p rfl rfl rfl (Pu.load rfl pl2 rfl (Ld.blk 6 rfl rfl)) ?_
            refine O.p rfl rfl rfl (Pu.move rfl rfl) ?_
            refine O.p rfl rfl rfl (Pu.buildS (cs := [.int .i64 v, .slice A7 (((([] : List B3) ++ bs) ++ ([(r3, r4, r5)] : List B3)).length) k2]) rfl rfl Tryz.underlying26 zr26 (by kernel_rfl) rfl (by kernel_rfl)) ?_
            refine O.s rfl rfl (Ef.storeAll 5 rfl sz26 rfl rfl rfl rfl (by simp [Value.oneCell']) rfl) ?_
            rintro _ _ rfl
            refine O.nil ?_
            refine X.next ?_
            refine V.ret ?_
            refine X.retCell rfl ag26 sz26 rfl rfl (Ld.whole 5 rfl) ?_
            exact fun w hw => St.mkExi v (St.mkExi A7 (St.mkExi k2 (St.mkExi ((([] : List B3) ++ bs) ++ ([(r3, r4, r5)] : List B3)) (St.unsep (St.addPur ⟨(by first | rfl | (simp only [List.length_set])), by omega, by first | omega | (simp only [List.length_append, List.length_cons, List.length_nil, List.length_set]; omega)⟩ (St.unsep (hw.sub (Sub.keep 4 rfl (Sub.keep 1 rfl (Sub.drop (Sub.drop (Sub.drop (Sub.drop (Sub.drop (Sub.drop (Sub.refl _))))))))))))))))
          · skip
            refine ⟨_, _, rfl, rfl, fun _ _ => wanted_none rfl _, Ef.build I64 ([(2 : Int), v, (v - (1 : Int))] : List Int) rfl Tryz.underlying34 inf2 rfl rfl rfl (by first | decide | (simp; done)) (by kernel_rfl), rfl, rfl, ?_⟩
            rintro _ _ ⟨A5, hA5, rfl, rfl⟩ hs
            refine ⟨fun w hw => hw.sub (Sub.keep 4 rfl (Sub.keep 4 rfl (Sub.keep 4 rfl (Sub.drop (Sub.drop (Sub.drop (Sub.drop (Sub.refl _)))))))), ?_⟩
            refine D.eff hwf (e := 7) rfl rfl rfl rfl (Ef.call call93 rfl rfl (Does.pre (fun w hw => hw.sub (Sub.keep 1 rfl (Sub.keep 0 rfl (Sub.keep 0 rfl (Sub.keep 0 rfl (Sub.keep 0 rfl (Sub.keep 0 rfl (Sub.keep 0 rfl (Sub.refl _))))))))) (l01Pick_ok _ _ _ s ([(1 : Int), (2 : Int), v] : List Int) _ _ w0 _ (Ld.own 1 (by exact rfl)) (by first | omega | (simp only [tops_len, conts_len, bl, List.length_append, List.length_cons, List.length_nil] at *; omega)) (by first | assumption | omega | (try dsimp only at *; omega)) (by first | assumption | omega | (try dsimp only at *; omega)) (by first | (simp; done) | omega)))) rfl rfl rfl ?_
            rintro _ _ rfl hs
            refine ⟨fun w hw => hw.tail.sub (Sub.keep 3 rfl (Sub.keep 3 rfl (Sub.keep 3 rfl (Sub.drop (Sub.drop (Sub.drop (Sub.refl _))))))), ?_⟩
            refine D.exi (fun r4 => ?_)
            refine D.sep ?_
            refine D.pur1 ?_
            rintro ⟨rfl, hr4_1⟩
            refine D.eff hwf (e := 15) rfl rfl rfl rfl (Ef.call call93 rfl rfl (Does.pre (fun w hw => hw.sub (Sub.keep 0 rfl (Sub.keep 0 rfl (Sub.keep 0 rfl (Sub.keep 0 rfl (Sub.keep 0 rfl (Sub.keep 0 rfl (Sub.keep 0 rfl (Sub.refl _))))))))) (l01Pick_ok _ _ _ s ([(2 : Int), v, (v - (1 : Int))] : List Int) _ _ w0 _ (Ld.own 0 (by exact rfl)) (by first | omega | (simp only [tops_len, conts_len, bl, List.length_append, List.length_cons, List.length_nil] at *; omega)) (by first | assumption | omega | (try dsimp only at *; omega)) (by first | assumption | omega | (try dsimp only at *; omega)) (by first | (simp; done) | omega)))) rfl rfl rfl ?_
            rintro _ _ rfl hs
            refine ⟨fun w hw => hw.tail.sub (Sub.keep 3 rfl (Sub.keep 3 rfl (Sub.keep 3 rfl (Sub.drop (Sub.drop (Sub.drop (Sub.refl _))))))), ?_⟩
            refine D.exi (fun r5 => ?_)
            refine D.sep ?_
            refine D.pur1 ?_
            rintro ⟨rfl, hr5_1⟩
            refine D.p 16 rfl rfl rfl rfl rfl rfl (Pu.buildA (cs := [.int .i64 r3, .int .i64 r4, .int .i64 r5]) (v := B3.v (r3, r4, r5)) rfl rfl Tryz.underlying51 zr51 sz2 rfl (by kernel_rfl)) ?_
            refine D.eff hwf (e := 17) rfl rfl rfl rfl (Ef.build B3C ([(r3, r4, r5)] : List B3) rfl Tryz.underlying24 inf51 rfl rfl rfl (by first | decide | (simp; done)) (by kernel_rfl)) rfl rfl rfl ?_
            rintro _ _ ⟨A6, hA6, rfl, rfl⟩ hs
            refine ⟨fun w hw => hw.sub (Sub.keep 5 rfl (Sub.keep 5 rfl (Sub.keep 5 rfl (Sub.drop (Sub.drop (Sub.drop (Sub.drop (Sub.drop (Sub.refl _))))))))), ?_⟩
            refine D.eff hwf (e := 18) rfl rfl rfl rfl (Ef.append (xs := (([] : List B3) ++ bs)) (ys := ([(r3, r4, r5)] : List B3)) 4 rfl Tryz.underlying24 inf51 rfl rfl rfl rfl rfl rfl hA6 (Ld.own 0 (by exact rfl)) (by simp only [List.length_append, List.length_cons, List.length_nil] at *; omega) (by decide)) rfl rfl rfl ?_
            rintro _ _ ⟨A7, k2, rfl, rfl, hA7⟩ hs
            replace hA7 := hA7 (.inr (by simp))
            refine ⟨fun w hw => hw.sub (Sub.keep 5 rfl (Sub.keep 5 rfl (Sub.keep 5 rfl (Sub.drop (Sub.drop (Sub.drop (Sub.drop (Sub.drop (Sub.refl _))))))))), ?_⟩
            refine D.last hwf (e := 19) rfl rfl rfl rfl rfl rfl (Pu.assign rfl rfl) ?_
            refine X.blockNormal ?_
            refine X.next ?_
            refine V.seq ?_
            refine V.region ?_
            refine O.p rfl rfl rfl (Pu.fieldAddr 0 rfl Tryz.underlying26 rfl sz2 rfl rfl) ?_
            refine O.p rfl rfl rfl (Pu.load rfl pl2 rfl (Ld.blk 6 rfl rfl)) ?_
            refine O.p rfl rfl rfl (Pu.move rfl rfl) ?_
            refine O.p rfl rfl rfl (Pu.buildS (cs := [.int .i64 v, .slice A7 (((([] : List B3) ++ bs) ++ ([(r3, r4, r5)] : List B3)).length) k2]) rfl rfl Tryz.underlying26 zr26 (by kernel_rfl) rfl (by kernel_rfl)) ?_
            refine O.s rfl rfl (Ef.storeAll 5 rfl sz26 rfl rfl rfl rfl (by simp [Value.oneCell']) rfl) ?_
            rintro _ _ rfl
            refine O.nil ?_
            refine X.next ?_
            refine V.ret ?_
            refine X.retCell rfl ag26 sz26 rfl rfl (Ld.whole 5 rfl) ?_
            exact fun w hw => St.mkExi v (St.mkExi A7 (St.mkExi k2 (St.mkExi ((([] : List B3) ++ bs) ++ ([(r3, r4, r5)] : List B3)) (St.unsep (St.addPur ⟨(by first | rfl | (simp only [List.length_set])), by omega, by first | omega | (simp only [List.length_append, List.length_cons, List.length_nil, List.length_set]; omega)⟩ (St.unsep (hw.sub (Sub.keep 4 rfl (Sub.keep 1 rfl (Sub.drop (Sub.drop (Sub.drop (Sub.drop (Sub.drop (Sub.drop (Sub.refl _))))))))))))))))
        · skip
          refine ⟨_, _, rfl, rfl, fun _ _ => wanted_none rfl _, Ef.build I64 ([(2 : Int), v, (v - (1 : Int))] : List Int) rfl Tryz.underlying34 inf2 rfl rfl rfl (by first | decide | (simp; done)) (by kernel_rfl), rfl, rfl, ?_⟩
          rintro _ _ ⟨A5, hA5, rfl, rfl⟩ hs
          refine ⟨fun w hw => hw.sub (Sub.keep 4 rfl (Sub.keep 4 rfl (Sub.keep 4 rfl (Sub.drop (Sub.drop (Sub.drop (Sub.drop (Sub.refl _)))))))), ?_⟩
          refine D.eff hwf (e := 2) rfl rfl rfl rfl (Ef.call call92 rfl rfl (Does.pre (fun w hw => hw.sub (Sub.keep 2 rfl (Sub.keep 0 rfl (Sub.keep 0 rfl (Sub.keep 0 rfl (Sub.keep 0 rfl (Sub.keep 0 rfl (Sub.keep 0 rfl (Sub.refl _))))))))) (l01Next_ok _ _ _ s (3 : Int) w0 _   (by first | assumption | omega | (try dsimp only at *; omega)) (by first | assumption | omega | (try dsimp only at *; omega))))) rfl rfl rfl ?_
          rintro _ _ rfl hs
          refine ⟨fun w hw => hw.tail.sub (Sub.keep 3 rfl (Sub.keep 3 rfl (Sub.keep 3 rfl (Sub.drop (Sub.drop (Sub.drop (Sub.refl _))))))), ?_⟩
          refine D.exi (fun r3 => ?_)
          refine D.sep ?_
          refine D.pur1 ?_
          rintro ⟨rfl, hr3_1, hr3_2, hr3_3⟩
          refine D.eff hwf (e := 7) rfl rfl rfl rfl (Ef.call call93 rfl rfl (Does.pre (fun w hw => hw.sub (Sub.keep 0 rfl (Sub.keep 0 rfl (Sub.keep 0 rfl (Sub.keep 0 rfl (Sub.keep 0 rfl (Sub.keep 0 rfl (Sub.keep 0 rfl (Sub.refl _))))))))) (l01Pick_ok _ _ _ s ([(1 : Int), (2 : Int), v] : List Int) _ _ w0 _ (Ld.own 1 (by exact rfl)) (by first | omega | (simp only [tops_len, conts_len, bl, List.length_append, List.length_cons, List.length_nil] at *; omega)) (by first | assumption | omega | (try dsimp only at *; omega)) (by first | assumption | omega | (try dsimp only at *; omega)) (by first | (simp; done) | omega)))) rfl rfl rfl ?_
          rintro _ _ rfl hs
          refine ⟨fun w hw => hw.tail.sub (Sub.keep 3 rfl (Sub.keep 3 rfl (Sub.keep 3 rfl (Sub.drop (Sub.drop (Sub.drop (Sub.refl _))))))), ?_⟩
          refine D.exi (fun r4 => ?_)
          refine D.sep ?_
          refine D.pur1 ?_
          rintro ⟨rfl, hr4_1⟩
          refine D.eff hwf (e := 15) rfl rfl rfl rfl (Ef.call call93 rfl rfl (Does.pre (fun w hw => hw.sub (Sub.keep 0 rfl (Sub.keep 0 rfl (Sub.keep 0 rfl (Sub.keep 0 rfl (Sub.keep 0 rfl (Sub.keep 0 rfl (Sub.keep 0 rfl (Sub.refl _))))))))) (l01Pick_ok _ _ _ s ([(2 : Int), v, (v - (1 : Int))] : List Int) _ _ w0 _ (Ld.own 0 (by exact rfl)) (by first | omega | (simp only [tops_len, conts_len, bl, List.length_append, List.length_cons, List.length_nil] at *; omega)) (by first | assumption | omega | (try dsimp only at *; omega)) (by first | assumption | omega | (try dsimp only at *; omega)) (by first | (simp; done) | omega)))) rfl rfl rfl ?_
          rintro _ _ rfl hs
          refine ⟨fun w hw => hw.tail.sub (Sub.keep 3 rfl (Sub.keep 3 rfl (Sub.keep 3 rfl (Sub.drop (Sub.drop (Sub.drop (Sub.refl _))))))), ?_⟩
          refine D.exi (fun r5 => ?_)
          refine D.sep ?_
          refine D.pur1 ?_
          rintro ⟨rfl, hr5_1⟩
          refine D.p 16 rfl rfl rfl rfl rfl rfl (Pu.buildA (cs := [.int .i64 r3, .int .i64 r4, .int .i64 r5]) (v := B3.v (r3, r4, r5)) rfl rfl Tryz.underlying51 zr51 sz2 rfl (by kernel_rfl)) ?_
          refine D.eff hwf (e := 17) rfl rfl rfl rfl (Ef.build B3C ([(r3, r4, r5)] : List B3) rfl Tryz.underlying24 inf51 rfl rfl rfl (by first | decide | (simp; done)) (by kernel_rfl)) rfl rfl rfl ?_
          rintro _ _ ⟨A6, hA6, rfl, rfl⟩ hs
          refine ⟨fun w hw => hw.sub (Sub.keep 5 rfl (Sub.keep 5 rfl (Sub.keep 5 rfl (Sub.drop (Sub.drop (Sub.drop (Sub.drop (Sub.drop (Sub.refl _))))))))), ?_⟩
          refine D.eff hwf (e := 18) rfl rfl rfl rfl (Ef.append (xs := (([] : List B3) ++ bs)) (ys := ([(r3, r4, r5)] : List B3)) 4 rfl Tryz.underlying24 inf51 rfl rfl rfl rfl rfl rfl hA6 (Ld.own 0 (by exact rfl)) (by simp only [List.length_append, List.length_cons, List.length_nil] at *; omega) (by decide)) rfl rfl rfl ?_
          rintro _ _ ⟨A7, k2, rfl, rfl, hA7⟩ hs
          replace hA7 := hA7 (.inr (by simp))
          refine ⟨fun w hw => hw.sub (Sub.keep 5 rfl (Sub.keep 5 rfl (Sub.keep 5 rfl (Sub.drop (Sub.drop (Sub.drop (Sub.drop (Sub.drop (Sub.refl _))))))))), ?_⟩
          refine D.last hwf (e := 19) rfl rfl rfl rfl rfl rfl (Pu.assign rfl rfl) ?_
          refine X.blockNormal ?_
          refine X.next ?_
          refine V.seq ?_
          refine V.region ?_
          refine O.p rfl rfl rfl (Pu.fieldAddr 0 rfl Tryz.underlying26 rfl sz2 rfl rfl) ?_
          refine O.p rfl rfl rfl (Pu.load rfl pl2 rfl (Ld.blk 6 rfl rfl)) ?_
          refine O.p rfl rfl rfl (Pu.move rfl rfl) ?_
          refine O.p rfl rfl rfl (Pu.buildS (cs := [.int .i64 v, .slice A7 (((([] : List B3) ++ bs) ++ ([(r3, r4, r5)] : List B3)).length) k2]) rfl rfl Tryz.underlying26 zr26 (by kernel_rfl) rfl (by kernel_rfl)) ?_
          refine O.s rfl rfl (Ef.storeAll 5 rfl sz26 rfl rfl rfl rfl (by simp [Value.oneCell']) rfl) ?_
          rintro _ _ rfl
          refine O.nil ?_
          refine X.next ?_
          refine V.ret ?_
          refine X.retCell rfl ag26 sz26 rfl rfl (Ld.whole 5 rfl) ?_
          exact fun w hw => St.mkExi v (St.mkExi A7 (St.mkExi k2 (St.mkExi ((([] : List B3) ++ bs) ++ ([(r3, r4, r5)] : List B3)) (St.unsep (St.addPur ⟨(by first | rfl | (simp only [List.length_set])), by omega, by first | omega | (simp only [List.length_append, List.length_cons, List.length_nil, List.length_set]; omega)⟩ (St.unsep (hw.sub (Sub.keep 4 rfl (Sub.keep 1 rfl (Sub.drop (Sub.drop (Sub.drop (Sub.drop (Sub.drop (Sub.drop (Sub.refl _))))))))))))))))
      · skip
        refine ⟨_, _, rfl, rfl, fun _ _ => wanted_none rfl _, Ef.build I64 ([(2 : Int), v, (v - (1 : Int))] : List Int) rfl Tryz.underlying34 inf2 rfl rfl rfl (by first | decide | (simp; done)) (by kernel_rfl), rfl, rfl, ?_⟩
        rintro _ _ ⟨A4, hA4, rfl, rfl⟩ hs
        refine ⟨fun w hw => hw.sub (Sub.keep 3 rfl (Sub.keep 3 rfl (Sub.keep 3 rfl (Sub.drop (Sub.drop (Sub.drop (Sub.refl _))))))), ?_⟩
        refine D.either hwf (e1 := 2) (e2 := 6) rfl ?_ ?_
        · skip
          refine ⟨_, _, rfl, rfl, fun _ _ => wanted_none rfl _, Ef.call call92 rfl rfl (Does.pre (fun w hw => hw.sub (Sub.keep 1 rfl (Sub.keep 0 rfl (Sub.keep 0 rfl (Sub.keep 0 rfl (Sub.keep 0 rfl (Sub.keep 0 rfl (Sub.refl _)))))))) (l01Next_ok _ _ _ s (3 : Int) w0 _   (by first | assumption | omega | (try dsimp only at *; omega)) (by first | assumption | omega | (try dsimp only at *; omega)))), rfl, rfl, ?_⟩
          rintro _ _ rfl hs
          refine ⟨fun w hw => hw.tail.sub (Sub.keep 2 rfl (Sub.keep 2 rfl (Sub.keep 2 rfl (Sub.drop (Sub.drop (Sub.refl _)))))), ?_⟩
          refine D.exi (fun r3 => ?_)
          refine D.sep ?_
          refine D.pur1 ?_
          rintro ⟨rfl, hr3_1, hr3_2, hr3_3⟩
          refine D.eff hwf (e := 6) rfl rfl rfl rfl (Ef.build I64 ([(1 : Int), (2 : Int), v] : List Int) rfl Tryz.underlying34 inf2 rfl rfl rfl (by first | decide | (simp; done)) (by kernel_rfl)) rfl rfl rfl ?_
          rintro _ _ ⟨A5, hA5, rfl, rfl⟩ hs
          refine ⟨fun w hw => hw.sub (Sub.keep 4 rfl (Sub.keep 4 rfl (Sub.keep 4 rfl (Sub.drop (Sub.drop (Sub.drop (Sub.drop (Sub.refl _)))))))), ?_⟩
          refine D.eff hwf (e := 7) rfl rfl rfl rfl (Ef.call call93 rfl rfl (Does.pre (fun w hw => hw.sub (Sub.keep 1 rfl (Sub.keep 0 rfl (Sub.keep 0 rfl (Sub.keep 0 rfl (Sub.keep 0 rfl (Sub.keep 0 rfl (Sub.keep 0 rfl (Sub.refl _))))))))) (l01Pick_ok _ _ _ s ([(1 : Int), (2 : Int), v] : List Int) _ _ w0 _ (Ld.own 0 (by exact rfl)) (by first | omega | (simp only [tops_len, conts_len, bl, List.length_append, List.length_cons, List.length_nil] at *; omega)) (by first | assumption | omega | (try dsimp only at *; omega)) (by first | assumption | omega | (try dsimp only at *; omega)) (by first | (simp; done) | omega)))) rfl rfl rfl ?_
          rintro _ _ rfl hs
          refine ⟨fun w hw => hw.tail.sub (Sub.keep 3 rfl (Sub.keep 3 rfl (Sub.keep 3 rfl (Sub.drop (Sub.drop (Sub.drop (Sub.refl _))))))), ?_⟩
          refine D.exi (fun r4 => ?_)
          refine D.sep ?_
          refine D.pur1 ?_
          rintro ⟨rfl, hr4_1⟩
          refine D.eff hwf (e := 15) rfl rfl rfl rfl (Ef.call call93 rfl rfl (Does.pre (fun w hw => hw.sub (Sub.keep 0 rfl (Sub.keep 0 rfl (Sub.keep 0 rfl (Sub.keep 0 rfl (Sub.keep 0 rfl (Sub.keep 0 rfl (Sub.keep 0 rfl (Sub.refl _))))))))) (l01Pick_ok _ _ _ s ([(2 : Int), v, (v - (1 : Int))] : List Int) _ _ w0 _ (Ld.own 1 (by exact rfl)) (by first | omega | (simp only [tops_len, conts_len, bl, List.length_append, List.length_cons, List.length_nil] at *; omega)) (by first | assumption | omega | (try dsimp only at *; omega)) (by first | assumption | omega | (try dsimp only at *; omega)) (by first | (simp; done) | omega)))) rfl rfl rfl ?_
          rintro _ _ rfl hs
          refine ⟨fun w hw => hw.tail.sub (Sub.keep 3 rfl (Sub.keep 3 rfl (Sub.keep 3 rfl (Sub.drop (Sub.drop (Sub.drop (Sub.refl _))))))), ?_⟩
          refine D.exi (fun r5 => ?_)
          refine D.sep ?_
          refine D.pur1 ?_
          rintro ⟨rfl, hr5_1⟩
          refine D.p 16 rfl rfl rfl rfl rfl rfl (Pu.buildA (cs := [.int .i64 r3, .int .i64 r4, .int .i64 r5]) (v := B3.v (r3, r4, r5)) rfl rfl Tryz.underlying51 zr51 sz2 rfl (by kernel_rfl)) ?_
          refine D.eff hwf (e := 17) rfl rfl rfl rfl (Ef.build B3C ([(r3, r4, r5)] : List B3) rfl Tryz.underlying24 inf51 rfl rfl rfl (by first | decide | (simp; done)) (by kernel_rfl)) rfl rfl rfl ?_
          rintro _ _ ⟨A6, hA6, rfl, rfl⟩ hs
          refine ⟨fun w hw => hw.sub (Sub.keep 5 rfl (Sub.keep 5 rfl (Sub.keep 5 rfl (Sub.drop (Sub.drop (Sub.drop (Sub.drop (Sub.drop (Sub.refl _))))))))), ?_⟩
          refine D.eff hwf (e := 18) rfl rfl rfl rfl (Ef.append (xs := (([] : List B3) ++ bs)) (ys := ([(r3, r4, r5)] : List B3)) 4 rfl Tryz.underlying24 inf51 rfl rfl rfl rfl rfl rfl hA6 (Ld.own 0 (by exact rfl)) (by simp only [List.length_append, List.length_cons, List.length_nil] at *; omega) (by decide)) rfl rfl rfl ?_
          rintro _ _ ⟨A7, k2, rfl, rfl, hA7⟩ hs
          replace hA7 := hA7 (.inr (by simp))
          refine ⟨fun w hw => hw.sub (Sub.keep 5 rfl (Sub.keep 5 rfl (Sub.keep 5 rfl (Sub.drop (Sub.drop (Sub.drop (Sub.drop (Sub.drop (Sub.refl _))))))))), ?_⟩
          refine D.last hwf (e := 19) rfl rfl rfl rfl rfl rfl (Pu.assign rfl rfl) ?_
          refine X.blockNormal ?_
          refine X.next ?_
          refine V.seq ?_
          refine V.region ?_
          refine O.p rfl rfl rfl (Pu.fieldAddr 0 rfl Tryz.underlying26 rfl sz2 rfl rfl) ?_
          refine O.p rfl rfl rfl (Pu.load rfl pl2 rfl (Ld.blk 6 rfl rfl)) ?_
          refine O.p rfl rfl rfl (Pu.move rfl rfl) ?_
          refine O.p rfl rfl rfl (Pu.buildS (cs := [.int .i64 v, .slice A7 (((([] : List B3) ++ bs) ++ ([(r3, r4, r5)] : List B3)).length) k2]) rfl rfl Tryz.underlying26 zr26 (by kernel_rfl) rfl (by kernel_rfl)) ?_
          refine O.s rfl rfl (Ef.storeAll 5 rfl sz26 rfl rfl rfl rfl (by simp [Value.oneCell']) rfl) ?_
          rintro _ _ rfl
          refine O.nil ?_
          refine X.next ?_
          refine V.ret ?_
          refine X.retCell rfl ag26 sz26 rfl rfl (Ld.whole 5 rfl) ?_
          exact fun w hw => St.mkExi v (St.mkExi A7 (St.mkExi k2 (St.mkExi ((([] : List B3) ++ bs) ++ ([(r3, r4, r5)] : List B3)) (St.unsep (St.addPur ⟨(by first | rfl | (simp only [List.length_set])), by omega, by first | omega | (simp only [List.length_append, List.length_cons, List.length_nil, List.length_set]; omega)⟩ (St.unsep (hw.sub (Sub.keep 4 rfl (Sub.keep 1 rfl (Sub.drop (Sub.drop (Sub.drop (Sub.drop (Sub.drop (Sub.drop (Sub.refl _))))))))))))))))
        · skip
          refine ⟨_, _, rfl, rfl, fun _ _ => wanted_none rfl _, Ef.build I64 ([(1 : Int), (2 : Int), v] : List Int) rfl Tryz.underlying34 inf2 rfl rfl rfl (by first | decide | (simp; done)) (by kernel_rfl), rfl, rfl, ?_⟩
          rintro _ _ ⟨A5, hA5, rfl, rfl⟩ hs
          refine ⟨fun w hw => hw.sub (Sub.keep 4 rfl (Sub.keep 4 rfl (Sub.keep 4 rfl (Sub.drop (Sub.drop (Sub.drop (Sub.drop (Sub.refl _)))))))), ?_⟩
          refine D.eff hwf (e := 2) rfl rfl rfl rfl (Ef.call call92 rfl rfl (Does.pre (fun w hw => hw.sub (Sub.keep 2 rfl (Sub.keep 0 rfl (Sub.keep 0 rfl (Sub.keep 0 rfl (Sub.keep 0 rfl (Sub.keep 0 rfl (Sub.keep 0 rfl (Sub.refl _))))))))) (l01Next_ok _ _ _ s (3 : Int) w0 _   (by first | assumption | omega | (try dsimp only at *; omega)) (by first | assumption | omega | (try dsimp only at *; omega))))) rfl rfl rfl ?_
          rintro _ _ rfl hs
          refine ⟨fun w hw => hw.tail.sub (Sub.keep 3 rfl (Sub.keep 3 rfl (Sub.keep 3 rfl (Sub.drop (Sub.drop (Sub.drop (Sub.refl _))))))), ?_⟩
          refine D.exi (fun r3 => ?_)
          refine D.sep ?_
          refine D.pur1 ?_
          rintro ⟨rfl, hr3_1, hr3_2, hr3_3⟩
          refine D.eff hwf (e := 7) rfl rfl rfl rfl (Ef.call call93 rfl rfl (Does.pre (fun w hw => hw.sub (Sub.keep 0 rfl (Sub.keep 0 rfl (Sub.keep 0 rfl (Sub.keep 0 rfl (Sub.keep 0 rfl (Sub.keep 0 rfl (Sub.keep 0 rfl (Sub.refl _))))))))) (l01Pick_ok _ _ _ s ([(1 : Int), (2 : Int), v] : List Int) _ _ w0 _ (Ld.own 0 (by exact rfl)) (by first | omega | (simp only [tops_len, conts_len, bl, List.length_append, List.length_cons, List.length_nil] at *; omega)) (by first | assumption | omega | (try dsimp only at *; omega)) (by first | assumption | omega | (try dsimp only at *; omega)) (by first | (simp; done) | omega)))) rfl rfl rfl ?_
          rintro _ _ rfl hs
          refine ⟨fun w hw => hw.tail.sub (Sub.keep 3 rfl (Sub.keep 3 rfl (Sub.keep 3 rfl (Sub.drop (Sub.drop (Sub.drop (Sub.refl _))))))), ?_⟩
          refine D.exi (fun r4 => ?_)
          refine D.sep ?_
          refine D.pur1 ?_
          rintro ⟨rfl, hr4_1⟩
          refine D.eff hwf (e := 15) rfl rfl rfl rfl (Ef.call call93 rfl rfl (Does.pre (fun w hw => hw.sub (Sub.keep 0 rfl (Sub.keep 0 rfl (Sub.keep 0 rfl (Sub.keep 0 rfl (Sub.keep 0 rfl (Sub.keep 0 rfl (Sub.keep 0 rfl (Sub.refl _))))))))) (l01Pick_ok _ _ _ s ([(2 : Int), v, (v - (1 : Int))] : List Int) _ _ w0 _ (Ld.own 1 (by exact rfl)) (by first | omega | (simp only [tops_len, conts_len, bl, List.length_append, List.length_cons, List.length_nil] at *; omega)) (by first | assumption | omega | (try dsimp only at *; omega)) (by first | assumption | omega | (try dsimp only at *; omega)) (by first | (simp; done) | omega)))) rfl rfl rfl ?_
          rintro _ _ rfl hs
          refine ⟨fun w hw => hw.tail.sub (Sub.keep 3 rfl (Sub.keep 3 rfl (Sub.keep 3 rfl (Sub.drop (Sub.drop (Sub.drop (Sub.refl _))))))), ?_⟩
          refine D.exi (fun r5 => ?_)
          refine D.sep ?_
          refine D.pur1 ?_
          rintro ⟨rfl, hr5_1⟩
          refine D.p 16 rfl rfl rfl rfl rfl rfl (Pu.buildA (cs := [.int .i64 r3, .int .i64 r4, .int .i64 r5]) (v := B3.v (r3, r4, r5)) rfl rfl Tryz.underlying51 zr51 sz2 rfl (by kernel_rfl)) ?_
          refine D.eff hwf (e := 17) rfl rfl rfl rfl (Ef.build B3C ([(r3, r4, r5)] : List B3) rfl Tryz.underlying24 inf51 rfl rfl rfl (by first | decide | (simp; done)) (by kernel_rfl)) rfl rfl rfl ?_
          rintro _ _ ⟨A6, hA6, rfl, rfl⟩ hs
          refine ⟨fun w hw => hw.sub (Sub.keep 5 rfl (Sub.keep 5 rfl (Sub.keep 5 rfl (Sub.drop (Sub.drop (Sub.drop (Sub.drop (Sub.drop (Sub.refl _))))))))), ?_⟩
          refine D.eff hwf (e := 18) rfl rfl rfl rfl (Ef.append (xs := (([] : List B3) ++ bs)) (ys := ([(r3, r4, r5)] : List B3)) 4 rfl Tryz.underlying24 inf51 rfl rfl rfl rfl rfl rfl hA6 (Ld.own 0 (by exact rfl)) (by simp only [List.length_append, List.length_cons, List.length_nil] at *; omega) (by decide)) rfl rfl rfl ?_
          rintro _ _ ⟨A7, k2, rfl, rfl, hA7⟩ hs
          replace hA7 := hA7 (.inr (by simp))
          refine ⟨fun w hw => hw.sub (Sub.keep 5 rfl (Sub.keep 5 rfl (Sub.keep 5 rfl (Sub.drop (Sub.drop (Sub.drop (Sub.drop (Sub.drop (Sub.refl _))))))))), ?_⟩
          refine D.last hwf (e := 19) rfl rfl rfl rfl rfl rfl (Pu.assign rfl rfl) ?_
          refine X.blockNormal ?_
          refine X.next ?_
          refine V.seq ?_
          refine V.region ?_
          refine O.p rfl rfl rfl (Pu.fieldAddr 0 rfl Tryz.underlying26 rfl sz2 rfl rfl) ?_
          refine O.p rfl rfl rfl (Pu.load rfl pl2 rfl (Ld.blk 6 rfl rfl)) ?_
          refine O.p rfl rfl rfl (Pu.move rfl rfl) ?_
          refine O.p rfl rfl rfl (Pu.buildS (cs := [.int .i64 v, .slice A7 (((([] : List B3) ++ bs) ++ ([(r3, r4, r5)] : List B3)).length) k2]) rfl rfl Tryz.underlying26 zr26 (by kernel_rfl) rfl (by kernel_rfl)) ?_
          refine O.s rfl rfl (Ef.storeAll 5 rfl sz26 rfl rfl rfl rfl (by simp [Value.oneCell']) rfl) ?_
          rintro _ _ rfl
          refine O.nil ?_
          refine X.next ?_
          refine V.ret ?_
          refine X.retCell rfl ag26 sz26 rfl rfl (Ld.whole 5 rfl) ?_
          exact fun w hw => St.mkExi v (St.mkExi A7 (St.mkExi k2 (St.mkExi ((([] : List B3) ++ bs) ++ ([(r3, r4, r5)] : List B3)) (St.unsep (St.addPur ⟨(by first | rfl | (simp only [List.length_set])), by omega, by first | omega | (simp only [List.length_append, List.length_cons, List.length_nil, List.length_set]; omega)⟩ (St.unsep (hw.sub (Sub.keep 4 rfl (Sub.keep 1 rfl (Sub.drop (Sub.drop (Sub.drop (Sub.drop (Sub.drop (Sub.drop (Sub.refl _))))))))))))))))
    · skip
      refine V.seq ?_
      refine V.region ?_
      refine O.p rfl rfl rfl (Pu.eql rfl rfl rfl) ?_
      refine O.p rfl rfl rfl (Pu.assign rfl rfl) ?_
      refine O.nil ?_
      refine X.next ?_
      refine V.condD rfl (fun c3 => ?_) (fun c3 => ?_)
      · skip
        refine V.seq ?_
        refine V.region ?_
        refine O.p rfl rfl rfl (Pu.move rfl rfl) ?_
        refine O.p rfl rfl rfl (Pu.len rfl Tryz.underlying24 rfl) ?_
        refine O.p rfl rfl rfl (Pu.gtr rfl rfl rfl) ?_
        refine O.nil ?_
        refine X.next ?_
        refine V.condD rfl (fun c4 => ?_) (fun c4 => ?_)
        · skip
          refine V.seq ?_
          refine V.region ?_
          refine O.p rfl rfl rfl (Pu.move rfl rfl) ?_
          refine O.p rfl rfl rfl (Pu.indexAddr (0) rfl Tryz.underlying24 sz51 rfl rfl (by omega) (by omega) hA2) ?_
          have e1 : 0 < (([] : List B3) ++ bs).length := by omega
          refine O.p rfl rfl rfl (Pu.loadAgg' (v := B3.v ((([] : List B3) ++ bs)[0]'e1)) rfl rfl ag51 sz51 rfl rfl (Ld.rds (C := B3C) (Ld.own 1 (by exact rfl)) (k := 0) e1 rfl)) ?_
          refine O.e rfl rfl rfl (Ef.alloc rfl zr51 rfl) ?_
          rintro _ _ ⟨b3, rfl, rfl⟩
          refine O.s rfl rfl (Ef.storeAll 0 rfl sz51 rfl rfl rfl rfl (by simp [Value.oneCell']) rfl) ?_
          rintro _ _ rfl
          refine O.nil ?_
          refine X.next ?_
          refine V.seq ?_
          refine V.region ?_
          refine O.p rfl rfl rfl (Pu.move rfl rfl) ?_
          refine O.p rfl rfl rfl (Pu.move rfl rfl) ?_
          refine O.p rfl rfl rfl (Pu.indexAddr (1) rfl Tryz.underlying24 sz51 rfl rfl (by omega) (by omega) hA2) ?_
          have e2 : 1 < (([] : List B3) ++ bs).length := by omega
          refine O.p rfl rfl rfl (Pu.loadAgg' (v := B3.v ((([] : List B3) ++ bs)[1]'e2)) rfl rfl ag51 sz51 rfl rfl (Ld.rds (C := B3C) (Ld.own 2 (by exact rfl)) (k := 1) e2 rfl)) ?_
          refine O.p rfl rfl rfl (Pu.indexAddr (0) rfl Tryz.underlying24 sz51 rfl rfl (by omega) (by omega) hA2) ?_
          refine O.s rfl rfl (Ef.storeOwn 2 (0) ((([] : List B3) ++ bs)[1]'e2) rfl sz51 rfl rfl rfl rfl (by first | omega | (rw [List.length_set]; omega)) rfl) ?_
          rintro _ _ rfl
          refine O.nil ?_
          refine X.next ?_
          refine V.region ?_
          refine O.p rfl rfl rfl (Pu.move rfl rfl) ?_
          refine O.p rfl rfl rfl (Pu.loadAgg' (v := B3.v ((([] : List B3) ++ bs)[0]'e1)) rfl rfl ag51 sz51 rfl rfl (Ld.whole 0 rfl)) ?_
          refine O.p rfl rfl rfl (Pu.indexAddr (1) rfl Tryz.underlying24 sz51 rfl rfl (by omega) (by omega) hA2) ?_
          refine O.s rfl rfl (Ef.storeOwn 2 (1) ((([] : List B3) ++ bs)[0]'e1) rfl sz51 rfl rfl rfl rfl (by first | omega | (rw [List.length_set]; omega)) rfl) ?_
          rintro _ _ rfl
          refine O.nil ?_
          refine X.blockNormal ?_
          refine X.next ?_
          refine V.seq ?_
          refine V.region ?_
          refine O.p rfl rfl rfl (Pu.fieldAddr 0 rfl Tryz.underlying26 rfl sz2 rfl rfl) ?_
          refine O.p rfl rfl rfl (Pu.load rfl pl2 rfl (Ld.blk 4 rfl rfl)) ?_
          refine O.p rfl rfl rfl (Pu.move rfl rfl) ?_
          refine O.p rfl rfl rfl (Pu.buildS (cs := [.int .i64 v, .slice A2 ((([] : List B3) ++ bs).length) k1]) rfl rfl Tryz.underlying26 zr26 (by kernel_rfl) rfl (by kernel_rfl)) ?_
          refine O.s rfl rfl (Ef.storeAll 3 rfl sz26 rfl rfl rfl rfl (by simp [Value.oneCell']) rfl) ?_
          rintro _ _ rfl
          refine O.nil ?_
          refine X.next ?_
          refine V.ret ?_
          refine X.retCell rfl ag26 sz26 rfl rfl (Ld.whole 3 rfl) ?_
          exact fun w hw => St.mkExi v (St.mkExi A2 (St.mkExi k1 (St.mkExi (((([] : List B3) ++ bs).set (0) ((([] : List B3) ++ bs)[1]'e2)).set (1) ((([] : List B3) ++ bs)[0]'e1)) (St.unsep (St.addPur ⟨(by first | rfl | (simp only [List.length_set])), by omega, by first | omega | (simp only [List.length_append, List.length_cons, List.length_nil, List.length_set]; omega)⟩ (St.unsep (hw.sub (Sub.keep 2 rfl (Sub.keep 1 rfl (Sub.drop (Sub.drop (Sub.drop (Sub.drop (Sub.refl _))))))))))))))
        · skip
          refine V.skip ?_
          refine X.blockNormal ?_
          refine X.next ?_
          refine V.seq ?_
          refine V.region ?_
          refine O.p rfl rfl rfl (Pu.fieldAddr 0 rfl Tryz.underlying26 rfl sz2 rfl rfl) ?_
          refine O.p rfl rfl rfl (Pu.load rfl pl2 rfl (Ld.blk 3 rfl rfl)) ?_
          refine O.p rfl rfl rfl (Pu.move rfl rfl) ?_
          refine O.p rfl rfl rfl (Pu.buildS (cs := [.int .i64 v, .slice A2 ((([] : List B3) ++ bs).length) k1]) rfl rfl Tryz.underlying26 zr26 (by kernel_rfl) rfl (by kernel_rfl)) ?_
          refine O.s rfl rfl (Ef.storeAll 2 rfl sz26 rfl rfl rfl rfl (by simp [Value.oneCell']) rfl) ?_
          rintro _ _ rfl
          refine O.nil ?_
          refine X.next ?_
          refine V.ret ?_
          refine X.retCell rfl ag26 sz26 rfl rfl (Ld.whole 2 rfl) ?_
          exact fun w hw => St.mkExi v (St.mkExi A2 (St.mkExi k1 (St.mkExi (([] : List B3) ++ bs) (St.unsep (St.addPur ⟨(by first | rfl | (simp only [List.length_set])), by omega, by first | omega | (simp only [List.length_append, List.length_cons, List.length_nil, List.length_set]; omega)⟩ (St.unsep (hw.sub (Sub.keep 1 rfl (Sub.keep 0 rfl (Sub.drop (Sub.drop (Sub.drop (Sub.refl _)))))))))))))
      · skip
        refine V.seq ?_
        refine V.region ?_
        refine O.p rfl rfl rfl (Pu.loadAgg rfl ag26 sz26 rfl rfl (Ld.whole 3 rfl)) ?_
        refine O.s rfl rfl (Ef.storeAll 2 rfl sz26 rfl rfl rfl rfl (by simp [Value.oneCell']) rfl) ?_
        rintro _ _ rfl
        refine O.nil ?_
        refine X.next ?_
        refine V.ret ?_
        refine X.blockRet ?_
        refine X.thenRet ?_
        refine X.retCell rfl ag26 sz26 rfl rfl (Ld.whole 2 rfl) ?_
        exact fun w hw => St.mkExi v (St.mkExi A (St.mkExi c (St.mkExi bs (St.unsep (St.addPur ⟨(by first | rfl | (simp only [List.length_set])), by omega, by first | omega | (simp only [List.length_append, List.length_cons, List.length_nil, List.length_set]; omega)⟩ (St.unsep (hw.sub (Sub.keep 4 rfl (Sub.keep 0 rfl (Sub.drop (Sub.drop (Sub.drop (Sub.refl _)))))))))))))
set_option maxRecDepth 100000 in
set_option maxHeartbeats 1000000 in
theorem l01Spoil_ok (cA : Option Addr) (cc : Nat) (code : List UInt8) (s : Nat) (w0 : World) (H : List Assn) (hc : Rd U8C w0 cA code) (lc : code.length ≤ 1048576) : Does Tryz.prog 75 [.pointer (some ⟨s, 0, none⟩)] w0 (SrcK 132 cA cc code s :: H) (fun rv_ => [.exi fun (pv : Int) => .exi fun (rA : Option Addr) => .exi fun (rc : Nat) => .exi fun (r : List B3) => .sep (.pur (rv_ = .agg #[.int .i64 pv, .slice rA r.length rc] ∧ (-1 ≤ pv ∧ pv ≤ 16) ∧ r.length ≤ 4200)) (.sep (Own 51 B3C rA rc r) (SrcK 132 cA cc code s))] ++ H) := by
  refine Does.enter Tryz.func75 rfl rfl [(0, .pointer (some ⟨s, 0, none⟩))] rfl ?_
  refine V.seq ?_
  refine V.region ?_
  refine O.e rfl rfl rfl (Ef.alloc rfl zr26 rfl) ?_
  rintro _ _ ⟨b1, rfl, rfl⟩
  refine O.nil ?_
  refine X.next ?_
  refine V.seq ?_
  refine V.region ?_
  refine O.p rfl rfl rfl (Pu.move rfl rfl) ?_
  refine O.p rfl rfl rfl (Pu.move rfl rfl) ?_
  refine O.e rfl rfl rfl (Ef.call call89 rfl rfl (Does.pre (fun w hw => hw.sub (Sub.keep 1 rfl (Sub.keep 0 rfl (Sub.refl _)))) (l01Draw_ok _ _ _ s w0 _   (by first | assumption | omega | (try dsimp only at *; omega)) (by first | assumption | omega | (try dsimp only at *; omega))))) ?_
  rintro _ _ rfl
  refine O.exi (fun pv1 => ?_)
  refine O.exi (fun r1A => ?_)
  refine O.exi (fun r1c => ?_)
  refine O.exi (fun r1 => ?_)
  refine O.sep ?_
  refine O.pur ?_
  rintro ⟨rfl, hpv1_1⟩
  refine O.sep ?_
  refine O.e rfl rfl rfl (Ef.call call94 rfl rfl (Does.pre (fun w hw => hw.sub (Sub.keep 1 rfl (Sub.keep 0 rfl (Sub.keep 0 rfl (Sub.refl _))))) (l01Bad_ok _ _ _ s pv1 r1 _ _ w0 _   (by first | assumption | omega | (try dsimp only at *; omega)) (by first | assumption | omega | (try dsimp only at *; omega)) (by first | assumption | omega | (try dsimp only at *; omega))))) ?_
  rintro _ _ rfl
  refine O.exi (fun pv2 => ?_)
  refine O.exi (fun r2A => ?_)
  refine O.exi (fun r2c => ?_)
  refine O.exi (fun r2 => ?_)
  refine O.sep ?_
  refine O.pur ?_
  rintro ⟨rfl, hpv2_1, hpv2_2⟩
  refine O.sep ?_
  refine O.s rfl rfl (Ef.storeAll 2 rfl sz26 rfl rfl rfl rfl (by simp [Value.oneCell']) rfl) ?_
  rintro _ _ rfl
  refine O.nil ?_
  refine X.next ?_
  refine V.ret ?_
  refine X.retCell rfl ag26 sz26 rfl rfl (Ld.whole 2 rfl) ?_
  exact fun w hw => St.mkExi pv2 (St.mkExi r2A (St.mkExi r2c (St.mkExi r2 (St.unsep (St.addPur ⟨rfl, hpv2_1, hpv2_2⟩ (St.unsep (hw.sub (Sub.keep 0 rfl (Sub.keep 0 rfl (Sub.drop (Sub.refl _)))))))))))
set_option maxRecDepth 100000 in
set_option maxHeartbeats 1000000 in
theorem big_ok (code : List UInt8) (codeA : Option Addr) (codec : Nat) (w : World) (hcode : Rd U8C w codeA code) (lcode : code.length ≤ 9223372036854775807) : Does Tryz.prog 7 [.slice codeA code.length codec] w [] (fun r => [.pur (r = .bool (decide (4096 < code.length)))]) := by
  refine Does.enter Tryz.func7 rfl rfl [(0, .slice codeA code.length codec)] rfl ?_
  refine V.seq ?_
  refine V.region ?_
  refine O.p rfl rfl rfl (Pu.assign rfl rfl) ?_
  refine O.nil ?_
  refine X.next ?_
  refine V.seq ?_
  refine V.region ?_
  refine O.p rfl rfl rfl (Pu.move rfl rfl) ?_
  refine O.p rfl rfl rfl (Pu.len rfl Tryz.underlying22 rfl) ?_
  refine O.p rfl rfl rfl (Pu.gtr rfl rfl rfl) ?_
  refine O.p rfl rfl rfl (Pu.assign rfl rfl) ?_
  refine O.nil ?_
  refine X.next ?_
  refine V.ret ?_
  refine X.ret1 rfl rfl ?_
  exact fun w hw => St.retP (boolD (by omega)) hw
set_option maxRecDepth 100000 in
set_option maxHeartbeats 1000000 in
theorem likeInts_ok (a : List Int) (b : List Int) (aA : Option Addr) (ac : Nat) (bA : Option Addr) (bc : Nat) (w : World) (ha : Rd I64 w aA a) (hb : Rd I64 w bA b) (la : a.length ≤ 9223372036854775807) (lb : b.length ≤ 9223372036854775807) : Does Tryz.prog 27 [.slice aA a.length ac, .slice bA b.length bc] w [] (fun r => [.pur (r = .bool (decide (a = b)))]) := by
  refine Does.enter Tryz.func27 rfl rfl [(0, .slice aA a.length ac), (1, .slice bA b.length bc)] rfl ?_
  refine V.seq ?_
  refine V.region ?_
  refine O.p rfl rfl rfl (Pu.assign rfl rfl) ?_
  refine O.nil ?_
  refine X.next ?_
  refine V.seq ?_
  refine V.seq ?_
  refine V.region ?_
  refine O.p rfl rfl rfl (Pu.move rfl rfl) ?_
  refine O.p rfl rfl rfl (Pu.len rfl Tryz.underlying34 rfl) ?_
  refine O.p rfl rfl rfl (Pu.move rfl rfl) ?_
  refine O.p rfl rfl rfl (Pu.len rfl Tryz.underlying34 rfl) ?_
  refine O.p rfl rfl rfl (Pu.neq rfl rfl rfl) ?_
  refine O.nil ?_
  refine X.next ?_
  refine V.condNot rfl (fun c1 => ?_) (fun c1 => ?_)
  · skip
    refine V.seq ?_
    refine V.region ?_
    refine O.p rfl rfl rfl (Pu.assign rfl rfl) ?_
    refine O.nil ?_
    refine X.next ?_
    refine V.ret ?_
    refine X.thenRet ?_
    refine X.ret1 rfl rfl ?_
    exact fun w hw => St.retP (boolF (fun h => c1 (by rw [h]))) hw
  · skip
    refine V.skip ?_
    refine X.next ?_
    refine V.seq ?_
    refine V.seq ?_
    refine V.region ?_
    refine O.p rfl rfl rfl (Pu.assign rfl rfl) ?_
    refine O.nil ?_
    refine X.next ?_
    refine V.block ?_
    refine V.loop2 (β := Nat) (fun i => [(5, .int .i64 (i : Int))]) _ (fun i => []) (fun i => i ≤ a.length ∧ ∀ j (h1 : j < a.length) (h2 : j < b.length), j < i → a[j] = b[j]) (fun i => a.length - i) 0 ⟨by omega, fun j _ _ h => by omega⟩ (Ent.cons rfl (Ent.nil _)) (Ent.cons (t := 0) rfl (Ent.cons (t := 1) rfl (Ent.nil _))) (Sub.nil _) ?_
    rintro i ⟨hi, he⟩
    refine V.seq ?_
    refine V.seq ?_
    refine V.region ?_
    refine O.p rfl rfl rfl (Pu.move rfl rfl) ?_
    refine O.p rfl rfl rfl (Pu.move rfl rfl) ?_
    refine O.p rfl rfl rfl (Pu.len rfl Tryz.underlying34 rfl) ?_
    refine O.p rfl rfl rfl (Pu.lss rfl rfl rfl) ?_
    refine O.nil ?_
    refine X.next ?_
    refine V.condD rfl (fun c2 => ?_) (fun c2 => ?_)
    · skip
      refine V.skip ?_
      refine X.next ?_
      refine V.seq ?_
      refine V.block ?_
      refine V.seq ?_
      refine V.draw mo (by kernel_rfl) (fun hwf => ?_)
      refine D.p 0 rfl rfl rfl rfl rfl rfl (Pu.move rfl rfl) ?_
      refine D.p 1 rfl rfl rfl rfl rfl rfl (Pu.move rfl rfl) ?_
      refine D.p 2 rfl rfl rfl rfl rfl rfl (Pu.indexAddr (i) rfl Tryz.underlying34 sz2 rfl rfl (by omega) (by omega) (ha.some (by omega))) ?_
      have e1 : i < a.length := by omega
      refine D.p 3 rfl rfl rfl rfl rfl rfl (Pu.load rfl pl2 rfl (Ld.rd (Ld.old ha) (k := i) e1 rfl rfl)) ?_
      refine D.p 4 rfl rfl rfl rfl rfl rfl (Pu.move rfl rfl) ?_
      refine D.p 5 rfl rfl rfl rfl rfl rfl (Pu.move rfl rfl) ?_
      refine D.p 6 rfl rfl rfl rfl rfl rfl (Pu.indexAddr (i) rfl Tryz.underlying34 sz2 rfl rfl (by omega) (by omega) (hb.some (by omega))) ?_
      have e2 : i < b.length := by omega
      refine D.p 7 rfl rfl rfl rfl rfl rfl (Pu.load rfl pl2 rfl (Ld.rd (Ld.old hb) (k := i) e2 rfl rfl)) ?_
      refine D.p 8 rfl rfl rfl rfl rfl rfl (Pu.neq rfl rfl rfl) ?_
      refine D.done hwf rfl ?_
      refine X.next ?_
      refine V.condNot rfl (fun c3 => ?_) (fun c3 => ?_)
      · skip
        refine V.seq ?_
        refine V.region ?_
        refine O.p rfl rfl rfl (Pu.assign rfl rfl) ?_
        refine O.nil ?_
        refine X.next ?_
        refine V.ret ?_
        refine X.blockRet ?_
        refine X.thenRet ?_
        refine X.thenRet ?_
        refine X.blockRet ?_
        refine X.thenRet ?_
        refine X.ret1 rfl rfl ?_
        exact fun w hw => St.retP (boolF (fun h => c3 (by simp [h]))) hw
      · skip
        refine V.skip ?_
        refine X.blockNormal ?_
        refine X.next ?_
        refine V.region ?_
        refine O.p rfl rfl rfl (Pu.move rfl rfl) ?_
        refine O.p rfl rfl rfl (Pu.add64 (r := ((i + 1 : Nat) : Int)) rfl (by omega) rfl rfl rfl) ?_
        refine O.p rfl rfl rfl (Pu.assign rfl rfl) ?_
        refine O.nil ?_
        exact X.back2 (i + 1) ⟨by omega, fun j h1 h2 hj => by by_cases e : j = i; (· subst e; exact c3); (· exact he j h1 h2 (by omega))⟩ (by first | omega | (dsimp only; omega)) (Ent.cons rfl (Ent.nil _)) (Ent.cons (t := 0) rfl (Ent.cons (t := 1) rfl (Ent.nil _))) (Sub.nil _)
    · skip
      refine V.exit ?_
      refine X.thenExit ?_
      refine X.thenExit ?_
      refine X.blockHit ?_
      refine X.next ?_
      refine V.seq ?_
      refine V.region ?_
      refine O.p rfl rfl rfl (Pu.assign rfl rfl) ?_
      refine O.nil ?_
      refine X.next ?_
      refine V.ret ?_
      refine X.ret1 rfl rfl ?_
      exact fun w hw => St.retP (boolT (List.ext_getElem (by omega) (fun j h1 h2 => he j h1 h2 (by omega)))) hw
set_option maxRecDepth 100000 in
set_option maxHeartbeats 1000000 in
theorem blocks9_ok (a : List B3) (b : List B3) (aA : Option Addr) (ac : Nat) (bA : Option Addr) (bc : Nat) (w : World) (ha : Rd B3C w aA a) (hb : Rd B3C w bA b) (la : a.length ≤ 9223372036854775807) (lb : b.length ≤ 9223372036854775807) : Does Tryz.prog 136 [.slice aA a.length ac, .slice bA b.length bc] w [] (fun r => [.pur (r = .bool (decide (a = b)))]) := by
  refine Does.enter Tryz.func136 rfl rfl [(0, .slice aA a.length ac), (1, .slice bA b.length bc)] rfl ?_
  refine V.seq ?_
  refine V.region ?_
  refine O.p rfl rfl rfl (Pu.assign rfl rfl) ?_
  refine O.nil ?_
  refine X.next ?_
  refine V.seq ?_
  refine V.seq ?_
  refine V.region ?_
  refine O.p rfl rfl rfl (Pu.move rfl rfl) ?_
  refine O.p rfl rfl rfl (Pu.len rfl Tryz.underlying24 rfl) ?_
  refine O.p rfl rfl rfl (Pu.move rfl rfl) ?_
  refine O.p rfl rfl rfl (Pu.len rfl Tryz.underlying24 rfl) ?_
  refine O.p rfl rfl rfl (Pu.neq rfl rfl rfl) ?_
  refine O.nil ?_
  refine X.next ?_
  refine V.condNot rfl (fun c1 => ?_) (fun c1 => ?_)
  · skip
    refine V.seq ?_
    refine V.region ?_
    refine O.p rfl rfl rfl (Pu.assign rfl rfl) ?_
    refine O.nil ?_
    refine X.next ?_
    refine V.ret ?_
    refine X.thenRet ?_
    refine X.ret1 rfl rfl ?_
    exact fun w hw => St.retP (boolF (fun h => c1 (by rw [h]))) hw
  · skip
    refine V.skip ?_
    refine X.next ?_
    refine V.seq ?_
    refine V.seq ?_
    refine V.region ?_
    refine O.p rfl rfl rfl (Pu.assign rfl rfl) ?_
    refine O.nil ?_
    refine X.next ?_
    refine V.block ?_
    refine V.loop2 (β := Nat) (fun i => [(5, .int .i64 (i : Int))]) _ (fun i => []) (fun i => i ≤ a.length ∧ ∀ j (h1 : j < a.length) (h2 : j < b.length), j < i → a[j] = b[j]) (fun i => a.length - i) 0 ⟨by omega, fun j _ _ h => by omega⟩ (Ent.cons rfl (Ent.nil _)) (Ent.cons (t := 0) rfl (Ent.cons (t := 1) rfl (Ent.nil _))) (Sub.nil _) ?_
    rintro i ⟨hi, he⟩
    refine V.seq ?_
    refine V.seq ?_
    refine V.region ?_
    refine O.p rfl rfl rfl (Pu.move rfl rfl) ?_
    refine O.p rfl rfl rfl (Pu.move rfl rfl) ?_
    refine O.p rfl rfl rfl (Pu.len rfl Tryz.underlying24 rfl) ?_
    refine O.p rfl rfl rfl (Pu.lss rfl rfl rfl) ?_
    refine O.nil ?_
    refine X.next ?_
    refine V.condD rfl (fun c2 => ?_) (fun c2 => ?_)
    · skip
      refine V.skip ?_
      refine X.next ?_
      refine V.seq ?_
      refine V.block ?_
      refine V.seq ?_
      refine V.draw mo (by kernel_rfl) (fun hwf => ?_)
      refine D.p 0 rfl rfl rfl rfl rfl rfl (Pu.move rfl rfl) ?_
      refine D.p 1 rfl rfl rfl rfl rfl rfl (Pu.move rfl rfl) ?_
      refine D.p 2 rfl rfl rfl rfl rfl rfl (Pu.indexAddr (i) rfl Tryz.underlying24 sz51 rfl rfl (by omega) (by omega) (ha.some (by omega))) ?_
      have e1 : i < a.length := by omega
      refine D.p 3 rfl rfl rfl rfl rfl rfl (Pu.loadAgg' (v := B3.v (a[i]'e1)) rfl rfl ag51 sz51 rfl rfl (Ld.rds (Ld.old ha) (k := i) e1 rfl)) ?_
      refine D.p 4 rfl rfl rfl rfl rfl rfl (Pu.move rfl rfl) ?_
      refine D.p 5 rfl rfl rfl rfl rfl rfl (Pu.move rfl rfl) ?_
      refine D.p 6 rfl rfl rfl rfl rfl rfl (Pu.indexAddr (i) rfl Tryz.underlying24 sz51 rfl rfl (by omega) (by omega) (hb.some (by omega))) ?_
      have e2 : i < b.length := by omega
      refine D.p 7 rfl rfl rfl rfl rfl rfl (Pu.loadAgg' (v := B3.v (b[i]'e2)) rfl rfl ag51 sz51 rfl rfl (Ld.rds (Ld.old hb) (k := i) e2 rfl)) ?_
      refine D.p 8 rfl rfl rfl rfl rfl rfl (Pu.neqB3 Tryz.underlying51 Tryz.underlying2 sz2 (by kernel_rfl) rfl rfl rfl) ?_
      refine D.done hwf rfl ?_
      refine X.next ?_
      refine V.condNot rfl (fun c3 => ?_) (fun c3 => ?_)
      · skip
        refine V.seq ?_
        refine V.region ?_
        refine O.p rfl rfl rfl (Pu.assign rfl rfl) ?_
        refine O.nil ?_
        refine X.next ?_
        refine V.ret ?_
        refine X.blockRet ?_
        refine X.thenRet ?_
        refine X.thenRet ?_
        refine X.blockRet ?_
        refine X.thenRet ?_
        refine X.ret1 rfl rfl ?_
        exact fun w hw => St.retP (boolF (fun h => c3 (by simp [h]))) hw
      · skip
        refine V.skip ?_
        refine X.blockNormal ?_
        refine X.next ?_
        refine V.region ?_
        refine O.p rfl rfl rfl (Pu.move rfl rfl) ?_
        refine O.p rfl rfl rfl (Pu.add64 (r := ((i + 1 : Nat) : Int)) rfl (by omega) rfl rfl rfl) ?_
        refine O.p rfl rfl rfl (Pu.assign rfl rfl) ?_
        refine O.nil ?_
        exact X.back2 (i + 1) ⟨by omega, fun j h1 h2 hj => by by_cases e : j = i; (· subst e; exact c3); (· exact he j h1 h2 (by omega))⟩ (by first | omega | (dsimp only; omega)) (Ent.cons rfl (Ent.nil _)) (Ent.cons (t := 0) rfl (Ent.cons (t := 1) rfl (Ent.nil _))) (Sub.nil _)
    · skip
      refine V.exit ?_
      refine X.thenExit ?_
      refine X.thenExit ?_
      refine X.blockHit ?_
      refine X.next ?_
      refine V.seq ?_
      refine V.region ?_
      refine O.p rfl rfl rfl (Pu.assign rfl rfl) ?_
      refine O.nil ?_
      refine X.next ?_
      refine V.ret ?_
      refine X.ret1 rfl rfl ?_
      exact fun w hw => St.retP (boolT (List.ext_getElem (by omega) (fun j h1 h2 => he j h1 h2 (by omega)))) hw
set_option maxRecDepth 100000 in
set_option maxHeartbeats 1000000 in
theorem system9_ok (v : Int) (bs : List B3) (v2 : Int) (bs2 : List B3) (A : Option Addr) (c : Nat) (A2 : Option Addr) (c2 : Nat) (w : World) (hx : Rd B3C w A bs) (hx2 : Rd B3C w A2 bs2) (lx : bs.length ≤ 4611686018427387904) (lx2 : bs2.length ≤ 4611686018427387904) : Does Tryz.prog 53 [.agg #[.int .i64 v, .slice A bs.length c], .agg #[.int .i64 v2, .slice A2 bs2.length c2]] w [] (fun r => [.pur (r = .bool (decide (v = v2 ∧ bs = bs2)))]) := by
  refine Does.enter Tryz.func53 rfl rfl [(0, .agg #[.int .i64 v, .slice A bs.length c]), (1, .agg #[.int .i64 v2, .slice A2 bs2.length c2])] rfl ?_
  refine V.seq ?_
  refine V.region ?_
  refine O.e rfl rfl rfl (Ef.box rfl rfl rfl) ?_
  rintro _ _ ⟨b1, rfl, rfl⟩
  refine O.e rfl rfl rfl (Ef.box rfl rfl rfl) ?_
  rintro _ _ ⟨b2, rfl, rfl⟩
  refine O.p rfl rfl rfl (Pu.assign rfl rfl) ?_
  refine O.nil ?_
  refine X.next ?_
  refine V.seq ?_
  refine V.region ?_
  refine O.p rfl rfl rfl (Pu.fieldAddr 0 rfl Tryz.underlying26 rfl sz2 rfl rfl) ?_
  refine O.p rfl rfl rfl (Pu.load rfl pl2 rfl (Ld.blk 1 rfl rfl)) ?_
  refine O.p rfl rfl rfl (Pu.fieldAddr 0 rfl Tryz.underlying26 rfl sz2 rfl rfl) ?_
  refine O.p rfl rfl rfl (Pu.load rfl pl2 rfl (Ld.blk 0 rfl rfl)) ?_
  refine O.p rfl rfl rfl (Pu.eql rfl rfl rfl) ?_
  refine O.p rfl rfl rfl (Pu.move rfl rfl) ?_
  refine O.splitD 10 rfl (fun c1 => ?_) (fun c1 => ?_)
  · skip
    refine O.gp rfl rfl rfl rfl rfl (Pu.fieldAddr 1 rfl Tryz.underlying26 rfl sz24 rfl rfl) ?_
    refine O.gp rfl rfl rfl rfl rfl (Pu.load rfl pl24 rfl (Ld.blk 1 rfl rfl)) ?_
    refine O.gp rfl rfl rfl rfl rfl (Pu.fieldAddr 1 rfl Tryz.underlying26 rfl sz24 rfl rfl) ?_
    refine O.gp rfl rfl rfl rfl rfl (Pu.load rfl pl24 rfl (Ld.blk 0 rfl rfl)) ?_
    refine O.ge rfl rfl rfl rfl rfl (Ef.callP call136 rfl rfl (fun w hw => blocks9_ok  bs bs2 _ _ _ _ w ((Ld.old hx) w hw) ((Ld.old hx2) w hw) (by first | omega | (simp only [tops_len, conts_len, bl, List.length_append, List.length_cons, List.length_nil] at *; omega)) (by first | omega | (simp only [tops_len, conts_len, bl, List.length_append, List.length_cons, List.length_nil] at *; omega)) )) ?_
    rintro _ _ ⟨rfl, rfl⟩
    refine O.p rfl rfl rfl (Pu.pickT rfl rfl rfl) ?_
    refine O.p rfl rfl rfl (Pu.assign rfl rfl) ?_
    refine O.nil ?_
    refine X.next ?_
    refine V.ret ?_
    refine X.ret1 rfl rfl ?_
    exact fun w hw => St.retP (boolD (by first | exact ⟨c1, c2⟩ | exact fun h => c1 h.1 | exact fun h => c2 h.2 | (constructor; (· exact fun h => ⟨c1, h⟩); (· exact fun h => h.2)) | simp_all)) hw
  · skip
    refine O.gs rfl rfl rfl rfl rfl rfl ?_
    refine O.gs rfl rfl rfl rfl rfl rfl ?_
    refine O.gs rfl rfl rfl rfl rfl rfl ?_
    refine O.gs rfl rfl rfl rfl rfl rfl ?_
    refine O.gs rfl rfl rfl rfl rfl rfl ?_
    refine O.p rfl rfl rfl (Pu.pickF rfl rfl rfl) ?_
    refine O.p rfl rfl rfl (Pu.assign rfl rfl) ?_
    refine O.nil ?_
    refine X.next ?_
    refine V.ret ?_
    refine X.ret1 rfl rfl ?_
    exact fun w hw => St.retP (boolF (by first | exact ⟨c1, c2⟩ | exact fun h => c1 h.1 | exact fun h => c2 h.2 | (constructor; (· exact fun h => ⟨c1, h⟩); (· exact fun h => h.2)) | simp_all)) hw
theorem completeJ_ok (v : Int) (bs : List B3) (gf : Nat) (caps : Array Value) (E : List (List B3) → Assn) (cont : Nat → Bool) (okL : List B3 → Prop) (M n m : Nat) (l : List (List B3)) (A : Option Addr) (c : Nat) (w0 : World) (H : List Assn) (hx : ∀ w, St w0 H w → Rd B3C w A bs) (lx : bs.length ≤ 4611686018427387904) (h0 : 0 ≤ v) (hb : ∀ b ∈ bs, good 15 b) (hft : fitsAt bs bs.length) (hv : v.toNat ≤ 15) (hrel : Rel v.toNat (tab bs) m) (hok : CallOk Tryz.prog gf) (hcb : CallB Tryz.prog w0 51 gf caps E cont okL M) (hn : leftN v.toNat m ≤ n) (hM : l.length + (runC cont l.length (leaf bs (compM n v.toNat m))).length ≤ M) (hMM : M ≤ 10000000000) (hokl : ∀ q ∈ leaf bs (compM n v.toNat m), okL q) (hxs : bs.length + n ≤ 1000) : Does Tryz.prog 200 [.agg #[.int .i64 v, .slice A bs.length c], .func (.func gf) #[] caps] w0 (E l :: H) (fun r => [.sep (.pur (r = .tuple #[])) (E (l ++ runC cont l.length (leaf bs (compM n v.toNat m))))] ++ H) := by
  obtain ⟨k, rfl⟩ := Int.eq_ofNat_of_zero_le h0
  exact complete_ok k bs gf caps E cont okL M n m l A c w0 H hx lx hb hft hv hrel hok hcb hn hM hMM hokl hxs
set_option maxRecDepth 100000 in
set_option maxHeartbeats 1000000 in
theorem completions1_ok (list : List B3) (v : Int) (b0 b1 b2 : Nat) (A : Option Addr) (c : Nat) (bs : List B3) (most : Nat) (l : List (List B3)) (listA : Option Addr) (listc : Nat) (w0 : World) (H : List Assn) (hl : l.length ≤ 10000000000) (hxs : list.length ≤ 1000) : Does Tryz.prog 201 [.slice listA list.length listc, .pointer (some ⟨b0, 0, none⟩), .pointer (some ⟨b1, 0, none⟩), .pointer (some ⟨b2, 0, none⟩)] w0 (Own 51 B3C listA listc list :: SysF 26 51 95 26 3 v b0 b1 b2 A c bs most l :: H) (fun r => [.sep (.pur (r = .bool (decide (l.length + 1 < most)))) (.sep (Own 51 B3C listA listc list) (SysF 26 51 95 26 3 v b0 b1 b2 A c bs most (l ++ [list])))] ++ H) := by
  refine Does.enter Tryz.func201 rfl rfl [(0, .slice listA list.length listc), (1, .pointer (some ⟨b0, 0, none⟩)), (2, .pointer (some ⟨b1, 0, none⟩)), (3, .pointer (some ⟨b2, 0, none⟩))] rfl ?_
  refine V.seq ?_
  refine V.region ?_
  refine O.p rfl rfl rfl (Pu.assign rfl rfl) ?_
  refine O.nil ?_
  refine X.next ?_
  refine V.seq ?_
  refine V.map (fun w hw => hw.sub (Sub.keep 1 rfl (Sub.keep 0 rfl (Sub.refl _)))) ?_
  refine V.sysF (fun yA1 yk1 ps1 hps1 => ?_)
  refine V.fact (RowsA.len 4 rfl) (fun hn_ps1 => ?_)
  have htl_ps1 := tops_len ps1
  have hcl_ps1 := conts_len ps1
  have hrl_ps1 := hps1.1
  refine V.drawS mo (by kernel_rfl) (Sub.keep 0 rfl (Sub.keep 0 rfl (Sub.keep 0 rfl (Sub.drop (Sub.drop (Sub.drop (Sub.refl _))))))) (fun hwf => ?_)
  refine D.p 0 rfl rfl rfl rfl rfl rfl (Pu.load rfl pl95 rfl (Ld.blk 0 rfl rfl)) ?_
  refine D.p 1 rfl rfl rfl rfl rfl rfl (Pu.fieldAddr 0 rfl Tryz.underlying26 rfl sz2 rfl rfl) ?_
  refine D.p 2 rfl rfl rfl rfl rfl rfl (Pu.load rfl pl2 rfl (Ld.blk 1 rfl rfl)) ?_
  refine D.p 3 rfl rfl rfl rfl rfl rfl (Pu.move rfl rfl) ?_
  refine D.eff hwf (e := 4) rfl rfl rfl rfl (Ef.call1 call202 rfl rfl (fun w hw => system_ok  v list _ _ w ((Ld.own 5 (by exact rfl)) w hw) (by first | omega | (simp only [tops_len, conts_len, bl, List.length_append, List.length_cons, List.length_nil] at *; omega)) (by first | assumption | omega | (try dsimp only at *; omega)))) rfl rfl rfl ?_
  rintro _ _ rfl hs
  refine ⟨fun w hw => hs w hw.tail, ?_⟩
  refine D.exi (fun r1A => ?_)
  refine D.exi (fun r1c => ?_)
  refine D.exi (fun r1 => ?_)
  refine D.sep ?_
  refine D.pur1 ?_
  rintro ⟨rfl, hr1_1, hr1_2⟩
  refine D.eff hwf (e := 5) rfl rfl rfl rfl (Ef.build (SyC v) ([⟨r1A, r1.length, r1c⟩] : List Sl) rfl Tryz.underlying95 inf26 rfl rfl rfl (by first | decide | (simp; done)) (by kernel_rfl)) rfl rfl rfl ?_
  rintro _ _ ⟨A1, hA1, rfl, rfl⟩ hs
  refine ⟨fun w hw => hw.sub (Sub.keep 2 rfl (Sub.keep 2 rfl (Sub.keep 2 rfl (Sub.drop (Sub.drop (Sub.drop (Sub.drop (Sub.drop (Sub.refl _))))))))), ?_⟩
  refine D.eff hwf (e := 6) rfl rfl rfl rfl (Ef.append (xs := (tops ps1)) (ys := ([⟨r1A, r1.length, r1c⟩] : List Sl)) 5 rfl Tryz.underlying95 inf26 rfl rfl rfl rfl rfl rfl hA1 (Ld.own 0 (by exact rfl)) (by simp only [List.length_append, List.length_cons, List.length_nil] at *; omega) (by decide)) rfl rfl rfl ?_
  rintro _ _ ⟨A2, k1, rfl, rfl, hA2⟩ hs
  replace hA2 := hA2 (.inr (by simp))
  refine ⟨fun w hw => hw.sub (Sub.keep 2 rfl (Sub.keep 2 rfl (Sub.keep 2 rfl (Sub.drop (Sub.drop (Sub.drop (Sub.drop (Sub.drop (Sub.refl _))))))))), ?_⟩
  refine D.effX (Hs' := []) hwf (e := 7) rfl rfl rfl rfl (Ef.store1 (cs' := [_]) 2 rfl sz95 rfl rfl rfl rfl rfl (ltb rfl) rfl) rfl [] rfl (List.forall_mem_nil _) ?_
  rintro _ _ rfl
  refine ⟨fun w hw => hw.sub (Sub.nil _), ?_⟩
  refine D.done hwf rfl ?_
  refine X.map (fun w hw => snoc_heap (ps := ps1) (xs := r1) (hw.sub (Sub.keep 5 rfl (Sub.keep 5 rfl (Sub.keep 1 rfl (Sub.keep 0 rfl (Sub.keep 0 rfl (Sub.keep 0 rfl (Sub.keep 0 rfl (Sub.keep 0 rfl (Sub.refl _))))))))))) ?_
  refine X.next ?_
  refine V.seq ?_
  refine V.region ?_
  refine O.p rfl rfl rfl (Pu.load rfl pl95 rfl (Ld.blk 3 rfl rfl)) ?_
  refine O.p rfl rfl rfl (Pu.len rfl Tryz.underlying95 rfl) ?_
  refine O.p rfl rfl rfl (Pu.load rfl pl3 rfl (Ld.blk 5 rfl rfl)) ?_
  refine O.p rfl rfl rfl (Pu.lss rfl rfl rfl) ?_
  refine O.p rfl rfl rfl (Pu.assign rfl rfl) ?_
  refine O.nil ?_
  refine X.next ?_
  refine V.ret ?_
  refine X.map (fun w hw => SysF.mk (l := l ++ [list]) (by rw [conts_append]; exact relS_snoc hps1 hr1_1 hr1_2) (hw.sub (Sub.cons 3 rfl (fun w F h => by rw [tops_append]; exact h) (Sub.keep 3 rfl (Sub.keep 3 rfl (Sub.keep 0 rfl (Sub.keep 0 rfl (Sub.keep 0 rfl (Sub.keep 0 rfl (Sub.refl _)))))))))) ?_
  refine X.ret1 rfl rfl ?_
  exact fun w hw => St.unsep (St.addPur (boolD (by simp only [tops_append, List.length_append, List.length_cons, List.length_nil, tops_len]; omega)) (St.unsep (hw.sub (Sub.keep 2 rfl (Sub.keep 0 rfl (Sub.drop (Sub.refl _)))))))
theorem completions1_call (v : Int) (b0 b1 b2 : Nat) (A : Option Addr) (c : Nat) (bs : List B3) (most : Nat) (w0 : World) : CallB Tryz.prog w0 51 201 #[.pointer (some ⟨b0, 0, none⟩), .pointer (some ⟨b1, 0, none⟩), .pointer (some ⟨b2, 0, none⟩)] (SysF 26 51 95 26 3 v b0 b1 b2 A c bs most) (fun j => decide (j < most)) (fun xs => xs.length ≤ 1000) 10000000000 :=
  fun l xs A2 k H hl hx => completions1_ok xs v b0 b1 b2 A c bs most l A2 k w0 H (by omega) hx
set_option maxRecDepth 100000 in
set_option maxHeartbeats 1000000 in
theorem missing_ok (v : Int) (bs : List B3) (A : Option Addr) (c : Nat) (w : World) (hx : Rd B3C w A bs) (lx : bs.length ≤ 4611686018427387904) (hS : STS v bs) : Does Tryz.prog 123 [.agg #[.int .i64 v, .slice A bs.length c]] w [] (fun r => [.pur (r = .tuple #[.int .i64 (if told v then missN v bs else 0), .int .i64 (if told v then 0 else 5)])]) := by
  refine Does.enter Tryz.func123 rfl rfl [(0, .agg #[.int .i64 v, .slice A bs.length c])] rfl ?_
  have hlo := hS.lo
  have hhi := hS.hi
  have hfw := hS.few
  have hmul := sts_mul hS
  refine V.seq ?_
  refine V.region ?_
  refine O.e rfl rfl rfl (Ef.box rfl rfl rfl) ?_
  rintro _ _ ⟨b1, rfl, rfl⟩
  refine O.p rfl rfl rfl (Pu.assign rfl rfl) ?_
  refine O.p rfl rfl rfl (Pu.assign rfl rfl) ?_
  refine O.nil ?_
  refine X.next ?_
  refine V.seq ?_
  refine V.seq ?_
  refine V.region ?_
  refine O.e rfl rfl rfl (Ef.build I64 ([(3 : Int), (7 : Int), (9 : Int), (13 : Int), (15 : Int)] : List Int) rfl Tryz.underlying34 inf2 rfl rfl rfl (by first | decide | (simp; done)) (by kernel_rfl)) ?_
  rintro _ _ ⟨A1, hA1, rfl, rfl⟩
  refine O.p rfl rfl rfl (Pu.fieldAddr 0 rfl Tryz.underlying26 rfl sz2 rfl rfl) ?_
  refine O.p rfl rfl rfl (Pu.load rfl pl2 rfl (Ld.blk 1 rfl rfl)) ?_
  refine O.e rfl rfl rfl (Ef.callP call150 rfl rfl (fun w hw => containsI_ok  ([(3 : Int), (7 : Int), (9 : Int), (13 : Int), (15 : Int)] : List Int) v _ _ w ((Ld.own 0 (by exact rfl)) w hw) (by first | omega | (simp only [tops_len, conts_len, bl, List.length_append, List.length_cons, List.length_nil] at *; omega)) )) ?_
  rintro _ _ ⟨rfl, rfl⟩
  refine O.p rfl rfl rfl (Pu.not rfl rfl) ?_
  refine O.nil ?_
  refine X.next ?_
  refine V.condNot rfl (fun c1 => ?_) (fun c1 => ?_)
  · skip
    refine V.seq ?_
    refine V.region ?_
    refine O.p rfl rfl rfl (Pu.assign rfl rfl) ?_
    refine O.p rfl rfl rfl (Pu.assign rfl rfl) ?_
    refine O.nil ?_
    refine X.next ?_
    refine V.ret ?_
    refine X.thenRet ?_
    refine X.ret2 rfl rfl rfl ?_
    exact fun w hw => St.addPur (by rw [if_neg (fun h => c1 (by unfold told at h; simp; exact h)), if_neg (fun h => c1 (by unfold told at h; simp; exact h))]) (hw.sub (Sub.nil _))
  · skip
    refine V.skip ?_
    refine X.next ?_
    refine V.seq ?_
    refine V.region ?_
    refine O.p rfl rfl rfl (Pu.fieldAddr 0 rfl Tryz.underlying26 rfl sz2 rfl rfl) ?_
    refine O.p rfl rfl rfl (Pu.load rfl pl2 rfl (Ld.blk 1 rfl rfl)) ?_
    refine O.p rfl rfl rfl (Pu.fieldAddr 0 rfl Tryz.underlying26 rfl sz2 rfl rfl) ?_
    refine O.p rfl rfl rfl (Pu.load rfl pl2 rfl (Ld.blk 1 rfl rfl)) ?_
    refine O.p rfl rfl rfl (Pu.sub64 rfl (by omega) rfl rfl rfl) ?_
    refine O.p rfl rfl rfl (Pu.mul64 rfl (by omega) rfl rfl rfl) ?_
    refine O.p rfl rfl rfl (Pu.quo64 (by omega) (by omega) (by omega) rfl rfl rfl) ?_
    refine O.p rfl rfl rfl (Pu.fieldAddr 1 rfl Tryz.underlying26 rfl sz24 rfl rfl) ?_
    refine O.p rfl rfl rfl (Pu.load rfl pl24 rfl (Ld.blk 1 rfl rfl)) ?_
    refine O.p rfl rfl rfl (Pu.len rfl Tryz.underlying24 rfl) ?_
    refine O.p rfl rfl rfl (Pu.sub64 rfl (by omega) rfl rfl rfl) ?_
    refine O.p rfl rfl rfl (Pu.assign rfl rfl) ?_
    refine O.p rfl rfl rfl (Pu.assign rfl rfl) ?_
    refine O.nil ?_
    refine X.next ?_
    refine V.ret ?_
    refine X.ret2 rfl rfl rfl ?_
    exact fun w hw => St.addPur (by rw [if_pos (by unfold told; simpa using c1), if_pos (by unfold told; simpa using c1)]; rfl) (hw.sub (Sub.nil _))
set_option maxRecDepth 100000 in
set_option maxHeartbeats 1000000 in
theorem completions_ok (v : Int) (bs : List B3) (most : Nat) (A : Option Addr) (c : Nat) (w : World) (hx : Rd B3C w A bs) (lx : bs.length ≤ 4611686018427387904) (hm : 0 < most) (hmm : most ≤ 2000000000) : Does Tryz.prog 120 [.agg #[.int .i64 v, .slice A bs.length c], .int .i64 (most : Int)] w [] (fun rv_ => [.exi fun (rA : Option Addr) => .exi fun (rc : Nat) => .exi fun (r : List (Sl × List B3)) => .sep (.pur (rv_ = .tuple #[.slice rA (tops r).length rc, .int .i64 (cpC v bs)] ∧ (cpC v bs = 0 → RelS (runC (fun j => decide (j < most)) 0 (leaf bs (cmpl v bs))) (conts r)) ∧ (¬ cpC v bs = 0 → conts r = []))) (.sep (Own 26 (SyC v) rA rc (tops r)) (RowsA 51 B3C r))]) := by
  refine Does.enter Tryz.func120 rfl rfl [(0, .agg #[.int .i64 v, .slice A bs.length c]), (1, .int .i64 (most : Int))] rfl ?_
  refine V.seq ?_
  refine V.region ?_
  refine O.e rfl rfl rfl (Ef.box rfl rfl rfl) ?_
  rintro _ _ ⟨b1, rfl, rfl⟩
  refine O.e rfl rfl rfl (Ef.box rfl rfl rfl) ?_
  rintro _ _ ⟨b2, rfl, rfl⟩
  refine O.p rfl rfl rfl (Pu.assign rfl rfl) ?_
  refine O.p rfl rfl rfl (Pu.assign rfl rfl) ?_
  refine O.nil ?_
  refine X.next ?_
  refine V.seq ?_
  refine V.seq ?_
  refine V.region ?_
  refine O.p rfl rfl rfl (Pu.loadAgg rfl ag26 sz26 rfl rfl (Ld.whole 1 rfl)) ?_
  refine O.e rfl rfl rfl (Ef.callP call77 rfl rfl (fun w hw => IsSystem_ok _ bs _ _ w ((Ld.old hx) w hw) (by omega))) ?_
  rintro _ _ ⟨rfl, rfl⟩
  refine O.p rfl rfl rfl (Pu.not rfl rfl) ?_
  refine O.nil ?_
  refine X.next ?_
  refine V.condNot rfl (fun c1 => ?_) (fun c1 => ?_)
  · skip
    refine V.seq ?_
    refine V.region ?_
    refine O.p rfl rfl rfl (Pu.assign rfl rfl) ?_
    refine O.p rfl rfl rfl (Pu.assign rfl rfl) ?_
    refine O.nil ?_
    refine X.next ?_
    refine V.ret ?_
    refine X.thenRet ?_
    refine X.ret2 rfl rfl rfl ?_
    exact fun w hw => St.mkExi none (St.mkExi 0 (St.mkExi [] (St.unsep (St.addPur ⟨(by rw [cp_1 c1]; rfl), ⟨fun h => by rw [cp_1 c1] at h; exact absurd h (by decide), fun _ => rfl⟩⟩ (St.unsep (St.addNil (T := 26) (C := (SyC v)) (RowsA.nil (T := 51) (C := B3C) (hw.sub (Sub.nil _)))))))))
  · skip
    have hS := c1
    have hlo := c1.lo
    have hhi := c1.hi
    have hfw := c1.few
    have hg : ∀ b ∈ bs, good 15 b := fun b h => (c1.good b h).mono c1.hi
    refine V.skip ?_
    refine X.next ?_
    refine V.seq ?_
    refine V.region ?_
    refine O.p rfl rfl rfl (Pu.loadAgg rfl ag26 sz26 rfl rfl (Ld.whole 1 rfl)) ?_
    refine O.e rfl rfl rfl (Ef.callP call123 rfl rfl (fun w hw => missing_ok  v bs _ _ w ((Ld.old hx) w hw) (by first | omega | (simp only [tops_len, conts_len, bl, List.length_append, List.length_cons, List.length_nil] at *; omega)) c1)) ?_
    rintro _ _ ⟨rfl, rfl⟩
    refine O.p rfl rfl rfl (Pu.move rfl rfl) ?_
    refine O.p rfl rfl rfl (Pu.extract rfl rfl rfl) ?_
    refine O.p rfl rfl rfl (Pu.extract rfl rfl rfl) ?_
    refine O.p rfl rfl rfl (Pu.assign rfl rfl) ?_
    refine O.p rfl rfl rfl (Pu.assign rfl rfl) ?_
    refine O.nil ?_
    refine X.next ?_
    refine V.seq ?_
    refine V.block ?_
    refine V.seq ?_
    refine V.region ?_
    refine O.p rfl rfl rfl (Pu.move rfl rfl) ?_
    refine O.p rfl rfl rfl (Pu.neq rfl rfl rfl) ?_
    refine O.p rfl rfl rfl (Pu.assign rfl rfl) ?_
    refine O.nil ?_
    refine X.next ?_
    refine V.condNot rfl (fun c2 => ?_) (fun c2 => ?_)
    · skip
      have ht : ¬ told v := fun h => c2 (by rw [if_pos h])
      have hcp := cp_5 hS ht
      refine V.seq ?_
      refine V.region ?_
      refine O.p rfl rfl rfl (Pu.move rfl rfl) ?_
      refine O.p rfl rfl rfl (Pu.assign rfl rfl) ?_
      refine O.p rfl rfl rfl (Pu.assign rfl rfl) ?_
      refine O.nil ?_
      refine X.next ?_
      refine V.ret ?_
      refine X.blockRet ?_
      refine X.thenRet ?_
      refine X.ret2 rfl rfl rfl ?_
      exact fun w hw => St.mkExi none (St.mkExi 0 (St.mkExi [] (St.unsep (St.addPur ⟨(by rw [hcp, if_neg ht, if_neg ht]; rfl), ⟨fun h => by rw [hcp] at h; exact absurd h (by decide), fun _ => rfl⟩⟩ (St.unsep (St.addNil (T := 26) (C := (SyC v)) (RowsA.nil (T := 51) (C := B3C) (hw.sub (Sub.nil _)))))))))
    · skip
      have ht : told v := by apply Decidable.byContradiction; intro h; rw [if_neg h] at c2; exact absurd c2 (by decide)
      refine V.seq ?_
      refine V.region ?_
      refine O.p rfl rfl rfl (Pu.move rfl rfl) ?_
      refine O.p rfl rfl rfl (Pu.gtr rfl rfl rfl) ?_
      refine O.p rfl rfl rfl (Pu.assign rfl rfl) ?_
      refine O.nil ?_
      refine X.next ?_
      refine V.condD rfl (fun c3 => ?_) (fun c3 => ?_)
      · skip
        rw [if_pos ht] at c3
        have hcp := cp_3 hS ht c3
        refine V.seq ?_
        refine V.region ?_
        refine O.p rfl rfl rfl (Pu.assign rfl rfl) ?_
        refine O.p rfl rfl rfl (Pu.assign rfl rfl) ?_
        refine O.nil ?_
        refine X.next ?_
        refine V.ret ?_
        refine X.blockRet ?_
        refine X.thenRet ?_
        refine X.ret2 rfl rfl rfl ?_
        exact fun w hw => St.mkExi none (St.mkExi 0 (St.mkExi [] (St.unsep (St.addPur ⟨(by rw [hcp]; rfl), ⟨fun h => by rw [hcp] at h; exact absurd h (by decide), fun _ => rfl⟩⟩ (St.unsep (St.addNil (T := 26) (C := (SyC v)) (RowsA.nil (T := 51) (C := B3C) (hw.sub (Sub.nil _)))))))))
      · skip
        rw [if_pos ht] at c3
        have hcp := cp_0 hS ht c3
        refine V.skip ?_
        refine X.blockNormal ?_
        refine X.next ?_
        refine V.seq ?_
        refine V.region ?_
        refine O.e rfl rfl rfl (Ef.alloc rfl zr95 rfl) ?_
        rintro _ _ ⟨b3, rfl, rfl⟩
        refine O.nil ?_
        refine X.next ?_
        refine V.seq ?_
        refine V.region ?_
        refine O.p rfl rfl rfl (Pu.loadAgg rfl ag26 sz26 rfl rfl (Ld.whole 2 rfl)) ?_
        refine O.p rfl rfl rfl (Pu.makeFunc rfl rfl) ?_
        refine O.map (fun w hw => SysF.mk (sT := 26) (bT := 51) (v := v) (A := A) (c := c) (bs := bs) (most := most) (l := []) (ps := []) relS_nil ((St.addNil (T := 26) (C := SyC v) (RowsA.nil (T := 51) (C := B3C) hw)).sub (Sub.keep 2 rfl (Sub.keep 3 rfl (Sub.keep 2 rfl (Sub.keep 0 rfl (Sub.keep 0 rfl (Sub.nil _)))))))) ?_
        refine O.e rfl rfl rfl (Ef.call call200 rfl rfl (Does.pre (fun w hw => hw.sub (Sub.keep 0 rfl (Sub.nil _))) (completeJ_ok  v bs (201) (#[.pointer (some ⟨b3, 0, none⟩), .pointer (some ⟨b1, 0, none⟩), .pointer (some ⟨b2, 0, none⟩)]) (SysF 26 51 95 26 3 v b3 b1 b2 A c bs most) (fun j => decide (j < most)) (fun xs => xs.length ≤ 1000) 10000000000 40 (maskB 0 bs) ([]) _ _ w _ (Ld.old hx) (by first | omega | (simp only [tops_len, conts_len, bl, List.length_append, List.length_cons, List.length_nil] at *; omega)) (by omega) hg c1.fits (by omega) (rel_mask c1) (call201) (completions1_call _ _ _ _ _ _ _ _ _) (Nat.le_trans (cmpl_left hcp) (by decide)) (by rw [List.length_nil, run_len _ 0 hm, leaf_len]; have := cmpl_len hcp; unfold cmpl at this; omega) (by decide) (fun q hq => leaf_small c1 hq) (by omega)))) ?_
        rintro _ _ rfl
        refine O.sep ?_
        refine O.pur ?_
        rintro rfl
        refine O.nil ?_
        refine X.next ?_
        refine V.seq ?_
        refine V.sysF (fun yA1 yk1 ps1 hps1 => ?_)
        refine V.fact (RowsA.len 4 rfl) (fun hn_ps1 => ?_)
        have htl_ps1 := tops_len ps1
        have hcl_ps1 := conts_len ps1
        have hrl_ps1 := hps1.1
        refine V.region ?_
        refine O.p rfl rfl rfl (Pu.load rfl pl95 rfl (Ld.blk 0 rfl rfl)) ?_
        refine O.p rfl rfl rfl (Pu.assign rfl rfl) ?_
        refine O.p rfl rfl rfl (Pu.assign rfl rfl) ?_
        refine O.nil ?_
        refine X.next ?_
        refine V.ret ?_
        refine X.ret2 rfl rfl rfl ?_
        exact fun w hw => St.mkExi yA1 (St.mkExi yk1 (St.mkExi ps1 (St.unsep (St.addPur ⟨(by rw [hcp]), ⟨fun _ => by simpa [cmpl] using hps1, fun h => absurd hcp h⟩⟩ (St.unsep (hw.sub (Sub.keep 3 rfl (Sub.keep 3 rfl (Sub.nil _)))))))))
set_option maxRecDepth 100000 in
set_option maxHeartbeats 1000000 in
theorem implFixes_ok (v : Int) (bs : List B3) (A : Option Addr) (c : Nat) (w : World) (hx : Rd B3C w A bs) (lx : bs.length ≤ 4611686018427387904) : Does Tryz.prog 41 [.agg #[.int .i64 v, .slice A bs.length c]] w [] (fun r => [.pur (r = .tuple #[.bool (decide (cpC v bs = 0 ∧ (cmpl v bs).length = 1)), .int .i64 (cpC v bs)])]) := by
  refine Does.enter Tryz.func41 rfl rfl [(0, .agg #[.int .i64 v, .slice A bs.length c])] rfl ?_
  refine V.seq ?_
  refine V.region ?_
  refine O.e rfl rfl rfl (Ef.box rfl rfl rfl) ?_
  rintro _ _ ⟨b1, rfl, rfl⟩
  refine O.p rfl rfl rfl (Pu.assign rfl rfl) ?_
  refine O.p rfl rfl rfl (Pu.assign rfl rfl) ?_
  refine O.nil ?_
  refine X.next ?_
  refine V.seq ?_
  refine V.region ?_
  refine O.p rfl rfl rfl (Pu.loadAgg rfl ag26 sz26 rfl rfl (Ld.whole 0 rfl)) ?_
  refine O.e rfl rfl rfl (Ef.call1 call120 rfl rfl (fun w hw => completions_ok  v bs 2 _ _ w ((Ld.old hx) w hw) (by first | omega | (simp only [tops_len, conts_len, bl, List.length_append, List.length_cons, List.length_nil] at *; omega)) (by first | assumption | omega | (try dsimp only at *; omega)) (by first | assumption | omega | (try dsimp only at *; omega)))) ?_
  rintro _ _ rfl
  refine O.exi (fun r1A => ?_)
  refine O.exi (fun r1c => ?_)
  refine O.exi (fun r1 => ?_)
  refine O.sep ?_
  refine O.pur ?_
  rintro ⟨rfl, hr1_1, hr1_2⟩
  refine O.sep ?_
  refine O.fact (RowsA.len 1 rfl) (fun hn_r1 => ?_)
  have htl_r1 := tops_len r1
  have hclr1 := conts_len r1
  have hln := comps_len (by decide) hr1_1 hr1_2 hclr1
  have htlr1 := tops_len r1
  have hcb := cp_bd v bs
  refine O.p rfl rfl rfl (Pu.move rfl rfl) ?_
  refine O.p rfl rfl rfl (Pu.extract rfl rfl rfl) ?_
  refine O.p rfl rfl rfl (Pu.extract rfl rfl rfl) ?_
  refine O.p rfl rfl rfl (Pu.assign rfl rfl) ?_
  refine O.p rfl rfl rfl (Pu.assign rfl rfl) ?_
  refine O.nil ?_
  refine X.next ?_
  refine V.seq ?_
  refine V.region ?_
  refine O.p rfl rfl rfl (Pu.move rfl rfl) ?_
  refine O.p rfl rfl rfl (Pu.len rfl Tryz.underlying95 rfl) ?_
  refine O.p rfl rfl rfl (Pu.eql rfl rfl rfl) ?_
  refine O.p rfl rfl rfl (Pu.move rfl rfl) ?_
  refine O.p rfl rfl rfl (Pu.assign rfl rfl) ?_
  refine O.p rfl rfl rfl (Pu.assign rfl rfl) ?_
  refine O.nil ?_
  refine X.next ?_
  refine V.ret ?_
  refine X.ret2 rfl rfl rfl ?_
  exact fun w hw => St.addPur (by have e : (((tops r1).length : Nat) : Int) = 1 ↔ cpC v bs = 0 ∧ (cmpl v bs).length = 1 := (by by_cases h : cpC v bs = 0; (· rw [if_pos h] at hln; omega); (· rw [if_neg h] at hln; omega)); rw [decide_eq_decide.2 e]; try rfl) (hw.sub (Sub.nil _))
end Go.Proofs.YtgjfcepnkllklaaGreat
