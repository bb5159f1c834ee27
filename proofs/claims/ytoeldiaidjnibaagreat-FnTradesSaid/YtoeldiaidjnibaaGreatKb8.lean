/-
  Contracts, part 8.
-/
import Derived.Test.YtoeldiaidjnibaaGreatKb7
set_option linter.unusedVariables false
set_option linter.unusedSimpArgs false
namespace Go.Proofs.YtoeldiaidjnibaaGreat
open Go Go.RowKit Go.Vc Go.Proofs
set_option maxRecDepth 100000 in
set_option maxHeartbeats 1000000 in
theorem l04DrawOf_ok (cA : Option Addr) (cc : Nat) (code : List UInt8) (s : Nat) (w0 : World) (H : List Assn) (hc : Rd U8C w0 cA code) (lc : code.length ≤ 1048576) : Does Tryz.prog 97 [.pointer (some ⟨s, 0, none⟩)] w0 (SrcK 118 cA cc code s :: H) (fun r => [.exi fun (pv : Int) => .exi fun (oA : Option Addr) => .exi fun (oc : Nat) => .exi fun (o : List B3) => .exi fun (iA : Option Addr) => .exi fun (ic : Nat) => .exi fun (i : List B3) => .sep (.pur (r = .agg #[.int .i64 pv, .slice oA o.length oc, .slice iA i.length ic] ∧ o.length ≤ 1000 ∧ i.length ≤ 1000)) (.sep (TrdA oA oc o iA ic i) (SrcK 118 cA cc code s))] ++ H) := by
 refine Does.enter Tryz.func97 rfl rfl [(0, .pointer (some ⟨s, 0, none⟩))] rfl (V.seq (V.region (O.f rfl (Ef.alloc rfl zr28 rfl) ?_)))
 rintro _ _ ⟨b1, rfl, rfl⟩
 refine O.nil (X.next (V.seq (V.region (O.m rfl (O.f rfl (Ef.call call128 rfl rfl (Does.pre (fun w hw => hw.sub (Sub.keep 1 rfl (Sub.k (Sub.refl _)))) (l01DrawFull_ok _ _ _ s w0 _   (by first | assumption | omega | (try dsimp only at *; omega)) (by first | assumption | omega | (try dsimp only at *; omega))))) ?_)))))
 rintro _ _ rfl
 refine O.exi (fun pv1 => O.exi (fun r1A => O.exi (fun r1c => O.exi (fun r1 => O.sep (O.pur ?_)))))
 rintro ⟨rfl, hpv1_1⟩
 refine O.sep ?_
 have hD0 := hpv1_1
 have hv0 := hD0.1
 have hl0 := hD0.2.2
 refine O.f rfl (Ef.alloc rfl zr26 rfl) ?_
 rintro _ _ ⟨b2, rfl, rfl⟩
 refine O.s rfl rfl (Ef.storeAll 0 rfl sz26 rfl rfl rfl rfl (by simp [Value.oneCell']) rfl) ?_
 rintro _ _ rfl
 refine O.nil (X.next (V.seq (V.region (O.q rfl (Pu.loadAgg rfl ag26 sz26 rfl rfl (Ld.whole 0 rfl)) (O.f rfl (Ef.call1 call81 rfl rfl (fun w hw => specPaschTrades_ok  pv1 r1 _ _ w ((Ld.own 1 (by exact rfl)) w hw) (by first | omega | (simp only [tops_len, conts_len, bl, List.length_append, List.length_cons, List.length_nil] at *; omega)) )) ?_)))))
 rintro _ _ rfl
 refine O.exi (fun r2A => O.exi (fun r2c => O.exi (fun r2 => O.sep (O.pur ?_))))
 rintro ⟨rfl, hr2_1, hr2_2⟩
 refine O.sep ?_
 have hsm := hr2_1.four
 have htl := topT_len r2
 refine O.m rfl (O.m rfl (O.m rfl (O.m rfl (O.m rfl (O.nil (X.next (V.seq (V.seq (V.map (fun w hw => St.trd_one (hw.sub (Sub.keep 3 rfl (Sub.k (Sub.k (Sub.k (Sub.k (Sub.k (Sub.refl _))))))))) (V.region (O.m rfl ?_)))))))))))
 refine O.f rfl (Ef.call call68 rfl rfl (Does.pre (fun w hw => hw.sub (Sub.keep 4 rfl (Sub.k (Sub.k (Sub.k (Sub.k (Sub.k (Sub.refl _)))))))) (l01Next_ok _ _ _ s (5 : Int) w0 _   (by first | assumption | omega | (try dsimp only at *; omega)) (by first | assumption | omega | (try dsimp only at *; omega))))) ?_
 rintro _ _ rfl
 refine O.exi (fun r3 => O.sep (O.pur ?_))
 rintro ⟨rfl, hr3_1, hr3_2, hr3_3⟩
 refine O.nil (X.next (V.block (V.seq (V.region (O.q rfl (Pu.eql rfl rfl rfl) (O.m rfl (O.nil (X.next (V.cut2 [] (Ent.cons (t := 0) rfl (Ent.cons (t := 2) rfl (Ent.cons (t := 3) rfl (Ent.nil _)))) (Sub.k (Sub.k (Sub.keep 2 rfl (Sub.keep 2 rfl (Sub.drop (Sub.drop (Sub.refl _))))))) ?_ ?_)))))))))
 ·refine V.condD rfl (fun c1 => ?_) (fun c1 => ?_)
  ·refine V.seq (V.region (O.m rfl (O.q rfl (Pu.len rfl Tryz.underlying99 rfl) (O.q rfl (Pu.gtr rfl rfl rfl) (O.nil (X.next (V.condD rfl (fun c2 => ?_) (fun c2 => ?_))))))))
   ·refine V.seq (V.region (O.m rfl (O.m rfl (O.m rfl (O.q rfl (Pu.len rfl Tryz.underlying99 rfl) (O.f rfl (Ef.call call68 rfl rfl (Does.pre (fun w hw => hw.sub (Sub.k (Sub.k (Sub.k (Sub.k (Sub.k (Sub.k (Sub.refl _)))))))) (l01Next_ok _ _ _ s (↑((topT r2).length) : Int) w0 _   (by first | assumption | omega | (try dsimp only at *; omega)) (by first | assumption | omega | (try dsimp only at *; omega))))) ?_))))))
    rintro _ _ rfl
    refine O.exi (fun r4 => O.sep (O.pur ?_))
    rintro ⟨rfl, hr4_1, hr4_2, hr4_3⟩
    refine O.q rfl (Pu.indexAddrS ((r4).toNat) rfl Tryz.underlying99 sz28 rfl rfl (by omega) (by omega) (fun w hw => Own.some hw (i := 2) (by exact rfl) (by omega))) ?_
    have e1 : (r4).toNat < r2.length := by have := topT_len r2; omega
    refine O.q rfl (Pu.loadAgg' (v := .agg #[.int .i64 pv1, .slice (r2[(r4).toNat]'e1).1.1.A (r2[(r4).toNat]'e1).1.2.length (r2[(r4).toNat]'e1).1.1.c, .slice (r2[(r4).toNat]'e1).2.1.A (r2[(r4).toNat]'e1).2.2.length (r2[(r4).toNat]'e1).2.1.c]) rfl rfl ag28 sz28 rfl rfl (Ld.rowT (Ld.tt 2 2 (by exact rfl) (by exact rfl)) e1 rfl)) (O.s rfl rfl (Ef.storeAll 5 rfl sz28 rfl rfl rfl rfl (by simp [Value.oneCell']) rfl) ?_)
    rintro _ _ rfl
    exact O.nil (X.next (V.ret (X.thenRet (X.blockRet (X.thenRet (X.retCell rfl ag28 sz28 rfl rfl (Ld.whole 5 rfl) (RetM.map (fun w hw => St.trd_pick (ts := r2) (k := (r4).toNat) e1 (hw.sub (Sub.keep 3 rfl (Sub.k (Sub.drop (Sub.drop (Sub.drop (Sub.drop (Sub.refl _))))))))) (fun w hw => St.mkExi pv1 (St.mkExi ((r2[(r4).toNat]'e1).1.1.A) (St.mkExi ((r2[(r4).toNat]'e1).1.1.c) (St.mkExi ((r2[(r4).toNat]'e1).1.2) (St.mkExi ((r2[(r4).toNat]'e1).2.1.A) (St.mkExi ((r2[(r4).toNat]'e1).2.1.c) (St.mkExi ((r2[(r4).toNat]'e1).2.2) (St.unsep (St.addPur ⟨rfl, by have := (hsm _ e1).1; omega, by have := (hsm _ e1).2; omega⟩ (St.unsep (hw.sub (Sub.k (Sub.k (Sub.refl _)))))))))))))))))))))
   ·exact V.skip (X.cut (Ent.nil _) (Ent.cons (t := 0) rfl (Ent.cons (t := 2) rfl (Ent.cons (t := 3) rfl (Ent.nil _)))) (Sub.k (Sub.k (Sub.keep 2 rfl (Sub.keep 2 rfl (Sub.drop (Sub.drop (Sub.refl _))))))))
  ·refine V.seq (V.region (O.q rfl (Pu.eql rfl rfl rfl) (O.m rfl (O.nil (X.next (V.condD rfl (fun c3 => ?_) (fun c3 => ?_)))))))
   ·refine V.seq (V.region (O.m rfl (O.m rfl (O.q rfl (Pu.loadAgg rfl ag26 sz26 rfl rfl (Ld.whole 4 rfl)) (O.f rfl (Ef.call call129 rfl rfl (Does.pre (fun w hw => hw.sub (Sub.k (Sub.k (Sub.k (Sub.k (Sub.k (Sub.k (Sub.refl _)))))))) (l01SwitchedR_ok _ _ _ 4100 s r1A r1c r1 pv1 r1 _ _ w0 _   (by first | assumption | omega | (try dsimp only at *; omega)) (by first | assumption | omega | (try dsimp only at *; omega)) hD0 (by omega)))) ?_)))))
    rintro _ _ rfl
    refine O.exi (fun r5A => O.exi (fun r5c => O.exi (fun r5 => O.sep (O.pur ?_))))
    rintro ⟨rfl, hr5_1⟩
    refine O.sep ?_
    have hlsr5 := hr5_1.2.2
    refine O.f rfl (Ef.call call129 rfl rfl (Does.pre (fun w hw => hw.sub (Sub.keep 1 rfl (Sub.k (Sub.k (Sub.k (Sub.k (Sub.k (Sub.refl _)))))))) (l01SwitchedR_ok _ _ _ 4104 s r1A r1c r1 pv1 r5 _ _ w0 _   (by first | assumption | omega | (try dsimp only at *; omega)) (by first | assumption | omega | (try dsimp only at *; omega)) hr5_1 (by omega)))) ?_
    rintro _ _ rfl
    refine O.exi (fun r6A => O.exi (fun r6c => O.exi (fun r6 => O.sep (O.pur ?_))))
    rintro ⟨rfl, hr6_1⟩
    refine O.sep ?_
    have hlsr6 := hr6_1.2.2
    refine O.f rfl (Ef.alloc rfl zr26 rfl) ?_
    rintro _ _ ⟨b3, rfl, rfl⟩
    refine O.s rfl rfl (Ef.storeAll 0 rfl sz26 rfl rfl rfl rfl (by simp [Value.oneCell']) rfl) ?_
    rintro _ _ rfl
    refine O.nil (X.next (V.seq (V.region (O.q rfl (Pu.fieldAddr 0 rfl Tryz.underlying26 rfl sz2 rfl rfl) (O.q rfl (Pu.load rfl pl2 rfl (Ld.blk 0 rfl rfl)) (O.q rfl (Pu.fieldAddr 0 rfl Tryz.underlying26 rfl sz2 rfl rfl) (O.q rfl (Pu.load rfl pl2 rfl (Ld.blk 5 rfl rfl)) (O.q rfl (Pu.eql rfl rfl rfl) (O.nil (X.next (V.condD rfl (fun c4 => ?_) (fun c4 => ?_))))))))))))
    ·refine V.seq (V.region (O.q rfl (Pu.loadAgg rfl ag26 sz26 rfl rfl (Ld.whole 5 rfl)) (O.q rfl (Pu.loadAgg rfl ag26 sz26 rfl rfl (Ld.whole 0 rfl)) (O.f rfl (Ef.call1 call130 rfl rfl (fun w hw => specDifference_ok  pv1 r1 pv1 r6 _ _ _ _ w ((Ld.trO 1 (by exact rfl)) w hw) ((Ld.trI 1 (by exact rfl)) w hw) (by first | omega | (simp only [tops_len, conts_len, bl, List.length_append, List.length_cons, List.length_nil] at *; omega)) (by first | omega | (simp only [tops_len, conts_len, bl, List.length_append, List.length_cons, List.length_nil] at *; omega)) )) ?_))))
     rintro _ _ rfl
     refine O.exi (fun o1A => O.exi (fun o1c => O.exi (fun o1 => O.exi (fun i1A => O.exi (fun i1c => O.exi (fun i1 => O.sep (O.pur ?_)))))))
     rintro ⟨rfl, ho1_1⟩
     refine O.sep ?_
     have hdl := ho1_1.len
     refine O.m rfl (O.m rfl (O.m rfl (O.f rfl (Ef.alloc rfl zr28 rfl) ?_)))
     rintro _ _ ⟨b4, rfl, rfl⟩
     refine O.s rfl rfl (Ef.storeAll 0 rfl sz28 rfl rfl rfl rfl (by simp [Value.oneCell']) rfl) ?_
     rintro _ _ rfl
     refine O.m rfl (O.nil (X.next (V.seq (V.region (O.m rfl (O.q rfl (Pu.eql rfl rfl rfl) (O.nil (X.next (V.condD rfl (fun c5 => ?_) (fun c5 => ?_))))))))))
     ·refine V.seq (V.region (O.q rfl (Pu.loadAgg rfl ag28 sz28 rfl rfl (Ld.whole 0 rfl)) (O.s rfl rfl (Ef.storeAll 9 rfl sz28 rfl rfl rfl rfl (by simp [Value.oneCell']) rfl) ?_)))
      rintro _ _ rfl
      exact O.nil (X.next (V.ret (X.thenRet (X.blockRet (X.thenRet (X.retCell rfl ag28 sz28 rfl rfl (Ld.whole 9 rfl) (RetM.map (fun w hw => St.trd (hw.sub (Sub.keep 1 rfl (Sub.keep 1 rfl (Sub.keep 3 rfl (Sub.drop (Sub.drop (Sub.drop (Sub.drop (Sub.drop (Sub.drop (Sub.drop (Sub.refl _))))))))))))) (fun w hw => St.mkExi (if dfC pv1 r1 pv1 r6 = 0 then pv1 else 0) (St.mkExi o1A (St.mkExi o1c (St.mkExi o1 (St.mkExi i1A (St.mkExi i1c (St.mkExi i1 (St.unsep (St.addPur ⟨rfl, (by first | omega | (simp only [List.length_nil]; omega)), (by first | omega | (simp only [List.length_nil]; omega))⟩ (St.unsep (hw.sub (Sub.k (Sub.k (Sub.refl _)))))))))))))))))))))
     ·exact V.skip (X.map (fun w hw => hw.sub (Sub.cons 4 rfl trd_dup (Sub.k (Sub.k (Sub.k (Sub.k (Sub.k (Sub.k (Sub.k (Sub.k (Sub.k (Sub.refl _)))))))))))) (X.cut (Ent.nil _) (Ent.cons (t := 0) rfl (Ent.cons (t := 2) rfl (Ent.cons (t := 3) rfl (Ent.nil _)))) (Sub.keep 5 rfl (Sub.k (Sub.keep 6 rfl (Sub.keep 6 rfl (Sub.drop (Sub.drop (Sub.drop (Sub.drop (Sub.drop (Sub.drop (Sub.refl _)))))))))))))
    ·exact V.skip (X.map (fun w hw => hw.sub (Sub.cons 1 rfl trd_dup (Sub.k (Sub.k (Sub.k (Sub.k (Sub.k (Sub.k (Sub.refl _))))))))) (X.cut (Ent.nil _) (Ent.cons (t := 0) rfl (Ent.cons (t := 2) rfl (Ent.cons (t := 3) rfl (Ent.nil _)))) (Sub.keep 2 rfl (Sub.k (Sub.keep 3 rfl (Sub.keep 3 rfl (Sub.drop (Sub.drop (Sub.drop (Sub.refl _))))))))))
   ·refine V.seq (V.region (O.q rfl (Pu.eql rfl rfl rfl) (O.m rfl (O.nil (X.next (V.condD rfl (fun c6 => ?_) (fun c6 => ?_)))))))
    ·refine V.seq (V.region (O.m rfl (O.q rfl (Pu.len rfl Tryz.underlying99 rfl) (O.q rfl (Pu.gtr rfl rfl rfl) (O.nil (X.next (V.condD rfl (fun c7 => ?_) (fun c7 => ?_))))))))
     ·refine V.seq (V.cutE (β := Nat × Nat × ((Sl × List B3) × (Sl × List B3)) × ((Sl × List B3) × (Sl × List B3))) (fun x => [(9, .pointer (some ⟨x.1, 0, none⟩)), (10, .pointer (some ⟨x.2.1, 0, none⟩))]) _ (fun x => [Blk x.1 [.int .i64 pv1, .slice x.2.2.1.1.1.A x.2.2.1.1.2.length x.2.2.1.1.1.c, .slice x.2.2.1.2.1.A x.2.2.1.2.2.length x.2.2.1.2.1.c] 28, Blk x.2.1 [.int .i64 pv1, .slice x.2.2.2.1.1.A x.2.2.2.1.2.length x.2.2.2.1.1.c, .slice x.2.2.2.2.1.A x.2.2.2.2.2.length x.2.2.2.2.1.c] 28]) _ (fun x => x.2.2.1 ∈ r2 ∧ x.2.2.2 ∈ r2) (Ent.cons (t := 0) rfl (Ent.cons (t := 2) rfl (Ent.cons (t := 3) rfl (Ent.nil _)))) (Sub.k (Sub.k (Sub.k (Sub.k (Sub.k (Sub.k (Sub.refl _))))))) ?_ ?_)
      ·refine V.drawS mo (by kernel_rfl) (Sub.keep 1 rfl (Sub.keep 1 rfl (Sub.keep 1 rfl (Sub.keep 1 rfl (Sub.keep 1 rfl (Sub.drop (Sub.refl _))))))) (fun hwf => D.m 0 rfl (D.m 1 rfl (D.m 2 rfl (D.q 3 rfl (Pu.len rfl Tryz.underlying99 rfl) (D.m 7 rfl (D.m 8 rfl (D.m 9 rfl (D.q 10 rfl (Pu.len rfl Tryz.underlying99 rfl) (D.either3 hwf (e1 := 4) (e2 := 14) (e3 := 15) rfl ?_ ?_ ?_)))))))))
       ·refine ⟨_, _, rfl, rfl, fun _ _ => wanted_none rfl _, Ef.call call68 rfl rfl (Does.pre (fun w hw => hw.sub (Sub.k (Sub.k (Sub.k (Sub.k (Sub.k (Sub.k (Sub.refl _)))))))) (l01Next_ok _ _ _ s (↑((topT r2).length) : Int) w0 _   (by first | assumption | omega | (try dsimp only at *; omega)) (by first | assumption | omega | (try dsimp only at *; omega)))), rfl, rfl, ?_⟩
        rintro _ _ rfl hs
        refine ⟨fun w hw => hw.tail.sub (Sub.k (Sub.k (Sub.k (Sub.k (Sub.k (Sub.refl _)))))), (D.exi (fun r7 => D.sep (D.pur1 ?_)))⟩
        rintro ⟨rfl, hr7_1, hr7_2, hr7_3⟩
        refine D.q 5 rfl (Pu.indexAddrS ((r7).toNat) rfl Tryz.underlying99 sz28 rfl rfl (by omega) (by omega) (fun w hw => Own.some hw (i := 1) (by exact rfl) (by omega))) ?_
        have e2 : (r7).toNat < r2.length := by have := topT_len r2; omega
        refine D.q 6 rfl (Pu.loadAgg' (v := .agg #[.int .i64 pv1, .slice (r2[(r7).toNat]'e2).1.1.A (r2[(r7).toNat]'e2).1.2.length (r2[(r7).toNat]'e2).1.1.c, .slice (r2[(r7).toNat]'e2).2.1.A (r2[(r7).toNat]'e2).2.2.length (r2[(r7).toNat]'e2).2.1.c]) rfl rfl ag28 sz28 rfl rfl (Ld.rowT (Ld.tt 1 1 (by exact rfl) (by exact rfl)) e2 rfl)) (D.either3 hwf (e1 := 11) (e2 := 14) (e3 := 15) rfl ?_ ?_ ?_)
        ·refine ⟨_, _, rfl, rfl, fun _ _ => wanted_none rfl _, Ef.call call68 rfl rfl (Does.pre (fun w hw => hw.sub (Sub.k (Sub.k (Sub.k (Sub.k (Sub.k (Sub.k (Sub.refl _)))))))) (l01Next_ok _ _ _ s (↑((topT r2).length) : Int) w0 _   (by first | assumption | omega | (try dsimp only at *; omega)) (by first | assumption | omega | (try dsimp only at *; omega)))), rfl, rfl, ?_⟩
         rintro _ _ rfl hs
         refine ⟨fun w hw => hw.tail.sub (Sub.k (Sub.k (Sub.k (Sub.k (Sub.k (Sub.refl _)))))), (D.exi (fun r8 => D.sep (D.pur1 ?_)))⟩
         rintro ⟨rfl, hr8_1, hr8_2, hr8_3⟩
         refine D.q 12 rfl (Pu.indexAddrS ((r8).toNat) rfl Tryz.underlying99 sz28 rfl rfl (by omega) (by omega) (fun w hw => Own.some hw (i := 1) (by exact rfl) (by omega))) ?_
         have e3 : (r8).toNat < r2.length := by have := topT_len r2; omega
         refine D.q 13 rfl (Pu.loadAgg' (v := .agg #[.int .i64 pv1, .slice (r2[(r8).toNat]'e3).1.1.A (r2[(r8).toNat]'e3).1.2.length (r2[(r8).toNat]'e3).1.1.c, .slice (r2[(r8).toNat]'e3).2.1.A (r2[(r8).toNat]'e3).2.2.length (r2[(r8).toNat]'e3).2.1.c]) rfl rfl ag28 sz28 rfl rfl (Ld.rowT (Ld.tt 1 1 (by exact rfl) (by exact rfl)) e3 rfl)) (D.either hwf (e1 := 14) (e2 := 15) rfl ?_ ?_)
         ·refine ⟨_, _, rfl, rfl, fun _ _ => wanted_none rfl _, Ef.alloc rfl zr28 rfl, rfl, rfl, ?_⟩
          rintro _ _ ⟨b5, rfl, rfl⟩ hs
          refine ⟨fun w hw => hw.sub (Sub.keep 2 rfl (Sub.keep 2 rfl (Sub.keep 2 rfl (Sub.keep 2 rfl (Sub.keep 2 rfl (Sub.drop (Sub.drop (Sub.refl _)))))))), (D.f hwf 15 rfl (Ef.alloc rfl zr28 rfl) ?_)⟩
          rintro _ _ ⟨b6, rfl, rfl⟩ hs
          refine ⟨fun w hw => hw.sub (Sub.keep 3 rfl (Sub.keep 3 rfl (Sub.keep 3 rfl (Sub.keep 3 rfl (Sub.keep 3 rfl (Sub.drop (Sub.drop (Sub.drop (Sub.refl _))))))))), (D.f hwf 16 rfl (Ef.storeAll 1 rfl sz28 rfl rfl rfl rfl (by simp [Value.oneCell']) rfl) ?_)⟩
          rintro _ _ rfl hs
          refine ⟨fun w hw => hw.sub (Sub.keep 3 rfl (Sub.keep 3 rfl (Sub.keep 3 rfl (Sub.keep 3 rfl (Sub.keep 3 rfl (Sub.drop (Sub.drop (Sub.drop (Sub.refl _))))))))), (D.f hwf 17 rfl (Ef.storeAll 0 rfl sz28 rfl rfl rfl rfl (by simp [Value.oneCell']) rfl) ?_)⟩
          rintro _ _ rfl hs
          exact ⟨fun w hw => hw.sub (Sub.keep 3 rfl (Sub.keep 3 rfl (Sub.keep 3 rfl (Sub.keep 3 rfl (Sub.keep 3 rfl (Sub.drop (Sub.drop (Sub.drop (Sub.refl _))))))))), (D.done hwf rfl (X.cutE (b5, b6, (r2[(r7).toNat]'e2), (r2[(r8).toNat]'e3)) (by (try dsimp only); exact ⟨List.getElem_mem _, List.getElem_mem _⟩) (Ent.cons rfl (Ent.cons rfl (Ent.nil _))) (Ent.cons (t := 0) rfl (Ent.cons (t := 2) rfl (Ent.cons (t := 3) rfl (Ent.nil _)))) (Sub.keep 1 rfl (Sub.k (Sub.k (Sub.k (Sub.k (Sub.k (Sub.k (Sub.k (Sub.refl _)))))))))))⟩
         ·refine ⟨_, _, rfl, rfl, fun _ _ => wanted_none rfl _, Ef.alloc rfl zr28 rfl, rfl, rfl, ?_⟩
          rintro _ _ ⟨b5, rfl, rfl⟩ hs
          refine ⟨fun w hw => hw.sub (Sub.keep 2 rfl (Sub.keep 2 rfl (Sub.keep 2 rfl (Sub.keep 2 rfl (Sub.keep 2 rfl (Sub.drop (Sub.drop (Sub.refl _)))))))), (D.f hwf 14 rfl (Ef.alloc rfl zr28 rfl) ?_)⟩
          rintro _ _ ⟨b6, rfl, rfl⟩ hs
          refine ⟨fun w hw => hw.sub (Sub.keep 3 rfl (Sub.keep 3 rfl (Sub.keep 3 rfl (Sub.keep 3 rfl (Sub.keep 3 rfl (Sub.drop (Sub.drop (Sub.drop (Sub.refl _))))))))), (D.f hwf 16 rfl (Ef.storeAll 0 rfl sz28 rfl rfl rfl rfl (by simp [Value.oneCell']) rfl) ?_)⟩
          rintro _ _ rfl hs
          refine ⟨fun w hw => hw.sub (Sub.keep 3 rfl (Sub.keep 3 rfl (Sub.keep 3 rfl (Sub.keep 3 rfl (Sub.keep 3 rfl (Sub.drop (Sub.drop (Sub.drop (Sub.refl _))))))))), (D.f hwf 17 rfl (Ef.storeAll 1 rfl sz28 rfl rfl rfl rfl (by simp [Value.oneCell']) rfl) ?_)⟩
          rintro _ _ rfl hs
          exact ⟨fun w hw => hw.sub (Sub.keep 3 rfl (Sub.keep 3 rfl (Sub.keep 3 rfl (Sub.keep 3 rfl (Sub.keep 3 rfl (Sub.drop (Sub.drop (Sub.drop (Sub.refl _))))))))), (D.done hwf rfl (X.cutE (b6, b5, (r2[(r7).toNat]'e2), (r2[(r8).toNat]'e3)) (by (try dsimp only); exact ⟨List.getElem_mem _, List.getElem_mem _⟩) (Ent.cons rfl (Ent.cons rfl (Ent.nil _))) (Ent.cons (t := 0) rfl (Ent.cons (t := 2) rfl (Ent.cons (t := 3) rfl (Ent.nil _)))) (Sub.k (Sub.k (Sub.k (Sub.k (Sub.k (Sub.k (Sub.k (Sub.k (Sub.refl _)))))))))))⟩
        ·refine ⟨_, _, rfl, rfl, fun _ _ => wanted_none rfl _, Ef.alloc rfl zr28 rfl, rfl, rfl, ?_⟩
         rintro _ _ ⟨b5, rfl, rfl⟩ hs
         refine ⟨fun w hw => hw.sub (Sub.keep 2 rfl (Sub.keep 2 rfl (Sub.keep 2 rfl (Sub.keep 2 rfl (Sub.keep 2 rfl (Sub.drop (Sub.drop (Sub.refl _)))))))), (D.either hwf (e1 := 11) (e2 := 15) rfl ?_ ?_)⟩
         ·refine ⟨_, _, rfl, rfl, fun _ _ => wanted_none rfl _, Ef.call call68 rfl rfl (Does.pre (fun w hw => hw.sub (Sub.keep 1 rfl (Sub.k (Sub.k (Sub.k (Sub.k (Sub.k (Sub.k (Sub.refl _))))))))) (l01Next_ok _ _ _ s (↑((topT r2).length) : Int) w0 _   (by first | assumption | omega | (try dsimp only at *; omega)) (by first | assumption | omega | (try dsimp only at *; omega)))), rfl, rfl, ?_⟩
          rintro _ _ rfl hs
          refine ⟨fun w hw => hw.tail.sub (Sub.keep 1 rfl (Sub.keep 1 rfl (Sub.keep 1 rfl (Sub.keep 1 rfl (Sub.keep 1 rfl (Sub.drop (Sub.refl _))))))), (D.exi (fun r8 => D.sep (D.pur1 ?_)))⟩
          rintro ⟨rfl, hr8_1, hr8_2, hr8_3⟩
          refine D.q 12 rfl (Pu.indexAddrS ((r8).toNat) rfl Tryz.underlying99 sz28 rfl rfl (by omega) (by omega) (fun w hw => Own.some hw (i := 1) (by exact rfl) (by omega))) ?_
          have e3 : (r8).toNat < r2.length := by have := topT_len r2; omega
          refine D.q 13 rfl (Pu.loadAgg' (v := .agg #[.int .i64 pv1, .slice (r2[(r8).toNat]'e3).1.1.A (r2[(r8).toNat]'e3).1.2.length (r2[(r8).toNat]'e3).1.1.c, .slice (r2[(r8).toNat]'e3).2.1.A (r2[(r8).toNat]'e3).2.2.length (r2[(r8).toNat]'e3).2.1.c]) rfl rfl ag28 sz28 rfl rfl (Ld.rowT (Ld.tt 1 1 (by exact rfl) (by exact rfl)) e3 rfl)) (D.f hwf 15 rfl (Ef.alloc rfl zr28 rfl) ?_)
          rintro _ _ ⟨b6, rfl, rfl⟩ hs
          refine ⟨fun w hw => hw.sub (Sub.keep 3 rfl (Sub.keep 3 rfl (Sub.keep 3 rfl (Sub.keep 3 rfl (Sub.keep 3 rfl (Sub.drop (Sub.drop (Sub.drop (Sub.refl _))))))))), (D.f hwf 16 rfl (Ef.storeAll 2 rfl sz28 rfl rfl rfl rfl (by simp [Value.oneCell']) rfl) ?_)⟩
          rintro _ _ rfl hs
          refine ⟨fun w hw => hw.sub (Sub.keep 3 rfl (Sub.keep 3 rfl (Sub.keep 3 rfl (Sub.keep 3 rfl (Sub.keep 3 rfl (Sub.drop (Sub.drop (Sub.drop (Sub.refl _))))))))), (D.f hwf 17 rfl (Ef.storeAll 0 rfl sz28 rfl rfl rfl rfl (by simp [Value.oneCell']) rfl) ?_)⟩
          rintro _ _ rfl hs
          exact ⟨fun w hw => hw.sub (Sub.keep 3 rfl (Sub.keep 3 rfl (Sub.keep 3 rfl (Sub.keep 3 rfl (Sub.keep 3 rfl (Sub.drop (Sub.drop (Sub.drop (Sub.refl _))))))))), (D.done hwf rfl (X.cutE (b5, b6, (r2[(r7).toNat]'e2), (r2[(r8).toNat]'e3)) (by (try dsimp only); exact ⟨List.getElem_mem _, List.getElem_mem _⟩) (Ent.cons rfl (Ent.cons rfl (Ent.nil _))) (Ent.cons (t := 0) rfl (Ent.cons (t := 2) rfl (Ent.cons (t := 3) rfl (Ent.nil _)))) (Sub.keep 2 rfl (Sub.k (Sub.k (Sub.k (Sub.k (Sub.k (Sub.k (Sub.k (Sub.refl _)))))))))))⟩
         ·refine ⟨_, _, rfl, rfl, fun _ _ => wanted_none rfl _, Ef.alloc rfl zr28 rfl, rfl, rfl, ?_⟩
          rintro _ _ ⟨b6, rfl, rfl⟩ hs
          refine ⟨fun w hw => hw.sub (Sub.keep 3 rfl (Sub.keep 3 rfl (Sub.keep 3 rfl (Sub.keep 3 rfl (Sub.keep 3 rfl (Sub.drop (Sub.drop (Sub.drop (Sub.refl _))))))))), (D.f hwf 11 rfl (Ef.call call68 rfl rfl (Does.pre (fun w hw => hw.sub (Sub.keep 2 rfl (Sub.k (Sub.k (Sub.k (Sub.k (Sub.k (Sub.k (Sub.k (Sub.refl _)))))))))) (l01Next_ok _ _ _ s (↑((topT r2).length) : Int) w0 _   (by first | assumption | omega | (try dsimp only at *; omega)) (by first | assumption | omega | (try dsimp only at *; omega))))) ?_)⟩
          rintro _ _ rfl hs
          refine ⟨fun w hw => hw.tail.sub (Sub.keep 2 rfl (Sub.keep 2 rfl (Sub.keep 2 rfl (Sub.keep 2 rfl (Sub.keep 2 rfl (Sub.drop (Sub.drop (Sub.refl _)))))))), (D.exi (fun r8 => D.sep (D.pur1 ?_)))⟩
          rintro ⟨rfl, hr8_1, hr8_2, hr8_3⟩
          refine D.q 12 rfl (Pu.indexAddrS ((r8).toNat) rfl Tryz.underlying99 sz28 rfl rfl (by omega) (by omega) (fun w hw => Own.some hw (i := 1) (by exact rfl) (by omega))) ?_
          have e3 : (r8).toNat < r2.length := by have := topT_len r2; omega
          refine D.q 13 rfl (Pu.loadAgg' (v := .agg #[.int .i64 pv1, .slice (r2[(r8).toNat]'e3).1.1.A (r2[(r8).toNat]'e3).1.2.length (r2[(r8).toNat]'e3).1.1.c, .slice (r2[(r8).toNat]'e3).2.1.A (r2[(r8).toNat]'e3).2.2.length (r2[(r8).toNat]'e3).2.1.c]) rfl rfl ag28 sz28 rfl rfl (Ld.rowT (Ld.tt 1 1 (by exact rfl) (by exact rfl)) e3 rfl)) (D.f hwf 16 rfl (Ef.storeAll 2 rfl sz28 rfl rfl rfl rfl (by simp [Value.oneCell']) rfl) ?_)
          rintro _ _ rfl hs
          refine ⟨fun w hw => hw.sub (Sub.keep 3 rfl (Sub.keep 3 rfl (Sub.keep 3 rfl (Sub.keep 3 rfl (Sub.keep 3 rfl (Sub.drop (Sub.drop (Sub.drop (Sub.refl _))))))))), (D.f hwf 17 rfl (Ef.storeAll 1 rfl sz28 rfl rfl rfl rfl (by simp [Value.oneCell']) rfl) ?_)⟩
          rintro _ _ rfl hs
          exact ⟨fun w hw => hw.sub (Sub.keep 3 rfl (Sub.keep 3 rfl (Sub.keep 3 rfl (Sub.keep 3 rfl (Sub.keep 3 rfl (Sub.drop (Sub.drop (Sub.drop (Sub.refl _))))))))), (D.done hwf rfl (X.cutE (b5, b6, (r2[(r7).toNat]'e2), (r2[(r8).toNat]'e3)) (by (try dsimp only); exact ⟨List.getElem_mem _, List.getElem_mem _⟩) (Ent.cons rfl (Ent.cons rfl (Ent.nil _))) (Ent.cons (t := 0) rfl (Ent.cons (t := 2) rfl (Ent.cons (t := 3) rfl (Ent.nil _)))) (Sub.keep 2 rfl (Sub.keep 1 rfl (Sub.k (Sub.k (Sub.k (Sub.k (Sub.k (Sub.k (Sub.refl _)))))))))))⟩
        ·refine ⟨_, _, rfl, rfl, fun _ _ => wanted_none rfl _, Ef.alloc rfl zr28 rfl, rfl, rfl, ?_⟩
         rintro _ _ ⟨b5, rfl, rfl⟩ hs
         refine ⟨fun w hw => hw.sub (Sub.keep 2 rfl (Sub.keep 2 rfl (Sub.keep 2 rfl (Sub.keep 2 rfl (Sub.keep 2 rfl (Sub.drop (Sub.drop (Sub.refl _)))))))), (D.either hwf (e1 := 11) (e2 := 14) rfl ?_ ?_)⟩
         ·refine ⟨_, _, rfl, rfl, fun _ _ => wanted_none rfl _, Ef.call call68 rfl rfl (Does.pre (fun w hw => hw.sub (Sub.keep 1 rfl (Sub.k (Sub.k (Sub.k (Sub.k (Sub.k (Sub.k (Sub.refl _))))))))) (l01Next_ok _ _ _ s (↑((topT r2).length) : Int) w0 _   (by first | assumption | omega | (try dsimp only at *; omega)) (by first | assumption | omega | (try dsimp only at *; omega)))), rfl, rfl, ?_⟩
          rintro _ _ rfl hs
          refine ⟨fun w hw => hw.tail.sub (Sub.keep 1 rfl (Sub.keep 1 rfl (Sub.keep 1 rfl (Sub.keep 1 rfl (Sub.keep 1 rfl (Sub.drop (Sub.refl _))))))), (D.exi (fun r8 => D.sep (D.pur1 ?_)))⟩
          rintro ⟨rfl, hr8_1, hr8_2, hr8_3⟩
          refine D.q 12 rfl (Pu.indexAddrS ((r8).toNat) rfl Tryz.underlying99 sz28 rfl rfl (by omega) (by omega) (fun w hw => Own.some hw (i := 1) (by exact rfl) (by omega))) ?_
          have e3 : (r8).toNat < r2.length := by have := topT_len r2; omega
          refine D.q 13 rfl (Pu.loadAgg' (v := .agg #[.int .i64 pv1, .slice (r2[(r8).toNat]'e3).1.1.A (r2[(r8).toNat]'e3).1.2.length (r2[(r8).toNat]'e3).1.1.c, .slice (r2[(r8).toNat]'e3).2.1.A (r2[(r8).toNat]'e3).2.2.length (r2[(r8).toNat]'e3).2.1.c]) rfl rfl ag28 sz28 rfl rfl (Ld.rowT (Ld.tt 1 1 (by exact rfl) (by exact rfl)) e3 rfl)) (D.f hwf 14 rfl (Ef.alloc rfl zr28 rfl) ?_)
          rintro _ _ ⟨b6, rfl, rfl⟩ hs
          refine ⟨fun w hw => hw.sub (Sub.keep 3 rfl (Sub.keep 3 rfl (Sub.keep 3 rfl (Sub.keep 3 rfl (Sub.keep 3 rfl (Sub.drop (Sub.drop (Sub.drop (Sub.refl _))))))))), (D.f hwf 16 rfl (Ef.storeAll 0 rfl sz28 rfl rfl rfl rfl (by simp [Value.oneCell']) rfl) ?_)⟩
          rintro _ _ rfl hs
          refine ⟨fun w hw => hw.sub (Sub.keep 3 rfl (Sub.keep 3 rfl (Sub.keep 3 rfl (Sub.keep 3 rfl (Sub.keep 3 rfl (Sub.drop (Sub.drop (Sub.drop (Sub.refl _))))))))), (D.f hwf 17 rfl (Ef.storeAll 2 rfl sz28 rfl rfl rfl rfl (by simp [Value.oneCell']) rfl) ?_)⟩
          rintro _ _ rfl hs
          exact ⟨fun w hw => hw.sub (Sub.keep 3 rfl (Sub.keep 3 rfl (Sub.keep 3 rfl (Sub.keep 3 rfl (Sub.keep 3 rfl (Sub.drop (Sub.drop (Sub.drop (Sub.refl _))))))))), (D.done hwf rfl (X.cutE (b6, b5, (r2[(r7).toNat]'e2), (r2[(r8).toNat]'e3)) (by (try dsimp only); exact ⟨List.getElem_mem _, List.getElem_mem _⟩) (Ent.cons rfl (Ent.cons rfl (Ent.nil _))) (Ent.cons (t := 0) rfl (Ent.cons (t := 2) rfl (Ent.cons (t := 3) rfl (Ent.nil _)))) (Sub.k (Sub.keep 1 rfl (Sub.k (Sub.k (Sub.k (Sub.k (Sub.k (Sub.k (Sub.refl _)))))))))))⟩
         ·refine ⟨_, _, rfl, rfl, fun _ _ => wanted_none rfl _, Ef.alloc rfl zr28 rfl, rfl, rfl, ?_⟩
          rintro _ _ ⟨b6, rfl, rfl⟩ hs
          refine ⟨fun w hw => hw.sub (Sub.keep 3 rfl (Sub.keep 3 rfl (Sub.keep 3 rfl (Sub.keep 3 rfl (Sub.keep 3 rfl (Sub.drop (Sub.drop (Sub.drop (Sub.refl _))))))))), (D.f hwf 11 rfl (Ef.call call68 rfl rfl (Does.pre (fun w hw => hw.sub (Sub.keep 2 rfl (Sub.k (Sub.k (Sub.k (Sub.k (Sub.k (Sub.k (Sub.k (Sub.refl _)))))))))) (l01Next_ok _ _ _ s (↑((topT r2).length) : Int) w0 _   (by first | assumption | omega | (try dsimp only at *; omega)) (by first | assumption | omega | (try dsimp only at *; omega))))) ?_)⟩
          rintro _ _ rfl hs
          refine ⟨fun w hw => hw.tail.sub (Sub.keep 2 rfl (Sub.keep 2 rfl (Sub.keep 2 rfl (Sub.keep 2 rfl (Sub.keep 2 rfl (Sub.drop (Sub.drop (Sub.refl _)))))))), (D.exi (fun r8 => D.sep (D.pur1 ?_)))⟩
          rintro ⟨rfl, hr8_1, hr8_2, hr8_3⟩
          refine D.q 12 rfl (Pu.indexAddrS ((r8).toNat) rfl Tryz.underlying99 sz28 rfl rfl (by omega) (by omega) (fun w hw => Own.some hw (i := 1) (by exact rfl) (by omega))) ?_
          have e3 : (r8).toNat < r2.length := by have := topT_len r2; omega
          refine D.q 13 rfl (Pu.loadAgg' (v := .agg #[.int .i64 pv1, .slice (r2[(r8).toNat]'e3).1.1.A (r2[(r8).toNat]'e3).1.2.length (r2[(r8).toNat]'e3).1.1.c, .slice (r2[(r8).toNat]'e3).2.1.A (r2[(r8).toNat]'e3).2.2.length (r2[(r8).toNat]'e3).2.1.c]) rfl rfl ag28 sz28 rfl rfl (Ld.rowT (Ld.tt 1 1 (by exact rfl) (by exact rfl)) e3 rfl)) (D.f hwf 16 rfl (Ef.storeAll 1 rfl sz28 rfl rfl rfl rfl (by simp [Value.oneCell']) rfl) ?_)
          rintro _ _ rfl hs
          refine ⟨fun w hw => hw.sub (Sub.keep 3 rfl (Sub.keep 3 rfl (Sub.keep 3 rfl (Sub.keep 3 rfl (Sub.keep 3 rfl (Sub.drop (Sub.drop (Sub.drop (Sub.refl _))))))))), (D.f hwf 17 rfl (Ef.storeAll 2 rfl sz28 rfl rfl rfl rfl (by simp [Value.oneCell']) rfl) ?_)⟩
          rintro _ _ rfl hs
          exact ⟨fun w hw => hw.sub (Sub.keep 3 rfl (Sub.keep 3 rfl (Sub.keep 3 rfl (Sub.keep 3 rfl (Sub.keep 3 rfl (Sub.drop (Sub.drop (Sub.drop (Sub.refl _))))))))), (D.done hwf rfl (X.cutE (b6, b5, (r2[(r7).toNat]'e2), (r2[(r8).toNat]'e3)) (by (try dsimp only); exact ⟨List.getElem_mem _, List.getElem_mem _⟩) (Ent.cons rfl (Ent.cons rfl (Ent.nil _))) (Ent.cons (t := 0) rfl (Ent.cons (t := 2) rfl (Ent.cons (t := 3) rfl (Ent.nil _)))) (Sub.keep 1 rfl (Sub.keep 1 rfl (Sub.k (Sub.k (Sub.k (Sub.k (Sub.k (Sub.k (Sub.refl _)))))))))))⟩
       ·refine ⟨_, _, rfl, rfl, fun _ _ => wanted_none rfl _, Ef.alloc rfl zr28 rfl, rfl, rfl, ?_⟩
        rintro _ _ ⟨b5, rfl, rfl⟩ hs
        refine ⟨fun w hw => hw.sub (Sub.keep 2 rfl (Sub.keep 2 rfl (Sub.keep 2 rfl (Sub.keep 2 rfl (Sub.keep 2 rfl (Sub.drop (Sub.drop (Sub.refl _)))))))), (D.either hwf (e1 := 4) (e2 := 15) rfl ?_ ?_)⟩
        ·refine ⟨_, _, rfl, rfl, fun _ _ => wanted_none rfl _, Ef.call call68 rfl rfl (Does.pre (fun w hw => hw.sub (Sub.keep 1 rfl (Sub.k (Sub.k (Sub.k (Sub.k (Sub.k (Sub.k (Sub.refl _))))))))) (l01Next_ok _ _ _ s (↑((topT r2).length) : Int) w0 _   (by first | assumption | omega | (try dsimp only at *; omega)) (by first | assumption | omega | (try dsimp only at *; omega)))), rfl, rfl, ?_⟩
         rintro _ _ rfl hs
         refine ⟨fun w hw => hw.tail.sub (Sub.keep 1 rfl (Sub.keep 1 rfl (Sub.keep 1 rfl (Sub.keep 1 rfl (Sub.keep 1 rfl (Sub.drop (Sub.refl _))))))), (D.exi (fun r7 => D.sep (D.pur1 ?_)))⟩
         rintro ⟨rfl, hr7_1, hr7_2, hr7_3⟩
         refine D.q 5 rfl (Pu.indexAddrS ((r7).toNat) rfl Tryz.underlying99 sz28 rfl rfl (by omega) (by omega) (fun w hw => Own.some hw (i := 1) (by exact rfl) (by omega))) ?_
         have e2 : (r7).toNat < r2.length := by have := topT_len r2; omega
         refine D.q 6 rfl (Pu.loadAgg' (v := .agg #[.int .i64 pv1, .slice (r2[(r7).toNat]'e2).1.1.A (r2[(r7).toNat]'e2).1.2.length (r2[(r7).toNat]'e2).1.1.c, .slice (r2[(r7).toNat]'e2).2.1.A (r2[(r7).toNat]'e2).2.2.length (r2[(r7).toNat]'e2).2.1.c]) rfl rfl ag28 sz28 rfl rfl (Ld.rowT (Ld.tt 1 1 (by exact rfl) (by exact rfl)) e2 rfl)) (D.either hwf (e1 := 11) (e2 := 15) rfl ?_ ?_)
         ·refine ⟨_, _, rfl, rfl, fun _ _ => wanted_none rfl _, Ef.call call68 rfl rfl (Does.pre (fun w hw => hw.sub (Sub.k (Sub.k (Sub.k (Sub.k (Sub.k (Sub.k (Sub.k (Sub.refl _))))))))) (l01Next_ok _ _ _ s (↑((topT r2).length) : Int) w0 _   (by first | assumption | omega | (try dsimp only at *; omega)) (by first | assumption | omega | (try dsimp only at *; omega)))), rfl, rfl, ?_⟩
          rintro _ _ rfl hs
          refine ⟨fun w hw => hw.tail.sub (Sub.keep 1 rfl (Sub.keep 1 rfl (Sub.keep 1 rfl (Sub.keep 1 rfl (Sub.keep 1 rfl (Sub.drop (Sub.refl _))))))), (D.exi (fun r8 => D.sep (D.pur1 ?_)))⟩
          rintro ⟨rfl, hr8_1, hr8_2, hr8_3⟩
          refine D.q 12 rfl (Pu.indexAddrS ((r8).toNat) rfl Tryz.underlying99 sz28 rfl rfl (by omega) (by omega) (fun w hw => Own.some hw (i := 1) (by exact rfl) (by omega))) ?_
          have e3 : (r8).toNat < r2.length := by have := topT_len r2; omega
          refine D.q 13 rfl (Pu.loadAgg' (v := .agg #[.int .i64 pv1, .slice (r2[(r8).toNat]'e3).1.1.A (r2[(r8).toNat]'e3).1.2.length (r2[(r8).toNat]'e3).1.1.c, .slice (r2[(r8).toNat]'e3).2.1.A (r2[(r8).toNat]'e3).2.2.length (r2[(r8).toNat]'e3).2.1.c]) rfl rfl ag28 sz28 rfl rfl (Ld.rowT (Ld.tt 1 1 (by exact rfl) (by exact rfl)) e3 rfl)) (D.f hwf 15 rfl (Ef.alloc rfl zr28 rfl) ?_)
          rintro _ _ ⟨b6, rfl, rfl⟩ hs
          refine ⟨fun w hw => hw.sub (Sub.keep 3 rfl (Sub.keep 3 rfl (Sub.keep 3 rfl (Sub.keep 3 rfl (Sub.keep 3 rfl (Sub.drop (Sub.drop (Sub.drop (Sub.refl _))))))))), (D.f hwf 16 rfl (Ef.storeAll 2 rfl sz28 rfl rfl rfl rfl (by simp [Value.oneCell']) rfl) ?_)⟩
          rintro _ _ rfl hs
          refine ⟨fun w hw => hw.sub (Sub.keep 3 rfl (Sub.keep 3 rfl (Sub.keep 3 rfl (Sub.keep 3 rfl (Sub.keep 3 rfl (Sub.drop (Sub.drop (Sub.drop (Sub.refl _))))))))), (D.f hwf 17 rfl (Ef.storeAll 0 rfl sz28 rfl rfl rfl rfl (by simp [Value.oneCell']) rfl) ?_)⟩
          rintro _ _ rfl hs
          exact ⟨fun w hw => hw.sub (Sub.keep 3 rfl (Sub.keep 3 rfl (Sub.keep 3 rfl (Sub.keep 3 rfl (Sub.keep 3 rfl (Sub.drop (Sub.drop (Sub.drop (Sub.refl _))))))))), (D.done hwf rfl (X.cutE (b5, b6, (r2[(r7).toNat]'e2), (r2[(r8).toNat]'e3)) (by (try dsimp only); exact ⟨List.getElem_mem _, List.getElem_mem _⟩) (Ent.cons rfl (Ent.cons rfl (Ent.nil _))) (Ent.cons (t := 0) rfl (Ent.cons (t := 2) rfl (Ent.cons (t := 3) rfl (Ent.nil _)))) (Sub.keep 2 rfl (Sub.k (Sub.k (Sub.k (Sub.k (Sub.k (Sub.k (Sub.k (Sub.refl _)))))))))))⟩
         ·refine ⟨_, _, rfl, rfl, fun _ _ => wanted_none rfl _, Ef.alloc rfl zr28 rfl, rfl, rfl, ?_⟩
          rintro _ _ ⟨b6, rfl, rfl⟩ hs
          refine ⟨fun w hw => hw.sub (Sub.keep 3 rfl (Sub.keep 3 rfl (Sub.keep 3 rfl (Sub.keep 3 rfl (Sub.keep 3 rfl (Sub.drop (Sub.drop (Sub.drop (Sub.refl _))))))))), (D.f hwf 11 rfl (Ef.call call68 rfl rfl (Does.pre (fun w hw => hw.sub (Sub.keep 1 rfl (Sub.k (Sub.k (Sub.k (Sub.k (Sub.k (Sub.k (Sub.k (Sub.refl _)))))))))) (l01Next_ok _ _ _ s (↑((topT r2).length) : Int) w0 _   (by first | assumption | omega | (try dsimp only at *; omega)) (by first | assumption | omega | (try dsimp only at *; omega))))) ?_)⟩
          rintro _ _ rfl hs
          refine ⟨fun w hw => hw.tail.sub (Sub.keep 2 rfl (Sub.keep 2 rfl (Sub.keep 2 rfl (Sub.keep 2 rfl (Sub.keep 2 rfl (Sub.drop (Sub.drop (Sub.refl _)))))))), (D.exi (fun r8 => D.sep (D.pur1 ?_)))⟩
          rintro ⟨rfl, hr8_1, hr8_2, hr8_3⟩
          refine D.q 12 rfl (Pu.indexAddrS ((r8).toNat) rfl Tryz.underlying99 sz28 rfl rfl (by omega) (by omega) (fun w hw => Own.some hw (i := 1) (by exact rfl) (by omega))) ?_
          have e3 : (r8).toNat < r2.length := by have := topT_len r2; omega
          refine D.q 13 rfl (Pu.loadAgg' (v := .agg #[.int .i64 pv1, .slice (r2[(r8).toNat]'e3).1.1.A (r2[(r8).toNat]'e3).1.2.length (r2[(r8).toNat]'e3).1.1.c, .slice (r2[(r8).toNat]'e3).2.1.A (r2[(r8).toNat]'e3).2.2.length (r2[(r8).toNat]'e3).2.1.c]) rfl rfl ag28 sz28 rfl rfl (Ld.rowT (Ld.tt 1 1 (by exact rfl) (by exact rfl)) e3 rfl)) (D.f hwf 16 rfl (Ef.storeAll 2 rfl sz28 rfl rfl rfl rfl (by simp [Value.oneCell']) rfl) ?_)
          rintro _ _ rfl hs
          refine ⟨fun w hw => hw.sub (Sub.keep 3 rfl (Sub.keep 3 rfl (Sub.keep 3 rfl (Sub.keep 3 rfl (Sub.keep 3 rfl (Sub.drop (Sub.drop (Sub.drop (Sub.refl _))))))))), (D.f hwf 17 rfl (Ef.storeAll 1 rfl sz28 rfl rfl rfl rfl (by simp [Value.oneCell']) rfl) ?_)⟩
          rintro _ _ rfl hs
          exact ⟨fun w hw => hw.sub (Sub.keep 3 rfl (Sub.keep 3 rfl (Sub.keep 3 rfl (Sub.keep 3 rfl (Sub.keep 3 rfl (Sub.drop (Sub.drop (Sub.drop (Sub.refl _))))))))), (D.done hwf rfl (X.cutE (b5, b6, (r2[(r7).toNat]'e2), (r2[(r8).toNat]'e3)) (by (try dsimp only); exact ⟨List.getElem_mem _, List.getElem_mem _⟩) (Ent.cons rfl (Ent.cons rfl (Ent.nil _))) (Ent.cons (t := 0) rfl (Ent.cons (t := 2) rfl (Ent.cons (t := 3) rfl (Ent.nil _)))) (Sub.keep 2 rfl (Sub.keep 1 rfl (Sub.k (Sub.k (Sub.k (Sub.k (Sub.k (Sub.k (Sub.refl _)))))))))))⟩
        ·refine ⟨_, _, rfl, rfl, fun _ _ => wanted_none rfl _, Ef.alloc rfl zr28 rfl, rfl, rfl, ?_⟩
         rintro _ _ ⟨b6, rfl, rfl⟩ hs
         refine ⟨fun w hw => hw.sub (Sub.keep 3 rfl (Sub.keep 3 rfl (Sub.keep 3 rfl (Sub.keep 3 rfl (Sub.keep 3 rfl (Sub.drop (Sub.drop (Sub.drop (Sub.refl _))))))))), (D.f hwf 4 rfl (Ef.call call68 rfl rfl (Does.pre (fun w hw => hw.sub (Sub.keep 2 rfl (Sub.k (Sub.k (Sub.k (Sub.k (Sub.k (Sub.k (Sub.k (Sub.refl _)))))))))) (l01Next_ok _ _ _ s (↑((topT r2).length) : Int) w0 _   (by first | assumption | omega | (try dsimp only at *; omega)) (by first | assumption | omega | (try dsimp only at *; omega))))) ?_)⟩
         rintro _ _ rfl hs
         refine ⟨fun w hw => hw.tail.sub (Sub.keep 2 rfl (Sub.keep 2 rfl (Sub.keep 2 rfl (Sub.keep 2 rfl (Sub.keep 2 rfl (Sub.drop (Sub.drop (Sub.refl _)))))))), (D.exi (fun r7 => D.sep (D.pur1 ?_)))⟩
         rintro ⟨rfl, hr7_1, hr7_2, hr7_3⟩
         refine D.q 5 rfl (Pu.indexAddrS ((r7).toNat) rfl Tryz.underlying99 sz28 rfl rfl (by omega) (by omega) (fun w hw => Own.some hw (i := 1) (by exact rfl) (by omega))) ?_
         have e2 : (r7).toNat < r2.length := by have := topT_len r2; omega
         refine D.q 6 rfl (Pu.loadAgg' (v := .agg #[.int .i64 pv1, .slice (r2[(r7).toNat]'e2).1.1.A (r2[(r7).toNat]'e2).1.2.length (r2[(r7).toNat]'e2).1.1.c, .slice (r2[(r7).toNat]'e2).2.1.A (r2[(r7).toNat]'e2).2.2.length (r2[(r7).toNat]'e2).2.1.c]) rfl rfl ag28 sz28 rfl rfl (Ld.rowT (Ld.tt 1 1 (by exact rfl) (by exact rfl)) e2 rfl)) (D.f hwf 11 rfl (Ef.call call68 rfl rfl (Does.pre (fun w hw => hw.sub (Sub.k (Sub.k (Sub.k (Sub.k (Sub.k (Sub.k (Sub.k (Sub.k (Sub.refl _)))))))))) (l01Next_ok _ _ _ s (↑((topT r2).length) : Int) w0 _   (by first | assumption | omega | (try dsimp only at *; omega)) (by first | assumption | omega | (try dsimp only at *; omega))))) ?_)
         rintro _ _ rfl hs
         refine ⟨fun w hw => hw.tail.sub (Sub.keep 2 rfl (Sub.keep 2 rfl (Sub.keep 2 rfl (Sub.keep 2 rfl (Sub.keep 2 rfl (Sub.drop (Sub.drop (Sub.refl _)))))))), (D.exi (fun r8 => D.sep (D.pur1 ?_)))⟩
         rintro ⟨rfl, hr8_1, hr8_2, hr8_3⟩
         refine D.q 12 rfl (Pu.indexAddrS ((r8).toNat) rfl Tryz.underlying99 sz28 rfl rfl (by omega) (by omega) (fun w hw => Own.some hw (i := 1) (by exact rfl) (by omega))) ?_
         have e3 : (r8).toNat < r2.length := by have := topT_len r2; omega
         refine D.q 13 rfl (Pu.loadAgg' (v := .agg #[.int .i64 pv1, .slice (r2[(r8).toNat]'e3).1.1.A (r2[(r8).toNat]'e3).1.2.length (r2[(r8).toNat]'e3).1.1.c, .slice (r2[(r8).toNat]'e3).2.1.A (r2[(r8).toNat]'e3).2.2.length (r2[(r8).toNat]'e3).2.1.c]) rfl rfl ag28 sz28 rfl rfl (Ld.rowT (Ld.tt 1 1 (by exact rfl) (by exact rfl)) e3 rfl)) (D.f hwf 16 rfl (Ef.storeAll 2 rfl sz28 rfl rfl rfl rfl (by simp [Value.oneCell']) rfl) ?_)
         rintro _ _ rfl hs
         refine ⟨fun w hw => hw.sub (Sub.keep 3 rfl (Sub.keep 3 rfl (Sub.keep 3 rfl (Sub.keep 3 rfl (Sub.keep 3 rfl (Sub.drop (Sub.drop (Sub.drop (Sub.refl _))))))))), (D.f hwf 17 rfl (Ef.storeAll 1 rfl sz28 rfl rfl rfl rfl (by simp [Value.oneCell']) rfl) ?_)⟩
         rintro _ _ rfl hs
         exact ⟨fun w hw => hw.sub (Sub.keep 3 rfl (Sub.keep 3 rfl (Sub.keep 3 rfl (Sub.keep 3 rfl (Sub.keep 3 rfl (Sub.drop (Sub.drop (Sub.drop (Sub.refl _))))))))), (D.done hwf rfl (X.cutE (b5, b6, (r2[(r7).toNat]'e2), (r2[(r8).toNat]'e3)) (by (try dsimp only); exact ⟨List.getElem_mem _, List.getElem_mem _⟩) (Ent.cons rfl (Ent.cons rfl (Ent.nil _))) (Ent.cons (t := 0) rfl (Ent.cons (t := 2) rfl (Ent.cons (t := 3) rfl (Ent.nil _)))) (Sub.keep 2 rfl (Sub.keep 1 rfl (Sub.k (Sub.k (Sub.k (Sub.k (Sub.k (Sub.k (Sub.refl _)))))))))))⟩
       ·refine ⟨_, _, rfl, rfl, fun _ _ => wanted_none rfl _, Ef.alloc rfl zr28 rfl, rfl, rfl, ?_⟩
        rintro _ _ ⟨b5, rfl, rfl⟩ hs
        refine ⟨fun w hw => hw.sub (Sub.keep 2 rfl (Sub.keep 2 rfl (Sub.keep 2 rfl (Sub.keep 2 rfl (Sub.keep 2 rfl (Sub.drop (Sub.drop (Sub.refl _)))))))), (D.either hwf (e1 := 4) (e2 := 14) rfl ?_ ?_)⟩
        ·refine ⟨_, _, rfl, rfl, fun _ _ => wanted_none rfl _, Ef.call call68 rfl rfl (Does.pre (fun w hw => hw.sub (Sub.keep 1 rfl (Sub.k (Sub.k (Sub.k (Sub.k (Sub.k (Sub.k (Sub.refl _))))))))) (l01Next_ok _ _ _ s (↑((topT r2).length) : Int) w0 _   (by first | assumption | omega | (try dsimp only at *; omega)) (by first | assumption | omega | (try dsimp only at *; omega)))), rfl, rfl, ?_⟩
         rintro _ _ rfl hs
         refine ⟨fun w hw => hw.tail.sub (Sub.keep 1 rfl (Sub.keep 1 rfl (Sub.keep 1 rfl (Sub.keep 1 rfl (Sub.keep 1 rfl (Sub.drop (Sub.refl _))))))), (D.exi (fun r7 => D.sep (D.pur1 ?_)))⟩
         rintro ⟨rfl, hr7_1, hr7_2, hr7_3⟩
         refine D.q 5 rfl (Pu.indexAddrS ((r7).toNat) rfl Tryz.underlying99 sz28 rfl rfl (by omega) (by omega) (fun w hw => Own.some hw (i := 1) (by exact rfl) (by omega))) ?_
         have e2 : (r7).toNat < r2.length := by have := topT_len r2; omega
         refine D.q 6 rfl (Pu.loadAgg' (v := .agg #[.int .i64 pv1, .slice (r2[(r7).toNat]'e2).1.1.A (r2[(r7).toNat]'e2).1.2.length (r2[(r7).toNat]'e2).1.1.c, .slice (r2[(r7).toNat]'e2).2.1.A (r2[(r7).toNat]'e2).2.2.length (r2[(r7).toNat]'e2).2.1.c]) rfl rfl ag28 sz28 rfl rfl (Ld.rowT (Ld.tt 1 1 (by exact rfl) (by exact rfl)) e2 rfl)) (D.either hwf (e1 := 11) (e2 := 14) rfl ?_ ?_)
         ·refine ⟨_, _, rfl, rfl, fun _ _ => wanted_none rfl _, Ef.call call68 rfl rfl (Does.pre (fun w hw => hw.sub (Sub.k (Sub.k (Sub.k (Sub.k (Sub.k (Sub.k (Sub.k (Sub.refl _))))))))) (l01Next_ok _ _ _ s (↑((topT r2).length) : Int) w0 _   (by first | assumption | omega | (try dsimp only at *; omega)) (by first | assumption | omega | (try dsimp only at *; omega)))), rfl, rfl, ?_⟩
          rintro _ _ rfl hs
          refine ⟨fun w hw => hw.tail.sub (Sub.keep 1 rfl (Sub.keep 1 rfl (Sub.keep 1 rfl (Sub.keep 1 rfl (Sub.keep 1 rfl (Sub.drop (Sub.refl _))))))), (D.exi (fun r8 => D.sep (D.pur1 ?_)))⟩
          rintro ⟨rfl, hr8_1, hr8_2, hr8_3⟩
          refine D.q 12 rfl (Pu.indexAddrS ((r8).toNat) rfl Tryz.underlying99 sz28 rfl rfl (by omega) (by omega) (fun w hw => Own.some hw (i := 1) (by exact rfl) (by omega))) ?_
          have e3 : (r8).toNat < r2.length := by have := topT_len r2; omega
          refine D.q 13 rfl (Pu.loadAgg' (v := .agg #[.int .i64 pv1, .slice (r2[(r8).toNat]'e3).1.1.A (r2[(r8).toNat]'e3).1.2.length (r2[(r8).toNat]'e3).1.1.c, .slice (r2[(r8).toNat]'e3).2.1.A (r2[(r8).toNat]'e3).2.2.length (r2[(r8).toNat]'e3).2.1.c]) rfl rfl ag28 sz28 rfl rfl (Ld.rowT (Ld.tt 1 1 (by exact rfl) (by exact rfl)) e3 rfl)) (D.f hwf 14 rfl (Ef.alloc rfl zr28 rfl) ?_)
          rintro _ _ ⟨b6, rfl, rfl⟩ hs
          refine ⟨fun w hw => hw.sub (Sub.keep 3 rfl (Sub.keep 3 rfl (Sub.keep 3 rfl (Sub.keep 3 rfl (Sub.keep 3 rfl (Sub.drop (Sub.drop (Sub.drop (Sub.refl _))))))))), (D.f hwf 16 rfl (Ef.storeAll 0 rfl sz28 rfl rfl rfl rfl (by simp [Value.oneCell']) rfl) ?_)⟩
          rintro _ _ rfl hs
          refine ⟨fun w hw => hw.sub (Sub.keep 3 rfl (Sub.keep 3 rfl (Sub.keep 3 rfl (Sub.keep 3 rfl (Sub.keep 3 rfl (Sub.drop (Sub.drop (Sub.drop (Sub.refl _))))))))), (D.f hwf 17 rfl (Ef.storeAll 2 rfl sz28 rfl rfl rfl rfl (by simp [Value.oneCell']) rfl) ?_)⟩
          rintro _ _ rfl hs
          exact ⟨fun w hw => hw.sub (Sub.keep 3 rfl (Sub.keep 3 rfl (Sub.keep 3 rfl (Sub.keep 3 rfl (Sub.keep 3 rfl (Sub.drop (Sub.drop (Sub.drop (Sub.refl _))))))))), (D.done hwf rfl (X.cutE (b6, b5, (r2[(r7).toNat]'e2), (r2[(r8).toNat]'e3)) (by (try dsimp only); exact ⟨List.getElem_mem _, List.getElem_mem _⟩) (Ent.cons rfl (Ent.cons rfl (Ent.nil _))) (Ent.cons (t := 0) rfl (Ent.cons (t := 2) rfl (Ent.cons (t := 3) rfl (Ent.nil _)))) (Sub.k (Sub.keep 1 rfl (Sub.k (Sub.k (Sub.k (Sub.k (Sub.k (Sub.k (Sub.refl _)))))))))))⟩
         ·refine ⟨_, _, rfl, rfl, fun _ _ => wanted_none rfl _, Ef.alloc rfl zr28 rfl, rfl, rfl, ?_⟩
          rintro _ _ ⟨b6, rfl, rfl⟩ hs
          refine ⟨fun w hw => hw.sub (Sub.keep 3 rfl (Sub.keep 3 rfl (Sub.keep 3 rfl (Sub.keep 3 rfl (Sub.keep 3 rfl (Sub.drop (Sub.drop (Sub.drop (Sub.refl _))))))))), (D.f hwf 11 rfl (Ef.call call68 rfl rfl (Does.pre (fun w hw => hw.sub (Sub.keep 1 rfl (Sub.k (Sub.k (Sub.k (Sub.k (Sub.k (Sub.k (Sub.k (Sub.refl _)))))))))) (l01Next_ok _ _ _ s (↑((topT r2).length) : Int) w0 _   (by first | assumption | omega | (try dsimp only at *; omega)) (by first | assumption | omega | (try dsimp only at *; omega))))) ?_)⟩
          rintro _ _ rfl hs
          refine ⟨fun w hw => hw.tail.sub (Sub.keep 2 rfl (Sub.keep 2 rfl (Sub.keep 2 rfl (Sub.keep 2 rfl (Sub.keep 2 rfl (Sub.drop (Sub.drop (Sub.refl _)))))))), (D.exi (fun r8 => D.sep (D.pur1 ?_)))⟩
          rintro ⟨rfl, hr8_1, hr8_2, hr8_3⟩
          refine D.q 12 rfl (Pu.indexAddrS ((r8).toNat) rfl Tryz.underlying99 sz28 rfl rfl (by omega) (by omega) (fun w hw => Own.some hw (i := 1) (by exact rfl) (by omega))) ?_
          have e3 : (r8).toNat < r2.length := by have := topT_len r2; omega
          refine D.q 13 rfl (Pu.loadAgg' (v := .agg #[.int .i64 pv1, .slice (r2[(r8).toNat]'e3).1.1.A (r2[(r8).toNat]'e3).1.2.length (r2[(r8).toNat]'e3).1.1.c, .slice (r2[(r8).toNat]'e3).2.1.A (r2[(r8).toNat]'e3).2.2.length (r2[(r8).toNat]'e3).2.1.c]) rfl rfl ag28 sz28 rfl rfl (Ld.rowT (Ld.tt 1 1 (by exact rfl) (by exact rfl)) e3 rfl)) (D.f hwf 16 rfl (Ef.storeAll 1 rfl sz28 rfl rfl rfl rfl (by simp [Value.oneCell']) rfl) ?_)
          rintro _ _ rfl hs
          refine ⟨fun w hw => hw.sub (Sub.keep 3 rfl (Sub.keep 3 rfl (Sub.keep 3 rfl (Sub.keep 3 rfl (Sub.keep 3 rfl (Sub.drop (Sub.drop (Sub.drop (Sub.refl _))))))))), (D.f hwf 17 rfl (Ef.storeAll 2 rfl sz28 rfl rfl rfl rfl (by simp [Value.oneCell']) rfl) ?_)⟩
          rintro _ _ rfl hs
          exact ⟨fun w hw => hw.sub (Sub.keep 3 rfl (Sub.keep 3 rfl (Sub.keep 3 rfl (Sub.keep 3 rfl (Sub.keep 3 rfl (Sub.drop (Sub.drop (Sub.drop (Sub.refl _))))))))), (D.done hwf rfl (X.cutE (b6, b5, (r2[(r7).toNat]'e2), (r2[(r8).toNat]'e3)) (by (try dsimp only); exact ⟨List.getElem_mem _, List.getElem_mem _⟩) (Ent.cons rfl (Ent.cons rfl (Ent.nil _))) (Ent.cons (t := 0) rfl (Ent.cons (t := 2) rfl (Ent.cons (t := 3) rfl (Ent.nil _)))) (Sub.keep 1 rfl (Sub.keep 1 rfl (Sub.k (Sub.k (Sub.k (Sub.k (Sub.k (Sub.k (Sub.refl _)))))))))))⟩
        ·refine ⟨_, _, rfl, rfl, fun _ _ => wanted_none rfl _, Ef.alloc rfl zr28 rfl, rfl, rfl, ?_⟩
         rintro _ _ ⟨b6, rfl, rfl⟩ hs
         refine ⟨fun w hw => hw.sub (Sub.keep 3 rfl (Sub.keep 3 rfl (Sub.keep 3 rfl (Sub.keep 3 rfl (Sub.keep 3 rfl (Sub.drop (Sub.drop (Sub.drop (Sub.refl _))))))))), (D.f hwf 4 rfl (Ef.call call68 rfl rfl (Does.pre (fun w hw => hw.sub (Sub.keep 2 rfl (Sub.k (Sub.k (Sub.k (Sub.k (Sub.k (Sub.k (Sub.k (Sub.refl _)))))))))) (l01Next_ok _ _ _ s (↑((topT r2).length) : Int) w0 _   (by first | assumption | omega | (try dsimp only at *; omega)) (by first | assumption | omega | (try dsimp only at *; omega))))) ?_)⟩
         rintro _ _ rfl hs
         refine ⟨fun w hw => hw.tail.sub (Sub.keep 2 rfl (Sub.keep 2 rfl (Sub.keep 2 rfl (Sub.keep 2 rfl (Sub.keep 2 rfl (Sub.drop (Sub.drop (Sub.refl _)))))))), (D.exi (fun r7 => D.sep (D.pur1 ?_)))⟩
         rintro ⟨rfl, hr7_1, hr7_2, hr7_3⟩
         refine D.q 5 rfl (Pu.indexAddrS ((r7).toNat) rfl Tryz.underlying99 sz28 rfl rfl (by omega) (by omega) (fun w hw => Own.some hw (i := 1) (by exact rfl) (by omega))) ?_
         have e2 : (r7).toNat < r2.length := by have := topT_len r2; omega
         refine D.q 6 rfl (Pu.loadAgg' (v := .agg #[.int .i64 pv1, .slice (r2[(r7).toNat]'e2).1.1.A (r2[(r7).toNat]'e2).1.2.length (r2[(r7).toNat]'e2).1.1.c, .slice (r2[(r7).toNat]'e2).2.1.A (r2[(r7).toNat]'e2).2.2.length (r2[(r7).toNat]'e2).2.1.c]) rfl rfl ag28 sz28 rfl rfl (Ld.rowT (Ld.tt 1 1 (by exact rfl) (by exact rfl)) e2 rfl)) (D.f hwf 11 rfl (Ef.call call68 rfl rfl (Does.pre (fun w hw => hw.sub (Sub.k (Sub.k (Sub.k (Sub.k (Sub.k (Sub.k (Sub.k (Sub.k (Sub.refl _)))))))))) (l01Next_ok _ _ _ s (↑((topT r2).length) : Int) w0 _   (by first | assumption | omega | (try dsimp only at *; omega)) (by first | assumption | omega | (try dsimp only at *; omega))))) ?_)
         rintro _ _ rfl hs
         refine ⟨fun w hw => hw.tail.sub (Sub.keep 2 rfl (Sub.keep 2 rfl (Sub.keep 2 rfl (Sub.keep 2 rfl (Sub.keep 2 rfl (Sub.drop (Sub.drop (Sub.refl _)))))))), (D.exi (fun r8 => D.sep (D.pur1 ?_)))⟩
         rintro ⟨rfl, hr8_1, hr8_2, hr8_3⟩
         refine D.q 12 rfl (Pu.indexAddrS ((r8).toNat) rfl Tryz.underlying99 sz28 rfl rfl (by omega) (by omega) (fun w hw => Own.some hw (i := 1) (by exact rfl) (by omega))) ?_
         have e3 : (r8).toNat < r2.length := by have := topT_len r2; omega
         refine D.q 13 rfl (Pu.loadAgg' (v := .agg #[.int .i64 pv1, .slice (r2[(r8).toNat]'e3).1.1.A (r2[(r8).toNat]'e3).1.2.length (r2[(r8).toNat]'e3).1.1.c, .slice (r2[(r8).toNat]'e3).2.1.A (r2[(r8).toNat]'e3).2.2.length (r2[(r8).toNat]'e3).2.1.c]) rfl rfl ag28 sz28 rfl rfl (Ld.rowT (Ld.tt 1 1 (by exact rfl) (by exact rfl)) e3 rfl)) (D.f hwf 16 rfl (Ef.storeAll 1 rfl sz28 rfl rfl rfl rfl (by simp [Value.oneCell']) rfl) ?_)
         rintro _ _ rfl hs
         refine ⟨fun w hw => hw.sub (Sub.keep 3 rfl (Sub.keep 3 rfl (Sub.keep 3 rfl (Sub.keep 3 rfl (Sub.keep 3 rfl (Sub.drop (Sub.drop (Sub.drop (Sub.refl _))))))))), (D.f hwf 17 rfl (Ef.storeAll 2 rfl sz28 rfl rfl rfl rfl (by simp [Value.oneCell']) rfl) ?_)⟩
         rintro _ _ rfl hs
         exact ⟨fun w hw => hw.sub (Sub.keep 3 rfl (Sub.keep 3 rfl (Sub.keep 3 rfl (Sub.keep 3 rfl (Sub.keep 3 rfl (Sub.drop (Sub.drop (Sub.drop (Sub.refl _))))))))), (D.done hwf rfl (X.cutE (b6, b5, (r2[(r7).toNat]'e2), (r2[(r8).toNat]'e3)) (by (try dsimp only); exact ⟨List.getElem_mem _, List.getElem_mem _⟩) (Ent.cons rfl (Ent.cons rfl (Ent.nil _))) (Ent.cons (t := 0) rfl (Ent.cons (t := 2) rfl (Ent.cons (t := 3) rfl (Ent.nil _)))) (Sub.keep 1 rfl (Sub.keep 1 rfl (Sub.k (Sub.k (Sub.k (Sub.k (Sub.k (Sub.k (Sub.refl _)))))))))))⟩
      ·rintro ⟨b9, b10, q1, q2⟩ ⟨hq1, hq2⟩
       dsimp only at hq1 hq2 ⊢
       obtain ⟨kq1, e91, rfl⟩ := List.getElem_of_mem hq1
       have hq14 := hsm kq1 e91
       obtain ⟨kq2, e92, rfl⟩ := List.getElem_of_mem hq2
       have hq24 := hsm kq2 e92
       refine X.fact (fun w hw => ((Ld.tt 4 4 (by exact rfl) (by exact rfl) w hw).ro kq1 e91).some (by omega)) (fun hq1S1 => X.fact (fun w hw => ((Ld.tt 4 4 (by exact rfl) (by exact rfl) w hw).ri kq1 e91).some (by omega)) (fun hq1S2 => X.fact (fun w hw => ((Ld.tt 4 4 (by exact rfl) (by exact rfl) w hw).ro kq2 e92).some (by omega)) (fun hq2S1 => X.fact (fun w hw => ((Ld.tt 4 4 (by exact rfl) (by exact rfl) w hw).ri kq2 e92).some (by omega)) (fun hq2S2 => X.next (V.seq (V.cutE (β := Nat × (Option Addr) × Nat × (List B3) × (Option Addr) × Nat × (List B3)) (fun x => [(11, .pointer (some ⟨x.1, 0, none⟩))]) _ (fun x => [Blk x.1 [.int .i64 pv1, .slice x.2.1 x.2.2.2.1.length x.2.2.1, .slice x.2.2.2.2.1 x.2.2.2.2.2.2.length x.2.2.2.2.2.1] 28, Own 69 B3C x.2.1 x.2.2.1 x.2.2.2.1, Own 69 B3C x.2.2.2.2.1 x.2.2.2.2.2.1 x.2.2.2.2.2.2]) _ (fun x => x.2.2.2.1.length ≤ 8 ∧ x.2.2.2.2.2.2.length ≤ 8) (Ent.cons (t := 0) rfl (Ent.cons (t := 2) rfl (Ent.cons (t := 3) rfl (Ent.nil _)))) (Sub.k (Sub.k (Sub.k (Sub.k (Sub.k (Sub.k (Sub.k (Sub.k (Sub.refl _))))))))) ?_ ?_))))))
       ·refine V.draw mo (by kernel_rfl) (fun hwf => D.q 0 rfl (Pu.fieldAddr 0 rfl Tryz.underlying28 rfl sz2 rfl rfl) (D.q 1 rfl (Pu.load rfl pl2 rfl (Ld.blk 0 rfl rfl)) (D.q 3 rfl (Pu.fieldAddr 1 rfl Tryz.underlying28 rfl sz24 rfl rfl) (D.q 4 rfl (Pu.load rfl pl24 rfl (Ld.blk 0 rfl rfl)) (D.q 6 rfl (Pu.fieldAddr 1 rfl Tryz.underlying28 rfl sz24 rfl rfl) (D.q 7 rfl (Pu.load rfl pl24 rfl (Ld.blk 1 rfl rfl)) (D.q 10 rfl (Pu.fieldAddr 2 rfl Tryz.underlying28 rfl sz24 rfl rfl) (D.q 11 rfl (Pu.load rfl pl24 rfl (Ld.blk 0 rfl rfl)) (D.q 13 rfl (Pu.fieldAddr 2 rfl Tryz.underlying28 rfl sz24 rfl rfl) (D.q 14 rfl (Pu.load rfl pl24 rfl (Ld.blk 1 rfl rfl)) (D.either3 hwf (e1 := 2) (e2 := 9) (e3 := 17) rfl ?_ ?_ ?_)))))))))))
        ·refine ⟨_, _, rfl, rfl, fun _ _ => wanted_none rfl _, Ef.build B3C ([] : List B3) rfl Tryz.underlying24 inf69 rfl rfl rfl (by first | decide | (simp; done)) (by kernel_rfl), rfl, rfl, ?_⟩
         rintro _ _ ⟨A1, hA1, rfl, rfl⟩ hs
         refine ⟨fun w hw => hw.sub (Sub.keep 1 rfl (Sub.keep 1 rfl (Sub.keep 1 rfl (Sub.keep 1 rfl (Sub.keep 1 rfl (Sub.keep 1 rfl (Sub.keep 1 rfl (Sub.keep 1 rfl (Sub.drop (Sub.refl _)))))))))), (D.either3 hwf (e1 := 5) (e2 := 9) (e3 := 17) rfl ?_ ?_ ?_)⟩
         ·refine ⟨_, _, rfl, rfl, fun _ _ => wanted_none rfl _, Ef.append (xs := ([] : List B3)) (ys := (r2[kq1]'e91).1.2) 0 rfl Tryz.underlying24 inf69 rfl rfl rfl rfl rfl rfl hq1S1 (fun w hw => ((Ld.tt 5 5 (by exact rfl) (by exact rfl)) w hw).ro kq1 e91) (by simp only [List.length_append, List.length_cons, List.length_nil] at *; omega) (by decide), rfl, rfl, ?_⟩
          rintro _ _ ⟨A2, k1, rfl, rfl, hA2⟩ hs
          replace hA2 := hA2 (.inl hA1)
          refine ⟨fun w hw => hw.sub (Sub.keep 1 rfl (Sub.keep 1 rfl (Sub.keep 1 rfl (Sub.keep 1 rfl (Sub.keep 1 rfl (Sub.keep 1 rfl (Sub.keep 1 rfl (Sub.keep 1 rfl (Sub.drop (Sub.refl _)))))))))), (D.either3 hwf (e1 := 8) (e2 := 9) (e3 := 17) rfl ?_ ?_ ?_)⟩
          ·refine ⟨_, _, rfl, rfl, fun _ _ => wanted_none rfl _, Ef.append (xs := (([] : List B3) ++ (r2[kq1]'e91).1.2)) (ys := (r2[kq2]'e92).1.2) 0 rfl Tryz.underlying24 inf69 rfl rfl rfl rfl rfl rfl hq2S1 (fun w hw => ((Ld.tt 5 5 (by exact rfl) (by exact rfl)) w hw).ro kq2 e92) (by simp only [List.length_append, List.length_cons, List.length_nil] at *; omega) (by decide), rfl, rfl, ?_⟩
           rintro _ _ ⟨A3, k2, rfl, rfl, hA3⟩ hs
           replace hA3 := hA3 (.inl hA2)
           refine ⟨fun w hw => hw.sub (Sub.keep 1 rfl (Sub.keep 1 rfl (Sub.keep 1 rfl (Sub.keep 1 rfl (Sub.keep 1 rfl (Sub.keep 1 rfl (Sub.keep 1 rfl (Sub.keep 1 rfl (Sub.drop (Sub.refl _)))))))))), (D.either hwf (e1 := 9) (e2 := 17) rfl ?_ ?_)⟩
           ·refine ⟨_, _, rfl, rfl, fun _ _ => wanted_none rfl _, Ef.build B3C ([] : List B3) rfl Tryz.underlying24 inf69 rfl rfl rfl (by first | decide | (simp; done)) (by kernel_rfl), rfl, rfl, ?_⟩
            rintro _ _ ⟨A4, hA4, rfl, rfl⟩ hs
            refine ⟨fun w hw => hw.sub (Sub.keep 2 rfl (Sub.keep 2 rfl (Sub.keep 2 rfl (Sub.keep 2 rfl (Sub.keep 2 rfl (Sub.keep 2 rfl (Sub.keep 2 rfl (Sub.keep 2 rfl (Sub.drop (Sub.drop (Sub.refl _))))))))))), (D.either hwf (e1 := 12) (e2 := 17) rfl ?_ ?_)⟩
            ·refine ⟨_, _, rfl, rfl, fun _ _ => wanted_none rfl _, Ef.append (xs := ([] : List B3)) (ys := (r2[kq1]'e91).2.2) 0 rfl Tryz.underlying24 inf69 rfl rfl rfl rfl rfl rfl hq1S2 (fun w hw => ((Ld.tt 6 6 (by exact rfl) (by exact rfl)) w hw).ri kq1 e91) (by simp only [List.length_append, List.length_cons, List.length_nil] at *; omega) (by decide), rfl, rfl, ?_⟩
             rintro _ _ ⟨A5, k3, rfl, rfl, hA5⟩ hs
             replace hA5 := hA5 (.inl hA4)
             refine ⟨fun w hw => hw.sub (Sub.keep 2 rfl (Sub.keep 2 rfl (Sub.keep 2 rfl (Sub.keep 2 rfl (Sub.keep 2 rfl (Sub.keep 2 rfl (Sub.keep 2 rfl (Sub.keep 2 rfl (Sub.drop (Sub.drop (Sub.refl _))))))))))), (D.either hwf (e1 := 15) (e2 := 17) rfl ?_ ?_)⟩
             ·refine ⟨_, _, rfl, rfl, fun _ _ => wanted_none rfl _, Ef.append (xs := (([] : List B3) ++ (r2[kq1]'e91).2.2)) (ys := (r2[kq2]'e92).2.2) 0 rfl Tryz.underlying24 inf69 rfl rfl rfl rfl rfl rfl hq2S2 (fun w hw => ((Ld.tt 6 6 (by exact rfl) (by exact rfl)) w hw).ri kq2 e92) (by simp only [List.length_append, List.length_cons, List.length_nil] at *; omega) (by decide), rfl, rfl, ?_⟩
              rintro _ _ ⟨A6, k4, rfl, rfl, hA6⟩ hs
              replace hA6 := hA6 (.inl hA5)
              refine ⟨fun w hw => hw.sub (Sub.keep 2 rfl (Sub.keep 2 rfl (Sub.keep 2 rfl (Sub.keep 2 rfl (Sub.keep 2 rfl (Sub.keep 2 rfl (Sub.keep 2 rfl (Sub.keep 2 rfl (Sub.drop (Sub.drop (Sub.refl _))))))))))), (D.either hwf (e1 := 16) (e2 := 17) rfl ?_ ?_)⟩
              ·refine ⟨_, _, rfl, rfl, fun _ _ => wanted_none rfl _, Ef.call1 call54 rfl rfl (fun w hw => l04Made_ok  pv1 ((([] : List B3) ++ (r2[kq1]'e91).1.2) ++ (r2[kq2]'e92).1.2) ((([] : List B3) ++ (r2[kq1]'e91).2.2) ++ (r2[kq2]'e92).2.2) _ _ _ _ w ((Ld.own 1 (by exact rfl)) w hw) ((Ld.own 0 (by exact rfl)) w hw) (by simp only [List.length_append, List.length_nil]; omega) (by simp only [List.length_append, List.length_nil]; omega) (by simp only [List.length_append, List.length_nil]; omega) (by simp only [List.length_append, List.length_nil]; omega)), rfl, rfl, ?_⟩
               rintro _ _ rfl hs
               refine ⟨fun w hw => hs w hw.tail, (D.exi (fun o2A => D.exi (fun o2c => D.exi (fun o2 => D.exi (fun i2A => D.exi (fun i2c => D.exi (fun i2 => D.sep (D.pur1 ?_))))))))⟩
               rintro ⟨rfl, ho2_1, ho2_2⟩
               refine D.sep ?_
               have hlm1 := ho2_1.1.length_eq
               have hlm2 := ho2_2.1.length_eq
               simp only [List.length_append, List.length_nil] at hlm1 hlm2
               refine D.f hwf 17 rfl (Ef.alloc rfl zr28 rfl) ?_
               rintro _ _ ⟨b5, rfl, rfl⟩ hs
               refine ⟨fun w hw => hw.sub (Sub.keep 5 rfl (Sub.keep 5 rfl (Sub.keep 5 rfl (Sub.keep 5 rfl (Sub.keep 5 rfl (Sub.keep 5 rfl (Sub.keep 5 rfl (Sub.keep 5 rfl (Sub.drop (Sub.drop (Sub.drop (Sub.drop (Sub.drop (Sub.refl _)))))))))))))), (D.f hwf 18 rfl (Ef.storeAll 0 rfl sz28 rfl rfl rfl rfl (by simp [Value.oneCell']) rfl) ?_)⟩
               rintro _ _ rfl hs
               exact ⟨fun w hw => hw.sub (Sub.keep 5 rfl (Sub.keep 5 rfl (Sub.keep 5 rfl (Sub.keep 5 rfl (Sub.keep 5 rfl (Sub.keep 5 rfl (Sub.keep 5 rfl (Sub.keep 5 rfl (Sub.drop (Sub.drop (Sub.drop (Sub.drop (Sub.drop (Sub.refl _)))))))))))))), (D.done hwf rfl (X.cutE (b5, o2A, o2c, o2, i2A, i2c, i2) (by (try dsimp only); exact ⟨by omega, by omega⟩) (Ent.cons rfl (Ent.nil _)) (Ent.cons (t := 0) rfl (Ent.cons (t := 2) rfl (Ent.cons (t := 3) rfl (Ent.nil _)))) (Sub.k (Sub.k (Sub.k (Sub.keep 2 rfl (Sub.keep 2 rfl (Sub.keep 2 rfl (Sub.keep 2 rfl (Sub.keep 2 rfl (Sub.keep 2 rfl (Sub.keep 2 rfl (Sub.keep 2 rfl (Sub.drop (Sub.drop (Sub.refl _))))))))))))))))⟩
              ·refine ⟨_, _, rfl, rfl, fun _ _ => wanted_none rfl _, Ef.alloc rfl zr28 rfl, rfl, rfl, ?_⟩
               rintro _ _ ⟨b5, rfl, rfl⟩ hs
               refine ⟨fun w hw => hw.sub (Sub.keep 3 rfl (Sub.keep 3 rfl (Sub.keep 3 rfl (Sub.keep 3 rfl (Sub.keep 3 rfl (Sub.keep 3 rfl (Sub.keep 3 rfl (Sub.keep 3 rfl (Sub.drop (Sub.drop (Sub.drop (Sub.refl _)))))))))))), (D.f hwf 16 rfl (Ef.call1 call54 rfl rfl (fun w hw => l04Made_ok  pv1 ((([] : List B3) ++ (r2[kq1]'e91).1.2) ++ (r2[kq2]'e92).1.2) ((([] : List B3) ++ (r2[kq1]'e91).2.2) ++ (r2[kq2]'e92).2.2) _ _ _ _ w ((Ld.own 2 (by exact rfl)) w hw) ((Ld.own 1 (by exact rfl)) w hw) (by simp only [List.length_append, List.length_nil]; omega) (by simp only [List.length_append, List.length_nil]; omega) (by simp only [List.length_append, List.length_nil]; omega) (by simp only [List.length_append, List.length_nil]; omega))) ?_)⟩
               rintro _ _ rfl hs
               refine ⟨fun w hw => hs w hw.tail, (D.exi (fun o2A => D.exi (fun o2c => D.exi (fun o2 => D.exi (fun i2A => D.exi (fun i2c => D.exi (fun i2 => D.sep (D.pur1 ?_))))))))⟩
               rintro ⟨rfl, ho2_1, ho2_2⟩
               refine D.sep ?_
               have hlm1 := ho2_1.1.length_eq
               have hlm2 := ho2_2.1.length_eq
               simp only [List.length_append, List.length_nil] at hlm1 hlm2
               refine D.f hwf 18 rfl (Ef.storeAll 2 rfl sz28 rfl rfl rfl rfl (by simp [Value.oneCell']) rfl) ?_
               rintro _ _ rfl hs
               exact ⟨fun w hw => hw.sub (Sub.keep 5 rfl (Sub.keep 5 rfl (Sub.keep 5 rfl (Sub.keep 5 rfl (Sub.keep 5 rfl (Sub.keep 5 rfl (Sub.keep 5 rfl (Sub.keep 5 rfl (Sub.drop (Sub.drop (Sub.drop (Sub.drop (Sub.drop (Sub.refl _)))))))))))))), (D.done hwf rfl (X.cutE (b5, o2A, o2c, o2, i2A, i2c, i2) (by (try dsimp only); exact ⟨by omega, by omega⟩) (Ent.cons rfl (Ent.nil _)) (Ent.cons (t := 0) rfl (Ent.cons (t := 2) rfl (Ent.cons (t := 3) rfl (Ent.nil _)))) (Sub.keep 2 rfl (Sub.k (Sub.k (Sub.keep 2 rfl (Sub.keep 2 rfl (Sub.keep 2 rfl (Sub.keep 2 rfl (Sub.keep 2 rfl (Sub.keep 2 rfl (Sub.keep 2 rfl (Sub.keep 2 rfl (Sub.drop (Sub.drop (Sub.refl _))))))))))))))))⟩
             ·refine ⟨_, _, rfl, rfl, fun _ _ => wanted_none rfl _, Ef.alloc rfl zr28 rfl, rfl, rfl, ?_⟩
              rintro _ _ ⟨b5, rfl, rfl⟩ hs
              refine ⟨fun w hw => hw.sub (Sub.keep 3 rfl (Sub.keep 3 rfl (Sub.keep 3 rfl (Sub.keep 3 rfl (Sub.keep 3 rfl (Sub.keep 3 rfl (Sub.keep 3 rfl (Sub.keep 3 rfl (Sub.drop (Sub.drop (Sub.drop (Sub.refl _)))))))))))), (D.f hwf 15 rfl (Ef.append (xs := (([] : List B3) ++ (r2[kq1]'e91).2.2)) (ys := (r2[kq2]'e92).2.2) 1 rfl Tryz.underlying24 inf69 rfl rfl rfl rfl rfl rfl hq2S2 (fun w hw => ((Ld.tt 7 7 (by exact rfl) (by exact rfl)) w hw).ri kq2 e92) (by simp only [List.length_append, List.length_cons, List.length_nil] at *; omega) (by decide)) ?_)⟩
              rintro _ _ ⟨A6, k4, rfl, rfl, hA6⟩ hs
              replace hA6 := hA6 (.inl hA5)
              refine ⟨fun w hw => hw.sub (Sub.keep 3 rfl (Sub.keep 3 rfl (Sub.keep 3 rfl (Sub.keep 3 rfl (Sub.keep 3 rfl (Sub.keep 3 rfl (Sub.keep 3 rfl (Sub.keep 3 rfl (Sub.drop (Sub.drop (Sub.drop (Sub.refl _)))))))))))), (D.f hwf 16 rfl (Ef.call1 call54 rfl rfl (fun w hw => l04Made_ok  pv1 ((([] : List B3) ++ (r2[kq1]'e91).1.2) ++ (r2[kq2]'e92).1.2) ((([] : List B3) ++ (r2[kq1]'e91).2.2) ++ (r2[kq2]'e92).2.2) _ _ _ _ w ((Ld.own 2 (by exact rfl)) w hw) ((Ld.own 1 (by exact rfl)) w hw) (by simp only [List.length_append, List.length_nil]; omega) (by simp only [List.length_append, List.length_nil]; omega) (by simp only [List.length_append, List.length_nil]; omega) (by simp only [List.length_append, List.length_nil]; omega))) ?_)⟩
              rintro _ _ rfl hs
              refine ⟨fun w hw => hs w hw.tail, (D.exi (fun o2A => D.exi (fun o2c => D.exi (fun o2 => D.exi (fun i2A => D.exi (fun i2c => D.exi (fun i2 => D.sep (D.pur1 ?_))))))))⟩
              rintro ⟨rfl, ho2_1, ho2_2⟩
              refine D.sep ?_
              have hlm1 := ho2_1.1.length_eq
              have hlm2 := ho2_2.1.length_eq
              simp only [List.length_append, List.length_nil] at hlm1 hlm2
              refine D.f hwf 18 rfl (Ef.storeAll 2 rfl sz28 rfl rfl rfl rfl (by simp [Value.oneCell']) rfl) ?_
              rintro _ _ rfl hs
              exact ⟨fun w hw => hw.sub (Sub.keep 5 rfl (Sub.keep 5 rfl (Sub.keep 5 rfl (Sub.keep 5 rfl (Sub.keep 5 rfl (Sub.keep 5 rfl (Sub.keep 5 rfl (Sub.keep 5 rfl (Sub.drop (Sub.drop (Sub.drop (Sub.drop (Sub.drop (Sub.refl _)))))))))))))), (D.done hwf rfl (X.cutE (b5, o2A, o2c, o2, i2A, i2c, i2) (by (try dsimp only); exact ⟨by omega, by omega⟩) (Ent.cons rfl (Ent.nil _)) (Ent.cons (t := 0) rfl (Ent.cons (t := 2) rfl (Ent.cons (t := 3) rfl (Ent.nil _)))) (Sub.keep 2 rfl (Sub.k (Sub.k (Sub.keep 2 rfl (Sub.keep 2 rfl (Sub.keep 2 rfl (Sub.keep 2 rfl (Sub.keep 2 rfl (Sub.keep 2 rfl (Sub.keep 2 rfl (Sub.keep 2 rfl (Sub.drop (Sub.drop (Sub.refl _))))))))))))))))⟩
            ·refine ⟨_, _, rfl, rfl, fun _ _ => wanted_none rfl _, Ef.alloc rfl zr28 rfl, rfl, rfl, ?_⟩
             rintro _ _ ⟨b5, rfl, rfl⟩ hs
             refine ⟨fun w hw => hw.sub (Sub.keep 3 rfl (Sub.keep 3 rfl (Sub.keep 3 rfl (Sub.keep 3 rfl (Sub.keep 3 rfl (Sub.keep 3 rfl (Sub.keep 3 rfl (Sub.keep 3 rfl (Sub.drop (Sub.drop (Sub.drop (Sub.refl _)))))))))))), (D.f hwf 12 rfl (Ef.append (xs := ([] : List B3)) (ys := (r2[kq1]'e91).2.2) 1 rfl Tryz.underlying24 inf69 rfl rfl rfl rfl rfl rfl hq1S2 (fun w hw => ((Ld.tt 7 7 (by exact rfl) (by exact rfl)) w hw).ri kq1 e91) (by simp only [List.length_append, List.length_cons, List.length_nil] at *; omega) (by decide)) ?_)⟩
             rintro _ _ ⟨A5, k3, rfl, rfl, hA5⟩ hs
             replace hA5 := hA5 (.inl hA4)
             refine ⟨fun w hw => hw.sub (Sub.keep 3 rfl (Sub.keep 3 rfl (Sub.keep 3 rfl (Sub.keep 3 rfl (Sub.keep 3 rfl (Sub.keep 3 rfl (Sub.keep 3 rfl (Sub.keep 3 rfl (Sub.drop (Sub.drop (Sub.drop (Sub.refl _)))))))))))), (D.f hwf 15 rfl (Ef.append (xs := (([] : List B3) ++ (r2[kq1]'e91).2.2)) (ys := (r2[kq2]'e92).2.2) 1 rfl Tryz.underlying24 inf69 rfl rfl rfl rfl rfl rfl hq2S2 (fun w hw => ((Ld.tt 7 7 (by exact rfl) (by exact rfl)) w hw).ri kq2 e92) (by simp only [List.length_append, List.length_cons, List.length_nil] at *; omega) (by decide)) ?_)⟩
             rintro _ _ ⟨A6, k4, rfl, rfl, hA6⟩ hs
             replace hA6 := hA6 (.inl hA5)
             refine ⟨fun w hw => hw.sub (Sub.keep 3 rfl (Sub.keep 3 rfl (Sub.keep 3 rfl (Sub.keep 3 rfl (Sub.keep 3 rfl (Sub.keep 3 rfl (Sub.keep 3 rfl (Sub.keep 3 rfl (Sub.drop (Sub.drop (Sub.drop (Sub.refl _)))))))))))), (D.f hwf 16 rfl (Ef.call1 call54 rfl rfl (fun w hw => l04Made_ok  pv1 ((([] : List B3) ++ (r2[kq1]'e91).1.2) ++ (r2[kq2]'e92).1.2) ((([] : List B3) ++ (r2[kq1]'e91).2.2) ++ (r2[kq2]'e92).2.2) _ _ _ _ w ((Ld.own 2 (by exact rfl)) w hw) ((Ld.own 1 (by exact rfl)) w hw) (by simp only [List.length_append, List.length_nil]; omega) (by simp only [List.length_append, List.length_nil]; omega) (by simp only [List.length_append, List.length_nil]; omega) (by simp only [List.length_append, List.length_nil]; omega))) ?_)⟩
             rintro _ _ rfl hs
             refine ⟨fun w hw => hs w hw.tail, (D.exi (fun o2A => D.exi (fun o2c => D.exi (fun o2 => D.exi (fun i2A => D.exi (fun i2c => D.exi (fun i2 => D.sep (D.pur1 ?_))))))))⟩
             rintro ⟨rfl, ho2_1, ho2_2⟩
             refine D.sep ?_
             have hlm1 := ho2_1.1.length_eq
             have hlm2 := ho2_2.1.length_eq
             simp only [List.length_append, List.length_nil] at hlm1 hlm2
             refine D.f hwf 18 rfl (Ef.storeAll 2 rfl sz28 rfl rfl rfl rfl (by simp [Value.oneCell']) rfl) ?_
             rintro _ _ rfl hs
             exact ⟨fun w hw => hw.sub (Sub.keep 5 rfl (Sub.keep 5 rfl (Sub.keep 5 rfl (Sub.keep 5 rfl (Sub.keep 5 rfl (Sub.keep 5 rfl (Sub.keep 5 rfl (Sub.keep 5 rfl (Sub.drop (Sub.drop (Sub.drop (Sub.drop (Sub.drop (Sub.refl _)))))))))))))), (D.done hwf rfl (X.cutE (b5, o2A, o2c, o2, i2A, i2c, i2) (by (try dsimp only); exact ⟨by omega, by omega⟩) (Ent.cons rfl (Ent.nil _)) (Ent.cons (t := 0) rfl (Ent.cons (t := 2) rfl (Ent.cons (t := 3) rfl (Ent.nil _)))) (Sub.keep 2 rfl (Sub.k (Sub.k (Sub.keep 2 rfl (Sub.keep 2 rfl (Sub.keep 2 rfl (Sub.keep 2 rfl (Sub.keep 2 rfl (Sub.keep 2 rfl (Sub.keep 2 rfl (Sub.keep 2 rfl (Sub.drop (Sub.drop (Sub.refl _))))))))))))))))⟩
           ·refine ⟨_, _, rfl, rfl, fun _ _ => wanted_none rfl _, Ef.alloc rfl zr28 rfl, rfl, rfl, ?_⟩
            rintro _ _ ⟨b5, rfl, rfl⟩ hs
            refine ⟨fun w hw => hw.sub (Sub.keep 2 rfl (Sub.keep 2 rfl (Sub.keep 2 rfl (Sub.keep 2 rfl (Sub.keep 2 rfl (Sub.keep 2 rfl (Sub.keep 2 rfl (Sub.keep 2 rfl (Sub.drop (Sub.drop (Sub.refl _))))))))))), (D.f hwf 9 rfl (Ef.build B3C ([] : List B3) rfl Tryz.underlying24 inf69 rfl rfl rfl (by first | decide | (simp; done)) (by kernel_rfl)) ?_)⟩
            rintro _ _ ⟨A4, hA4, rfl, rfl⟩ hs
            refine ⟨fun w hw => hw.sub (Sub.keep 3 rfl (Sub.keep 3 rfl (Sub.keep 3 rfl (Sub.keep 3 rfl (Sub.keep 3 rfl (Sub.keep 3 rfl (Sub.keep 3 rfl (Sub.keep 3 rfl (Sub.drop (Sub.drop (Sub.drop (Sub.refl _)))))))))))), (D.f hwf 12 rfl (Ef.append (xs := ([] : List B3)) (ys := (r2[kq1]'e91).2.2) 0 rfl Tryz.underlying24 inf69 rfl rfl rfl rfl rfl rfl hq1S2 (fun w hw => ((Ld.tt 7 7 (by exact rfl) (by exact rfl)) w hw).ri kq1 e91) (by simp only [List.length_append, List.length_cons, List.length_nil] at *; omega) (by decide)) ?_)⟩
            rintro _ _ ⟨A5, k3, rfl, rfl, hA5⟩ hs
            replace hA5 := hA5 (.inl hA4)
            refine ⟨fun w hw => hw.sub (Sub.keep 3 rfl (Sub.keep 3 rfl (Sub.keep 3 rfl (Sub.keep 3 rfl (Sub.keep 3 rfl (Sub.keep 3 rfl (Sub.keep 3 rfl (Sub.keep 3 rfl (Sub.drop (Sub.drop (Sub.drop (Sub.refl _)))))))))))), (D.f hwf 15 rfl (Ef.append (xs := (([] : List B3) ++ (r2[kq1]'e91).2.2)) (ys := (r2[kq2]'e92).2.2) 0 rfl Tryz.underlying24 inf69 rfl rfl rfl rfl rfl rfl hq2S2 (fun w hw => ((Ld.tt 7 7 (by exact rfl) (by exact rfl)) w hw).ri kq2 e92) (by simp only [List.length_append, List.length_cons, List.length_nil] at *; omega) (by decide)) ?_)⟩
            rintro _ _ ⟨A6, k4, rfl, rfl, hA6⟩ hs
            replace hA6 := hA6 (.inl hA5)
            refine ⟨fun w hw => hw.sub (Sub.keep 3 rfl (Sub.keep 3 rfl (Sub.keep 3 rfl (Sub.keep 3 rfl (Sub.keep 3 rfl (Sub.keep 3 rfl (Sub.keep 3 rfl (Sub.keep 3 rfl (Sub.drop (Sub.drop (Sub.drop (Sub.refl _)))))))))))), (D.f hwf 16 rfl (Ef.call1 call54 rfl rfl (fun w hw => l04Made_ok  pv1 ((([] : List B3) ++ (r2[kq1]'e91).1.2) ++ (r2[kq2]'e92).1.2) ((([] : List B3) ++ (r2[kq1]'e91).2.2) ++ (r2[kq2]'e92).2.2) _ _ _ _ w ((Ld.own 2 (by exact rfl)) w hw) ((Ld.own 0 (by exact rfl)) w hw) (by simp only [List.length_append, List.length_nil]; omega) (by simp only [List.length_append, List.length_nil]; omega) (by simp only [List.length_append, List.length_nil]; omega) (by simp only [List.length_append, List.length_nil]; omega))) ?_)⟩
            rintro _ _ rfl hs
            refine ⟨fun w hw => hs w hw.tail, (D.exi (fun o2A => D.exi (fun o2c => D.exi (fun o2 => D.exi (fun i2A => D.exi (fun i2c => D.exi (fun i2 => D.sep (D.pur1 ?_))))))))⟩
            rintro ⟨rfl, ho2_1, ho2_2⟩
            refine D.sep ?_
            have hlm1 := ho2_1.1.length_eq
            have hlm2 := ho2_2.1.length_eq
            simp only [List.length_append, List.length_nil] at hlm1 hlm2
            refine D.f hwf 18 rfl (Ef.storeAll 3 rfl sz28 rfl rfl rfl rfl (by simp [Value.oneCell']) rfl) ?_
            rintro _ _ rfl hs
            exact ⟨fun w hw => hw.sub (Sub.keep 5 rfl (Sub.keep 5 rfl (Sub.keep 5 rfl (Sub.keep 5 rfl (Sub.keep 5 rfl (Sub.keep 5 rfl (Sub.keep 5 rfl (Sub.keep 5 rfl (Sub.drop (Sub.drop (Sub.drop (Sub.drop (Sub.drop (Sub.refl _)))))))))))))), (D.done hwf rfl (X.cutE (b5, o2A, o2c, o2, i2A, i2c, i2) (by (try dsimp only); exact ⟨by omega, by omega⟩) (Ent.cons rfl (Ent.nil _)) (Ent.cons (t := 0) rfl (Ent.cons (t := 2) rfl (Ent.cons (t := 3) rfl (Ent.nil _)))) (Sub.keep 3 rfl (Sub.k (Sub.k (Sub.keep 2 rfl (Sub.keep 2 rfl (Sub.keep 2 rfl (Sub.keep 2 rfl (Sub.keep 2 rfl (Sub.keep 2 rfl (Sub.keep 2 rfl (Sub.keep 2 rfl (Sub.drop (Sub.drop (Sub.refl _))))))))))))))))⟩
          ·refine ⟨_, _, rfl, rfl, fun _ _ => wanted_none rfl _, Ef.build B3C ([] : List B3) rfl Tryz.underlying24 inf69 rfl rfl rfl (by first | decide | (simp; done)) (by kernel_rfl), rfl, rfl, ?_⟩
           rintro _ _ ⟨A3, hA3, rfl, rfl⟩ hs
           refine ⟨fun w hw => hw.sub (Sub.keep 2 rfl (Sub.keep 2 rfl (Sub.keep 2 rfl (Sub.keep 2 rfl (Sub.keep 2 rfl (Sub.keep 2 rfl (Sub.keep 2 rfl (Sub.keep 2 rfl (Sub.drop (Sub.drop (Sub.refl _))))))))))), (D.either hwf (e1 := 8) (e2 := 17) rfl ?_ ?_)⟩
           ·refine ⟨_, _, rfl, rfl, fun _ _ => wanted_none rfl _, Ef.append (xs := (([] : List B3) ++ (r2[kq1]'e91).1.2)) (ys := (r2[kq2]'e92).1.2) 1 rfl Tryz.underlying24 inf69 rfl rfl rfl rfl rfl rfl hq2S1 (fun w hw => ((Ld.tt 6 6 (by exact rfl) (by exact rfl)) w hw).ro kq2 e92) (by simp only [List.length_append, List.length_cons, List.length_nil] at *; omega) (by decide), rfl, rfl, ?_⟩
            rintro _ _ ⟨A4, k2, rfl, rfl, hA4⟩ hs
            replace hA4 := hA4 (.inl hA2)
            refine ⟨fun w hw => hw.sub (Sub.keep 2 rfl (Sub.keep 2 rfl (Sub.keep 2 rfl (Sub.keep 2 rfl (Sub.keep 2 rfl (Sub.keep 2 rfl (Sub.keep 2 rfl (Sub.keep 2 rfl (Sub.drop (Sub.drop (Sub.refl _))))))))))), (D.either hwf (e1 := 12) (e2 := 17) rfl ?_ ?_)⟩
            ·refine ⟨_, _, rfl, rfl, fun _ _ => wanted_none rfl _, Ef.append (xs := ([] : List B3)) (ys := (r2[kq1]'e91).2.2) 0 rfl Tryz.underlying24 inf69 rfl rfl rfl rfl rfl rfl hq1S2 (fun w hw => ((Ld.tt 6 6 (by exact rfl) (by exact rfl)) w hw).ri kq1 e91) (by simp only [List.length_append, List.length_cons, List.length_nil] at *; omega) (by decide), rfl, rfl, ?_⟩
             rintro _ _ ⟨A5, k3, rfl, rfl, hA5⟩ hs
             replace hA5 := hA5 (.inl hA3)
             refine ⟨fun w hw => hw.sub (Sub.keep 2 rfl (Sub.keep 2 rfl (Sub.keep 2 rfl (Sub.keep 2 rfl (Sub.keep 2 rfl (Sub.keep 2 rfl (Sub.keep 2 rfl (Sub.keep 2 rfl (Sub.drop (Sub.drop (Sub.refl _))))))))))), (D.either hwf (e1 := 15) (e2 := 17) rfl ?_ ?_)⟩
             ·refine ⟨_, _, rfl, rfl, fun _ _ => wanted_none rfl _, Ef.append (xs := (([] : List B3) ++ (r2[kq1]'e91).2.2)) (ys := (r2[kq2]'e92).2.2) 0 rfl Tryz.underlying24 inf69 rfl rfl rfl rfl rfl rfl hq2S2 (fun w hw => ((Ld.tt 6 6 (by exact rfl) (by exact rfl)) w hw).ri kq2 e92) (by simp only [List.length_append, List.length_cons, List.length_nil] at *; omega) (by decide), rfl, rfl, ?_⟩
              rintro _ _ ⟨A6, k4, rfl, rfl, hA6⟩ hs
              replace hA6 := hA6 (.inl hA5)
              refine ⟨fun w hw => hw.sub (Sub.keep 2 rfl (Sub.keep 2 rfl (Sub.keep 2 rfl (Sub.keep 2 rfl (Sub.keep 2 rfl (Sub.keep 2 rfl (Sub.keep 2 rfl (Sub.keep 2 rfl (Sub.drop (Sub.drop (Sub.refl _))))))))))), (D.either hwf (e1 := 16) (e2 := 17) rfl ?_ ?_)⟩
              ·refine ⟨_, _, rfl, rfl, fun _ _ => wanted_none rfl _, Ef.call1 call54 rfl rfl (fun w hw => l04Made_ok  pv1 ((([] : List B3) ++ (r2[kq1]'e91).1.2) ++ (r2[kq2]'e92).1.2) ((([] : List B3) ++ (r2[kq1]'e91).2.2) ++ (r2[kq2]'e92).2.2) _ _ _ _ w ((Ld.own 1 (by exact rfl)) w hw) ((Ld.own 0 (by exact rfl)) w hw) (by simp only [List.length_append, List.length_nil]; omega) (by simp only [List.length_append, List.length_nil]; omega) (by simp only [List.length_append, List.length_nil]; omega) (by simp only [List.length_append, List.length_nil]; omega)), rfl, rfl, ?_⟩
               rintro _ _ rfl hs
               refine ⟨fun w hw => hs w hw.tail, (D.exi (fun o2A => D.exi (fun o2c => D.exi (fun o2 => D.exi (fun i2A => D.exi (fun i2c => D.exi (fun i2 => D.sep (D.pur1 ?_))))))))⟩
               rintro ⟨rfl, ho2_1, ho2_2⟩
               refine D.sep ?_
               have hlm1 := ho2_1.1.length_eq
               have hlm2 := ho2_2.1.length_eq
               simp only [List.length_append, List.length_nil] at hlm1 hlm2
               refine D.f hwf 17 rfl (Ef.alloc rfl zr28 rfl) ?_
               rintro _ _ ⟨b5, rfl, rfl⟩ hs
               refine ⟨fun w hw => hw.sub (Sub.keep 5 rfl (Sub.keep 5 rfl (Sub.keep 5 rfl (Sub.keep 5 rfl (Sub.keep 5 rfl (Sub.keep 5 rfl (Sub.keep 5 rfl (Sub.keep 5 rfl (Sub.drop (Sub.drop (Sub.drop (Sub.drop (Sub.drop (Sub.refl _)))))))))))))), (D.f hwf 18 rfl (Ef.storeAll 0 rfl sz28 rfl rfl rfl rfl (by simp [Value.oneCell']) rfl) ?_)⟩
               rintro _ _ rfl hs
               exact ⟨fun w hw => hw.sub (Sub.keep 5 rfl (Sub.keep 5 rfl (Sub.keep 5 rfl (Sub.keep 5 rfl (Sub.keep 5 rfl (Sub.keep 5 rfl (Sub.keep 5 rfl (Sub.keep 5 rfl (Sub.drop (Sub.drop (Sub.drop (Sub.drop (Sub.drop (Sub.refl _)))))))))))))), (D.done hwf rfl (X.cutE (b5, o2A, o2c, o2, i2A, i2c, i2) (by (try dsimp only); exact ⟨by omega, by omega⟩) (Ent.cons rfl (Ent.nil _)) (Ent.cons (t := 0) rfl (Ent.cons (t := 2) rfl (Ent.cons (t := 3) rfl (Ent.nil _)))) (Sub.k (Sub.k (Sub.k (Sub.keep 2 rfl (Sub.keep 2 rfl (Sub.keep 2 rfl (Sub.keep 2 rfl (Sub.keep 2 rfl (Sub.keep 2 rfl (Sub.keep 2 rfl (Sub.keep 2 rfl (Sub.drop (Sub.drop (Sub.refl _))))))))))))))))⟩
              ·refine ⟨_, _, rfl, rfl, fun _ _ => wanted_none rfl _, Ef.alloc rfl zr28 rfl, rfl, rfl, ?_⟩
               rintro _ _ ⟨b5, rfl, rfl⟩ hs
               refine ⟨fun w hw => hw.sub (Sub.keep 3 rfl (Sub.keep 3 rfl (Sub.keep 3 rfl (Sub.keep 3 rfl (Sub.keep 3 rfl (Sub.keep 3 rfl (Sub.keep 3 rfl (Sub.keep 3 rfl (Sub.drop (Sub.drop (Sub.drop (Sub.refl _)))))))))))), (D.f hwf 16 rfl (Ef.call1 call54 rfl rfl (fun w hw => l04Made_ok  pv1 ((([] : List B3) ++ (r2[kq1]'e91).1.2) ++ (r2[kq2]'e92).1.2) ((([] : List B3) ++ (r2[kq1]'e91).2.2) ++ (r2[kq2]'e92).2.2) _ _ _ _ w ((Ld.own 2 (by exact rfl)) w hw) ((Ld.own 1 (by exact rfl)) w hw) (by simp only [List.length_append, List.length_nil]; omega) (by simp only [List.length_append, List.length_nil]; omega) (by simp only [List.length_append, List.length_nil]; omega) (by simp only [List.length_append, List.length_nil]; omega))) ?_)⟩
               rintro _ _ rfl hs
               refine ⟨fun w hw => hs w hw.tail, (D.exi (fun o2A => D.exi (fun o2c => D.exi (fun o2 => D.exi (fun i2A => D.exi (fun i2c => D.exi (fun i2 => D.sep (D.pur1 ?_))))))))⟩
               rintro ⟨rfl, ho2_1, ho2_2⟩
               refine D.sep ?_
               have hlm1 := ho2_1.1.length_eq
               have hlm2 := ho2_2.1.length_eq
               simp only [List.length_append, List.length_nil] at hlm1 hlm2
               refine D.f hwf 18 rfl (Ef.storeAll 2 rfl sz28 rfl rfl rfl rfl (by simp [Value.oneCell']) rfl) ?_
               rintro _ _ rfl hs
               exact ⟨fun w hw => hw.sub (Sub.keep 5 rfl (Sub.keep 5 rfl (Sub.keep 5 rfl (Sub.keep 5 rfl (Sub.keep 5 rfl (Sub.keep 5 rfl (Sub.keep 5 rfl (Sub.keep 5 rfl (Sub.drop (Sub.drop (Sub.drop (Sub.drop (Sub.drop (Sub.refl _)))))))))))))), (D.done hwf rfl (X.cutE (b5, o2A, o2c, o2, i2A, i2c, i2) (by (try dsimp only); exact ⟨by omega, by omega⟩) (Ent.cons rfl (Ent.nil _)) (Ent.cons (t := 0) rfl (Ent.cons (t := 2) rfl (Ent.cons (t := 3) rfl (Ent.nil _)))) (Sub.keep 2 rfl (Sub.k (Sub.k (Sub.keep 2 rfl (Sub.keep 2 rfl (Sub.keep 2 rfl (Sub.keep 2 rfl (Sub.keep 2 rfl (Sub.keep 2 rfl (Sub.keep 2 rfl (Sub.keep 2 rfl (Sub.drop (Sub.drop (Sub.refl _))))))))))))))))⟩
             ·refine ⟨_, _, rfl, rfl, fun _ _ => wanted_none rfl _, Ef.alloc rfl zr28 rfl, rfl, rfl, ?_⟩
              rintro _ _ ⟨b5, rfl, rfl⟩ hs
              refine ⟨fun w hw => hw.sub (Sub.keep 3 rfl (Sub.keep 3 rfl (Sub.keep 3 rfl (Sub.keep 3 rfl (Sub.keep 3 rfl (Sub.keep 3 rfl (Sub.keep 3 rfl (Sub.keep 3 rfl (Sub.drop (Sub.drop (Sub.drop (Sub.refl _)))))))))))), (D.f hwf 15 rfl (Ef.append (xs := (([] : List B3) ++ (r2[kq1]'e91).2.2)) (ys := (r2[kq2]'e92).2.2) 1 rfl Tryz.underlying24 inf69 rfl rfl rfl rfl rfl rfl hq2S2 (fun w hw => ((Ld.tt 7 7 (by exact rfl) (by exact rfl)) w hw).ri kq2 e92) (by simp only [List.length_append, List.length_cons, List.length_nil] at *; omega) (by decide)) ?_)⟩
              rintro _ _ ⟨A6, k4, rfl, rfl, hA6⟩ hs
              replace hA6 := hA6 (.inl hA5)
              refine ⟨fun w hw => hw.sub (Sub.keep 3 rfl (Sub.keep 3 rfl (Sub.keep 3 rfl (Sub.keep 3 rfl (Sub.keep 3 rfl (Sub.keep 3 rfl (Sub.keep 3 rfl (Sub.keep 3 rfl (Sub.drop (Sub.drop (Sub.drop (Sub.refl _)))))))))))), (D.f hwf 16 rfl (Ef.call1 call54 rfl rfl (fun w hw => l04Made_ok  pv1 ((([] : List B3) ++ (r2[kq1]'e91).1.2) ++ (r2[kq2]'e92).1.2) ((([] : List B3) ++ (r2[kq1]'e91).2.2) ++ (r2[kq2]'e92).2.2) _ _ _ _ w ((Ld.own 2 (by exact rfl)) w hw) ((Ld.own 1 (by exact rfl)) w hw) (by simp only [List.length_append, List.length_nil]; omega) (by simp only [List.length_append, List.length_nil]; omega) (by simp only [List.length_append, List.length_nil]; omega) (by simp only [List.length_append, List.length_nil]; omega))) ?_)⟩
              rintro _ _ rfl hs
              refine ⟨fun w hw => hs w hw.tail, (D.exi (fun o2A => D.exi (fun o2c => D.exi (fun o2 => D.exi (fun i2A => D.exi (fun i2c => D.exi (fun i2 => D.sep (D.pur1 ?_))))))))⟩
              rintro ⟨rfl, ho2_1, ho2_2⟩
              refine D.sep ?_
              have hlm1 := ho2_1.1.length_eq
              have hlm2 := ho2_2.1.length_eq
              simp only [List.length_append, List.length_nil] at hlm1 hlm2
              refine D.f hwf 18 rfl (Ef.storeAll 2 rfl sz28 rfl rfl rfl rfl (by simp [Value.oneCell']) rfl) ?_
              rintro _ _ rfl hs
              exact ⟨fun w hw => hw.sub (Sub.keep 5 rfl (Sub.keep 5 rfl (Sub.keep 5 rfl (Sub.keep 5 rfl (Sub.keep 5 rfl (Sub.keep 5 rfl (Sub.keep 5 rfl (Sub.keep 5 rfl (Sub.drop (Sub.drop (Sub.drop (Sub.drop (Sub.drop (Sub.refl _)))))))))))))), (D.done hwf rfl (X.cutE (b5, o2A, o2c, o2, i2A, i2c, i2) (by (try dsimp only); exact ⟨by omega, by omega⟩) (Ent.cons rfl (Ent.nil _)) (Ent.cons (t := 0) rfl (Ent.cons (t := 2) rfl (Ent.cons (t := 3) rfl (Ent.nil _)))) (Sub.keep 2 rfl (Sub.k (Sub.k (Sub.keep 2 rfl (Sub.keep 2 rfl (Sub.keep 2 rfl (Sub.keep 2 rfl (Sub.keep 2 rfl (Sub.keep 2 rfl (Sub.keep 2 rfl (Sub.keep 2 rfl (Sub.drop (Sub.drop (Sub.refl _))))))))))))))))⟩
            ·refine ⟨_, _, rfl, rfl, fun _ _ => wanted_none rfl _, Ef.alloc rfl zr28 rfl, rfl, rfl, ?_⟩
             rintro _ _ ⟨b5, rfl, rfl⟩ hs
             refine ⟨fun w hw => hw.sub (Sub.keep 3 rfl (Sub.keep 3 rfl (Sub.keep 3 rfl (Sub.keep 3 rfl (Sub.keep 3 rfl (Sub.keep 3 rfl (Sub.keep 3 rfl (Sub.keep 3 rfl (Sub.drop (Sub.drop (Sub.drop (Sub.refl _)))))))))))), (D.f hwf 12 rfl (Ef.append (xs := ([] : List B3)) (ys := (r2[kq1]'e91).2.2) 1 rfl Tryz.underlying24 inf69 rfl rfl rfl rfl rfl rfl hq1S2 (fun w hw => ((Ld.tt 7 7 (by exact rfl) (by exact rfl)) w hw).ri kq1 e91) (by simp only [List.length_append, List.length_cons, List.length_nil] at *; omega) (by decide)) ?_)⟩
             rintro _ _ ⟨A5, k3, rfl, rfl, hA5⟩ hs
             replace hA5 := hA5 (.inl hA3)
             refine ⟨fun w hw => hw.sub (Sub.keep 3 rfl (Sub.keep 3 rfl (Sub.keep 3 rfl (Sub.keep 3 rfl (Sub.keep 3 rfl (Sub.keep 3 rfl (Sub.keep 3 rfl (Sub.keep 3 rfl (Sub.drop (Sub.drop (Sub.drop (Sub.refl _)))))))))))), (D.f hwf 15 rfl (Ef.append (xs := (([] : List B3) ++ (r2[kq1]'e91).2.2)) (ys := (r2[kq2]'e92).2.2) 1 rfl Tryz.underlying24 inf69 rfl rfl rfl rfl rfl rfl hq2S2 (fun w hw => ((Ld.tt 7 7 (by exact rfl) (by exact rfl)) w hw).ri kq2 e92) (by simp only [List.length_append, List.length_cons, List.length_nil] at *; omega) (by decide)) ?_)⟩
             rintro _ _ ⟨A6, k4, rfl, rfl, hA6⟩ hs
             replace hA6 := hA6 (.inl hA5)
             refine ⟨fun w hw => hw.sub (Sub.keep 3 rfl (Sub.keep 3 rfl (Sub.keep 3 rfl (Sub.keep 3 rfl (Sub.keep 3 rfl (Sub.keep 3 rfl (Sub.keep 3 rfl (Sub.keep 3 rfl (Sub.drop (Sub.drop (Sub.drop (Sub.refl _)))))))))))), (D.f hwf 16 rfl (Ef.call1 call54 rfl rfl (fun w hw => l04Made_ok  pv1 ((([] : List B3) ++ (r2[kq1]'e91).1.2) ++ (r2[kq2]'e92).1.2) ((([] : List B3) ++ (r2[kq1]'e91).2.2) ++ (r2[kq2]'e92).2.2) _ _ _ _ w ((Ld.own 2 (by exact rfl)) w hw) ((Ld.own 1 (by exact rfl)) w hw) (by simp only [List.length_append, List.length_nil]; omega) (by simp only [List.length_append, List.length_nil]; omega) (by simp only [List.length_append, List.length_nil]; omega) (by simp only [List.length_append, List.length_nil]; omega))) ?_)⟩
             rintro _ _ rfl hs
             refine ⟨fun w hw => hs w hw.tail, (D.exi (fun o2A => D.exi (fun o2c => D.exi (fun o2 => D.exi (fun i2A => D.exi (fun i2c => D.exi (fun i2 => D.sep (D.pur1 ?_))))))))⟩
             rintro ⟨rfl, ho2_1, ho2_2⟩
             refine D.sep ?_
             have hlm1 := ho2_1.1.length_eq
             have hlm2 := ho2_2.1.length_eq
             simp only [List.length_append, List.length_nil] at hlm1 hlm2
             refine D.f hwf 18 rfl (Ef.storeAll 2 rfl sz28 rfl rfl rfl rfl (by simp [Value.oneCell']) rfl) ?_
             rintro _ _ rfl hs
             exact ⟨fun w hw => hw.sub (Sub.keep 5 rfl (Sub.keep 5 rfl (Sub.keep 5 rfl (Sub.keep 5 rfl (Sub.keep 5 rfl (Sub.keep 5 rfl (Sub.keep 5 rfl (Sub.keep 5 rfl (Sub.drop (Sub.drop (Sub.drop (Sub.drop (Sub.drop (Sub.refl _)))))))))))))), (D.done hwf rfl (X.cutE (b5, o2A, o2c, o2, i2A, i2c, i2) (by (try dsimp only); exact ⟨by omega, by omega⟩) (Ent.cons rfl (Ent.nil _)) (Ent.cons (t := 0) rfl (Ent.cons (t := 2) rfl (Ent.cons (t := 3) rfl (Ent.nil _)))) (Sub.keep 2 rfl (Sub.k (Sub.k (Sub.keep 2 rfl (Sub.keep 2 rfl (Sub.keep 2 rfl (Sub.keep 2 rfl (Sub.keep 2 rfl (Sub.keep 2 rfl (Sub.keep 2 rfl (Sub.keep 2 rfl (Sub.drop (Sub.drop (Sub.refl _))))))))))))))))⟩
           ·refine ⟨_, _, rfl, rfl, fun _ _ => wanted_none rfl _, Ef.alloc rfl zr28 rfl, rfl, rfl, ?_⟩
            rintro _ _ ⟨b5, rfl, rfl⟩ hs
            refine ⟨fun w hw => hw.sub (Sub.keep 3 rfl (Sub.keep 3 rfl (Sub.keep 3 rfl (Sub.keep 3 rfl (Sub.keep 3 rfl (Sub.keep 3 rfl (Sub.keep 3 rfl (Sub.keep 3 rfl (Sub.drop (Sub.drop (Sub.drop (Sub.refl _)))))))))))), (D.f hwf 8 rfl (Ef.append (xs := (([] : List B3) ++ (r2[kq1]'e91).1.2)) (ys := (r2[kq2]'e92).1.2) 2 rfl Tryz.underlying24 inf69 rfl rfl rfl rfl rfl rfl hq2S1 (fun w hw => ((Ld.tt 7 7 (by exact rfl) (by exact rfl)) w hw).ro kq2 e92) (by simp only [List.length_append, List.length_cons, List.length_nil] at *; omega) (by decide)) ?_)⟩
            rintro _ _ ⟨A4, k2, rfl, rfl, hA4⟩ hs
            replace hA4 := hA4 (.inl hA2)
            refine ⟨fun w hw => hw.sub (Sub.keep 3 rfl (Sub.keep 3 rfl (Sub.keep 3 rfl (Sub.keep 3 rfl (Sub.keep 3 rfl (Sub.keep 3 rfl (Sub.keep 3 rfl (Sub.keep 3 rfl (Sub.drop (Sub.drop (Sub.drop (Sub.refl _)))))))))))), (D.f hwf 12 rfl (Ef.append (xs := ([] : List B3)) (ys := (r2[kq1]'e91).2.2) 1 rfl Tryz.underlying24 inf69 rfl rfl rfl rfl rfl rfl hq1S2 (fun w hw => ((Ld.tt 7 7 (by exact rfl) (by exact rfl)) w hw).ri kq1 e91) (by simp only [List.length_append, List.length_cons, List.length_nil] at *; omega) (by decide)) ?_)⟩
            rintro _ _ ⟨A5, k3, rfl, rfl, hA5⟩ hs
            replace hA5 := hA5 (.inl hA3)
            refine ⟨fun w hw => hw.sub (Sub.keep 3 rfl (Sub.keep 3 rfl (Sub.keep 3 rfl (Sub.keep 3 rfl (Sub.keep 3 rfl (Sub.keep 3 rfl (Sub.keep 3 rfl (Sub.keep 3 rfl (Sub.drop (Sub.drop (Sub.drop (Sub.refl _)))))))))))), (D.f hwf 15 rfl (Ef.append (xs := (([] : List B3) ++ (r2[kq1]'e91).2.2)) (ys := (r2[kq2]'e92).2.2) 1 rfl Tryz.underlying24 inf69 rfl rfl rfl rfl rfl rfl hq2S2 (fun w hw => ((Ld.tt 7 7 (by exact rfl) (by exact rfl)) w hw).ri kq2 e92) (by simp only [List.length_append, List.length_cons, List.length_nil] at *; omega) (by decide)) ?_)⟩
            rintro _ _ ⟨A6, k4, rfl, rfl, hA6⟩ hs
            replace hA6 := hA6 (.inl hA5)
            refine ⟨fun w hw => hw.sub (Sub.keep 3 rfl (Sub.keep 3 rfl (Sub.keep 3 rfl (Sub.keep 3 rfl (Sub.keep 3 rfl (Sub.keep 3 rfl (Sub.keep 3 rfl (Sub.keep 3 rfl (Sub.drop (Sub.drop (Sub.drop (Sub.refl _)))))))))))), (D.f hwf 16 rfl (Ef.call1 call54 rfl rfl (fun w hw => l04Made_ok  pv1 ((([] : List B3) ++ (r2[kq1]'e91).1.2) ++ (r2[kq2]'e92).1.2) ((([] : List B3) ++ (r2[kq1]'e91).2.2) ++ (r2[kq2]'e92).2.2) _ _ _ _ w ((Ld.own 2 (by exact rfl)) w hw) ((Ld.own 1 (by exact rfl)) w hw) (by simp only [List.length_append, List.length_nil]; omega) (by simp only [List.length_append, List.length_nil]; omega) (by simp only [List.length_append, List.length_nil]; omega) (by simp only [List.length_append, List.length_nil]; omega))) ?_)⟩
            rintro _ _ rfl hs
            refine ⟨fun w hw => hs w hw.tail, (D.exi (fun o2A => D.exi (fun o2c => D.exi (fun o2 => D.exi (fun i2A => D.exi (fun i2c => D.exi (fun i2 => D.sep (D.pur1 ?_))))))))⟩
            rintro ⟨rfl, ho2_1, ho2_2⟩
            refine D.sep ?_
            have hlm1 := ho2_1.1.length_eq
            have hlm2 := ho2_2.1.length_eq
            simp only [List.length_append, List.length_nil] at hlm1 hlm2
            refine D.f hwf 18 rfl (Ef.storeAll 2 rfl sz28 rfl rfl rfl rfl (by simp [Value.oneCell']) rfl) ?_
            rintro _ _ rfl hs
            exact ⟨fun w hw => hw.sub (Sub.keep 5 rfl (Sub.keep 5 rfl (Sub.keep 5 rfl (Sub.keep 5 rfl (Sub.keep 5 rfl (Sub.keep 5 rfl (Sub.keep 5 rfl (Sub.keep 5 rfl (Sub.drop (Sub.drop (Sub.drop (Sub.drop (Sub.drop (Sub.refl _)))))))))))))), (D.done hwf rfl (X.cutE (b5, o2A, o2c, o2, i2A, i2c, i2) (by (try dsimp only); exact ⟨by omega, by omega⟩) (Ent.cons rfl (Ent.nil _)) (Ent.cons (t := 0) rfl (Ent.cons (t := 2) rfl (Ent.cons (t := 3) rfl (Ent.nil _)))) (Sub.keep 2 rfl (Sub.k (Sub.k (Sub.keep 2 rfl (Sub.keep 2 rfl (Sub.keep 2 rfl (Sub.keep 2 rfl (Sub.keep 2 rfl (Sub.keep 2 rfl (Sub.keep 2 rfl (Sub.keep 2 rfl (Sub.drop (Sub.drop (Sub.refl _))))))))))))))))⟩
          ·refine ⟨_, _, rfl, rfl, fun _ _ => wanted_none rfl _, Ef.alloc rfl zr28 rfl, rfl, rfl, ?_⟩
           rintro _ _ ⟨b5, rfl, rfl⟩ hs
           refine ⟨fun w hw => hw.sub (Sub.keep 2 rfl (Sub.keep 2 rfl (Sub.keep 2 rfl (Sub.keep 2 rfl (Sub.keep 2 rfl (Sub.keep 2 rfl (Sub.keep 2 rfl (Sub.keep 2 rfl (Sub.drop (Sub.drop (Sub.refl _))))))))))), (D.either hwf (e1 := 8) (e2 := 9) rfl ?_ ?_)⟩
           ·refine ⟨_, _, rfl, rfl, fun _ _ => wanted_none rfl _, Ef.append (xs := (([] : List B3) ++ (r2[kq1]'e91).1.2)) (ys := (r2[kq2]'e92).1.2) 1 rfl Tryz.underlying24 inf69 rfl rfl rfl rfl rfl rfl hq2S1 (fun w hw => ((Ld.tt 6 6 (by exact rfl) (by exact rfl)) w hw).ro kq2 e92) (by simp only [List.length_append, List.length_cons, List.length_nil] at *; omega) (by decide), rfl, rfl, ?_⟩
            rintro _ _ ⟨A3, k2, rfl, rfl, hA3⟩ hs
            replace hA3 := hA3 (.inl hA2)
            refine ⟨fun w hw => hw.sub (Sub.keep 2 rfl (Sub.keep 2 rfl (Sub.keep 2 rfl (Sub.keep 2 rfl (Sub.keep 2 rfl (Sub.keep 2 rfl (Sub.keep 2 rfl (Sub.keep 2 rfl (Sub.drop (Sub.drop (Sub.refl _))))))))))), (D.f hwf 9 rfl (Ef.build B3C ([] : List B3) rfl Tryz.underlying24 inf69 rfl rfl rfl (by first | decide | (simp; done)) (by kernel_rfl)) ?_)⟩
            rintro _ _ ⟨A4, hA4, rfl, rfl⟩ hs
            refine ⟨fun w hw => hw.sub (Sub.keep 3 rfl (Sub.keep 3 rfl (Sub.keep 3 rfl (Sub.keep 3 rfl (Sub.keep 3 rfl (Sub.keep 3 rfl (Sub.keep 3 rfl (Sub.keep 3 rfl (Sub.drop (Sub.drop (Sub.drop (Sub.refl _)))))))))))), (D.f hwf 12 rfl (Ef.append (xs := ([] : List B3)) (ys := (r2[kq1]'e91).2.2) 0 rfl Tryz.underlying24 inf69 rfl rfl rfl rfl rfl rfl hq1S2 (fun w hw => ((Ld.tt 7 7 (by exact rfl) (by exact rfl)) w hw).ri kq1 e91) (by simp only [List.length_append, List.length_cons, List.length_nil] at *; omega) (by decide)) ?_)⟩
            rintro _ _ ⟨A5, k3, rfl, rfl, hA5⟩ hs
            replace hA5 := hA5 (.inl hA4)
            refine ⟨fun w hw => hw.sub (Sub.keep 3 rfl (Sub.keep 3 rfl (Sub.keep 3 rfl (Sub.keep 3 rfl (Sub.keep 3 rfl (Sub.keep 3 rfl (Sub.keep 3 rfl (Sub.keep 3 rfl (Sub.drop (Sub.drop (Sub.drop (Sub.refl _)))))))))))), (D.f hwf 15 rfl (Ef.append (xs := (([] : List B3) ++ (r2[kq1]'e91).2.2)) (ys := (r2[kq2]'e92).2.2) 0 rfl Tryz.underlying24 inf69 rfl rfl rfl rfl rfl rfl hq2S2 (fun w hw => ((Ld.tt 7 7 (by exact rfl) (by exact rfl)) w hw).ri kq2 e92) (by simp only [List.length_append, List.length_cons, List.length_nil] at *; omega) (by decide)) ?_)⟩
            rintro _ _ ⟨A6, k4, rfl, rfl, hA6⟩ hs
            replace hA6 := hA6 (.inl hA5)
            refine ⟨fun w hw => hw.sub (Sub.keep 3 rfl (Sub.keep 3 rfl (Sub.keep 3 rfl (Sub.keep 3 rfl (Sub.keep 3 rfl (Sub.keep 3 rfl (Sub.keep 3 rfl (Sub.keep 3 rfl (Sub.drop (Sub.drop (Sub.drop (Sub.refl _)))))))))))), (D.f hwf 16 rfl (Ef.call1 call54 rfl rfl (fun w hw => l04Made_ok  pv1 ((([] : List B3) ++ (r2[kq1]'e91).1.2) ++ (r2[kq2]'e92).1.2) ((([] : List B3) ++ (r2[kq1]'e91).2.2) ++ (r2[kq2]'e92).2.2) _ _ _ _ w ((Ld.own 2 (by exact rfl)) w hw) ((Ld.own 0 (by exact rfl)) w hw) (by simp only [List.length_append, List.length_nil]; omega) (by simp only [List.length_append, List.length_nil]; omega) (by simp only [List.length_append, List.length_nil]; omega) (by simp only [List.length_append, List.length_nil]; omega))) ?_)⟩
            rintro _ _ rfl hs
            refine ⟨fun w hw => hs w hw.tail, (D.exi (fun o2A => D.exi (fun o2c => D.exi (fun o2 => D.exi (fun i2A => D.exi (fun i2c => D.exi (fun i2 => D.sep (D.pur1 ?_))))))))⟩
            rintro ⟨rfl, ho2_1, ho2_2⟩
            refine D.sep ?_
            have hlm1 := ho2_1.1.length_eq
            have hlm2 := ho2_2.1.length_eq
            simp only [List.length_append, List.length_nil] at hlm1 hlm2
            refine D.f hwf 18 rfl (Ef.storeAll 3 rfl sz28 rfl rfl rfl rfl (by simp [Value.oneCell']) rfl) ?_
            rintro _ _ rfl hs
            exact ⟨fun w hw => hw.sub (Sub.keep 5 rfl (Sub.keep 5 rfl (Sub.keep 5 rfl (Sub.keep 5 rfl (Sub.keep 5 rfl (Sub.keep 5 rfl (Sub.keep 5 rfl (Sub.keep 5 rfl (Sub.drop (Sub.drop (Sub.drop (Sub.drop (Sub.drop (Sub.refl _)))))))))))))), (D.done hwf rfl (X.cutE (b5, o2A, o2c, o2, i2A, i2c, i2) (by (try dsimp only); exact ⟨by omega, by omega⟩) (Ent.cons rfl (Ent.nil _)) (Ent.cons (t := 0) rfl (Ent.cons (t := 2) rfl (Ent.cons (t := 3) rfl (Ent.nil _)))) (Sub.keep 3 rfl (Sub.k (Sub.k (Sub.keep 2 rfl (Sub.keep 2 rfl (Sub.keep 2 rfl (Sub.keep 2 rfl (Sub.keep 2 rfl (Sub.keep 2 rfl (Sub.keep 2 rfl (Sub.keep 2 rfl (Sub.drop (Sub.drop (Sub.refl _))))))))))))))))⟩
           ·refine ⟨_, _, rfl, rfl, fun _ _ => wanted_none rfl _, Ef.build B3C ([] : List B3) rfl Tryz.underlying24 inf69 rfl rfl rfl (by first | decide | (simp; done)) (by kernel_rfl), rfl, rfl, ?_⟩
            rintro _ _ ⟨A3, hA3, rfl, rfl⟩ hs
            refine ⟨fun w hw => hw.sub (Sub.keep 3 rfl (Sub.keep 3 rfl (Sub.keep 3 rfl (Sub.keep 3 rfl (Sub.keep 3 rfl (Sub.keep 3 rfl (Sub.keep 3 rfl (Sub.keep 3 rfl (Sub.drop (Sub.drop (Sub.drop (Sub.refl _)))))))))))), (D.f hwf 8 rfl (Ef.append (xs := (([] : List B3) ++ (r2[kq1]'e91).1.2)) (ys := (r2[kq2]'e92).1.2) 2 rfl Tryz.underlying24 inf69 rfl rfl rfl rfl rfl rfl hq2S1 (fun w hw => ((Ld.tt 7 7 (by exact rfl) (by exact rfl)) w hw).ro kq2 e92) (by simp only [List.length_append, List.length_cons, List.length_nil] at *; omega) (by decide)) ?_)⟩
            rintro _ _ ⟨A4, k2, rfl, rfl, hA4⟩ hs
            replace hA4 := hA4 (.inl hA2)
            refine ⟨fun w hw => hw.sub (Sub.keep 3 rfl (Sub.keep 3 rfl (Sub.keep 3 rfl (Sub.keep 3 rfl (Sub.keep 3 rfl (Sub.keep 3 rfl (Sub.keep 3 rfl (Sub.keep 3 rfl (Sub.drop (Sub.drop (Sub.drop (Sub.refl _)))))))))))), (D.f hwf 12 rfl (Ef.append (xs := ([] : List B3)) (ys := (r2[kq1]'e91).2.2) 0 rfl Tryz.underlying24 inf69 rfl rfl rfl rfl rfl rfl hq1S2 (fun w hw => ((Ld.tt 7 7 (by exact rfl) (by exact rfl)) w hw).ri kq1 e91) (by simp only [List.length_append, List.length_cons, List.length_nil] at *; omega) (by decide)) ?_)⟩
            rintro _ _ ⟨A5, k3, rfl, rfl, hA5⟩ hs
            replace hA5 := hA5 (.inl hA3)
            refine ⟨fun w hw => hw.sub (Sub.keep 3 rfl (Sub.keep 3 rfl (Sub.keep 3 rfl (Sub.keep 3 rfl (Sub.keep 3 rfl (Sub.keep 3 rfl (Sub.keep 3 rfl (Sub.keep 3 rfl (Sub.drop (Sub.drop (Sub.drop (Sub.refl _)))))))))))), (D.f hwf 15 rfl (Ef.append (xs := (([] : List B3) ++ (r2[kq1]'e91).2.2)) (ys := (r2[kq2]'e92).2.2) 0 rfl Tryz.underlying24 inf69 rfl rfl rfl rfl rfl rfl hq2S2 (fun w hw => ((Ld.tt 7 7 (by exact rfl) (by exact rfl)) w hw).ri kq2 e92) (by simp only [List.length_append, List.length_cons, List.length_nil] at *; omega) (by decide)) ?_)⟩
            rintro _ _ ⟨A6, k4, rfl, rfl, hA6⟩ hs
            replace hA6 := hA6 (.inl hA5)
            refine ⟨fun w hw => hw.sub (Sub.keep 3 rfl (Sub.keep 3 rfl (Sub.keep 3 rfl (Sub.keep 3 rfl (Sub.keep 3 rfl (Sub.keep 3 rfl (Sub.keep 3 rfl (Sub.keep 3 rfl (Sub.drop (Sub.drop (Sub.drop (Sub.refl _)))))))))))), (D.f hwf 16 rfl (Ef.call1 call54 rfl rfl (fun w hw => l04Made_ok  pv1 ((([] : List B3) ++ (r2[kq1]'e91).1.2) ++ (r2[kq2]'e92).1.2) ((([] : List B3) ++ (r2[kq1]'e91).2.2) ++ (r2[kq2]'e92).2.2) _ _ _ _ w ((Ld.own 2 (by exact rfl)) w hw) ((Ld.own 0 (by exact rfl)) w hw) (by simp only [List.length_append, List.length_nil]; omega) (by simp only [List.length_append, List.length_nil]; omega) (by simp only [List.length_append, List.length_nil]; omega) (by simp only [List.length_append, List.length_nil]; omega))) ?_)⟩
            rintro _ _ rfl hs
            refine ⟨fun w hw => hs w hw.tail, (D.exi (fun o2A => D.exi (fun o2c => D.exi (fun o2 => D.exi (fun i2A => D.exi (fun i2c => D.exi (fun i2 => D.sep (D.pur1 ?_))))))))⟩
            rintro ⟨rfl, ho2_1, ho2_2⟩
            refine D.sep ?_
            have hlm1 := ho2_1.1.length_eq
            have hlm2 := ho2_2.1.length_eq
            simp only [List.length_append, List.length_nil] at hlm1 hlm2
            refine D.f hwf 18 rfl (Ef.storeAll 3 rfl sz28 rfl rfl rfl rfl (by simp [Value.oneCell']) rfl) ?_
            rintro _ _ rfl hs
            exact ⟨fun w hw => hw.sub (Sub.keep 5 rfl (Sub.keep 5 rfl (Sub.keep 5 rfl (Sub.keep 5 rfl (Sub.keep 5 rfl (Sub.keep 5 rfl (Sub.keep 5 rfl (Sub.keep 5 rfl (Sub.drop (Sub.drop (Sub.drop (Sub.drop (Sub.drop (Sub.refl _)))))))))))))), (D.done hwf rfl (X.cutE (b5, o2A, o2c, o2, i2A, i2c, i2) (by (try dsimp only); exact ⟨by omega, by omega⟩) (Ent.cons rfl (Ent.nil _)) (Ent.cons (t := 0) rfl (Ent.cons (t := 2) rfl (Ent.cons (t := 3) rfl (Ent.nil _)))) (Sub.keep 3 rfl (Sub.k (Sub.k (Sub.keep 2 rfl (Sub.keep 2 rfl (Sub.keep 2 rfl (Sub.keep 2 rfl (Sub.keep 2 rfl (Sub.keep 2 rfl (Sub.keep 2 rfl (Sub.keep 2 rfl (Sub.drop (Sub.drop (Sub.refl _))))))))))))))))⟩
         ·refine ⟨_, _, rfl, rfl, fun _ _ => wanted_none rfl _, Ef.build B3C ([] : List B3) rfl Tryz.underlying24 inf69 rfl rfl rfl (by first | decide | (simp; done)) (by kernel_rfl), rfl, rfl, ?_⟩
          rintro _ _ ⟨A2, hA2, rfl, rfl⟩ hs
          refine ⟨fun w hw => hw.sub (Sub.keep 2 rfl (Sub.keep 2 rfl (Sub.keep 2 rfl (Sub.keep 2 rfl (Sub.keep 2 rfl (Sub.keep 2 rfl (Sub.keep 2 rfl (Sub.keep 2 rfl (Sub.drop (Sub.drop (Sub.refl _))))))))))), (D.either hwf (e1 := 5) (e2 := 17) rfl ?_ ?_)⟩
          ·refine ⟨_, _, rfl, rfl, fun _ _ => wanted_none rfl _, Ef.append (xs := ([] : List B3)) (ys := (r2[kq1]'e91).1.2) 1 rfl Tryz.underlying24 inf69 rfl rfl rfl rfl rfl rfl hq1S1 (fun w hw => ((Ld.tt 6 6 (by exact rfl) (by exact rfl)) w hw).ro kq1 e91) (by simp only [List.length_append, List.length_cons, List.length_nil] at *; omega) (by decide), rfl, rfl, ?_⟩
           rintro _ _ ⟨A3, k1, rfl, rfl, hA3⟩ hs
           replace hA3 := hA3 (.inl hA1)
           refine ⟨fun w hw => hw.sub (Sub.keep 2 rfl (Sub.keep 2 rfl (Sub.keep 2 rfl (Sub.keep 2 rfl (Sub.keep 2 rfl (Sub.keep 2 rfl (Sub.keep 2 rfl (Sub.keep 2 rfl (Sub.drop (Sub.drop (Sub.refl _))))))))))), (D.either hwf (e1 := 8) (e2 := 17) rfl ?_ ?_)⟩
           ·refine ⟨_, _, rfl, rfl, fun _ _ => wanted_none rfl _, Ef.append (xs := (([] : List B3) ++ (r2[kq1]'e91).1.2)) (ys := (r2[kq2]'e92).1.2) 1 rfl Tryz.underlying24 inf69 rfl rfl rfl rfl rfl rfl hq2S1 (fun w hw => ((Ld.tt 6 6 (by exact rfl) (by exact rfl)) w hw).ro kq2 e92) (by simp only [List.length_append, List.length_cons, List.length_nil] at *; omega) (by decide), rfl, rfl, ?_⟩
            rintro _ _ ⟨A4, k2, rfl, rfl, hA4⟩ hs
            replace hA4 := hA4 (.inl hA3)
            refine ⟨fun w hw => hw.sub (Sub.keep 2 rfl (Sub.keep 2 rfl (Sub.keep 2 rfl (Sub.keep 2 rfl (Sub.keep 2 rfl (Sub.keep 2 rfl (Sub.keep 2 rfl (Sub.keep 2 rfl (Sub.drop (Sub.drop (Sub.refl _))))))))))), (D.either hwf (e1 := 12) (e2 := 17) rfl ?_ ?_)⟩
            ·refine ⟨_, _, rfl, rfl, fun _ _ => wanted_none rfl _, Ef.append (xs := ([] : List B3)) (ys := (r2[kq1]'e91).2.2) 0 rfl Tryz.underlying24 inf69 rfl rfl rfl rfl rfl rfl hq1S2 (fun w hw => ((Ld.tt 6 6 (by exact rfl) (by exact rfl)) w hw).ri kq1 e91) (by simp only [List.length_append, List.length_cons, List.length_nil] at *; omega) (by decide), rfl, rfl, ?_⟩
             rintro _ _ ⟨A5, k3, rfl, rfl, hA5⟩ hs
             replace hA5 := hA5 (.inl hA2)
             refine ⟨fun w hw => hw.sub (Sub.keep 2 rfl (Sub.keep 2 rfl (Sub.keep 2 rfl (Sub.keep 2 rfl (Sub.keep 2 rfl (Sub.keep 2 rfl (Sub.keep 2 rfl (Sub.keep 2 rfl (Sub.drop (Sub.drop (Sub.refl _))))))))))), (D.either hwf (e1 := 15) (e2 := 17) rfl ?_ ?_)⟩
             ·refine ⟨_, _, rfl, rfl, fun _ _ => wanted_none rfl _, Ef.append (xs := (([] : List B3) ++ (r2[kq1]'e91).2.2)) (ys := (r2[kq2]'e92).2.2) 0 rfl Tryz.underlying24 inf69 rfl rfl rfl rfl rfl rfl hq2S2 (fun w hw => ((Ld.tt 6 6 (by exact rfl) (by exact rfl)) w hw).ri kq2 e92) (by simp only [List.length_append, List.length_cons, List.length_nil] at *; omega) (by decide), rfl, rfl, ?_⟩
              rintro _ _ ⟨A6, k4, rfl, rfl, hA6⟩ hs
              replace hA6 := hA6 (.inl hA5)
              refine ⟨fun w hw => hw.sub (Sub.keep 2 rfl (Sub.keep 2 rfl (Sub.keep 2 rfl (Sub.keep 2 rfl (Sub.keep 2 rfl (Sub.keep 2 rfl (Sub.keep 2 rfl (Sub.keep 2 rfl (Sub.drop (Sub.drop (Sub.refl _))))))))))), (D.either hwf (e1 := 16) (e2 := 17) rfl ?_ ?_)⟩
              ·refine ⟨_, _, rfl, rfl, fun _ _ => wanted_none rfl _, Ef.call1 call54 rfl rfl (fun w hw => l04Made_ok  pv1 ((([] : List B3) ++ (r2[kq1]'e91).1.2) ++ (r2[kq2]'e92).1.2) ((([] : List B3) ++ (r2[kq1]'e91).2.2) ++ (r2[kq2]'e92).2.2) _ _ _ _ w ((Ld.own 1 (by exact rfl)) w hw) ((Ld.own 0 (by exact rfl)) w hw) (by simp only [List.length_append, List.length_nil]; omega) (by simp only [List.length_append, List.length_nil]; omega) (by simp only [List.length_append, List.length_nil]; omega) (by simp only [List.length_append, List.length_nil]; omega)), rfl, rfl, ?_⟩
               rintro _ _ rfl hs
               refine ⟨fun w hw => hs w hw.tail, (D.exi (fun o2A => D.exi (fun o2c => D.exi (fun o2 => D.exi (fun i2A => D.exi (fun i2c => D.exi (fun i2 => D.sep (D.pur1 ?_))))))))⟩
               rintro ⟨rfl, ho2_1, ho2_2⟩
               refine D.sep ?_
               have hlm1 := ho2_1.1.length_eq
               have hlm2 := ho2_2.1.length_eq
               simp only [List.length_append, List.length_nil] at hlm1 hlm2
               refine D.f hwf 17 rfl (Ef.alloc rfl zr28 rfl) ?_
               rintro _ _ ⟨b5, rfl, rfl⟩ hs
               refine ⟨fun w hw => hw.sub (Sub.keep 5 rfl (Sub.keep 5 rfl (Sub.keep 5 rfl (Sub.keep 5 rfl (Sub.keep 5 rfl (Sub.keep 5 rfl (Sub.keep 5 rfl (Sub.keep 5 rfl (Sub.drop (Sub.drop (Sub.drop (Sub.drop (Sub.drop (Sub.refl _)))))))))))))), (D.f hwf 18 rfl (Ef.storeAll 0 rfl sz28 rfl rfl rfl rfl (by simp [Value.oneCell']) rfl) ?_)⟩
               rintro _ _ rfl hs
               exact ⟨fun w hw => hw.sub (Sub.keep 5 rfl (Sub.keep 5 rfl (Sub.keep 5 rfl (Sub.keep 5 rfl (Sub.keep 5 rfl (Sub.keep 5 rfl (Sub.keep 5 rfl (Sub.keep 5 rfl (Sub.drop (Sub.drop (Sub.drop (Sub.drop (Sub.drop (Sub.refl _)))))))))))))), (D.done hwf rfl (X.cutE (b5, o2A, o2c, o2, i2A, i2c, i2) (by (try dsimp only); exact ⟨by omega, by omega⟩) (Ent.cons rfl (Ent.nil _)) (Ent.cons (t := 0) rfl (Ent.cons (t := 2) rfl (Ent.cons (t := 3) rfl (Ent.nil _)))) (Sub.k (Sub.k (Sub.k (Sub.keep 2 rfl (Sub.keep 2 rfl (Sub.keep 2 rfl (Sub.keep 2 rfl (Sub.keep 2 rfl (Sub.keep 2 rfl (Sub.keep 2 rfl (Sub.keep 2 rfl (Sub.drop (Sub.drop (Sub.refl _))))))))))))))))⟩
              ·refine ⟨_, _, rfl, rfl, fun _ _ => wanted_none rfl _, Ef.alloc rfl zr28 rfl, rfl, rfl, ?_⟩
               rintro _ _ ⟨b5, rfl, rfl⟩ hs
               refine ⟨fun w hw => hw.sub (Sub.keep 3 rfl (Sub.keep 3 rfl (Sub.keep 3 rfl (Sub.keep 3 rfl (Sub.keep 3 rfl (Sub.keep 3 rfl (Sub.keep 3 rfl (Sub.keep 3 rfl (Sub.drop (Sub.drop (Sub.drop (Sub.refl _)))))))))))), (D.f hwf 16 rfl (Ef.call1 call54 rfl rfl (fun w hw => l04Made_ok  pv1 ((([] : List B3) ++ (r2[kq1]'e91).1.2) ++ (r2[kq2]'e92).1.2) ((([] : List B3) ++ (r2[kq1]'e91).2.2) ++ (r2[kq2]'e92).2.2) _ _ _ _ w ((Ld.own 2 (by exact rfl)) w hw) ((Ld.own 1 (by exact rfl)) w hw) (by simp only [List.length_append, List.length_nil]; omega) (by simp only [List.length_append, List.length_nil]; omega) (by simp only [List.length_append, List.length_nil]; omega) (by simp only [List.length_append, List.length_nil]; omega))) ?_)⟩
               rintro _ _ rfl hs
               refine ⟨fun w hw => hs w hw.tail, (D.exi (fun o2A => D.exi (fun o2c => D.exi (fun o2 => D.exi (fun i2A => D.exi (fun i2c => D.exi (fun i2 => D.sep (D.pur1 ?_))))))))⟩
               rintro ⟨rfl, ho2_1, ho2_2⟩
               refine D.sep ?_
               have hlm1 := ho2_1.1.length_eq
               have hlm2 := ho2_2.1.length_eq
               simp only [List.length_append, List.length_nil] at hlm1 hlm2
               refine D.f hwf 18 rfl (Ef.storeAll 2 rfl sz28 rfl rfl rfl rfl (by simp [Value.oneCell']) rfl) ?_
               rintro _ _ rfl hs
               exact ⟨fun w hw => hw.sub (Sub.keep 5 rfl (Sub.keep 5 rfl (Sub.keep 5 rfl (Sub.keep 5 rfl (Sub.keep 5 rfl (Sub.keep 5 rfl (Sub.keep 5 rfl (Sub.keep 5 rfl (Sub.drop (Sub.drop (Sub.drop (Sub.drop (Sub.drop (Sub.refl _)))))))))))))), (D.done hwf rfl (X.cutE (b5, o2A, o2c, o2, i2A, i2c, i2) (by (try dsimp only); exact ⟨by omega, by omega⟩) (Ent.cons rfl (Ent.nil _)) (Ent.cons (t := 0) rfl (Ent.cons (t := 2) rfl (Ent.cons (t := 3) rfl (Ent.nil _)))) (Sub.keep 2 rfl (Sub.k (Sub.k (Sub.keep 2 rfl (Sub.keep 2 rfl (Sub.keep 2 rfl (Sub.keep 2 rfl (Sub.keep 2 rfl (Sub.keep 2 rfl (Sub.keep 2 rfl (Sub.keep 2 rfl (Sub.drop (Sub.drop (Sub.refl _))))))))))))))))⟩
             ·refine ⟨_, _, rfl, rfl, fun _ _ => wanted_none rfl _, Ef.alloc rfl zr28 rfl, rfl, rfl, ?_⟩
              rintro _ _ ⟨b5, rfl, rfl⟩ hs
              refine ⟨fun w hw => hw.sub (Sub.keep 3 rfl (Sub.keep 3 rfl (Sub.keep 3 rfl (Sub.keep 3 rfl (Sub.keep 3 rfl (Sub.keep 3 rfl (Sub.keep 3 rfl (Sub.keep 3 rfl (Sub.drop (Sub.drop (Sub.drop (Sub.refl _)))))))))))), (D.f hwf 15 rfl (Ef.append (xs := (([] : List B3) ++ (r2[kq1]'e91).2.2)) (ys := (r2[kq2]'e92).2.2) 1 rfl Tryz.underlying24 inf69 rfl rfl rfl rfl rfl rfl hq2S2 (fun w hw => ((Ld.tt 7 7 (by exact rfl) (by exact rfl)) w hw).ri kq2 e92) (by simp only [List.length_append, List.length_cons, List.length_nil] at *; omega) (by decide)) ?_)⟩
              rintro _ _ ⟨A6, k4, rfl, rfl, hA6⟩ hs
              replace hA6 := hA6 (.inl hA5)
              refine ⟨fun w hw => hw.sub (Sub.keep 3 rfl (Sub.keep 3 rfl (Sub.keep 3 rfl (Sub.keep 3 rfl (Sub.keep 3 rfl (Sub.keep 3 rfl (Sub.keep 3 rfl (Sub.keep 3 rfl (Sub.drop (Sub.drop (Sub.drop (Sub.refl _)))))))))))), (D.f hwf 16 rfl (Ef.call1 call54 rfl rfl (fun w hw => l04Made_ok  pv1 ((([] : List B3) ++ (r2[kq1]'e91).1.2) ++ (r2[kq2]'e92).1.2) ((([] : List B3) ++ (r2[kq1]'e91).2.2) ++ (r2[kq2]'e92).2.2) _ _ _ _ w ((Ld.own 2 (by exact rfl)) w hw) ((Ld.own 1 (by exact rfl)) w hw) (by simp only [List.length_append, List.length_nil]; omega) (by simp only [List.length_append, List.length_nil]; omega) (by simp only [List.length_append, List.length_nil]; omega) (by simp only [List.length_append, List.length_nil]; omega))) ?_)⟩
              rintro _ _ rfl hs
              refine ⟨fun w hw => hs w hw.tail, (D.exi (fun o2A => D.exi (fun o2c => D.exi (fun o2 => D.exi (fun i2A => D.exi (fun i2c => D.exi (fun i2 => D.sep (D.pur1 ?_))))))))⟩
              rintro ⟨rfl, ho2_1, ho2_2⟩
              refine D.sep ?_
              have hlm1 := ho2_1.1.length_eq
              have hlm2 := ho2_2.1.length_eq
              simp only [List.length_append, List.length_nil] at hlm1 hlm2
              refine D.f hwf 18 rfl (Ef.storeAll 2 rfl sz28 rfl rfl rfl rfl (by simp [Value.oneCell']) rfl) ?_
              rintro _ _ rfl hs
              exact ⟨fun w hw => hw.sub (Sub.keep 5 rfl (Sub.keep 5 rfl (Sub.keep 5 rfl (Sub.keep 5 rfl (Sub.keep 5 rfl (Sub.keep 5 rfl (Sub.keep 5 rfl (Sub.keep 5 rfl (Sub.drop (Sub.drop (Sub.drop (Sub.drop (Sub.drop (Sub.refl _)))))))))))))), (D.done hwf rfl (X.cutE (b5, o2A, o2c, o2, i2A, i2c, i2) (by (try dsimp only); exact ⟨by omega, by omega⟩) (Ent.cons rfl (Ent.nil _)) (Ent.cons (t := 0) rfl (Ent.cons (t := 2) rfl (Ent.cons (t := 3) rfl (Ent.nil _)))) (Sub.keep 2 rfl (Sub.k (Sub.k (Sub.keep 2 rfl (Sub.keep 2 rfl (Sub.keep 2 rfl (Sub.keep 2 rfl (Sub.keep 2 rfl (Sub.keep 2 rfl (Sub.keep 2 rfl (Sub.keep 2 rfl (Sub.drop (Sub.drop (Sub.refl _))))))))))))))))⟩
            ·refine ⟨_, _, rfl, rfl, fun _ _ => wanted_none rfl _, Ef.alloc rfl zr28 rfl, rfl, rfl, ?_⟩
             rintro _ _ ⟨b5, rfl, rfl⟩ hs
             refine ⟨fun w hw => hw.sub (Sub.keep 3 rfl (Sub.keep 3 rfl (Sub.keep 3 rfl (Sub.keep 3 rfl (Sub.keep 3 rfl (Sub.keep 3 rfl (Sub.keep 3 rfl (Sub.keep 3 rfl (Sub.drop (Sub.drop (Sub.drop (Sub.refl _)))))))))))), (D.f hwf 12 rfl (Ef.append (xs := ([] : List B3)) (ys := (r2[kq1]'e91).2.2) 1 rfl Tryz.underlying24 inf69 rfl rfl rfl rfl rfl rfl hq1S2 (fun w hw => ((Ld.tt 7 7 (by exact rfl) (by exact rfl)) w hw).ri kq1 e91) (by simp only [List.length_append, List.length_cons, List.length_nil] at *; omega) (by decide)) ?_)⟩
             rintro _ _ ⟨A5, k3, rfl, rfl, hA5⟩ hs
             replace hA5 := hA5 (.inl hA2)
             refine ⟨fun w hw => hw.sub (Sub.keep 3 rfl (Sub.keep 3 rfl (Sub.keep 3 rfl (Sub.keep 3 rfl (Sub.keep 3 rfl (Sub.keep 3 rfl (Sub.keep 3 rfl (Sub.keep 3 rfl (Sub.drop (Sub.drop (Sub.drop (Sub.refl _)))))))))))), (D.f hwf 15 rfl (Ef.append (xs := (([] : List B3) ++ (r2[kq1]'e91).2.2)) (ys := (r2[kq2]'e92).2.2) 1 rfl Tryz.underlying24 inf69 rfl rfl rfl rfl rfl rfl hq2S2 (fun w hw => ((Ld.tt 7 7 (by exact rfl) (by exact rfl)) w hw).ri kq2 e92) (by simp only [List.length_append, List.length_cons, List.length_nil] at *; omega) (by decide)) ?_)⟩
             rintro _ _ ⟨A6, k4, rfl, rfl, hA6⟩ hs
             replace hA6 := hA6 (.inl hA5)
             refine ⟨fun w hw => hw.sub (Sub.keep 3 rfl (Sub.keep 3 rfl (Sub.keep 3 rfl (Sub.keep 3 rfl (Sub.keep 3 rfl (Sub.keep 3 rfl (Sub.keep 3 rfl (Sub.keep 3 rfl (Sub.drop (Sub.drop (Sub.drop (Sub.refl _)))))))))))), (D.f hwf 16 rfl (Ef.call1 call54 rfl rfl (fun w hw => l04Made_ok  pv1 ((([] : List B3) ++ (r2[kq1]'e91).1.2) ++ (r2[kq2]'e92).1.2) ((([] : List B3) ++ (r2[kq1]'e91).2.2) ++ (r2[kq2]'e92).2.2) _ _ _ _ w ((Ld.own 2 (by exact rfl)) w hw) ((Ld.own 1 (by exact rfl)) w hw) (by simp only [List.length_append, List.length_nil]; omega) (by simp only [List.length_append, List.length_nil]; omega) (by simp only [List.length_append, List.length_nil]; omega) (by simp only [List.length_append, List.length_nil]; omega))) ?_)⟩
             rintro _ _ rfl hs
             refine ⟨fun w hw => hs w hw.tail, (D.exi (fun o2A => D.exi (fun o2c => D.exi (fun o2 => D.exi (fun i2A => D.exi (fun i2c => D.exi (fun i2 => D.sep (D.pur1 ?_))))))))⟩
             rintro ⟨rfl, ho2_1, ho2_2⟩
             refine D.sep ?_
             have hlm1 := ho2_1.1.length_eq
             have hlm2 := ho2_2.1.length_eq
             simp only [List.length_append, List.length_nil] at hlm1 hlm2
             refine D.f hwf 18 rfl (Ef.storeAll 2 rfl sz28 rfl rfl rfl rfl (by simp [Value.oneCell']) rfl) ?_
             rintro _ _ rfl hs
             exact ⟨fun w hw => hw.sub (Sub.keep 5 rfl (Sub.keep 5 rfl (Sub.keep 5 rfl (Sub.keep 5 rfl (Sub.keep 5 rfl (Sub.keep 5 rfl (Sub.keep 5 rfl (Sub.keep 5 rfl (Sub.drop (Sub.drop (Sub.drop (Sub.drop (Sub.drop (Sub.refl _)))))))))))))), (D.done hwf rfl (X.cutE (b5, o2A, o2c, o2, i2A, i2c, i2) (by (try dsimp only); exact ⟨by omega, by omega⟩) (Ent.cons rfl (Ent.nil _)) (Ent.cons (t := 0) rfl (Ent.cons (t := 2) rfl (Ent.cons (t := 3) rfl (Ent.nil _)))) (Sub.keep 2 rfl (Sub.k (Sub.k (Sub.keep 2 rfl (Sub.keep 2 rfl (Sub.keep 2 rfl (Sub.keep 2 rfl (Sub.keep 2 rfl (Sub.keep 2 rfl (Sub.keep 2 rfl (Sub.keep 2 rfl (Sub.drop (Sub.drop (Sub.refl _))))))))))))))))⟩
           ·refine ⟨_, _, rfl, rfl, fun _ _ => wanted_none rfl _, Ef.alloc rfl zr28 rfl, rfl, rfl, ?_⟩
            rintro _ _ ⟨b5, rfl, rfl⟩ hs
            refine ⟨fun w hw => hw.sub (Sub.keep 3 rfl (Sub.keep 3 rfl (Sub.keep 3 rfl (Sub.keep 3 rfl (Sub.keep 3 rfl (Sub.keep 3 rfl (Sub.keep 3 rfl (Sub.keep 3 rfl (Sub.drop (Sub.drop (Sub.drop (Sub.refl _)))))))))))), (D.f hwf 8 rfl (Ef.append (xs := (([] : List B3) ++ (r2[kq1]'e91).1.2)) (ys := (r2[kq2]'e92).1.2) 2 rfl Tryz.underlying24 inf69 rfl rfl rfl rfl rfl rfl hq2S1 (fun w hw => ((Ld.tt 7 7 (by exact rfl) (by exact rfl)) w hw).ro kq2 e92) (by simp only [List.length_append, List.length_cons, List.length_nil] at *; omega) (by decide)) ?_)⟩
            rintro _ _ ⟨A4, k2, rfl, rfl, hA4⟩ hs
            replace hA4 := hA4 (.inl hA3)
            refine ⟨fun w hw => hw.sub (Sub.keep 3 rfl (Sub.keep 3 rfl (Sub.keep 3 rfl (Sub.keep 3 rfl (Sub.keep 3 rfl (Sub.keep 3 rfl (Sub.keep 3 rfl (Sub.keep 3 rfl (Sub.drop (Sub.drop (Sub.drop (Sub.refl _)))))))))))), (D.f hwf 12 rfl (Ef.append (xs := ([] : List B3)) (ys := (r2[kq1]'e91).2.2) 1 rfl Tryz.underlying24 inf69 rfl rfl rfl rfl rfl rfl hq1S2 (fun w hw => ((Ld.tt 7 7 (by exact rfl) (by exact rfl)) w hw).ri kq1 e91) (by simp only [List.length_append, List.length_cons, List.length_nil] at *; omega) (by decide)) ?_)⟩
            rintro _ _ ⟨A5, k3, rfl, rfl, hA5⟩ hs
            replace hA5 := hA5 (.inl hA2)
            refine ⟨fun w hw => hw.sub (Sub.keep 3 rfl (Sub.keep 3 rfl (Sub.keep 3 rfl (Sub.keep 3 rfl (Sub.keep 3 rfl (Sub.keep 3 rfl (Sub.keep 3 rfl (Sub.keep 3 rfl (Sub.drop (Sub.drop (Sub.drop (Sub.refl _)))))))))))), (D.f hwf 15 rfl (Ef.append (xs := (([] : List B3) ++ (r2[kq1]'e91).2.2)) (ys := (r2[kq2]'e92).2.2) 1 rfl Tryz.underlying24 inf69 rfl rfl rfl rfl rfl rfl hq2S2 (fun w hw => ((Ld.tt 7 7 (by exact rfl) (by exact rfl)) w hw).ri kq2 e92) (by simp only [List.length_append, List.length_cons, List.length_nil] at *; omega) (by decide)) ?_)⟩
            rintro _ _ ⟨A6, k4, rfl, rfl, hA6⟩ hs
            replace hA6 := hA6 (.inl hA5)
            refine ⟨fun w hw => hw.sub (Sub.keep 3 rfl (Sub.keep 3 rfl (Sub.keep 3 rfl (Sub.keep 3 rfl (Sub.keep 3 rfl (Sub.keep 3 rfl (Sub.keep 3 rfl (Sub.keep 3 rfl (Sub.drop (Sub.drop (Sub.drop (Sub.refl _)))))))))))), (D.f hwf 16 rfl (Ef.call1 call54 rfl rfl (fun w hw => l04Made_ok  pv1 ((([] : List B3) ++ (r2[kq1]'e91).1.2) ++ (r2[kq2]'e92).1.2) ((([] : List B3) ++ (r2[kq1]'e91).2.2) ++ (r2[kq2]'e92).2.2) _ _ _ _ w ((Ld.own 2 (by exact rfl)) w hw) ((Ld.own 1 (by exact rfl)) w hw) (by simp only [List.length_append, List.length_nil]; omega) (by simp only [List.length_append, List.length_nil]; omega) (by simp only [List.length_append, List.length_nil]; omega) (by simp only [List.length_append, List.length_nil]; omega))) ?_)⟩
            rintro _ _ rfl hs
            refine ⟨fun w hw => hs w hw.tail, (D.exi (fun o2A => D.exi (fun o2c => D.exi (fun o2 => D.exi (fun i2A => D.exi (fun i2c => D.exi (fun i2 => D.sep (D.pur1 ?_))))))))⟩
            rintro ⟨rfl, ho2_1, ho2_2⟩
            refine D.sep ?_
            have hlm1 := ho2_1.1.length_eq
            have hlm2 := ho2_2.1.length_eq
            simp only [List.length_append, List.length_nil] at hlm1 hlm2
            refine D.f hwf 18 rfl (Ef.storeAll 2 rfl sz28 rfl rfl rfl rfl (by simp [Value.oneCell']) rfl) ?_
            rintro _ _ rfl hs
            exact ⟨fun w hw => hw.sub (Sub.keep 5 rfl (Sub.keep 5 rfl (Sub.keep 5 rfl (Sub.keep 5 rfl (Sub.keep 5 rfl (Sub.keep 5 rfl (Sub.keep 5 rfl (Sub.keep 5 rfl (Sub.drop (Sub.drop (Sub.drop (Sub.drop (Sub.drop (Sub.refl _)))))))))))))), (D.done hwf rfl (X.cutE (b5, o2A, o2c, o2, i2A, i2c, i2) (by (try dsimp only); exact ⟨by omega, by omega⟩) (Ent.cons rfl (Ent.nil _)) (Ent.cons (t := 0) rfl (Ent.cons (t := 2) rfl (Ent.cons (t := 3) rfl (Ent.nil _)))) (Sub.keep 2 rfl (Sub.k (Sub.k (Sub.keep 2 rfl (Sub.keep 2 rfl (Sub.keep 2 rfl (Sub.keep 2 rfl (Sub.keep 2 rfl (Sub.keep 2 rfl (Sub.keep 2 rfl (Sub.keep 2 rfl (Sub.drop (Sub.drop (Sub.refl _))))))))))))))))⟩
          ·refine ⟨_, _, rfl, rfl, fun _ _ => wanted_none rfl _, Ef.alloc rfl zr28 rfl, rfl, rfl, ?_⟩
           rintro _ _ ⟨b5, rfl, rfl⟩ hs
           refine ⟨fun w hw => hw.sub (Sub.keep 3 rfl (Sub.keep 3 rfl (Sub.keep 3 rfl (Sub.keep 3 rfl (Sub.keep 3 rfl (Sub.keep 3 rfl (Sub.keep 3 rfl (Sub.keep 3 rfl (Sub.drop (Sub.drop (Sub.drop (Sub.refl _)))))))))))), (D.f hwf 5 rfl (Ef.append (xs := ([] : List B3)) (ys := (r2[kq1]'e91).1.2) 2 rfl Tryz.underlying24 inf69 rfl rfl rfl rfl rfl rfl hq1S1 (fun w hw => ((Ld.tt 7 7 (by exact rfl) (by exact rfl)) w hw).ro kq1 e91) (by simp only [List.length_append, List.length_cons, List.length_nil] at *; omega) (by decide)) ?_)⟩
           rintro _ _ ⟨A3, k1, rfl, rfl, hA3⟩ hs
           replace hA3 := hA3 (.inl hA1)
           refine ⟨fun w hw => hw.sub (Sub.keep 3 rfl (Sub.keep 3 rfl (Sub.keep 3 rfl (Sub.keep 3 rfl (Sub.keep 3 rfl (Sub.keep 3 rfl (Sub.keep 3 rfl (Sub.keep 3 rfl (Sub.drop (Sub.drop (Sub.drop (Sub.refl _)))))))))))), (D.f hwf 8 rfl (Ef.append (xs := (([] : List B3) ++ (r2[kq1]'e91).1.2)) (ys := (r2[kq2]'e92).1.2) 2 rfl Tryz.underlying24 inf69 rfl rfl rfl rfl rfl rfl hq2S1 (fun w hw => ((Ld.tt 7 7 (by exact rfl) (by exact rfl)) w hw).ro kq2 e92) (by simp only [List.length_append, List.length_cons, List.length_nil] at *; omega) (by decide)) ?_)⟩
           rintro _ _ ⟨A4, k2, rfl, rfl, hA4⟩ hs
           replace hA4 := hA4 (.inl hA3)
           refine ⟨fun w hw => hw.sub (Sub.keep 3 rfl (Sub.keep 3 rfl (Sub.keep 3 rfl (Sub.keep 3 rfl (Sub.keep 3 rfl (Sub.keep 3 rfl (Sub.keep 3 rfl (Sub.keep 3 rfl (Sub.drop (Sub.drop (Sub.drop (Sub.refl _)))))))))))), (D.f hwf 12 rfl (Ef.append (xs := ([] : List B3)) (ys := (r2[kq1]'e91).2.2) 1 rfl Tryz.underlying24 inf69 rfl rfl rfl rfl rfl rfl hq1S2 (fun w hw => ((Ld.tt 7 7 (by exact rfl) (by exact rfl)) w hw).ri kq1 e91) (by simp only [List.length_append, List.length_cons, List.length_nil] at *; omega) (by decide)) ?_)⟩
           rintro _ _ ⟨A5, k3, rfl, rfl, hA5⟩ hs
           replace hA5 := hA5 (.inl hA2)
           refine ⟨fun w hw => hw.sub (Sub.keep 3 rfl (Sub.keep 3 rfl (Sub.keep 3 rfl (Sub.keep 3 rfl (Sub.keep 3 rfl (Sub.keep 3 rfl (Sub.keep 3 rfl (Sub.keep 3 rfl (Sub.drop (Sub.drop (Sub.drop (Sub.refl _)))))))))))), (D.f hwf 15 rfl (Ef.append (xs := (([] : List B3) ++ (r2[kq1]'e91).2.2)) (ys := (r2[kq2]'e92).2.2) 1 rfl Tryz.underlying24 inf69 rfl rfl rfl rfl rfl rfl hq2S2 (fun w hw => ((Ld.tt 7 7 (by exact rfl) (by exact rfl)) w hw).ri kq2 e92) (by simp only [List.length_append, List.length_cons, List.length_nil] at *; omega) (by decide)) ?_)⟩
           rintro _ _ ⟨A6, k4, rfl, rfl, hA6⟩ hs
           replace hA6 := hA6 (.inl hA5)
           refine ⟨fun w hw => hw.sub (Sub.keep 3 rfl (Sub.keep 3 rfl (Sub.keep 3 rfl (Sub.keep 3 rfl (Sub.keep 3 rfl (Sub.keep 3 rfl (Sub.keep 3 rfl (Sub.keep 3 rfl (Sub.drop (Sub.drop (Sub.drop (Sub.refl _)))))))))))), (D.f hwf 16 rfl (Ef.call1 call54 rfl rfl (fun w hw => l04Made_ok  pv1 ((([] : List B3) ++ (r2[kq1]'e91).1.2) ++ (r2[kq2]'e92).1.2) ((([] : List B3) ++ (r2[kq1]'e91).2.2) ++ (r2[kq2]'e92).2.2) _ _ _ _ w ((Ld.own 2 (by exact rfl)) w hw) ((Ld.own 1 (by exact rfl)) w hw) (by simp only [List.length_append, List.length_nil]; omega) (by simp only [List.length_append, List.length_nil]; omega) (by simp only [List.length_append, List.length_nil]; omega) (by simp only [List.length_append, List.length_nil]; omega))) ?_)⟩
           rintro _ _ rfl hs
           refine ⟨fun w hw => hs w hw.tail, (D.exi (fun o2A => D.exi (fun o2c => D.exi (fun o2 => D.exi (fun i2A => D.exi (fun i2c => D.exi (fun i2 => D.sep (D.pur1 ?_))))))))⟩
           rintro ⟨rfl, ho2_1, ho2_2⟩
           refine D.sep ?_
           have hlm1 := ho2_1.1.length_eq
           have hlm2 := ho2_2.1.length_eq
           simp only [List.length_append, List.length_nil] at hlm1 hlm2
           refine D.f hwf 18 rfl (Ef.storeAll 2 rfl sz28 rfl rfl rfl rfl (by simp [Value.oneCell']) rfl) ?_
           rintro _ _ rfl hs
           exact ⟨fun w hw => hw.sub (Sub.keep 5 rfl (Sub.keep 5 rfl (Sub.keep 5 rfl (Sub.keep 5 rfl (Sub.keep 5 rfl (Sub.keep 5 rfl (Sub.keep 5 rfl (Sub.keep 5 rfl (Sub.drop (Sub.drop (Sub.drop (Sub.drop (Sub.drop (Sub.refl _)))))))))))))), (D.done hwf rfl (X.cutE (b5, o2A, o2c, o2, i2A, i2c, i2) (by (try dsimp only); exact ⟨by omega, by omega⟩) (Ent.cons rfl (Ent.nil _)) (Ent.cons (t := 0) rfl (Ent.cons (t := 2) rfl (Ent.cons (t := 3) rfl (Ent.nil _)))) (Sub.keep 2 rfl (Sub.k (Sub.k (Sub.keep 2 rfl (Sub.keep 2 rfl (Sub.keep 2 rfl (Sub.keep 2 rfl (Sub.keep 2 rfl (Sub.keep 2 rfl (Sub.keep 2 rfl (Sub.keep 2 rfl (Sub.drop (Sub.drop (Sub.refl _))))))))))))))))⟩
         ·refine ⟨_, _, rfl, rfl, fun _ _ => wanted_none rfl _, Ef.alloc rfl zr28 rfl, rfl, rfl, ?_⟩
          rintro _ _ ⟨b5, rfl, rfl⟩ hs
          refine ⟨fun w hw => hw.sub (Sub.keep 2 rfl (Sub.keep 2 rfl (Sub.keep 2 rfl (Sub.keep 2 rfl (Sub.keep 2 rfl (Sub.keep 2 rfl (Sub.keep 2 rfl (Sub.keep 2 rfl (Sub.drop (Sub.drop (Sub.refl _))))))))))), (D.either hwf (e1 := 5) (e2 := 9) rfl ?_ ?_)⟩
          ·refine ⟨_, _, rfl, rfl, fun _ _ => wanted_none rfl _, Ef.append (xs := ([] : List B3)) (ys := (r2[kq1]'e91).1.2) 1 rfl Tryz.underlying24 inf69 rfl rfl rfl rfl rfl rfl hq1S1 (fun w hw => ((Ld.tt 6 6 (by exact rfl) (by exact rfl)) w hw).ro kq1 e91) (by simp only [List.length_append, List.length_cons, List.length_nil] at *; omega) (by decide), rfl, rfl, ?_⟩
           rintro _ _ ⟨A2, k1, rfl, rfl, hA2⟩ hs
           replace hA2 := hA2 (.inl hA1)
           refine ⟨fun w hw => hw.sub (Sub.keep 2 rfl (Sub.keep 2 rfl (Sub.keep 2 rfl (Sub.keep 2 rfl (Sub.keep 2 rfl (Sub.keep 2 rfl (Sub.keep 2 rfl (Sub.keep 2 rfl (Sub.drop (Sub.drop (Sub.refl _))))))))))), (D.either hwf (e1 := 8) (e2 := 9) rfl ?_ ?_)⟩
           ·refine ⟨_, _, rfl, rfl, fun _ _ => wanted_none rfl _, Ef.append (xs := (([] : List B3) ++ (r2[kq1]'e91).1.2)) (ys := (r2[kq2]'e92).1.2) 1 rfl Tryz.underlying24 inf69 rfl rfl rfl rfl rfl rfl hq2S1 (fun w hw => ((Ld.tt 6 6 (by exact rfl) (by exact rfl)) w hw).ro kq2 e92) (by simp only [List.length_append, List.length_cons, List.length_nil] at *; omega) (by decide), rfl, rfl, ?_⟩
            rintro _ _ ⟨A3, k2, rfl, rfl, hA3⟩ hs
            replace hA3 := hA3 (.inl hA2)
            refine ⟨fun w hw => hw.sub (Sub.keep 2 rfl (Sub.keep 2 rfl (Sub.keep 2 rfl (Sub.keep 2 rfl (Sub.keep 2 rfl (Sub.keep 2 rfl (Sub.keep 2 rfl (Sub.keep 2 rfl (Sub.drop (Sub.drop (Sub.refl _))))))))))), (D.f hwf 9 rfl (Ef.build B3C ([] : List B3) rfl Tryz.underlying24 inf69 rfl rfl rfl (by first | decide | (simp; done)) (by kernel_rfl)) ?_)⟩
            rintro _ _ ⟨A4, hA4, rfl, rfl⟩ hs
            refine ⟨fun w hw => hw.sub (Sub.keep 3 rfl (Sub.keep 3 rfl (Sub.keep 3 rfl (Sub.keep 3 rfl (Sub.keep 3 rfl (Sub.keep 3 rfl (Sub.keep 3 rfl (Sub.keep 3 rfl (Sub.drop (Sub.drop (Sub.drop (Sub.refl _)))))))))))), (D.f hwf 12 rfl (Ef.append (xs := ([] : List B3)) (ys := (r2[kq1]'e91).2.2) 0 rfl Tryz.underlying24 inf69 rfl rfl rfl rfl rfl rfl hq1S2 (fun w hw => ((Ld.tt 7 7 (by exact rfl) (by exact rfl)) w hw).ri kq1 e91) (by simp only [List.length_append, List.length_cons, List.length_nil] at *; omega) (by decide)) ?_)⟩
            rintro _ _ ⟨A5, k3, rfl, rfl, hA5⟩ hs
            replace hA5 := hA5 (.inl hA4)
            refine ⟨fun w hw => hw.sub (Sub.keep 3 rfl (Sub.keep 3 rfl (Sub.keep 3 rfl (Sub.keep 3 rfl (Sub.keep 3 rfl (Sub.keep 3 rfl (Sub.keep 3 rfl (Sub.keep 3 rfl (Sub.drop (Sub.drop (Sub.drop (Sub.refl _)))))))))))), (D.f hwf 15 rfl (Ef.append (xs := (([] : List B3) ++ (r2[kq1]'e91).2.2)) (ys := (r2[kq2]'e92).2.2) 0 rfl Tryz.underlying24 inf69 rfl rfl rfl rfl rfl rfl hq2S2 (fun w hw => ((Ld.tt 7 7 (by exact rfl) (by exact rfl)) w hw).ri kq2 e92) (by simp only [List.length_append, List.length_cons, List.length_nil] at *; omega) (by decide)) ?_)⟩
            rintro _ _ ⟨A6, k4, rfl, rfl, hA6⟩ hs
            replace hA6 := hA6 (.inl hA5)
            refine ⟨fun w hw => hw.sub (Sub.keep 3 rfl (Sub.keep 3 rfl (Sub.keep 3 rfl (Sub.keep 3 rfl (Sub.keep 3 rfl (Sub.keep 3 rfl (Sub.keep 3 rfl (Sub.keep 3 rfl (Sub.drop (Sub.drop (Sub.drop (Sub.refl _)))))))))))), (D.f hwf 16 rfl (Ef.call1 call54 rfl rfl (fun w hw => l04Made_ok  pv1 ((([] : List B3) ++ (r2[kq1]'e91).1.2) ++ (r2[kq2]'e92).1.2) ((([] : List B3) ++ (r2[kq1]'e91).2.2) ++ (r2[kq2]'e92).2.2) _ _ _ _ w ((Ld.own 2 (by exact rfl)) w hw) ((Ld.own 0 (by exact rfl)) w hw) (by simp only [List.length_append, List.length_nil]; omega) (by simp only [List.length_append, List.length_nil]; omega) (by simp only [List.length_append, List.length_nil]; omega) (by simp only [List.length_append, List.length_nil]; omega))) ?_)⟩
            rintro _ _ rfl hs
            refine ⟨fun w hw => hs w hw.tail, (D.exi (fun o2A => D.exi (fun o2c => D.exi (fun o2 => D.exi (fun i2A => D.exi (fun i2c => D.exi (fun i2 => D.sep (D.pur1 ?_))))))))⟩
            rintro ⟨rfl, ho2_1, ho2_2⟩
            refine D.sep ?_
            have hlm1 := ho2_1.1.length_eq
            have hlm2 := ho2_2.1.length_eq
            simp only [List.length_append, List.length_nil] at hlm1 hlm2
            refine D.f hwf 18 rfl (Ef.storeAll 3 rfl sz28 rfl rfl rfl rfl (by simp [Value.oneCell']) rfl) ?_
            rintro _ _ rfl hs
            exact ⟨fun w hw => hw.sub (Sub.keep 5 rfl (Sub.keep 5 rfl (Sub.keep 5 rfl (Sub.keep 5 rfl (Sub.keep 5 rfl (Sub.keep 5 rfl (Sub.keep 5 rfl (Sub.keep 5 rfl (Sub.drop (Sub.drop (Sub.drop (Sub.drop (Sub.drop (Sub.refl _)))))))))))))), (D.done hwf rfl (X.cutE (b5, o2A, o2c, o2, i2A, i2c, i2) (by (try dsimp only); exact ⟨by omega, by omega⟩) (Ent.cons rfl (Ent.nil _)) (Ent.cons (t := 0) rfl (Ent.cons (t := 2) rfl (Ent.cons (t := 3) rfl (Ent.nil _)))) (Sub.keep 3 rfl (Sub.k (Sub.k (Sub.keep 2 rfl (Sub.keep 2 rfl (Sub.keep 2 rfl (Sub.keep 2 rfl (Sub.keep 2 rfl (Sub.keep 2 rfl (Sub.keep 2 rfl (Sub.keep 2 rfl (Sub.drop (Sub.drop (Sub.refl _))))))))))))))))⟩
           ·refine ⟨_, _, rfl, rfl, fun _ _ => wanted_none rfl _, Ef.build B3C ([] : List B3) rfl Tryz.underlying24 inf69 rfl rfl rfl (by first | decide | (simp; done)) (by kernel_rfl), rfl, rfl, ?_⟩
            rintro _ _ ⟨A3, hA3, rfl, rfl⟩ hs
            refine ⟨fun w hw => hw.sub (Sub.keep 3 rfl (Sub.keep 3 rfl (Sub.keep 3 rfl (Sub.keep 3 rfl (Sub.keep 3 rfl (Sub.keep 3 rfl (Sub.keep 3 rfl (Sub.keep 3 rfl (Sub.drop (Sub.drop (Sub.drop (Sub.refl _)))))))))))), (D.f hwf 8 rfl (Ef.append (xs := (([] : List B3) ++ (r2[kq1]'e91).1.2)) (ys := (r2[kq2]'e92).1.2) 2 rfl Tryz.underlying24 inf69 rfl rfl rfl rfl rfl rfl hq2S1 (fun w hw => ((Ld.tt 7 7 (by exact rfl) (by exact rfl)) w hw).ro kq2 e92) (by simp only [List.length_append, List.length_cons, List.length_nil] at *; omega) (by decide)) ?_)⟩
            rintro _ _ ⟨A4, k2, rfl, rfl, hA4⟩ hs
            replace hA4 := hA4 (.inl hA2)
            refine ⟨fun w hw => hw.sub (Sub.keep 3 rfl (Sub.keep 3 rfl (Sub.keep 3 rfl (Sub.keep 3 rfl (Sub.keep 3 rfl (Sub.keep 3 rfl (Sub.keep 3 rfl (Sub.keep 3 rfl (Sub.drop (Sub.drop (Sub.drop (Sub.refl _)))))))))))), (D.f hwf 12 rfl (Ef.append (xs := ([] : List B3)) (ys := (r2[kq1]'e91).2.2) 0 rfl Tryz.underlying24 inf69 rfl rfl rfl rfl rfl rfl hq1S2 (fun w hw => ((Ld.tt 7 7 (by exact rfl) (by exact rfl)) w hw).ri kq1 e91) (by simp only [List.length_append, List.length_cons, List.length_nil] at *; omega) (by decide)) ?_)⟩
            rintro _ _ ⟨A5, k3, rfl, rfl, hA5⟩ hs
            replace hA5 := hA5 (.inl hA3)
            refine ⟨fun w hw => hw.sub (Sub.keep 3 rfl (Sub.keep 3 rfl (Sub.keep 3 rfl (Sub.keep 3 rfl (Sub.keep 3 rfl (Sub.keep 3 rfl (Sub.keep 3 rfl (Sub.keep 3 rfl (Sub.drop (Sub.drop (Sub.drop (Sub.refl _)))))))))))), (D.f hwf 15 rfl (Ef.append (xs := (([] : List B3) ++ (r2[kq1]'e91).2.2)) (ys := (r2[kq2]'e92).2.2) 0 rfl Tryz.underlying24 inf69 rfl rfl rfl rfl rfl rfl hq2S2 (fun w hw => ((Ld.tt 7 7 (by exact rfl) (by exact rfl)) w hw).ri kq2 e92) (by simp only [List.length_append, List.length_cons, List.length_nil] at *; omega) (by decide)) ?_)⟩
            rintro _ _ ⟨A6, k4, rfl, rfl, hA6⟩ hs
            replace hA6 := hA6 (.inl hA5)
            refine ⟨fun w hw => hw.sub (Sub.keep 3 rfl (Sub.keep 3 rfl (Sub.keep 3 rfl (Sub.keep 3 rfl (Sub.keep 3 rfl (Sub.keep 3 rfl (Sub.keep 3 rfl (Sub.keep 3 rfl (Sub.drop (Sub.drop (Sub.drop (Sub.refl _)))))))))))), (D.f hwf 16 rfl (Ef.call1 call54 rfl rfl (fun w hw => l04Made_ok  pv1 ((([] : List B3) ++ (r2[kq1]'e91).1.2) ++ (r2[kq2]'e92).1.2) ((([] : List B3) ++ (r2[kq1]'e91).2.2) ++ (r2[kq2]'e92).2.2) _ _ _ _ w ((Ld.own 2 (by exact rfl)) w hw) ((Ld.own 0 (by exact rfl)) w hw) (by simp only [List.length_append, List.length_nil]; omega) (by simp only [List.length_append, List.length_nil]; omega) (by simp only [List.length_append, List.length_nil]; omega) (by simp only [List.length_append, List.length_nil]; omega))) ?_)⟩
            rintro _ _ rfl hs
            refine ⟨fun w hw => hs w hw.tail, (D.exi (fun o2A => D.exi (fun o2c => D.exi (fun o2 => D.exi (fun i2A => D.exi (fun i2c => D.exi (fun i2 => D.sep (D.pur1 ?_))))))))⟩
            rintro ⟨rfl, ho2_1, ho2_2⟩
            refine D.sep ?_
            have hlm1 := ho2_1.1.length_eq
            have hlm2 := ho2_2.1.length_eq
            simp only [List.length_append, List.length_nil] at hlm1 hlm2
            refine D.f hwf 18 rfl (Ef.storeAll 3 rfl sz28 rfl rfl rfl rfl (by simp [Value.oneCell']) rfl) ?_
            rintro _ _ rfl hs
            exact ⟨fun w hw => hw.sub (Sub.keep 5 rfl (Sub.keep 5 rfl (Sub.keep 5 rfl (Sub.keep 5 rfl (Sub.keep 5 rfl (Sub.keep 5 rfl (Sub.keep 5 rfl (Sub.keep 5 rfl (Sub.drop (Sub.drop (Sub.drop (Sub.drop (Sub.drop (Sub.refl _)))))))))))))), (D.done hwf rfl (X.cutE (b5, o2A, o2c, o2, i2A, i2c, i2) (by (try dsimp only); exact ⟨by omega, by omega⟩) (Ent.cons rfl (Ent.nil _)) (Ent.cons (t := 0) rfl (Ent.cons (t := 2) rfl (Ent.cons (t := 3) rfl (Ent.nil _)))) (Sub.keep 3 rfl (Sub.k (Sub.k (Sub.keep 2 rfl (Sub.keep 2 rfl (Sub.keep 2 rfl (Sub.keep 2 rfl (Sub.keep 2 rfl (Sub.keep 2 rfl (Sub.keep 2 rfl (Sub.keep 2 rfl (Sub.drop (Sub.drop (Sub.refl _))))))))))))))))⟩
          ·refine ⟨_, _, rfl, rfl, fun _ _ => wanted_none rfl _, Ef.build B3C ([] : List B3) rfl Tryz.underlying24 inf69 rfl rfl rfl (by first | decide | (simp; done)) (by kernel_rfl), rfl, rfl, ?_⟩
           rintro _ _ ⟨A2, hA2, rfl, rfl⟩ hs
           refine ⟨fun w hw => hw.sub (Sub.keep 3 rfl (Sub.keep 3 rfl (Sub.keep 3 rfl (Sub.keep 3 rfl (Sub.keep 3 rfl (Sub.keep 3 rfl (Sub.keep 3 rfl (Sub.keep 3 rfl (Sub.drop (Sub.drop (Sub.drop (Sub.refl _)))))))))))), (D.f hwf 5 rfl (Ef.append (xs := ([] : List B3)) (ys := (r2[kq1]'e91).1.2) 2 rfl Tryz.underlying24 inf69 rfl rfl rfl rfl rfl rfl hq1S1 (fun w hw => ((Ld.tt 7 7 (by exact rfl) (by exact rfl)) w hw).ro kq1 e91) (by simp only [List.length_append, List.length_cons, List.length_nil] at *; omega) (by decide)) ?_)⟩
           rintro _ _ ⟨A3, k1, rfl, rfl, hA3⟩ hs
           replace hA3 := hA3 (.inl hA1)
           refine ⟨fun w hw => hw.sub (Sub.keep 3 rfl (Sub.keep 3 rfl (Sub.keep 3 rfl (Sub.keep 3 rfl (Sub.keep 3 rfl (Sub.keep 3 rfl (Sub.keep 3 rfl (Sub.keep 3 rfl (Sub.drop (Sub.drop (Sub.drop (Sub.refl _)))))))))))), (D.f hwf 8 rfl (Ef.append (xs := (([] : List B3) ++ (r2[kq1]'e91).1.2)) (ys := (r2[kq2]'e92).1.2) 2 rfl Tryz.underlying24 inf69 rfl rfl rfl rfl rfl rfl hq2S1 (fun w hw => ((Ld.tt 7 7 (by exact rfl) (by exact rfl)) w hw).ro kq2 e92) (by simp only [List.length_append, List.length_cons, List.length_nil] at *; omega) (by decide)) ?_)⟩
           rintro _ _ ⟨A4, k2, rfl, rfl, hA4⟩ hs
           replace hA4 := hA4 (.inl hA3)
           refine ⟨fun w hw => hw.sub (Sub.keep 3 rfl (Sub.keep 3 rfl (Sub.keep 3 rfl (Sub.keep 3 rfl (Sub.keep 3 rfl (Sub.keep 3 rfl (Sub.keep 3 rfl (Sub.keep 3 rfl (Sub.drop (Sub.drop (Sub.drop (Sub.refl _)))))))))))), (D.f hwf 12 rfl (Ef.append (xs := ([] : List B3)) (ys := (r2[kq1]'e91).2.2) 0 rfl Tryz.underlying24 inf69 rfl rfl rfl rfl rfl rfl hq1S2 (fun w hw => ((Ld.tt 7 7 (by exact rfl) (by exact rfl)) w hw).ri kq1 e91) (by simp only [List.length_append, List.length_cons, List.length_nil] at *; omega) (by decide)) ?_)⟩
           rintro _ _ ⟨A5, k3, rfl, rfl, hA5⟩ hs
           replace hA5 := hA5 (.inl hA2)
           refine ⟨fun w hw => hw.sub (Sub.keep 3 rfl (Sub.keep 3 rfl (Sub.keep 3 rfl (Sub.keep 3 rfl (Sub.keep 3 rfl (Sub.keep 3 rfl (Sub.keep 3 rfl (Sub.keep 3 rfl (Sub.drop (Sub.drop (Sub.drop (Sub.refl _)))))))))))), (D.f hwf 15 rfl (Ef.append (xs := (([] : List B3) ++ (r2[kq1]'e91).2.2)) (ys := (r2[kq2]'e92).2.2) 0 rfl Tryz.underlying24 inf69 rfl rfl rfl rfl rfl rfl hq2S2 (fun w hw => ((Ld.tt 7 7 (by exact rfl) (by exact rfl)) w hw).ri kq2 e92) (by simp only [List.length_append, List.length_cons, List.length_nil] at *; omega) (by decide)) ?_)⟩
           rintro _ _ ⟨A6, k4, rfl, rfl, hA6⟩ hs
           replace hA6 := hA6 (.inl hA5)
           refine ⟨fun w hw => hw.sub (Sub.keep 3 rfl (Sub.keep 3 rfl (Sub.keep 3 rfl (Sub.keep 3 rfl (Sub.keep 3 rfl (Sub.keep 3 rfl (Sub.keep 3 rfl (Sub.keep 3 rfl (Sub.drop (Sub.drop (Sub.drop (Sub.refl _)))))))))))), (D.f hwf 16 rfl (Ef.call1 call54 rfl rfl (fun w hw => l04Made_ok  pv1 ((([] : List B3) ++ (r2[kq1]'e91).1.2) ++ (r2[kq2]'e92).1.2) ((([] : List B3) ++ (r2[kq1]'e91).2.2) ++ (r2[kq2]'e92).2.2) _ _ _ _ w ((Ld.own 2 (by exact rfl)) w hw) ((Ld.own 0 (by exact rfl)) w hw) (by simp only [List.length_append, List.length_nil]; omega) (by simp only [List.length_append, List.length_nil]; omega) (by simp only [List.length_append, List.length_nil]; omega) (by simp only [List.length_append, List.length_nil]; omega))) ?_)⟩
           rintro _ _ rfl hs
           refine ⟨fun w hw => hs w hw.tail, (D.exi (fun o2A => D.exi (fun o2c => D.exi (fun o2 => D.exi (fun i2A => D.exi (fun i2c => D.exi (fun i2 => D.sep (D.pur1 ?_))))))))⟩
           rintro ⟨rfl, ho2_1, ho2_2⟩
           refine D.sep ?_
           have hlm1 := ho2_1.1.length_eq
           have hlm2 := ho2_2.1.length_eq
           simp only [List.length_append, List.length_nil] at hlm1 hlm2
           refine D.f hwf 18 rfl (Ef.storeAll 3 rfl sz28 rfl rfl rfl rfl (by simp [Value.oneCell']) rfl) ?_
           rintro _ _ rfl hs
           exact ⟨fun w hw => hw.sub (Sub.keep 5 rfl (Sub.keep 5 rfl (Sub.keep 5 rfl (Sub.keep 5 rfl (Sub.keep 5 rfl (Sub.keep 5 rfl (Sub.keep 5 rfl (Sub.keep 5 rfl (Sub.drop (Sub.drop (Sub.drop (Sub.drop (Sub.drop (Sub.refl _)))))))))))))), (D.done hwf rfl (X.cutE (b5, o2A, o2c, o2, i2A, i2c, i2) (by (try dsimp only); exact ⟨by omega, by omega⟩) (Ent.cons rfl (Ent.nil _)) (Ent.cons (t := 0) rfl (Ent.cons (t := 2) rfl (Ent.cons (t := 3) rfl (Ent.nil _)))) (Sub.keep 3 rfl (Sub.k (Sub.k (Sub.keep 2 rfl (Sub.keep 2 rfl (Sub.keep 2 rfl (Sub.keep 2 rfl (Sub.keep 2 rfl (Sub.keep 2 rfl (Sub.keep 2 rfl (Sub.keep 2 rfl (Sub.drop (Sub.drop (Sub.refl _))))))))))))))))⟩
        ·refine ⟨_, _, rfl, rfl, fun _ _ => wanted_none rfl _, Ef.build B3C ([] : List B3) rfl Tryz.underlying24 inf69 rfl rfl rfl (by first | decide | (simp; done)) (by kernel_rfl), rfl, rfl, ?_⟩
         rintro _ _ ⟨A1, hA1, rfl, rfl⟩ hs
         refine ⟨fun w hw => hw.sub (Sub.keep 1 rfl (Sub.keep 1 rfl (Sub.keep 1 rfl (Sub.keep 1 rfl (Sub.keep 1 rfl (Sub.keep 1 rfl (Sub.keep 1 rfl (Sub.keep 1 rfl (Sub.drop (Sub.refl _)))))))))), (D.either hwf (e1 := 2) (e2 := 17) rfl ?_ ?_)⟩
         ·refine ⟨_, _, rfl, rfl, fun _ _ => wanted_none rfl _, Ef.build B3C ([] : List B3) rfl Tryz.underlying24 inf69 rfl rfl rfl (by first | decide | (simp; done)) (by kernel_rfl), rfl, rfl, ?_⟩
          rintro _ _ ⟨A2, hA2, rfl, rfl⟩ hs
          refine ⟨fun w hw => hw.sub (Sub.keep 2 rfl (Sub.keep 2 rfl (Sub.keep 2 rfl (Sub.keep 2 rfl (Sub.keep 2 rfl (Sub.keep 2 rfl (Sub.keep 2 rfl (Sub.keep 2 rfl (Sub.drop (Sub.drop (Sub.refl _))))))))))), (D.either hwf (e1 := 5) (e2 := 17) rfl ?_ ?_)⟩
          ·refine ⟨_, _, rfl, rfl, fun _ _ => wanted_none rfl _, Ef.append (xs := ([] : List B3)) (ys := (r2[kq1]'e91).1.2) 0 rfl Tryz.underlying24 inf69 rfl rfl rfl rfl rfl rfl hq1S1 (fun w hw => ((Ld.tt 6 6 (by exact rfl) (by exact rfl)) w hw).ro kq1 e91) (by simp only [List.length_append, List.length_cons, List.length_nil] at *; omega) (by decide), rfl, rfl, ?_⟩
           rintro _ _ ⟨A3, k1, rfl, rfl, hA3⟩ hs
           replace hA3 := hA3 (.inl hA2)
           refine ⟨fun w hw => hw.sub (Sub.keep 2 rfl (Sub.keep 2 rfl (Sub.keep 2 rfl (Sub.keep 2 rfl (Sub.keep 2 rfl (Sub.keep 2 rfl (Sub.keep 2 rfl (Sub.keep 2 rfl (Sub.drop (Sub.drop (Sub.refl _))))))))))), (D.either hwf (e1 := 8) (e2 := 17) rfl ?_ ?_)⟩
           ·refine ⟨_, _, rfl, rfl, fun _ _ => wanted_none rfl _, Ef.append (xs := (([] : List B3) ++ (r2[kq1]'e91).1.2)) (ys := (r2[kq2]'e92).1.2) 0 rfl Tryz.underlying24 inf69 rfl rfl rfl rfl rfl rfl hq2S1 (fun w hw => ((Ld.tt 6 6 (by exact rfl) (by exact rfl)) w hw).ro kq2 e92) (by simp only [List.length_append, List.length_cons, List.length_nil] at *; omega) (by decide), rfl, rfl, ?_⟩
            rintro _ _ ⟨A4, k2, rfl, rfl, hA4⟩ hs
            replace hA4 := hA4 (.inl hA3)
            refine ⟨fun w hw => hw.sub (Sub.keep 2 rfl (Sub.keep 2 rfl (Sub.keep 2 rfl (Sub.keep 2 rfl (Sub.keep 2 rfl (Sub.keep 2 rfl (Sub.keep 2 rfl (Sub.keep 2 rfl (Sub.drop (Sub.drop (Sub.refl _))))))))))), (D.either hwf (e1 := 12) (e2 := 17) rfl ?_ ?_)⟩
            ·refine ⟨_, _, rfl, rfl, fun _ _ => wanted_none rfl _, Ef.append (xs := ([] : List B3)) (ys := (r2[kq1]'e91).2.2) 1 rfl Tryz.underlying24 inf69 rfl rfl rfl rfl rfl rfl hq1S2 (fun w hw => ((Ld.tt 6 6 (by exact rfl) (by exact rfl)) w hw).ri kq1 e91) (by simp only [List.length_append, List.length_cons, List.length_nil] at *; omega) (by decide), rfl, rfl, ?_⟩
             rintro _ _ ⟨A5, k3, rfl, rfl, hA5⟩ hs
             replace hA5 := hA5 (.inl hA1)
             refine ⟨fun w hw => hw.sub (Sub.keep 2 rfl (Sub.keep 2 rfl (Sub.keep 2 rfl (Sub.keep 2 rfl (Sub.keep 2 rfl (Sub.keep 2 rfl (Sub.keep 2 rfl (Sub.keep 2 rfl (Sub.drop (Sub.drop (Sub.refl _))))))))))), (D.either hwf (e1 := 15) (e2 := 17) rfl ?_ ?_)⟩
             ·refine ⟨_, _, rfl, rfl, fun _ _ => wanted_none rfl _, Ef.append (xs := (([] : List B3) ++ (r2[kq1]'e91).2.2)) (ys := (r2[kq2]'e92).2.2) 1 rfl Tryz.underlying24 inf69 rfl rfl rfl rfl rfl rfl hq2S2 (fun w hw => ((Ld.tt 6 6 (by exact rfl) (by exact rfl)) w hw).ri kq2 e92) (by simp only [List.length_append, List.length_cons, List.length_nil] at *; omega) (by decide), rfl, rfl, ?_⟩
              rintro _ _ ⟨A6, k4, rfl, rfl, hA6⟩ hs
              replace hA6 := hA6 (.inl hA5)
              refine ⟨fun w hw => hw.sub (Sub.keep 2 rfl (Sub.keep 2 rfl (Sub.keep 2 rfl (Sub.keep 2 rfl (Sub.keep 2 rfl (Sub.keep 2 rfl (Sub.keep 2 rfl (Sub.keep 2 rfl (Sub.drop (Sub.drop (Sub.refl _))))))))))), (D.either hwf (e1 := 16) (e2 := 17) rfl ?_ ?_)⟩
              ·refine ⟨_, _, rfl, rfl, fun _ _ => wanted_none rfl _, Ef.call1 call54 rfl rfl (fun w hw => l04Made_ok  pv1 ((([] : List B3) ++ (r2[kq1]'e91).1.2) ++ (r2[kq2]'e92).1.2) ((([] : List B3) ++ (r2[kq1]'e91).2.2) ++ (r2[kq2]'e92).2.2) _ _ _ _ w ((Ld.own 0 (by exact rfl)) w hw) ((Ld.own 1 (by exact rfl)) w hw) (by simp only [List.length_append, List.length_nil]; omega) (by simp only [List.length_append, List.length_nil]; omega) (by simp only [List.length_append, List.length_nil]; omega) (by simp only [List.length_append, List.length_nil]; omega)), rfl, rfl, ?_⟩
               rintro _ _ rfl hs
               refine ⟨fun w hw => hs w hw.tail, (D.exi (fun o2A => D.exi (fun o2c => D.exi (fun o2 => D.exi (fun i2A => D.exi (fun i2c => D.exi (fun i2 => D.sep (D.pur1 ?_))))))))⟩
               rintro ⟨rfl, ho2_1, ho2_2⟩
               refine D.sep ?_
               have hlm1 := ho2_1.1.length_eq
               have hlm2 := ho2_2.1.length_eq
               simp only [List.length_append, List.length_nil] at hlm1 hlm2
               refine D.f hwf 17 rfl (Ef.alloc rfl zr28 rfl) ?_
               rintro _ _ ⟨b5, rfl, rfl⟩ hs
               refine ⟨fun w hw => hw.sub (Sub.keep 5 rfl (Sub.keep 5 rfl (Sub.keep 5 rfl (Sub.keep 5 rfl (Sub.keep 5 rfl (Sub.keep 5 rfl (Sub.keep 5 rfl (Sub.keep 5 rfl (Sub.drop (Sub.drop (Sub.drop (Sub.drop (Sub.drop (Sub.refl _)))))))))))))), (D.f hwf 18 rfl (Ef.storeAll 0 rfl sz28 rfl rfl rfl rfl (by simp [Value.oneCell']) rfl) ?_)⟩
               rintro _ _ rfl hs
               exact ⟨fun w hw => hw.sub (Sub.keep 5 rfl (Sub.keep 5 rfl (Sub.keep 5 rfl (Sub.keep 5 rfl (Sub.keep 5 rfl (Sub.keep 5 rfl (Sub.keep 5 rfl (Sub.keep 5 rfl (Sub.drop (Sub.drop (Sub.drop (Sub.drop (Sub.drop (Sub.refl _)))))))))))))), (D.done hwf rfl (X.cutE (b5, o2A, o2c, o2, i2A, i2c, i2) (by (try dsimp only); exact ⟨by omega, by omega⟩) (Ent.cons rfl (Ent.nil _)) (Ent.cons (t := 0) rfl (Ent.cons (t := 2) rfl (Ent.cons (t := 3) rfl (Ent.nil _)))) (Sub.k (Sub.k (Sub.k (Sub.keep 2 rfl (Sub.keep 2 rfl (Sub.keep 2 rfl (Sub.keep 2 rfl (Sub.keep 2 rfl (Sub.keep 2 rfl (Sub.keep 2 rfl (Sub.keep 2 rfl (Sub.drop (Sub.drop (Sub.refl _))))))))))))))))⟩
              ·refine ⟨_, _, rfl, rfl, fun _ _ => wanted_none rfl _, Ef.alloc rfl zr28 rfl, rfl, rfl, ?_⟩
               rintro _ _ ⟨b5, rfl, rfl⟩ hs
               refine ⟨fun w hw => hw.sub (Sub.keep 3 rfl (Sub.keep 3 rfl (Sub.keep 3 rfl (Sub.keep 3 rfl (Sub.keep 3 rfl (Sub.keep 3 rfl (Sub.keep 3 rfl (Sub.keep 3 rfl (Sub.drop (Sub.drop (Sub.drop (Sub.refl _)))))))))))), (D.f hwf 16 rfl (Ef.call1 call54 rfl rfl (fun w hw => l04Made_ok  pv1 ((([] : List B3) ++ (r2[kq1]'e91).1.2) ++ (r2[kq2]'e92).1.2) ((([] : List B3) ++ (r2[kq1]'e91).2.2) ++ (r2[kq2]'e92).2.2) _ _ _ _ w ((Ld.own 1 (by exact rfl)) w hw) ((Ld.own 2 (by exact rfl)) w hw) (by simp only [List.length_append, List.length_nil]; omega) (by simp only [List.length_append, List.length_nil]; omega) (by simp only [List.length_append, List.length_nil]; omega) (by simp only [List.length_append, List.length_nil]; omega))) ?_)⟩
               rintro _ _ rfl hs
               refine ⟨fun w hw => hs w hw.tail, (D.exi (fun o2A => D.exi (fun o2c => D.exi (fun o2 => D.exi (fun i2A => D.exi (fun i2c => D.exi (fun i2 => D.sep (D.pur1 ?_))))))))⟩
               rintro ⟨rfl, ho2_1, ho2_2⟩
               refine D.sep ?_
               have hlm1 := ho2_1.1.length_eq
               have hlm2 := ho2_2.1.length_eq
               simp only [List.length_append, List.length_nil] at hlm1 hlm2
               refine D.f hwf 18 rfl (Ef.storeAll 2 rfl sz28 rfl rfl rfl rfl (by simp [Value.oneCell']) rfl) ?_
               rintro _ _ rfl hs
               exact ⟨fun w hw => hw.sub (Sub.keep 5 rfl (Sub.keep 5 rfl (Sub.keep 5 rfl (Sub.keep 5 rfl (Sub.keep 5 rfl (Sub.keep 5 rfl (Sub.keep 5 rfl (Sub.keep 5 rfl (Sub.drop (Sub.drop (Sub.drop (Sub.drop (Sub.drop (Sub.refl _)))))))))))))), (D.done hwf rfl (X.cutE (b5, o2A, o2c, o2, i2A, i2c, i2) (by (try dsimp only); exact ⟨by omega, by omega⟩) (Ent.cons rfl (Ent.nil _)) (Ent.cons (t := 0) rfl (Ent.cons (t := 2) rfl (Ent.cons (t := 3) rfl (Ent.nil _)))) (Sub.keep 2 rfl (Sub.k (Sub.k (Sub.keep 2 rfl (Sub.keep 2 rfl (Sub.keep 2 rfl (Sub.keep 2 rfl (Sub.keep 2 rfl (Sub.keep 2 rfl (Sub.keep 2 rfl (Sub.keep 2 rfl (Sub.drop (Sub.drop (Sub.refl _))))))))))))))))⟩
             ·refine ⟨_, _, rfl, rfl, fun _ _ => wanted_none rfl _, Ef.alloc rfl zr28 rfl, rfl, rfl, ?_⟩
              rintro _ _ ⟨b5, rfl, rfl⟩ hs
              refine ⟨fun w hw => hw.sub (Sub.keep 3 rfl (Sub.keep 3 rfl (Sub.keep 3 rfl (Sub.keep 3 rfl (Sub.keep 3 rfl (Sub.keep 3 rfl (Sub.keep 3 rfl (Sub.keep 3 rfl (Sub.drop (Sub.drop (Sub.drop (Sub.refl _)))))))))))), (D.f hwf 15 rfl (Ef.append (xs := (([] : List B3) ++ (r2[kq1]'e91).2.2)) (ys := (r2[kq2]'e92).2.2) 2 rfl Tryz.underlying24 inf69 rfl rfl rfl rfl rfl rfl hq2S2 (fun w hw => ((Ld.tt 7 7 (by exact rfl) (by exact rfl)) w hw).ri kq2 e92) (by simp only [List.length_append, List.length_cons, List.length_nil] at *; omega) (by decide)) ?_)⟩
              rintro _ _ ⟨A6, k4, rfl, rfl, hA6⟩ hs
              replace hA6 := hA6 (.inl hA5)
              refine ⟨fun w hw => hw.sub (Sub.keep 3 rfl (Sub.keep 3 rfl (Sub.keep 3 rfl (Sub.keep 3 rfl (Sub.keep 3 rfl (Sub.keep 3 rfl (Sub.keep 3 rfl (Sub.keep 3 rfl (Sub.drop (Sub.drop (Sub.drop (Sub.refl _)))))))))))), (D.f hwf 16 rfl (Ef.call1 call54 rfl rfl (fun w hw => l04Made_ok  pv1 ((([] : List B3) ++ (r2[kq1]'e91).1.2) ++ (r2[kq2]'e92).1.2) ((([] : List B3) ++ (r2[kq1]'e91).2.2) ++ (r2[kq2]'e92).2.2) _ _ _ _ w ((Ld.own 1 (by exact rfl)) w hw) ((Ld.own 2 (by exact rfl)) w hw) (by simp only [List.length_append, List.length_nil]; omega) (by simp only [List.length_append, List.length_nil]; omega) (by simp only [List.length_append, List.length_nil]; omega) (by simp only [List.length_append, List.length_nil]; omega))) ?_)⟩
              rintro _ _ rfl hs
              refine ⟨fun w hw => hs w hw.tail, (D.exi (fun o2A => D.exi (fun o2c => D.exi (fun o2 => D.exi (fun i2A => D.exi (fun i2c => D.exi (fun i2 => D.sep (D.pur1 ?_))))))))⟩
              rintro ⟨rfl, ho2_1, ho2_2⟩
              refine D.sep ?_
              have hlm1 := ho2_1.1.length_eq
              have hlm2 := ho2_2.1.length_eq
              simp only [List.length_append, List.length_nil] at hlm1 hlm2
              refine D.f hwf 18 rfl (Ef.storeAll 2 rfl sz28 rfl rfl rfl rfl (by simp [Value.oneCell']) rfl) ?_
              rintro _ _ rfl hs
              exact ⟨fun w hw => hw.sub (Sub.keep 5 rfl (Sub.keep 5 rfl (Sub.keep 5 rfl (Sub.keep 5 rfl (Sub.keep 5 rfl (Sub.keep 5 rfl (Sub.keep 5 rfl (Sub.keep 5 rfl (Sub.drop (Sub.drop (Sub.drop (Sub.drop (Sub.drop (Sub.refl _)))))))))))))), (D.done hwf rfl (X.cutE (b5, o2A, o2c, o2, i2A, i2c, i2) (by (try dsimp only); exact ⟨by omega, by omega⟩) (Ent.cons rfl (Ent.nil _)) (Ent.cons (t := 0) rfl (Ent.cons (t := 2) rfl (Ent.cons (t := 3) rfl (Ent.nil _)))) (Sub.keep 2 rfl (Sub.k (Sub.k (Sub.keep 2 rfl (Sub.keep 2 rfl (Sub.keep 2 rfl (Sub.keep 2 rfl (Sub.keep 2 rfl (Sub.keep 2 rfl (Sub.keep 2 rfl (Sub.keep 2 rfl (Sub.drop (Sub.drop (Sub.refl _))))))))))))))))⟩
            ·refine ⟨_, _, rfl, rfl, fun _ _ => wanted_none rfl _, Ef.alloc rfl zr28 rfl, rfl, rfl, ?_⟩
             rintro _ _ ⟨b5, rfl, rfl⟩ hs
             refine ⟨fun w hw => hw.sub (Sub.keep 3 rfl (Sub.keep 3 rfl (Sub.keep 3 rfl (Sub.keep 3 rfl (Sub.keep 3 rfl (Sub.keep 3 rfl (Sub.keep 3 rfl (Sub.keep 3 rfl (Sub.drop (Sub.drop (Sub.drop (Sub.refl _)))))))))))), (D.f hwf 12 rfl (Ef.append (xs := ([] : List B3)) (ys := (r2[kq1]'e91).2.2) 2 rfl Tryz.underlying24 inf69 rfl rfl rfl rfl rfl rfl hq1S2 (fun w hw => ((Ld.tt 7 7 (by exact rfl) (by exact rfl)) w hw).ri kq1 e91) (by simp only [List.length_append, List.length_cons, List.length_nil] at *; omega) (by decide)) ?_)⟩
             rintro _ _ ⟨A5, k3, rfl, rfl, hA5⟩ hs
             replace hA5 := hA5 (.inl hA1)
             refine ⟨fun w hw => hw.sub (Sub.keep 3 rfl (Sub.keep 3 rfl (Sub.keep 3 rfl (Sub.keep 3 rfl (Sub.keep 3 rfl (Sub.keep 3 rfl (Sub.keep 3 rfl (Sub.keep 3 rfl (Sub.drop (Sub.drop (Sub.drop (Sub.refl _)))))))))))), (D.f hwf 15 rfl (Ef.append (xs := (([] : List B3) ++ (r2[kq1]'e91).2.2)) (ys := (r2[kq2]'e92).2.2) 2 rfl Tryz.underlying24 inf69 rfl rfl rfl rfl rfl rfl hq2S2 (fun w hw => ((Ld.tt 7 7 (by exact rfl) (by exact rfl)) w hw).ri kq2 e92) (by simp only [List.length_append, List.length_cons, List.length_nil] at *; omega) (by decide)) ?_)⟩
             rintro _ _ ⟨A6, k4, rfl, rfl, hA6⟩ hs
             replace hA6 := hA6 (.inl hA5)
             refine ⟨fun w hw => hw.sub (Sub.keep 3 rfl (Sub.keep 3 rfl (Sub.keep 3 rfl (Sub.keep 3 rfl (Sub.keep 3 rfl (Sub.keep 3 rfl (Sub.keep 3 rfl (Sub.keep 3 rfl (Sub.drop (Sub.drop (Sub.drop (Sub.refl _)))))))))))), (D.f hwf 16 rfl (Ef.call1 call54 rfl rfl (fun w hw => l04Made_ok  pv1 ((([] : List B3) ++ (r2[kq1]'e91).1.2) ++ (r2[kq2]'e92).1.2) ((([] : List B3) ++ (r2[kq1]'e91).2.2) ++ (r2[kq2]'e92).2.2) _ _ _ _ w ((Ld.own 1 (by exact rfl)) w hw) ((Ld.own 2 (by exact rfl)) w hw) (by simp only [List.length_append, List.length_nil]; omega) (by simp only [List.length_append, List.length_nil]; omega) (by simp only [List.length_append, List.length_nil]; omega) (by simp only [List.length_append, List.length_nil]; omega))) ?_)⟩
             rintro _ _ rfl hs
             refine ⟨fun w hw => hs w hw.tail, (D.exi (fun o2A => D.exi (fun o2c => D.exi (fun o2 => D.exi (fun i2A => D.exi (fun i2c => D.exi (fun i2 => D.sep (D.pur1 ?_))))))))⟩
             rintro ⟨rfl, ho2_1, ho2_2⟩
             refine D.sep ?_
             have hlm1 := ho2_1.1.length_eq
             have hlm2 := ho2_2.1.length_eq
             simp only [List.length_append, List.length_nil] at hlm1 hlm2
             refine D.f hwf 18 rfl (Ef.storeAll 2 rfl sz28 rfl rfl rfl rfl (by simp [Value.oneCell']) rfl) ?_
             rintro _ _ rfl hs
             exact ⟨fun w hw => hw.sub (Sub.keep 5 rfl (Sub.keep 5 rfl (Sub.keep 5 rfl (Sub.keep 5 rfl (Sub.keep 5 rfl (Sub.keep 5 rfl (Sub.keep 5 rfl (Sub.keep 5 rfl (Sub.drop (Sub.drop (Sub.drop (Sub.drop (Sub.drop (Sub.refl _)))))))))))))), (D.done hwf rfl (X.cutE (b5, o2A, o2c, o2, i2A, i2c, i2) (by (try dsimp only); exact ⟨by omega, by omega⟩) (Ent.cons rfl (Ent.nil _)) (Ent.cons (t := 0) rfl (Ent.cons (t := 2) rfl (Ent.cons (t := 3) rfl (Ent.nil _)))) (Sub.keep 2 rfl (Sub.k (Sub.k (Sub.keep 2 rfl (Sub.keep 2 rfl (Sub.keep 2 rfl (Sub.keep 2 rfl (Sub.keep 2 rfl (Sub.keep 2 rfl (Sub.keep 2 rfl (Sub.keep 2 rfl (Sub.drop (Sub.drop (Sub.refl _))))))))))))))))⟩
           ·refine ⟨_, _, rfl, rfl, fun _ _ => wanted_none rfl _, Ef.alloc rfl zr28 rfl, rfl, rfl, ?_⟩
            rintro _ _ ⟨b5, rfl, rfl⟩ hs
            refine ⟨fun w hw => hw.sub (Sub.keep 3 rfl (Sub.keep 3 rfl (Sub.keep 3 rfl (Sub.keep 3 rfl (Sub.keep 3 rfl (Sub.keep 3 rfl (Sub.keep 3 rfl (Sub.keep 3 rfl (Sub.drop (Sub.drop (Sub.drop (Sub.refl _)))))))))))), (D.f hwf 8 rfl (Ef.append (xs := (([] : List B3) ++ (r2[kq1]'e91).1.2)) (ys := (r2[kq2]'e92).1.2) 1 rfl Tryz.underlying24 inf69 rfl rfl rfl rfl rfl rfl hq2S1 (fun w hw => ((Ld.tt 7 7 (by exact rfl) (by exact rfl)) w hw).ro kq2 e92) (by simp only [List.length_append, List.length_cons, List.length_nil] at *; omega) (by decide)) ?_)⟩
            rintro _ _ ⟨A4, k2, rfl, rfl, hA4⟩ hs
            replace hA4 := hA4 (.inl hA3)
            refine ⟨fun w hw => hw.sub (Sub.keep 3 rfl (Sub.keep 3 rfl (Sub.keep 3 rfl (Sub.keep 3 rfl (Sub.keep 3 rfl (Sub.keep 3 rfl (Sub.keep 3 rfl (Sub.keep 3 rfl (Sub.drop (Sub.drop (Sub.drop (Sub.refl _)))))))))))), (D.f hwf 12 rfl (Ef.append (xs := ([] : List B3)) (ys := (r2[kq1]'e91).2.2) 2 rfl Tryz.underlying24 inf69 rfl rfl rfl rfl rfl rfl hq1S2 (fun w hw => ((Ld.tt 7 7 (by exact rfl) (by exact rfl)) w hw).ri kq1 e91) (by simp only [List.length_append, List.length_cons, List.length_nil] at *; omega) (by decide)) ?_)⟩
            rintro _ _ ⟨A5, k3, rfl, rfl, hA5⟩ hs
            replace hA5 := hA5 (.inl hA1)
            refine ⟨fun w hw => hw.sub (Sub.keep 3 rfl (Sub.keep 3 rfl (Sub.keep 3 rfl (Sub.keep 3 rfl (Sub.keep 3 rfl (Sub.keep 3 rfl (Sub.keep 3 rfl (Sub.keep 3 rfl (Sub.drop (Sub.drop (Sub.drop (Sub.refl _)))))))))))), (D.f hwf 15 rfl (Ef.append (xs := (([] : List B3) ++ (r2[kq1]'e91).2.2)) (ys := (r2[kq2]'e92).2.2) 2 rfl Tryz.underlying24 inf69 rfl rfl rfl rfl rfl rfl hq2S2 (fun w hw => ((Ld.tt 7 7 (by exact rfl) (by exact rfl)) w hw).ri kq2 e92) (by simp only [List.length_append, List.length_cons, List.length_nil] at *; omega) (by decide)) ?_)⟩
            rintro _ _ ⟨A6, k4, rfl, rfl, hA6⟩ hs
            replace hA6 := hA6 (.inl hA5)
            refine ⟨fun w hw => hw.sub (Sub.keep 3 rfl (Sub.keep 3 rfl (Sub.keep 3 rfl (Sub.keep 3 rfl (Sub.keep 3 rfl (Sub.keep 3 rfl (Sub.keep 3 rfl (Sub.keep 3 rfl (Sub.drop (Sub.drop (Sub.drop (Sub.refl _)))))))))))), (D.f hwf 16 rfl (Ef.call1 call54 rfl rfl (fun w hw => l04Made_ok  pv1 ((([] : List B3) ++ (r2[kq1]'e91).1.2) ++ (r2[kq2]'e92).1.2) ((([] : List B3) ++ (r2[kq1]'e91).2.2) ++ (r2[kq2]'e92).2.2) _ _ _ _ w ((Ld.own 1 (by exact rfl)) w hw) ((Ld.own 2 (by exact rfl)) w hw) (by simp only [List.length_append, List.length_nil]; omega) (by simp only [List.length_append, List.length_nil]; omega) (by simp only [List.length_append, List.length_nil]; omega) (by simp only [List.length_append, List.length_nil]; omega))) ?_)⟩
            rintro _ _ rfl hs
            refine ⟨fun w hw => hs w hw.tail, (D.exi (fun o2A => D.exi (fun o2c => D.exi (fun o2 => D.exi (fun i2A => D.exi (fun i2c => D.exi (fun i2 => D.sep (D.pur1 ?_))))))))⟩
            rintro ⟨rfl, ho2_1, ho2_2⟩
            refine D.sep ?_
            have hlm1 := ho2_1.1.length_eq
            have hlm2 := ho2_2.1.length_eq
            simp only [List.length_append, List.length_nil] at hlm1 hlm2
            refine D.f hwf 18 rfl (Ef.storeAll 2 rfl sz28 rfl rfl rfl rfl (by simp [Value.oneCell']) rfl) ?_
            rintro _ _ rfl hs
            exact ⟨fun w hw => hw.sub (Sub.keep 5 rfl (Sub.keep 5 rfl (Sub.keep 5 rfl (Sub.keep 5 rfl (Sub.keep 5 rfl (Sub.keep 5 rfl (Sub.keep 5 rfl (Sub.keep 5 rfl (Sub.drop (Sub.drop (Sub.drop (Sub.drop (Sub.drop (Sub.refl _)))))))))))))), (D.done hwf rfl (X.cutE (b5, o2A, o2c, o2, i2A, i2c, i2) (by (try dsimp only); exact ⟨by omega, by omega⟩) (Ent.cons rfl (Ent.nil _)) (Ent.cons (t := 0) rfl (Ent.cons (t := 2) rfl (Ent.cons (t := 3) rfl (Ent.nil _)))) (Sub.keep 2 rfl (Sub.k (Sub.k (Sub.keep 2 rfl (Sub.keep 2 rfl (Sub.keep 2 rfl (Sub.keep 2 rfl (Sub.keep 2 rfl (Sub.keep 2 rfl (Sub.keep 2 rfl (Sub.keep 2 rfl (Sub.drop (Sub.drop (Sub.refl _))))))))))))))))⟩
          ·refine ⟨_, _, rfl, rfl, fun _ _ => wanted_none rfl _, Ef.alloc rfl zr28 rfl, rfl, rfl, ?_⟩
           rintro _ _ ⟨b5, rfl, rfl⟩ hs
           refine ⟨fun w hw => hw.sub (Sub.keep 3 rfl (Sub.keep 3 rfl (Sub.keep 3 rfl (Sub.keep 3 rfl (Sub.keep 3 rfl (Sub.keep 3 rfl (Sub.keep 3 rfl (Sub.keep 3 rfl (Sub.drop (Sub.drop (Sub.drop (Sub.refl _)))))))))))), (D.f hwf 5 rfl (Ef.append (xs := ([] : List B3)) (ys := (r2[kq1]'e91).1.2) 1 rfl Tryz.underlying24 inf69 rfl rfl rfl rfl rfl rfl hq1S1 (fun w hw => ((Ld.tt 7 7 (by exact rfl) (by exact rfl)) w hw).ro kq1 e91) (by simp only [List.length_append, List.length_cons, List.length_nil] at *; omega) (by decide)) ?_)⟩
           rintro _ _ ⟨A3, k1, rfl, rfl, hA3⟩ hs
           replace hA3 := hA3 (.inl hA2)
           refine ⟨fun w hw => hw.sub (Sub.keep 3 rfl (Sub.keep 3 rfl (Sub.keep 3 rfl (Sub.keep 3 rfl (Sub.keep 3 rfl (Sub.keep 3 rfl (Sub.keep 3 rfl (Sub.keep 3 rfl (Sub.drop (Sub.drop (Sub.drop (Sub.refl _)))))))))))), (D.f hwf 8 rfl (Ef.append (xs := (([] : List B3) ++ (r2[kq1]'e91).1.2)) (ys := (r2[kq2]'e92).1.2) 1 rfl Tryz.underlying24 inf69 rfl rfl rfl rfl rfl rfl hq2S1 (fun w hw => ((Ld.tt 7 7 (by exact rfl) (by exact rfl)) w hw).ro kq2 e92) (by simp only [List.length_append, List.length_cons, List.length_nil] at *; omega) (by decide)) ?_)⟩
           rintro _ _ ⟨A4, k2, rfl, rfl, hA4⟩ hs
           replace hA4 := hA4 (.inl hA3)
           refine ⟨fun w hw => hw.sub (Sub.keep 3 rfl (Sub.keep 3 rfl (Sub.keep 3 rfl (Sub.keep 3 rfl (Sub.keep 3 rfl (Sub.keep 3 rfl (Sub.keep 3 rfl (Sub.keep 3 rfl (Sub.drop (Sub.drop (Sub.drop (Sub.refl _)))))))))))), (D.f hwf 12 rfl (Ef.append (xs := ([] : List B3)) (ys := (r2[kq1]'e91).2.2) 2 rfl Tryz.underlying24 inf69 rfl rfl rfl rfl rfl rfl hq1S2 (fun w hw => ((Ld.tt 7 7 (by exact rfl) (by exact rfl)) w hw).ri kq1 e91) (by simp only [List.length_append, List.length_cons, List.length_nil] at *; omega) (by decide)) ?_)⟩
           rintro _ _ ⟨A5, k3, rfl, rfl, hA5⟩ hs
           replace hA5 := hA5 (.inl hA1)
           refine ⟨fun w hw => hw.sub (Sub.keep 3 rfl (Sub.keep 3 rfl (Sub.keep 3 rfl (Sub.keep 3 rfl (Sub.keep 3 rfl (Sub.keep 3 rfl (Sub.keep 3 rfl (Sub.keep 3 rfl (Sub.drop (Sub.drop (Sub.drop (Sub.refl _)))))))))))), (D.f hwf 15 rfl (Ef.append (xs := (([] : List B3) ++ (r2[kq1]'e91).2.2)) (ys := (r2[kq2]'e92).2.2) 2 rfl Tryz.underlying24 inf69 rfl rfl rfl rfl rfl rfl hq2S2 (fun w hw => ((Ld.tt 7 7 (by exact rfl) (by exact rfl)) w hw).ri kq2 e92) (by simp only [List.length_append, List.length_cons, List.length_nil] at *; omega) (by decide)) ?_)⟩
           rintro _ _ ⟨A6, k4, rfl, rfl, hA6⟩ hs
           replace hA6 := hA6 (.inl hA5)
           refine ⟨fun w hw => hw.sub (Sub.keep 3 rfl (Sub.keep 3 rfl (Sub.keep 3 rfl (Sub.keep 3 rfl (Sub.keep 3 rfl (Sub.keep 3 rfl (Sub.keep 3 rfl (Sub.keep 3 rfl (Sub.drop (Sub.drop (Sub.drop (Sub.refl _)))))))))))), (D.f hwf 16 rfl (Ef.call1 call54 rfl rfl (fun w hw => l04Made_ok  pv1 ((([] : List B3) ++ (r2[kq1]'e91).1.2) ++ (r2[kq2]'e92).1.2) ((([] : List B3) ++ (r2[kq1]'e91).2.2) ++ (r2[kq2]'e92).2.2) _ _ _ _ w ((Ld.own 1 (by exact rfl)) w hw) ((Ld.own 2 (by exact rfl)) w hw) (by simp only [List.length_append, List.length_nil]; omega) (by simp only [List.length_append, List.length_nil]; omega) (by simp only [List.length_append, List.length_nil]; omega) (by simp only [List.length_append, List.length_nil]; omega))) ?_)⟩
           rintro _ _ rfl hs
           refine ⟨fun w hw => hs w hw.tail, (D.exi (fun o2A => D.exi (fun o2c => D.exi (fun o2 => D.exi (fun i2A => D.exi (fun i2c => D.exi (fun i2 => D.sep (D.pur1 ?_))))))))⟩
           rintro ⟨rfl, ho2_1, ho2_2⟩
           refine D.sep ?_
           have hlm1 := ho2_1.1.length_eq
           have hlm2 := ho2_2.1.length_eq
           simp only [List.length_append, List.length_nil] at hlm1 hlm2
           refine D.f hwf 18 rfl (Ef.storeAll 2 rfl sz28 rfl rfl rfl rfl (by simp [Value.oneCell']) rfl) ?_
           rintro _ _ rfl hs
           exact ⟨fun w hw => hw.sub (Sub.keep 5 rfl (Sub.keep 5 rfl (Sub.keep 5 rfl (Sub.keep 5 rfl (Sub.keep 5 rfl (Sub.keep 5 rfl (Sub.keep 5 rfl (Sub.keep 5 rfl (Sub.drop (Sub.drop (Sub.drop (Sub.drop (Sub.drop (Sub.refl _)))))))))))))), (D.done hwf rfl (X.cutE (b5, o2A, o2c, o2, i2A, i2c, i2) (by (try dsimp only); exact ⟨by omega, by omega⟩) (Ent.cons rfl (Ent.nil _)) (Ent.cons (t := 0) rfl (Ent.cons (t := 2) rfl (Ent.cons (t := 3) rfl (Ent.nil _)))) (Sub.keep 2 rfl (Sub.k (Sub.k (Sub.keep 2 rfl (Sub.keep 2 rfl (Sub.keep 2 rfl (Sub.keep 2 rfl (Sub.keep 2 rfl (Sub.keep 2 rfl (Sub.keep 2 rfl (Sub.keep 2 rfl (Sub.drop (Sub.drop (Sub.refl _))))))))))))))))⟩
         ·refine ⟨_, _, rfl, rfl, fun _ _ => wanted_none rfl _, Ef.alloc rfl zr28 rfl, rfl, rfl, ?_⟩
          rintro _ _ ⟨b5, rfl, rfl⟩ hs
          refine ⟨fun w hw => hw.sub (Sub.keep 2 rfl (Sub.keep 2 rfl (Sub.keep 2 rfl (Sub.keep 2 rfl (Sub.keep 2 rfl (Sub.keep 2 rfl (Sub.keep 2 rfl (Sub.keep 2 rfl (Sub.drop (Sub.drop (Sub.refl _))))))))))), (D.f hwf 2 rfl (Ef.build B3C ([] : List B3) rfl Tryz.underlying24 inf69 rfl rfl rfl (by first | decide | (simp; done)) (by kernel_rfl)) ?_)⟩
          rintro _ _ ⟨A2, hA2, rfl, rfl⟩ hs
          refine ⟨fun w hw => hw.sub (Sub.keep 3 rfl (Sub.keep 3 rfl (Sub.keep 3 rfl (Sub.keep 3 rfl (Sub.keep 3 rfl (Sub.keep 3 rfl (Sub.keep 3 rfl (Sub.keep 3 rfl (Sub.drop (Sub.drop (Sub.drop (Sub.refl _)))))))))))), (D.f hwf 5 rfl (Ef.append (xs := ([] : List B3)) (ys := (r2[kq1]'e91).1.2) 0 rfl Tryz.underlying24 inf69 rfl rfl rfl rfl rfl rfl hq1S1 (fun w hw => ((Ld.tt 7 7 (by exact rfl) (by exact rfl)) w hw).ro kq1 e91) (by simp only [List.length_append, List.length_cons, List.length_nil] at *; omega) (by decide)) ?_)⟩
          rintro _ _ ⟨A3, k1, rfl, rfl, hA3⟩ hs
          replace hA3 := hA3 (.inl hA2)
          refine ⟨fun w hw => hw.sub (Sub.keep 3 rfl (Sub.keep 3 rfl (Sub.keep 3 rfl (Sub.keep 3 rfl (Sub.keep 3 rfl (Sub.keep 3 rfl (Sub.keep 3 rfl (Sub.keep 3 rfl (Sub.drop (Sub.drop (Sub.drop (Sub.refl _)))))))))))), (D.f hwf 8 rfl (Ef.append (xs := (([] : List B3) ++ (r2[kq1]'e91).1.2)) (ys := (r2[kq2]'e92).1.2) 0 rfl Tryz.underlying24 inf69 rfl rfl rfl rfl rfl rfl hq2S1 (fun w hw => ((Ld.tt 7 7 (by exact rfl) (by exact rfl)) w hw).ro kq2 e92) (by simp only [List.length_append, List.length_cons, List.length_nil] at *; omega) (by decide)) ?_)⟩
          rintro _ _ ⟨A4, k2, rfl, rfl, hA4⟩ hs
          replace hA4 := hA4 (.inl hA3)
          refine ⟨fun w hw => hw.sub (Sub.keep 3 rfl (Sub.keep 3 rfl (Sub.keep 3 rfl (Sub.keep 3 rfl (Sub.keep 3 rfl (Sub.keep 3 rfl (Sub.keep 3 rfl (Sub.keep 3 rfl (Sub.drop (Sub.drop (Sub.drop (Sub.refl _)))))))))))), (D.f hwf 12 rfl (Ef.append (xs := ([] : List B3)) (ys := (r2[kq1]'e91).2.2) 2 rfl Tryz.underlying24 inf69 rfl rfl rfl rfl rfl rfl hq1S2 (fun w hw => ((Ld.tt 7 7 (by exact rfl) (by exact rfl)) w hw).ri kq1 e91) (by simp only [List.length_append, List.length_cons, List.length_nil] at *; omega) (by decide)) ?_)⟩
          rintro _ _ ⟨A5, k3, rfl, rfl, hA5⟩ hs
          replace hA5 := hA5 (.inl hA1)
          refine ⟨fun w hw => hw.sub (Sub.keep 3 rfl (Sub.keep 3 rfl (Sub.keep 3 rfl (Sub.keep 3 rfl (Sub.keep 3 rfl (Sub.keep 3 rfl (Sub.keep 3 rfl (Sub.keep 3 rfl (Sub.drop (Sub.drop (Sub.drop (Sub.refl _)))))))))))), (D.f hwf 15 rfl (Ef.append (xs := (([] : List B3) ++ (r2[kq1]'e91).2.2)) (ys := (r2[kq2]'e92).2.2) 2 rfl Tryz.underlying24 inf69 rfl rfl rfl rfl rfl rfl hq2S2 (fun w hw => ((Ld.tt 7 7 (by exact rfl) (by exact rfl)) w hw).ri kq2 e92) (by simp only [List.length_append, List.length_cons, List.length_nil] at *; omega) (by decide)) ?_)⟩
          rintro _ _ ⟨A6, k4, rfl, rfl, hA6⟩ hs
          replace hA6 := hA6 (.inl hA5)
          refine ⟨fun w hw => hw.sub (Sub.keep 3 rfl (Sub.keep 3 rfl (Sub.keep 3 rfl (Sub.keep 3 rfl (Sub.keep 3 rfl (Sub.keep 3 rfl (Sub.keep 3 rfl (Sub.keep 3 rfl (Sub.drop (Sub.drop (Sub.drop (Sub.refl _)))))))))))), (D.f hwf 16 rfl (Ef.call1 call54 rfl rfl (fun w hw => l04Made_ok  pv1 ((([] : List B3) ++ (r2[kq1]'e91).1.2) ++ (r2[kq2]'e92).1.2) ((([] : List B3) ++ (r2[kq1]'e91).2.2) ++ (r2[kq2]'e92).2.2) _ _ _ _ w ((Ld.own 0 (by exact rfl)) w hw) ((Ld.own 2 (by exact rfl)) w hw) (by simp only [List.length_append, List.length_nil]; omega) (by simp only [List.length_append, List.length_nil]; omega) (by simp only [List.length_append, List.length_nil]; omega) (by simp only [List.length_append, List.length_nil]; omega))) ?_)⟩
          rintro _ _ rfl hs
          refine ⟨fun w hw => hs w hw.tail, (D.exi (fun o2A => D.exi (fun o2c => D.exi (fun o2 => D.exi (fun i2A => D.exi (fun i2c => D.exi (fun i2 => D.sep (D.pur1 ?_))))))))⟩
          rintro ⟨rfl, ho2_1, ho2_2⟩
          refine D.sep ?_
          have hlm1 := ho2_1.1.length_eq
          have hlm2 := ho2_2.1.length_eq
          simp only [List.length_append, List.length_nil] at hlm1 hlm2
          refine D.f hwf 18 rfl (Ef.storeAll 3 rfl sz28 rfl rfl rfl rfl (by simp [Value.oneCell']) rfl) ?_
          rintro _ _ rfl hs
          exact ⟨fun w hw => hw.sub (Sub.keep 5 rfl (Sub.keep 5 rfl (Sub.keep 5 rfl (Sub.keep 5 rfl (Sub.keep 5 rfl (Sub.keep 5 rfl (Sub.keep 5 rfl (Sub.keep 5 rfl (Sub.drop (Sub.drop (Sub.drop (Sub.drop (Sub.drop (Sub.refl _)))))))))))))), (D.done hwf rfl (X.cutE (b5, o2A, o2c, o2, i2A, i2c, i2) (by (try dsimp only); exact ⟨by omega, by omega⟩) (Ent.cons rfl (Ent.nil _)) (Ent.cons (t := 0) rfl (Ent.cons (t := 2) rfl (Ent.cons (t := 3) rfl (Ent.nil _)))) (Sub.keep 3 rfl (Sub.k (Sub.k (Sub.keep 2 rfl (Sub.keep 2 rfl (Sub.keep 2 rfl (Sub.keep 2 rfl (Sub.keep 2 rfl (Sub.keep 2 rfl (Sub.keep 2 rfl (Sub.keep 2 rfl (Sub.drop (Sub.drop (Sub.refl _))))))))))))))))⟩
        ·refine ⟨_, _, rfl, rfl, fun _ _ => wanted_none rfl _, Ef.alloc rfl zr28 rfl, rfl, rfl, ?_⟩
         rintro _ _ ⟨b5, rfl, rfl⟩ hs
         refine ⟨fun w hw => hw.sub (Sub.keep 1 rfl (Sub.keep 1 rfl (Sub.keep 1 rfl (Sub.keep 1 rfl (Sub.keep 1 rfl (Sub.keep 1 rfl (Sub.keep 1 rfl (Sub.keep 1 rfl (Sub.drop (Sub.refl _)))))))))), (D.either hwf (e1 := 2) (e2 := 9) rfl ?_ ?_)⟩
         ·refine ⟨_, _, rfl, rfl, fun _ _ => wanted_none rfl _, Ef.build B3C ([] : List B3) rfl Tryz.underlying24 inf69 rfl rfl rfl (by first | decide | (simp; done)) (by kernel_rfl), rfl, rfl, ?_⟩
          rintro _ _ ⟨A1, hA1, rfl, rfl⟩ hs
          refine ⟨fun w hw => hw.sub (Sub.keep 2 rfl (Sub.keep 2 rfl (Sub.keep 2 rfl (Sub.keep 2 rfl (Sub.keep 2 rfl (Sub.keep 2 rfl (Sub.keep 2 rfl (Sub.keep 2 rfl (Sub.drop (Sub.drop (Sub.refl _))))))))))), (D.either hwf (e1 := 5) (e2 := 9) rfl ?_ ?_)⟩
          ·refine ⟨_, _, rfl, rfl, fun _ _ => wanted_none rfl _, Ef.append (xs := ([] : List B3)) (ys := (r2[kq1]'e91).1.2) 0 rfl Tryz.underlying24 inf69 rfl rfl rfl rfl rfl rfl hq1S1 (fun w hw => ((Ld.tt 6 6 (by exact rfl) (by exact rfl)) w hw).ro kq1 e91) (by simp only [List.length_append, List.length_cons, List.length_nil] at *; omega) (by decide), rfl, rfl, ?_⟩
           rintro _ _ ⟨A2, k1, rfl, rfl, hA2⟩ hs
           replace hA2 := hA2 (.inl hA1)
           refine ⟨fun w hw => hw.sub (Sub.keep 2 rfl (Sub.keep 2 rfl (Sub.keep 2 rfl (Sub.keep 2 rfl (Sub.keep 2 rfl (Sub.keep 2 rfl (Sub.keep 2 rfl (Sub.keep 2 rfl (Sub.drop (Sub.drop (Sub.refl _))))))))))), (D.either hwf (e1 := 8) (e2 := 9) rfl ?_ ?_)⟩
           ·refine ⟨_, _, rfl, rfl, fun _ _ => wanted_none rfl _, Ef.append (xs := (([] : List B3) ++ (r2[kq1]'e91).1.2)) (ys := (r2[kq2]'e92).1.2) 0 rfl Tryz.underlying24 inf69 rfl rfl rfl rfl rfl rfl hq2S1 (fun w hw => ((Ld.tt 6 6 (by exact rfl) (by exact rfl)) w hw).ro kq2 e92) (by simp only [List.length_append, List.length_cons, List.length_nil] at *; omega) (by decide), rfl, rfl, ?_⟩
            rintro _ _ ⟨A3, k2, rfl, rfl, hA3⟩ hs
            replace hA3 := hA3 (.inl hA2)
            refine ⟨fun w hw => hw.sub (Sub.keep 2 rfl (Sub.keep 2 rfl (Sub.keep 2 rfl (Sub.keep 2 rfl (Sub.keep 2 rfl (Sub.keep 2 rfl (Sub.keep 2 rfl (Sub.keep 2 rfl (Sub.drop (Sub.drop (Sub.refl _))))))))))), (D.f hwf 9 rfl (Ef.build B3C ([] : List B3) rfl Tryz.underlying24 inf69 rfl rfl rfl (by first | decide | (simp; done)) (by kernel_rfl)) ?_)⟩
            rintro _ _ ⟨A4, hA4, rfl, rfl⟩ hs
            refine ⟨fun w hw => hw.sub (Sub.keep 3 rfl (Sub.keep 3 rfl (Sub.keep 3 rfl (Sub.keep 3 rfl (Sub.keep 3 rfl (Sub.keep 3 rfl (Sub.keep 3 rfl (Sub.keep 3 rfl (Sub.drop (Sub.drop (Sub.drop (Sub.refl _)))))))))))), (D.f hwf 12 rfl (Ef.append (xs := ([] : List B3)) (ys := (r2[kq1]'e91).2.2) 0 rfl Tryz.underlying24 inf69 rfl rfl rfl rfl rfl rfl hq1S2 (fun w hw => ((Ld.tt 7 7 (by exact rfl) (by exact rfl)) w hw).ri kq1 e91) (by simp only [List.length_append, List.length_cons, List.length_nil] at *; omega) (by decide)) ?_)⟩
            rintro _ _ ⟨A5, k3, rfl, rfl, hA5⟩ hs
            replace hA5 := hA5 (.inl hA4)
            refine ⟨fun w hw => hw.sub (Sub.keep 3 rfl (Sub.keep 3 rfl (Sub.keep 3 rfl (Sub.keep 3 rfl (Sub.keep 3 rfl (Sub.keep 3 rfl (Sub.keep 3 rfl (Sub.keep 3 rfl (Sub.drop (Sub.drop (Sub.drop (Sub.refl _)))))))))))), (D.f hwf 15 rfl (Ef.append (xs := (([] : List B3) ++ (r2[kq1]'e91).2.2)) (ys := (r2[kq2]'e92).2.2) 0 rfl Tryz.underlying24 inf69 rfl rfl rfl rfl rfl rfl hq2S2 (fun w hw => ((Ld.tt 7 7 (by exact rfl) (by exact rfl)) w hw).ri kq2 e92) (by simp only [List.length_append, List.length_cons, List.length_nil] at *; omega) (by decide)) ?_)⟩
            rintro _ _ ⟨A6, k4, rfl, rfl, hA6⟩ hs
            replace hA6 := hA6 (.inl hA5)
            refine ⟨fun w hw => hw.sub (Sub.keep 3 rfl (Sub.keep 3 rfl (Sub.keep 3 rfl (Sub.keep 3 rfl (Sub.keep 3 rfl (Sub.keep 3 rfl (Sub.keep 3 rfl (Sub.keep 3 rfl (Sub.drop (Sub.drop (Sub.drop (Sub.refl _)))))))))))), (D.f hwf 16 rfl (Ef.call1 call54 rfl rfl (fun w hw => l04Made_ok  pv1 ((([] : List B3) ++ (r2[kq1]'e91).1.2) ++ (r2[kq2]'e92).1.2) ((([] : List B3) ++ (r2[kq1]'e91).2.2) ++ (r2[kq2]'e92).2.2) _ _ _ _ w ((Ld.own 1 (by exact rfl)) w hw) ((Ld.own 0 (by exact rfl)) w hw) (by simp only [List.length_append, List.length_nil]; omega) (by simp only [List.length_append, List.length_nil]; omega) (by simp only [List.length_append, List.length_nil]; omega) (by simp only [List.length_append, List.length_nil]; omega))) ?_)⟩
            rintro _ _ rfl hs
            refine ⟨fun w hw => hs w hw.tail, (D.exi (fun o2A => D.exi (fun o2c => D.exi (fun o2 => D.exi (fun i2A => D.exi (fun i2c => D.exi (fun i2 => D.sep (D.pur1 ?_))))))))⟩
            rintro ⟨rfl, ho2_1, ho2_2⟩
            refine D.sep ?_
            have hlm1 := ho2_1.1.length_eq
            have hlm2 := ho2_2.1.length_eq
            simp only [List.length_append, List.length_nil] at hlm1 hlm2
            refine D.f hwf 18 rfl (Ef.storeAll 4 rfl sz28 rfl rfl rfl rfl (by simp [Value.oneCell']) rfl) ?_
            rintro _ _ rfl hs
            exact ⟨fun w hw => hw.sub (Sub.keep 5 rfl (Sub.keep 5 rfl (Sub.keep 5 rfl (Sub.keep 5 rfl (Sub.keep 5 rfl (Sub.keep 5 rfl (Sub.keep 5 rfl (Sub.keep 5 rfl (Sub.drop (Sub.drop (Sub.drop (Sub.drop (Sub.drop (Sub.refl _)))))))))))))), (D.done hwf rfl (X.cutE (b5, o2A, o2c, o2, i2A, i2c, i2) (by (try dsimp only); exact ⟨by omega, by omega⟩) (Ent.cons rfl (Ent.nil _)) (Ent.cons (t := 0) rfl (Ent.cons (t := 2) rfl (Ent.cons (t := 3) rfl (Ent.nil _)))) (Sub.keep 4 rfl (Sub.k (Sub.k (Sub.keep 2 rfl (Sub.keep 2 rfl (Sub.keep 2 rfl (Sub.keep 2 rfl (Sub.keep 2 rfl (Sub.keep 2 rfl (Sub.keep 2 rfl (Sub.keep 2 rfl (Sub.drop (Sub.drop (Sub.refl _))))))))))))))))⟩
           ·refine ⟨_, _, rfl, rfl, fun _ _ => wanted_none rfl _, Ef.build B3C ([] : List B3) rfl Tryz.underlying24 inf69 rfl rfl rfl (by first | decide | (simp; done)) (by kernel_rfl), rfl, rfl, ?_⟩
            rintro _ _ ⟨A3, hA3, rfl, rfl⟩ hs
            refine ⟨fun w hw => hw.sub (Sub.keep 3 rfl (Sub.keep 3 rfl (Sub.keep 3 rfl (Sub.keep 3 rfl (Sub.keep 3 rfl (Sub.keep 3 rfl (Sub.keep 3 rfl (Sub.keep 3 rfl (Sub.drop (Sub.drop (Sub.drop (Sub.refl _)))))))))))), (D.f hwf 8 rfl (Ef.append (xs := (([] : List B3) ++ (r2[kq1]'e91).1.2)) (ys := (r2[kq2]'e92).1.2) 1 rfl Tryz.underlying24 inf69 rfl rfl rfl rfl rfl rfl hq2S1 (fun w hw => ((Ld.tt 7 7 (by exact rfl) (by exact rfl)) w hw).ro kq2 e92) (by simp only [List.length_append, List.length_cons, List.length_nil] at *; omega) (by decide)) ?_)⟩
            rintro _ _ ⟨A4, k2, rfl, rfl, hA4⟩ hs
            replace hA4 := hA4 (.inl hA2)
            refine ⟨fun w hw => hw.sub (Sub.keep 3 rfl (Sub.keep 3 rfl (Sub.keep 3 rfl (Sub.keep 3 rfl (Sub.keep 3 rfl (Sub.keep 3 rfl (Sub.keep 3 rfl (Sub.keep 3 rfl (Sub.drop (Sub.drop (Sub.drop (Sub.refl _)))))))))))), (D.f hwf 12 rfl (Ef.append (xs := ([] : List B3)) (ys := (r2[kq1]'e91).2.2) 0 rfl Tryz.underlying24 inf69 rfl rfl rfl rfl rfl rfl hq1S2 (fun w hw => ((Ld.tt 7 7 (by exact rfl) (by exact rfl)) w hw).ri kq1 e91) (by simp only [List.length_append, List.length_cons, List.length_nil] at *; omega) (by decide)) ?_)⟩
            rintro _ _ ⟨A5, k3, rfl, rfl, hA5⟩ hs
            replace hA5 := hA5 (.inl hA3)
            refine ⟨fun w hw => hw.sub (Sub.keep 3 rfl (Sub.keep 3 rfl (Sub.keep 3 rfl (Sub.keep 3 rfl (Sub.keep 3 rfl (Sub.keep 3 rfl (Sub.keep 3 rfl (Sub.keep 3 rfl (Sub.drop (Sub.drop (Sub.drop (Sub.refl _)))))))))))), (D.f hwf 15 rfl (Ef.append (xs := (([] : List B3) ++ (r2[kq1]'e91).2.2)) (ys := (r2[kq2]'e92).2.2) 0 rfl Tryz.underlying24 inf69 rfl rfl rfl rfl rfl rfl hq2S2 (fun w hw => ((Ld.tt 7 7 (by exact rfl) (by exact rfl)) w hw).ri kq2 e92) (by simp only [List.length_append, List.length_cons, List.length_nil] at *; omega) (by decide)) ?_)⟩
            rintro _ _ ⟨A6, k4, rfl, rfl, hA6⟩ hs
            replace hA6 := hA6 (.inl hA5)
            refine ⟨fun w hw => hw.sub (Sub.keep 3 rfl (Sub.keep 3 rfl (Sub.keep 3 rfl (Sub.keep 3 rfl (Sub.keep 3 rfl (Sub.keep 3 rfl (Sub.keep 3 rfl (Sub.keep 3 rfl (Sub.drop (Sub.drop (Sub.drop (Sub.refl _)))))))))))), (D.f hwf 16 rfl (Ef.call1 call54 rfl rfl (fun w hw => l04Made_ok  pv1 ((([] : List B3) ++ (r2[kq1]'e91).1.2) ++ (r2[kq2]'e92).1.2) ((([] : List B3) ++ (r2[kq1]'e91).2.2) ++ (r2[kq2]'e92).2.2) _ _ _ _ w ((Ld.own 1 (by exact rfl)) w hw) ((Ld.own 0 (by exact rfl)) w hw) (by simp only [List.length_append, List.length_nil]; omega) (by simp only [List.length_append, List.length_nil]; omega) (by simp only [List.length_append, List.length_nil]; omega) (by simp only [List.length_append, List.length_nil]; omega))) ?_)⟩
            rintro _ _ rfl hs
            refine ⟨fun w hw => hs w hw.tail, (D.exi (fun o2A => D.exi (fun o2c => D.exi (fun o2 => D.exi (fun i2A => D.exi (fun i2c => D.exi (fun i2 => D.sep (D.pur1 ?_))))))))⟩
            rintro ⟨rfl, ho2_1, ho2_2⟩
            refine D.sep ?_
            have hlm1 := ho2_1.1.length_eq
            have hlm2 := ho2_2.1.length_eq
            simp only [List.length_append, List.length_nil] at hlm1 hlm2
            refine D.f hwf 18 rfl (Ef.storeAll 4 rfl sz28 rfl rfl rfl rfl (by simp [Value.oneCell']) rfl) ?_
            rintro _ _ rfl hs
            exact ⟨fun w hw => hw.sub (Sub.keep 5 rfl (Sub.keep 5 rfl (Sub.keep 5 rfl (Sub.keep 5 rfl (Sub.keep 5 rfl (Sub.keep 5 rfl (Sub.keep 5 rfl (Sub.keep 5 rfl (Sub.drop (Sub.drop (Sub.drop (Sub.drop (Sub.drop (Sub.refl _)))))))))))))), (D.done hwf rfl (X.cutE (b5, o2A, o2c, o2, i2A, i2c, i2) (by (try dsimp only); exact ⟨by omega, by omega⟩) (Ent.cons rfl (Ent.nil _)) (Ent.cons (t := 0) rfl (Ent.cons (t := 2) rfl (Ent.cons (t := 3) rfl (Ent.nil _)))) (Sub.keep 4 rfl (Sub.k (Sub.k (Sub.keep 2 rfl (Sub.keep 2 rfl (Sub.keep 2 rfl (Sub.keep 2 rfl (Sub.keep 2 rfl (Sub.keep 2 rfl (Sub.keep 2 rfl (Sub.keep 2 rfl (Sub.drop (Sub.drop (Sub.refl _))))))))))))))))⟩
          ·refine ⟨_, _, rfl, rfl, fun _ _ => wanted_none rfl _, Ef.build B3C ([] : List B3) rfl Tryz.underlying24 inf69 rfl rfl rfl (by first | decide | (simp; done)) (by kernel_rfl), rfl, rfl, ?_⟩
           rintro _ _ ⟨A2, hA2, rfl, rfl⟩ hs
           refine ⟨fun w hw => hw.sub (Sub.keep 3 rfl (Sub.keep 3 rfl (Sub.keep 3 rfl (Sub.keep 3 rfl (Sub.keep 3 rfl (Sub.keep 3 rfl (Sub.keep 3 rfl (Sub.keep 3 rfl (Sub.drop (Sub.drop (Sub.drop (Sub.refl _)))))))))))), (D.f hwf 5 rfl (Ef.append (xs := ([] : List B3)) (ys := (r2[kq1]'e91).1.2) 1 rfl Tryz.underlying24 inf69 rfl rfl rfl rfl rfl rfl hq1S1 (fun w hw => ((Ld.tt 7 7 (by exact rfl) (by exact rfl)) w hw).ro kq1 e91) (by simp only [List.length_append, List.length_cons, List.length_nil] at *; omega) (by decide)) ?_)⟩
           rintro _ _ ⟨A3, k1, rfl, rfl, hA3⟩ hs
           replace hA3 := hA3 (.inl hA1)
           refine ⟨fun w hw => hw.sub (Sub.keep 3 rfl (Sub.keep 3 rfl (Sub.keep 3 rfl (Sub.keep 3 rfl (Sub.keep 3 rfl (Sub.keep 3 rfl (Sub.keep 3 rfl (Sub.keep 3 rfl (Sub.drop (Sub.drop (Sub.drop (Sub.refl _)))))))))))), (D.f hwf 8 rfl (Ef.append (xs := (([] : List B3) ++ (r2[kq1]'e91).1.2)) (ys := (r2[kq2]'e92).1.2) 1 rfl Tryz.underlying24 inf69 rfl rfl rfl rfl rfl rfl hq2S1 (fun w hw => ((Ld.tt 7 7 (by exact rfl) (by exact rfl)) w hw).ro kq2 e92) (by simp only [List.length_append, List.length_cons, List.length_nil] at *; omega) (by decide)) ?_)⟩
           rintro _ _ ⟨A4, k2, rfl, rfl, hA4⟩ hs
           replace hA4 := hA4 (.inl hA3)
           refine ⟨fun w hw => hw.sub (Sub.keep 3 rfl (Sub.keep 3 rfl (Sub.keep 3 rfl (Sub.keep 3 rfl (Sub.keep 3 rfl (Sub.keep 3 rfl (Sub.keep 3 rfl (Sub.keep 3 rfl (Sub.drop (Sub.drop (Sub.drop (Sub.refl _)))))))))))), (D.f hwf 12 rfl (Ef.append (xs := ([] : List B3)) (ys := (r2[kq1]'e91).2.2) 0 rfl Tryz.underlying24 inf69 rfl rfl rfl rfl rfl rfl hq1S2 (fun w hw => ((Ld.tt 7 7 (by exact rfl) (by exact rfl)) w hw).ri kq1 e91) (by simp only [List.length_append, List.length_cons, List.length_nil] at *; omega) (by decide)) ?_)⟩
           rintro _ _ ⟨A5, k3, rfl, rfl, hA5⟩ hs
           replace hA5 := hA5 (.inl hA2)
           refine ⟨fun w hw => hw.sub (Sub.keep 3 rfl (Sub.keep 3 rfl (Sub.keep 3 rfl (Sub.keep 3 rfl (Sub.keep 3 rfl (Sub.keep 3 rfl (Sub.keep 3 rfl (Sub.keep 3 rfl (Sub.drop (Sub.drop (Sub.drop (Sub.refl _)))))))))))), (D.f hwf 15 rfl (Ef.append (xs := (([] : List B3) ++ (r2[kq1]'e91).2.2)) (ys := (r2[kq2]'e92).2.2) 0 rfl Tryz.underlying24 inf69 rfl rfl rfl rfl rfl rfl hq2S2 (fun w hw => ((Ld.tt 7 7 (by exact rfl) (by exact rfl)) w hw).ri kq2 e92) (by simp only [List.length_append, List.length_cons, List.length_nil] at *; omega) (by decide)) ?_)⟩
           rintro _ _ ⟨A6, k4, rfl, rfl, hA6⟩ hs
           replace hA6 := hA6 (.inl hA5)
           refine ⟨fun w hw => hw.sub (Sub.keep 3 rfl (Sub.keep 3 rfl (Sub.keep 3 rfl (Sub.keep 3 rfl (Sub.keep 3 rfl (Sub.keep 3 rfl (Sub.keep 3 rfl (Sub.keep 3 rfl (Sub.drop (Sub.drop (Sub.drop (Sub.refl _)))))))))))), (D.f hwf 16 rfl (Ef.call1 call54 rfl rfl (fun w hw => l04Made_ok  pv1 ((([] : List B3) ++ (r2[kq1]'e91).1.2) ++ (r2[kq2]'e92).1.2) ((([] : List B3) ++ (r2[kq1]'e91).2.2) ++ (r2[kq2]'e92).2.2) _ _ _ _ w ((Ld.own 1 (by exact rfl)) w hw) ((Ld.own 0 (by exact rfl)) w hw) (by simp only [List.length_append, List.length_nil]; omega) (by simp only [List.length_append, List.length_nil]; omega) (by simp only [List.length_append, List.length_nil]; omega) (by simp only [List.length_append, List.length_nil]; omega))) ?_)⟩
           rintro _ _ rfl hs
           refine ⟨fun w hw => hs w hw.tail, (D.exi (fun o2A => D.exi (fun o2c => D.exi (fun o2 => D.exi (fun i2A => D.exi (fun i2c => D.exi (fun i2 => D.sep (D.pur1 ?_))))))))⟩
           rintro ⟨rfl, ho2_1, ho2_2⟩
           refine D.sep ?_
           have hlm1 := ho2_1.1.length_eq
           have hlm2 := ho2_2.1.length_eq
           simp only [List.length_append, List.length_nil] at hlm1 hlm2
           refine D.f hwf 18 rfl (Ef.storeAll 4 rfl sz28 rfl rfl rfl rfl (by simp [Value.oneCell']) rfl) ?_
           rintro _ _ rfl hs
           exact ⟨fun w hw => hw.sub (Sub.keep 5 rfl (Sub.keep 5 rfl (Sub.keep 5 rfl (Sub.keep 5 rfl (Sub.keep 5 rfl (Sub.keep 5 rfl (Sub.keep 5 rfl (Sub.keep 5 rfl (Sub.drop (Sub.drop (Sub.drop (Sub.drop (Sub.drop (Sub.refl _)))))))))))))), (D.done hwf rfl (X.cutE (b5, o2A, o2c, o2, i2A, i2c, i2) (by (try dsimp only); exact ⟨by omega, by omega⟩) (Ent.cons rfl (Ent.nil _)) (Ent.cons (t := 0) rfl (Ent.cons (t := 2) rfl (Ent.cons (t := 3) rfl (Ent.nil _)))) (Sub.keep 4 rfl (Sub.k (Sub.k (Sub.keep 2 rfl (Sub.keep 2 rfl (Sub.keep 2 rfl (Sub.keep 2 rfl (Sub.keep 2 rfl (Sub.keep 2 rfl (Sub.keep 2 rfl (Sub.keep 2 rfl (Sub.drop (Sub.drop (Sub.refl _))))))))))))))))⟩
         ·refine ⟨_, _, rfl, rfl, fun _ _ => wanted_none rfl _, Ef.build B3C ([] : List B3) rfl Tryz.underlying24 inf69 rfl rfl rfl (by first | decide | (simp; done)) (by kernel_rfl), rfl, rfl, ?_⟩
          rintro _ _ ⟨A1, hA1, rfl, rfl⟩ hs
          refine ⟨fun w hw => hw.sub (Sub.keep 2 rfl (Sub.keep 2 rfl (Sub.keep 2 rfl (Sub.keep 2 rfl (Sub.keep 2 rfl (Sub.keep 2 rfl (Sub.keep 2 rfl (Sub.keep 2 rfl (Sub.drop (Sub.drop (Sub.refl _))))))))))), (D.f hwf 2 rfl (Ef.build B3C ([] : List B3) rfl Tryz.underlying24 inf69 rfl rfl rfl (by first | decide | (simp; done)) (by kernel_rfl)) ?_)⟩
          rintro _ _ ⟨A2, hA2, rfl, rfl⟩ hs
          refine ⟨fun w hw => hw.sub (Sub.keep 3 rfl (Sub.keep 3 rfl (Sub.keep 3 rfl (Sub.keep 3 rfl (Sub.keep 3 rfl (Sub.keep 3 rfl (Sub.keep 3 rfl (Sub.keep 3 rfl (Sub.drop (Sub.drop (Sub.drop (Sub.refl _)))))))))))), (D.f hwf 5 rfl (Ef.append (xs := ([] : List B3)) (ys := (r2[kq1]'e91).1.2) 0 rfl Tryz.underlying24 inf69 rfl rfl rfl rfl rfl rfl hq1S1 (fun w hw => ((Ld.tt 7 7 (by exact rfl) (by exact rfl)) w hw).ro kq1 e91) (by simp only [List.length_append, List.length_cons, List.length_nil] at *; omega) (by decide)) ?_)⟩
          rintro _ _ ⟨A3, k1, rfl, rfl, hA3⟩ hs
          replace hA3 := hA3 (.inl hA2)
          refine ⟨fun w hw => hw.sub (Sub.keep 3 rfl (Sub.keep 3 rfl (Sub.keep 3 rfl (Sub.keep 3 rfl (Sub.keep 3 rfl (Sub.keep 3 rfl (Sub.keep 3 rfl (Sub.keep 3 rfl (Sub.drop (Sub.drop (Sub.drop (Sub.refl _)))))))))))), (D.f hwf 8 rfl (Ef.append (xs := (([] : List B3) ++ (r2[kq1]'e91).1.2)) (ys := (r2[kq2]'e92).1.2) 0 rfl Tryz.underlying24 inf69 rfl rfl rfl rfl rfl rfl hq2S1 (fun w hw => ((Ld.tt 7 7 (by exact rfl) (by exact rfl)) w hw).ro kq2 e92) (by simp only [List.length_append, List.length_cons, List.length_nil] at *; omega) (by decide)) ?_)⟩
          rintro _ _ ⟨A4, k2, rfl, rfl, hA4⟩ hs
          replace hA4 := hA4 (.inl hA3)
          refine ⟨fun w hw => hw.sub (Sub.keep 3 rfl (Sub.keep 3 rfl (Sub.keep 3 rfl (Sub.keep 3 rfl (Sub.keep 3 rfl (Sub.keep 3 rfl (Sub.keep 3 rfl (Sub.keep 3 rfl (Sub.drop (Sub.drop (Sub.drop (Sub.refl _)))))))))))), (D.f hwf 12 rfl (Ef.append (xs := ([] : List B3)) (ys := (r2[kq1]'e91).2.2) 1 rfl Tryz.underlying24 inf69 rfl rfl rfl rfl rfl rfl hq1S2 (fun w hw => ((Ld.tt 7 7 (by exact rfl) (by exact rfl)) w hw).ri kq1 e91) (by simp only [List.length_append, List.length_cons, List.length_nil] at *; omega) (by decide)) ?_)⟩
          rintro _ _ ⟨A5, k3, rfl, rfl, hA5⟩ hs
          replace hA5 := hA5 (.inl hA1)
          refine ⟨fun w hw => hw.sub (Sub.keep 3 rfl (Sub.keep 3 rfl (Sub.keep 3 rfl (Sub.keep 3 rfl (Sub.keep 3 rfl (Sub.keep 3 rfl (Sub.keep 3 rfl (Sub.keep 3 rfl (Sub.drop (Sub.drop (Sub.drop (Sub.refl _)))))))))))), (D.f hwf 15 rfl (Ef.append (xs := (([] : List B3) ++ (r2[kq1]'e91).2.2)) (ys := (r2[kq2]'e92).2.2) 1 rfl Tryz.underlying24 inf69 rfl rfl rfl rfl rfl rfl hq2S2 (fun w hw => ((Ld.tt 7 7 (by exact rfl) (by exact rfl)) w hw).ri kq2 e92) (by simp only [List.length_append, List.length_cons, List.length_nil] at *; omega) (by decide)) ?_)⟩
          rintro _ _ ⟨A6, k4, rfl, rfl, hA6⟩ hs
          replace hA6 := hA6 (.inl hA5)
          refine ⟨fun w hw => hw.sub (Sub.keep 3 rfl (Sub.keep 3 rfl (Sub.keep 3 rfl (Sub.keep 3 rfl (Sub.keep 3 rfl (Sub.keep 3 rfl (Sub.keep 3 rfl (Sub.keep 3 rfl (Sub.drop (Sub.drop (Sub.drop (Sub.refl _)))))))))))), (D.f hwf 16 rfl (Ef.call1 call54 rfl rfl (fun w hw => l04Made_ok  pv1 ((([] : List B3) ++ (r2[kq1]'e91).1.2) ++ (r2[kq2]'e92).1.2) ((([] : List B3) ++ (r2[kq1]'e91).2.2) ++ (r2[kq2]'e92).2.2) _ _ _ _ w ((Ld.own 0 (by exact rfl)) w hw) ((Ld.own 1 (by exact rfl)) w hw) (by simp only [List.length_append, List.length_nil]; omega) (by simp only [List.length_append, List.length_nil]; omega) (by simp only [List.length_append, List.length_nil]; omega) (by simp only [List.length_append, List.length_nil]; omega))) ?_)⟩
          rintro _ _ rfl hs
          refine ⟨fun w hw => hs w hw.tail, (D.exi (fun o2A => D.exi (fun o2c => D.exi (fun o2 => D.exi (fun i2A => D.exi (fun i2c => D.exi (fun i2 => D.sep (D.pur1 ?_))))))))⟩
          rintro ⟨rfl, ho2_1, ho2_2⟩
          refine D.sep ?_
          have hlm1 := ho2_1.1.length_eq
          have hlm2 := ho2_2.1.length_eq
          simp only [List.length_append, List.length_nil] at hlm1 hlm2
          refine D.f hwf 18 rfl (Ef.storeAll 4 rfl sz28 rfl rfl rfl rfl (by simp [Value.oneCell']) rfl) ?_
          rintro _ _ rfl hs
          exact ⟨fun w hw => hw.sub (Sub.keep 5 rfl (Sub.keep 5 rfl (Sub.keep 5 rfl (Sub.keep 5 rfl (Sub.keep 5 rfl (Sub.keep 5 rfl (Sub.keep 5 rfl (Sub.keep 5 rfl (Sub.drop (Sub.drop (Sub.drop (Sub.drop (Sub.drop (Sub.refl _)))))))))))))), (D.done hwf rfl (X.cutE (b5, o2A, o2c, o2, i2A, i2c, i2) (by (try dsimp only); exact ⟨by omega, by omega⟩) (Ent.cons rfl (Ent.nil _)) (Ent.cons (t := 0) rfl (Ent.cons (t := 2) rfl (Ent.cons (t := 3) rfl (Ent.nil _)))) (Sub.keep 4 rfl (Sub.k (Sub.k (Sub.keep 2 rfl (Sub.keep 2 rfl (Sub.keep 2 rfl (Sub.keep 2 rfl (Sub.keep 2 rfl (Sub.keep 2 rfl (Sub.keep 2 rfl (Sub.keep 2 rfl (Sub.drop (Sub.drop (Sub.refl _))))))))))))))))⟩
       ·rintro ⟨b11, oA, oc, o, iA, ic, i⟩ ⟨hlo8, hli8⟩
        dsimp only at hlo8 hli8 ⊢
        refine X.next (V.seq (V.region (O.q rfl (Pu.loadAgg rfl ag28 sz28 rfl rfl (Ld.whole 0 rfl)) (O.f rfl (Ef.callP call43 rfl rfl (fun w hw => l04Is_ok  pv1 o i _ _ _ _ w ((Ld.own 1 (by exact rfl)) w hw) ((Ld.own 2 (by exact rfl)) w hw) (by omega) (by omega) )) ?_))))
        rintro _ _ ⟨rfl, rfl⟩
        refine O.nil (X.next (V.condD rfl (fun c8 => ?_) (fun c8 => ?_)))
        ·refine V.seq (V.region (O.q rfl (Pu.loadAgg rfl ag28 sz28 rfl rfl (Ld.whole 0 rfl)) (O.s rfl rfl (Ef.storeAll 10 rfl sz28 rfl rfl rfl rfl (by simp [Value.oneCell']) rfl) ?_)))
         rintro _ _ rfl
         exact O.nil (X.next (V.ret (X.thenRet (X.blockRet (X.thenRet (X.retCell rfl ag28 sz28 rfl rfl (Ld.whole 10 rfl) (RetM.map (fun w hw => St.trd (hw.sub (Sub.keep 1 rfl (Sub.keep 1 rfl (Sub.keep 3 rfl (Sub.drop (Sub.drop (Sub.drop (Sub.drop (Sub.drop (Sub.drop (Sub.drop (Sub.drop (Sub.refl _)))))))))))))) (fun w hw => St.mkExi pv1 (St.mkExi oA (St.mkExi oc (St.mkExi o (St.mkExi iA (St.mkExi ic (St.mkExi i (St.unsep (St.addPur ⟨rfl, (by first | omega | (simp only [List.length_nil]; omega)), (by first | omega | (simp only [List.length_nil]; omega))⟩ (St.unsep (hw.sub (Sub.k (Sub.k (Sub.refl _)))))))))))))))))))))
        ·exact V.skip (X.cut (Ent.nil _) (Ent.cons (t := 0) rfl (Ent.cons (t := 2) rfl (Ent.cons (t := 3) rfl (Ent.nil _)))) (Sub.keep 5 rfl (Sub.keep 5 rfl (Sub.keep 7 rfl (Sub.keep 7 rfl (Sub.drop (Sub.drop (Sub.drop (Sub.drop (Sub.drop (Sub.drop (Sub.drop (Sub.refl _)))))))))))))
     ·exact V.skip (X.cut (Ent.nil _) (Ent.cons (t := 0) rfl (Ent.cons (t := 2) rfl (Ent.cons (t := 3) rfl (Ent.nil _)))) (Sub.k (Sub.k (Sub.keep 2 rfl (Sub.keep 2 rfl (Sub.drop (Sub.drop (Sub.refl _))))))))
    ·refine V.seq (V.region (O.q rfl (Pu.eql rfl rfl rfl) (O.m rfl (O.nil (X.next (V.condD rfl (fun c9 => ?_) (fun c9 => ?_)))))))
     ·refine V.seq (V.region (O.q rfl (Pu.fieldAddr 0 rfl Tryz.underlying26 rfl sz2 rfl rfl) (O.q rfl (Pu.load rfl pl2 rfl (Ld.blk 4 rfl rfl)) (O.f rfl (Ef.build B3C ([] : List B3) rfl Tryz.underlying24 inf69 rfl rfl rfl (by first | decide | (simp; done)) (by kernel_rfl)) ?_))))
      rintro _ _ ⟨A1, hA1, rfl, rfl⟩
      refine O.f rfl (Ef.build B3C ([] : List B3) rfl Tryz.underlying24 inf69 rfl rfl rfl (by first | decide | (simp; done)) (by kernel_rfl)) ?_
      rintro _ _ ⟨A2, hA2, rfl, rfl⟩
      refine O.q rfl (Pu.buildS (cs := [.int .i64 pv1, .slice A1 0 0, .slice A2 0 0]) rfl rfl Tryz.underlying28 zr28 (by kernel_rfl) rfl (by kernel_rfl)) (O.s rfl rfl (Ef.storeAll 7 rfl sz28 rfl rfl rfl rfl (by simp [Value.oneCell']) rfl) ?_)
      rintro _ _ rfl
      exact O.nil (X.next (V.ret (X.thenRet (X.blockRet (X.thenRet (X.retCell rfl ag28 sz28 rfl rfl (Ld.whole 7 rfl) (RetM.map (fun w hw => St.trd (hw.sub (Sub.keep 1 rfl (Sub.k (Sub.k (Sub.drop (Sub.drop (Sub.drop (Sub.drop (Sub.drop (Sub.refl _))))))))))) (fun w hw => St.mkExi pv1 (St.mkExi A1 (St.mkExi 0 (St.mkExi ([] : List B3) (St.mkExi A2 (St.mkExi 0 (St.mkExi ([] : List B3) (St.unsep (St.addPur ⟨rfl, (by first | omega | (simp only [List.length_nil]; omega)), (by first | omega | (simp only [List.length_nil]; omega))⟩ (St.unsep (hw.sub (Sub.k (Sub.k (Sub.refl _)))))))))))))))))))))
     ·exact V.skip (X.cut (Ent.nil _) (Ent.cons (t := 0) rfl (Ent.cons (t := 2) rfl (Ent.cons (t := 3) rfl (Ent.nil _)))) (Sub.k (Sub.k (Sub.keep 2 rfl (Sub.keep 2 rfl (Sub.drop (Sub.drop (Sub.refl _))))))))
 ·refine X.blockNormal (X.next (V.seq (V.region (O.q rfl (Pu.fieldAddr 0 rfl Tryz.underlying26 rfl sz2 rfl rfl) (O.q rfl (Pu.load rfl pl2 rfl (Ld.blk 2 rfl rfl)) (O.m rfl (O.nil (X.next (V.seq (V.seq (V.region ?_)))))))))))
  refine O.m rfl (O.nil (X.next (V.block (V.loop3 (β := Nat) (fun k => [(13, .int .i64 (k : Int))]) _ (fun k => []) _ (fun k => k ≤ 20) (fun k => 20 - k) 0 (by omega) (Ent.cons rfl (Ent.nil _)) (Ent.cons (t := 0) rfl (Ent.cons (t := 2) rfl (Ent.cons (t := 3) rfl (Ent.cons (t := 12) rfl (Ent.nil _))))) (Sub.k (Sub.k (Sub.k (Sub.k (Sub.refl _))))) ?_))))
  rintro k hk
  refine V.seq (V.seq (V.region (O.m rfl (O.q rfl (Pu.lss rfl rfl rfl) (O.m rfl (O.splitD 108 rfl (fun c10 => ?_) (fun c10 => ?_)))))))
  ·refine O.gm rfl (O.gq rfl (Pu.gtr rfl rfl rfl) (O.m rfl (O.nil (X.next (V.condD rfl (fun c11 => ?_) (fun c11 => ?_))))))
   ·refine V.skip (X.next (V.seq (V.block (V.seq (V.drawS mo (by kernel_rfl) (Sub.keep 1 rfl (Sub.keep 1 rfl (Sub.keep 1 rfl (Sub.drop (Sub.refl _))))) (fun hwf => D.q 0 rfl (Pu.loadAgg rfl ag26 sz26 rfl rfl (Ld.whole 1 rfl)) (D.m 1 rfl (D.m 2 rfl (D.m 4 rfl (D.m 5 rfl (D.m 7 rfl ?_)))))))))))
    refine D.m 8 rfl (D.either hwf (e1 := 3) (e2 := 14) rfl ?_ ?_)
    ·refine ⟨_, _, rfl, rfl, fun _ _ => wanted_none rfl _, Ef.call call68 rfl rfl (Does.pre (fun w hw => hw.sub (Sub.k (Sub.k (Sub.k (Sub.k (Sub.refl _)))))) (l01Next_ok _ _ _ s pv1 w0 _   (by first | assumption | omega | (try dsimp only at *; omega)) (by first | assumption | omega | (try dsimp only at *; omega)))), rfl, rfl, ?_⟩
     rintro _ _ rfl hs
     refine ⟨fun w hw => hw.tail.sub (Sub.k (Sub.k (Sub.k (Sub.refl _)))), (D.exi (fun r7 => D.sep (D.pur1 ?_)))⟩
     rintro ⟨rfl, hr7_1, hr7_2, hr7_3⟩
     refine D.either hwf (e1 := 6) (e2 := 14) rfl ?_ ?_
     ·refine ⟨_, _, rfl, rfl, fun _ _ => wanted_none rfl _, Ef.call call68 rfl rfl (Does.pre (fun w hw => hw.sub (Sub.k (Sub.k (Sub.k (Sub.k (Sub.refl _)))))) (l01Next_ok _ _ _ s pv1 w0 _   (by first | assumption | omega | (try dsimp only at *; omega)) (by first | assumption | omega | (try dsimp only at *; omega)))), rfl, rfl, ?_⟩
      rintro _ _ rfl hs
      refine ⟨fun w hw => hw.tail.sub (Sub.k (Sub.k (Sub.k (Sub.refl _)))), (D.exi (fun r8 => D.sep (D.pur1 ?_)))⟩
      rintro ⟨rfl, hr8_1, hr8_2, hr8_3⟩
      refine D.either hwf (e1 := 9) (e2 := 14) rfl ?_ ?_
      ·refine ⟨_, _, rfl, rfl, fun _ _ => wanted_none rfl _, Ef.call call68 rfl rfl (Does.pre (fun w hw => hw.sub (Sub.k (Sub.k (Sub.k (Sub.k (Sub.refl _)))))) (l01Next_ok _ _ _ s pv1 w0 _   (by first | assumption | omega | (try dsimp only at *; omega)) (by first | assumption | omega | (try dsimp only at *; omega)))), rfl, rfl, ?_⟩
       rintro _ _ rfl hs
       refine ⟨fun w hw => hw.tail.sub (Sub.k (Sub.k (Sub.k (Sub.refl _)))), (D.exi (fun r9 => D.sep (D.pur1 ?_)))⟩
       rintro ⟨rfl, hr9_1, hr9_2, hr9_3⟩
       refine D.either hwf (e1 := 10) (e2 := 14) rfl ?_ ?_
       ·refine ⟨_, _, rfl, rfl, fun _ _ => wanted_none rfl _, Ef.call1 call131 rfl rfl (fun w hw => specCycle_ok  pv1 r1 r7 r8 r9 _ _ w ((Ld.trO 1 (by exact rfl)) w hw) (by first | omega | (simp only [tops_len, conts_len, bl, List.length_append, List.length_cons, List.length_nil] at *; omega)) ), rfl, rfl, ?_⟩
        rintro _ _ rfl hs
        refine ⟨fun w hw => hs w hw.tail, (D.exi (fun o2A => D.exi (fun o2c => D.exi (fun o2 => D.exi (fun i2A => D.exi (fun i2c => D.exi (fun i2 => D.sep (D.pur1 ?_))))))))⟩
        rintro ⟨rfl, ho2_1⟩
        refine D.sep ?_
        have hcl := ho2_1.len
        refine D.m 11 rfl (D.m 12 rfl (D.m 13 rfl (D.f hwf 14 rfl (Ef.alloc rfl zr28 rfl) ?_)))
        rintro _ _ ⟨b5, rfl, rfl⟩ hs
        refine ⟨fun w hw => hw.sub (Sub.keep 4 rfl (Sub.keep 4 rfl (Sub.keep 4 rfl (Sub.drop (Sub.drop (Sub.drop (Sub.drop (Sub.refl _)))))))), (D.f hwf 15 rfl (Ef.storeAll 0 rfl sz28 rfl rfl rfl rfl (by simp [Value.oneCell']) rfl) ?_)⟩
        rintro _ _ rfl hs
        refine ⟨fun w hw => hw.sub (Sub.keep 4 rfl (Sub.keep 4 rfl (Sub.keep 4 rfl (Sub.drop (Sub.drop (Sub.drop (Sub.drop (Sub.refl _)))))))), (D.m 16 rfl (D.done hwf rfl (X.next (V.seq (V.region (O.m rfl (O.q rfl (Pu.eql rfl rfl rfl) (O.nil (X.next (V.condD rfl (fun c12 => ?_) (fun c12 => ?_)))))))))))⟩
        ·refine V.seq (V.region (O.q rfl (Pu.loadAgg rfl ag28 sz28 rfl rfl (Ld.whole 0 rfl)) (O.s rfl rfl (Ef.storeAll 6 rfl sz28 rfl rfl rfl rfl (by simp [Value.oneCell']) rfl) ?_)))
         rintro _ _ rfl
         exact O.nil (X.next (V.ret (X.blockRet (X.thenRet (X.thenRet (X.blockRet (X.thenRet (X.retCell rfl ag28 sz28 rfl rfl (Ld.whole 6 rfl) (RetM.map (fun w hw => St.trd (hw.sub (Sub.keep 1 rfl (Sub.keep 1 rfl (Sub.keep 1 rfl (Sub.drop (Sub.drop (Sub.drop (Sub.drop (Sub.refl _)))))))))) (fun w hw => St.mkExi (if cyCode pv1 r1 r7 r8 r9 = 0 then pv1 else 0) (St.mkExi o2A (St.mkExi o2c (St.mkExi o2 (St.mkExi i2A (St.mkExi i2c (St.mkExi i2 (St.unsep (St.addPur ⟨rfl, (by first | omega | (simp only [List.length_nil]; omega)), (by first | omega | (simp only [List.length_nil]; omega))⟩ (St.unsep (hw.sub (Sub.k (Sub.k (Sub.refl _)))))))))))))))))))))))
        ·exact V.skip (X.blockNormal (X.next (V.region (O.m rfl (O.q rfl (Pu.add64 (r := ((k + 1 : Nat) : Int)) rfl (by omega) rfl rfl rfl) (O.m rfl (O.nil (X.back3 (k + 1) (by omega) (by first | omega | (dsimp only; omega)) (Ent.cons rfl (Ent.nil _)) (Ent.cons (t := 0) rfl (Ent.cons (t := 2) rfl (Ent.cons (t := 3) rfl (Ent.cons (t := 12) rfl (Ent.nil _))))) (Sub.keep 3 rfl (Sub.keep 3 rfl (Sub.keep 3 rfl (Sub.keep 3 rfl (Sub.drop (Sub.drop (Sub.drop (Sub.refl _))))))))))))))))
       ·refine ⟨_, _, rfl, rfl, fun _ _ => wanted_none rfl _, Ef.alloc rfl zr28 rfl, rfl, rfl, ?_⟩
        rintro _ _ ⟨b5, rfl, rfl⟩ hs
        refine ⟨fun w hw => hw.sub (Sub.keep 2 rfl (Sub.keep 2 rfl (Sub.keep 2 rfl (Sub.drop (Sub.drop (Sub.refl _)))))), (D.f hwf 10 rfl (Ef.call1 call131 rfl rfl (fun w hw => specCycle_ok  pv1 r1 r7 r8 r9 _ _ w ((Ld.trO 2 (by exact rfl)) w hw) (by first | omega | (simp only [tops_len, conts_len, bl, List.length_append, List.length_cons, List.length_nil] at *; omega)) )) ?_)⟩
        rintro _ _ rfl hs
        refine ⟨fun w hw => hs w hw.tail, (D.exi (fun o2A => D.exi (fun o2c => D.exi (fun o2 => D.exi (fun i2A => D.exi (fun i2c => D.exi (fun i2 => D.sep (D.pur1 ?_))))))))⟩
        rintro ⟨rfl, ho2_1⟩
        refine D.sep ?_
        have hcl := ho2_1.len
        refine D.m 11 rfl (D.m 12 rfl (D.m 13 rfl (D.f hwf 15 rfl (Ef.storeAll 2 rfl sz28 rfl rfl rfl rfl (by simp [Value.oneCell']) rfl) ?_)))
        rintro _ _ rfl hs
        refine ⟨fun w hw => hw.sub (Sub.keep 4 rfl (Sub.keep 4 rfl (Sub.keep 4 rfl (Sub.drop (Sub.drop (Sub.drop (Sub.drop (Sub.refl _)))))))), (D.m 16 rfl (D.done hwf rfl (X.next (V.seq (V.region (O.m rfl (O.q rfl (Pu.eql rfl rfl rfl) (O.nil (X.next (V.condD rfl (fun c12 => ?_) (fun c12 => ?_)))))))))))⟩
        ·refine V.seq (V.region (O.q rfl (Pu.loadAgg rfl ag28 sz28 rfl rfl (Ld.whole 2 rfl)) (O.s rfl rfl (Ef.storeAll 6 rfl sz28 rfl rfl rfl rfl (by simp [Value.oneCell']) rfl) ?_)))
         rintro _ _ rfl
         exact O.nil (X.next (V.ret (X.blockRet (X.thenRet (X.thenRet (X.blockRet (X.thenRet (X.retCell rfl ag28 sz28 rfl rfl (Ld.whole 6 rfl) (RetM.map (fun w hw => St.trd (hw.sub (Sub.k (Sub.k (Sub.keep 1 rfl (Sub.drop (Sub.drop (Sub.drop (Sub.drop (Sub.refl _)))))))))) (fun w hw => St.mkExi (if cyCode pv1 r1 r7 r8 r9 = 0 then pv1 else 0) (St.mkExi o2A (St.mkExi o2c (St.mkExi o2 (St.mkExi i2A (St.mkExi i2c (St.mkExi i2 (St.unsep (St.addPur ⟨rfl, (by first | omega | (simp only [List.length_nil]; omega)), (by first | omega | (simp only [List.length_nil]; omega))⟩ (St.unsep (hw.sub (Sub.k (Sub.k (Sub.refl _)))))))))))))))))))))))
        ·exact V.skip (X.blockNormal (X.next (V.region (O.m rfl (O.q rfl (Pu.add64 (r := ((k + 1 : Nat) : Int)) rfl (by omega) rfl rfl rfl) (O.m rfl (O.nil (X.back3 (k + 1) (by omega) (by first | omega | (dsimp only; omega)) (Ent.cons rfl (Ent.nil _)) (Ent.cons (t := 0) rfl (Ent.cons (t := 2) rfl (Ent.cons (t := 3) rfl (Ent.cons (t := 12) rfl (Ent.nil _))))) (Sub.keep 3 rfl (Sub.keep 3 rfl (Sub.keep 3 rfl (Sub.keep 3 rfl (Sub.drop (Sub.drop (Sub.drop (Sub.refl _))))))))))))))))
      ·refine ⟨_, _, rfl, rfl, fun _ _ => wanted_none rfl _, Ef.alloc rfl zr28 rfl, rfl, rfl, ?_⟩
       rintro _ _ ⟨b5, rfl, rfl⟩ hs
       refine ⟨fun w hw => hw.sub (Sub.keep 2 rfl (Sub.keep 2 rfl (Sub.keep 2 rfl (Sub.drop (Sub.drop (Sub.refl _)))))), (D.f hwf 9 rfl (Ef.call call68 rfl rfl (Does.pre (fun w hw => hw.sub (Sub.keep 1 rfl (Sub.k (Sub.k (Sub.k (Sub.k (Sub.refl _))))))) (l01Next_ok _ _ _ s pv1 w0 _   (by first | assumption | omega | (try dsimp only at *; omega)) (by first | assumption | omega | (try dsimp only at *; omega))))) ?_)⟩
       rintro _ _ rfl hs
       refine ⟨fun w hw => hw.tail.sub (Sub.keep 1 rfl (Sub.keep 1 rfl (Sub.keep 1 rfl (Sub.drop (Sub.refl _))))), (D.exi (fun r9 => D.sep (D.pur1 ?_)))⟩
       rintro ⟨rfl, hr9_1, hr9_2, hr9_3⟩
       refine D.f hwf 10 rfl (Ef.call1 call131 rfl rfl (fun w hw => specCycle_ok  pv1 r1 r7 r8 r9 _ _ w ((Ld.trO 2 (by exact rfl)) w hw) (by first | omega | (simp only [tops_len, conts_len, bl, List.length_append, List.length_cons, List.length_nil] at *; omega)) )) ?_
       rintro _ _ rfl hs
       refine ⟨fun w hw => hs w hw.tail, (D.exi (fun o2A => D.exi (fun o2c => D.exi (fun o2 => D.exi (fun i2A => D.exi (fun i2c => D.exi (fun i2 => D.sep (D.pur1 ?_))))))))⟩
       rintro ⟨rfl, ho2_1⟩
       refine D.sep ?_
       have hcl := ho2_1.len
       refine D.m 11 rfl (D.m 12 rfl (D.m 13 rfl (D.f hwf 15 rfl (Ef.storeAll 3 rfl sz28 rfl rfl rfl rfl (by simp [Value.oneCell']) rfl) ?_)))
       rintro _ _ rfl hs
       refine ⟨fun w hw => hw.sub (Sub.keep 4 rfl (Sub.keep 4 rfl (Sub.keep 4 rfl (Sub.drop (Sub.drop (Sub.drop (Sub.drop (Sub.refl _)))))))), (D.m 16 rfl (D.done hwf rfl (X.next (V.seq (V.region (O.m rfl (O.q rfl (Pu.eql rfl rfl rfl) (O.nil (X.next (V.condD rfl (fun c12 => ?_) (fun c12 => ?_)))))))))))⟩
       ·refine V.seq (V.region (O.q rfl (Pu.loadAgg rfl ag28 sz28 rfl rfl (Ld.whole 3 rfl)) (O.s rfl rfl (Ef.storeAll 6 rfl sz28 rfl rfl rfl rfl (by simp [Value.oneCell']) rfl) ?_)))
        rintro _ _ rfl
        exact O.nil (X.next (V.ret (X.blockRet (X.thenRet (X.thenRet (X.blockRet (X.thenRet (X.retCell rfl ag28 sz28 rfl rfl (Ld.whole 6 rfl) (RetM.map (fun w hw => St.trd (hw.sub (Sub.k (Sub.k (Sub.k (Sub.drop (Sub.drop (Sub.drop (Sub.drop (Sub.refl _)))))))))) (fun w hw => St.mkExi (if cyCode pv1 r1 r7 r8 r9 = 0 then pv1 else 0) (St.mkExi o2A (St.mkExi o2c (St.mkExi o2 (St.mkExi i2A (St.mkExi i2c (St.mkExi i2 (St.unsep (St.addPur ⟨rfl, (by first | omega | (simp only [List.length_nil]; omega)), (by first | omega | (simp only [List.length_nil]; omega))⟩ (St.unsep (hw.sub (Sub.k (Sub.k (Sub.refl _)))))))))))))))))))))))
       ·exact V.skip (X.blockNormal (X.next (V.region (O.m rfl (O.q rfl (Pu.add64 (r := ((k + 1 : Nat) : Int)) rfl (by omega) rfl rfl rfl) (O.m rfl (O.nil (X.back3 (k + 1) (by omega) (by first | omega | (dsimp only; omega)) (Ent.cons rfl (Ent.nil _)) (Ent.cons (t := 0) rfl (Ent.cons (t := 2) rfl (Ent.cons (t := 3) rfl (Ent.cons (t := 12) rfl (Ent.nil _))))) (Sub.keep 2 rfl (Sub.keep 3 rfl (Sub.keep 3 rfl (Sub.keep 3 rfl (Sub.drop (Sub.drop (Sub.drop (Sub.refl _))))))))))))))))
     ·refine ⟨_, _, rfl, rfl, fun _ _ => wanted_none rfl _, Ef.alloc rfl zr28 rfl, rfl, rfl, ?_⟩
      rintro _ _ ⟨b5, rfl, rfl⟩ hs
      refine ⟨fun w hw => hw.sub (Sub.keep 2 rfl (Sub.keep 2 rfl (Sub.keep 2 rfl (Sub.drop (Sub.drop (Sub.refl _)))))), (D.f hwf 6 rfl (Ef.call call68 rfl rfl (Does.pre (fun w hw => hw.sub (Sub.keep 1 rfl (Sub.k (Sub.k (Sub.k (Sub.k (Sub.refl _))))))) (l01Next_ok _ _ _ s pv1 w0 _   (by first | assumption | omega | (try dsimp only at *; omega)) (by first | assumption | omega | (try dsimp only at *; omega))))) ?_)⟩
      rintro _ _ rfl hs
      refine ⟨fun w hw => hw.tail.sub (Sub.keep 1 rfl (Sub.keep 1 rfl (Sub.keep 1 rfl (Sub.drop (Sub.refl _))))), (D.exi (fun r8 => D.sep (D.pur1 ?_)))⟩
      rintro ⟨rfl, hr8_1, hr8_2, hr8_3⟩
      refine D.f hwf 9 rfl (Ef.call call68 rfl rfl (Does.pre (fun w hw => hw.sub (Sub.k (Sub.k (Sub.k (Sub.k (Sub.k (Sub.refl _))))))) (l01Next_ok _ _ _ s pv1 w0 _   (by first | assumption | omega | (try dsimp only at *; omega)) (by first | assumption | omega | (try dsimp only at *; omega))))) ?_
      rintro _ _ rfl hs
      refine ⟨fun w hw => hw.tail.sub (Sub.keep 1 rfl (Sub.keep 1 rfl (Sub.keep 1 rfl (Sub.drop (Sub.refl _))))), (D.exi (fun r9 => D.sep (D.pur1 ?_)))⟩
      rintro ⟨rfl, hr9_1, hr9_2, hr9_3⟩
      refine D.f hwf 10 rfl (Ef.call1 call131 rfl rfl (fun w hw => specCycle_ok  pv1 r1 r7 r8 r9 _ _ w ((Ld.trO 2 (by exact rfl)) w hw) (by first | omega | (simp only [tops_len, conts_len, bl, List.length_append, List.length_cons, List.length_nil] at *; omega)) )) ?_
      rintro _ _ rfl hs
      refine ⟨fun w hw => hs w hw.tail, (D.exi (fun o2A => D.exi (fun o2c => D.exi (fun o2 => D.exi (fun i2A => D.exi (fun i2c => D.exi (fun i2 => D.sep (D.pur1 ?_))))))))⟩
      rintro ⟨rfl, ho2_1⟩
      refine D.sep ?_
      have hcl := ho2_1.len
      refine D.m 11 rfl (D.m 12 rfl (D.m 13 rfl (D.f hwf 15 rfl (Ef.storeAll 3 rfl sz28 rfl rfl rfl rfl (by simp [Value.oneCell']) rfl) ?_)))
      rintro _ _ rfl hs
      refine ⟨fun w hw => hw.sub (Sub.keep 4 rfl (Sub.keep 4 rfl (Sub.keep 4 rfl (Sub.drop (Sub.drop (Sub.drop (Sub.drop (Sub.refl _)))))))), (D.m 16 rfl (D.done hwf rfl (X.next (V.seq (V.region (O.m rfl (O.q rfl (Pu.eql rfl rfl rfl) (O.nil (X.next (V.condD rfl (fun c12 => ?_) (fun c12 => ?_)))))))))))⟩
      ·refine V.seq (V.region (O.q rfl (Pu.loadAgg rfl ag28 sz28 rfl rfl (Ld.whole 3 rfl)) (O.s rfl rfl (Ef.storeAll 6 rfl sz28 rfl rfl rfl rfl (by simp [Value.oneCell']) rfl) ?_)))
       rintro _ _ rfl
       exact O.nil (X.next (V.ret (X.blockRet (X.thenRet (X.thenRet (X.blockRet (X.thenRet (X.retCell rfl ag28 sz28 rfl rfl (Ld.whole 6 rfl) (RetM.map (fun w hw => St.trd (hw.sub (Sub.k (Sub.k (Sub.k (Sub.drop (Sub.drop (Sub.drop (Sub.drop (Sub.refl _)))))))))) (fun w hw => St.mkExi (if cyCode pv1 r1 r7 r8 r9 = 0 then pv1 else 0) (St.mkExi o2A (St.mkExi o2c (St.mkExi o2 (St.mkExi i2A (St.mkExi i2c (St.mkExi i2 (St.unsep (St.addPur ⟨rfl, (by first | omega | (simp only [List.length_nil]; omega)), (by first | omega | (simp only [List.length_nil]; omega))⟩ (St.unsep (hw.sub (Sub.k (Sub.k (Sub.refl _)))))))))))))))))))))))
      ·exact V.skip (X.blockNormal (X.next (V.region (O.m rfl (O.q rfl (Pu.add64 (r := ((k + 1 : Nat) : Int)) rfl (by omega) rfl rfl rfl) (O.m rfl (O.nil (X.back3 (k + 1) (by omega) (by first | omega | (dsimp only; omega)) (Ent.cons rfl (Ent.nil _)) (Ent.cons (t := 0) rfl (Ent.cons (t := 2) rfl (Ent.cons (t := 3) rfl (Ent.cons (t := 12) rfl (Ent.nil _))))) (Sub.keep 2 rfl (Sub.keep 3 rfl (Sub.keep 3 rfl (Sub.keep 3 rfl (Sub.drop (Sub.drop (Sub.drop (Sub.refl _))))))))))))))))
    ·refine ⟨_, _, rfl, rfl, fun _ _ => wanted_none rfl _, Ef.alloc rfl zr28 rfl, rfl, rfl, ?_⟩
     rintro _ _ ⟨b5, rfl, rfl⟩ hs
     refine ⟨fun w hw => hw.sub (Sub.keep 2 rfl (Sub.keep 2 rfl (Sub.keep 2 rfl (Sub.drop (Sub.drop (Sub.refl _)))))), (D.f hwf 3 rfl (Ef.call call68 rfl rfl (Does.pre (fun w hw => hw.sub (Sub.keep 1 rfl (Sub.k (Sub.k (Sub.k (Sub.k (Sub.refl _))))))) (l01Next_ok _ _ _ s pv1 w0 _   (by first | assumption | omega | (try dsimp only at *; omega)) (by first | assumption | omega | (try dsimp only at *; omega))))) ?_)⟩
     rintro _ _ rfl hs
     refine ⟨fun w hw => hw.tail.sub (Sub.keep 1 rfl (Sub.keep 1 rfl (Sub.keep 1 rfl (Sub.drop (Sub.refl _))))), (D.exi (fun r7 => D.sep (D.pur1 ?_)))⟩
     rintro ⟨rfl, hr7_1, hr7_2, hr7_3⟩
     refine D.f hwf 6 rfl (Ef.call call68 rfl rfl (Does.pre (fun w hw => hw.sub (Sub.k (Sub.k (Sub.k (Sub.k (Sub.k (Sub.refl _))))))) (l01Next_ok _ _ _ s pv1 w0 _   (by first | assumption | omega | (try dsimp only at *; omega)) (by first | assumption | omega | (try dsimp only at *; omega))))) ?_
     rintro _ _ rfl hs
     refine ⟨fun w hw => hw.tail.sub (Sub.keep 1 rfl (Sub.keep 1 rfl (Sub.keep 1 rfl (Sub.drop (Sub.refl _))))), (D.exi (fun r8 => D.sep (D.pur1 ?_)))⟩
     rintro ⟨rfl, hr8_1, hr8_2, hr8_3⟩
     refine D.f hwf 9 rfl (Ef.call call68 rfl rfl (Does.pre (fun w hw => hw.sub (Sub.k (Sub.k (Sub.k (Sub.k (Sub.k (Sub.refl _))))))) (l01Next_ok _ _ _ s pv1 w0 _   (by first | assumption | omega | (try dsimp only at *; omega)) (by first | assumption | omega | (try dsimp only at *; omega))))) ?_
     rintro _ _ rfl hs
     refine ⟨fun w hw => hw.tail.sub (Sub.keep 1 rfl (Sub.keep 1 rfl (Sub.keep 1 rfl (Sub.drop (Sub.refl _))))), (D.exi (fun r9 => D.sep (D.pur1 ?_)))⟩
     rintro ⟨rfl, hr9_1, hr9_2, hr9_3⟩
     refine D.f hwf 10 rfl (Ef.call1 call131 rfl rfl (fun w hw => specCycle_ok  pv1 r1 r7 r8 r9 _ _ w ((Ld.trO 2 (by exact rfl)) w hw) (by first | omega | (simp only [tops_len, conts_len, bl, List.length_append, List.length_cons, List.length_nil] at *; omega)) )) ?_
     rintro _ _ rfl hs
     refine ⟨fun w hw => hs w hw.tail, (D.exi (fun o2A => D.exi (fun o2c => D.exi (fun o2 => D.exi (fun i2A => D.exi (fun i2c => D.exi (fun i2 => D.sep (D.pur1 ?_))))))))⟩
     rintro ⟨rfl, ho2_1⟩
     refine D.sep ?_
     have hcl := ho2_1.len
     refine D.m 11 rfl (D.m 12 rfl (D.m 13 rfl (D.f hwf 15 rfl (Ef.storeAll 3 rfl sz28 rfl rfl rfl rfl (by simp [Value.oneCell']) rfl) ?_)))
     rintro _ _ rfl hs
     refine ⟨fun w hw => hw.sub (Sub.keep 4 rfl (Sub.keep 4 rfl (Sub.keep 4 rfl (Sub.drop (Sub.drop (Sub.drop (Sub.drop (Sub.refl _)))))))), (D.m 16 rfl (D.done hwf rfl (X.next (V.seq (V.region (O.m rfl (O.q rfl (Pu.eql rfl rfl rfl) (O.nil (X.next (V.condD rfl (fun c12 => ?_) (fun c12 => ?_)))))))))))⟩
     ·refine V.seq (V.region (O.q rfl (Pu.loadAgg rfl ag28 sz28 rfl rfl (Ld.whole 3 rfl)) (O.s rfl rfl (Ef.storeAll 6 rfl sz28 rfl rfl rfl rfl (by simp [Value.oneCell']) rfl) ?_)))
      rintro _ _ rfl
      exact O.nil (X.next (V.ret (X.blockRet (X.thenRet (X.thenRet (X.blockRet (X.thenRet (X.retCell rfl ag28 sz28 rfl rfl (Ld.whole 6 rfl) (RetM.map (fun w hw => St.trd (hw.sub (Sub.k (Sub.k (Sub.k (Sub.drop (Sub.drop (Sub.drop (Sub.drop (Sub.refl _)))))))))) (fun w hw => St.mkExi (if cyCode pv1 r1 r7 r8 r9 = 0 then pv1 else 0) (St.mkExi o2A (St.mkExi o2c (St.mkExi o2 (St.mkExi i2A (St.mkExi i2c (St.mkExi i2 (St.unsep (St.addPur ⟨rfl, (by first | omega | (simp only [List.length_nil]; omega)), (by first | omega | (simp only [List.length_nil]; omega))⟩ (St.unsep (hw.sub (Sub.k (Sub.k (Sub.refl _)))))))))))))))))))))))
     ·exact V.skip (X.blockNormal (X.next (V.region (O.m rfl (O.q rfl (Pu.add64 (r := ((k + 1 : Nat) : Int)) rfl (by omega) rfl rfl rfl) (O.m rfl (O.nil (X.back3 (k + 1) (by omega) (by first | omega | (dsimp only; omega)) (Ent.cons rfl (Ent.nil _)) (Ent.cons (t := 0) rfl (Ent.cons (t := 2) rfl (Ent.cons (t := 3) rfl (Ent.cons (t := 12) rfl (Ent.nil _))))) (Sub.keep 2 rfl (Sub.keep 3 rfl (Sub.keep 3 rfl (Sub.keep 3 rfl (Sub.drop (Sub.drop (Sub.drop (Sub.refl _))))))))))))))))
   ·refine V.exit (X.thenExit (X.thenExit (X.blockHit (X.next (V.seq (V.region (O.m rfl (O.f rfl (Ef.build B3C ([] : List B3) rfl Tryz.underlying24 inf69 rfl rfl rfl (by first | decide | (simp; done)) (by kernel_rfl)) ?_))))))))
    rintro _ _ ⟨A3, hA3, rfl, rfl⟩
    refine O.f rfl (Ef.build B3C ([] : List B3) rfl Tryz.underlying24 inf69 rfl rfl rfl (by first | decide | (simp; done)) (by kernel_rfl)) ?_
    rintro _ _ ⟨A4, hA4, rfl, rfl⟩
    refine O.q rfl (Pu.buildS (cs := [.int .i64 pv1, .slice A3 0 0, .slice A4 0 0]) rfl rfl Tryz.underlying28 zr28 (by kernel_rfl) rfl (by kernel_rfl)) (O.s rfl rfl (Ef.storeAll 5 rfl sz28 rfl rfl rfl rfl (by simp [Value.oneCell']) rfl) ?_)
    rintro _ _ rfl
    exact O.nil (X.next (V.ret (X.retCell rfl ag28 sz28 rfl rfl (Ld.whole 5 rfl) (RetM.map (fun w hw => St.trd (hw.sub (Sub.keep 1 rfl (Sub.k (Sub.k (Sub.drop (Sub.drop (Sub.drop (Sub.refl _))))))))) (fun w hw => St.mkExi pv1 (St.mkExi A3 (St.mkExi 0 (St.mkExi ([] : List B3) (St.mkExi A4 (St.mkExi 0 (St.mkExi ([] : List B3) (St.unsep (St.addPur ⟨rfl, (by first | omega | (simp only [List.length_nil]; omega)), (by first | omega | (simp only [List.length_nil]; omega))⟩ (St.unsep (hw.sub (Sub.k (Sub.k (Sub.refl _))))))))))))))))))
  ·refine O.g rfl (O.g rfl (O.m rfl (O.nil (X.next (V.condF rfl (V.exit (X.thenExit (X.thenExit (X.blockHit (X.next (V.seq ?_)))))))))))
   refine V.region (O.m rfl (O.f rfl (Ef.build B3C ([] : List B3) rfl Tryz.underlying24 inf69 rfl rfl rfl (by first | decide | (simp; done)) (by kernel_rfl)) ?_))
   rintro _ _ ⟨A5, hA5, rfl, rfl⟩
   refine O.f rfl (Ef.build B3C ([] : List B3) rfl Tryz.underlying24 inf69 rfl rfl rfl (by first | decide | (simp; done)) (by kernel_rfl)) ?_
   rintro _ _ ⟨A6, hA6, rfl, rfl⟩
   refine O.q rfl (Pu.buildS (cs := [.int .i64 pv1, .slice A5 0 0, .slice A6 0 0]) rfl rfl Tryz.underlying28 zr28 (by kernel_rfl) rfl (by kernel_rfl)) (O.s rfl rfl (Ef.storeAll 5 rfl sz28 rfl rfl rfl rfl (by simp [Value.oneCell']) rfl) ?_)
   rintro _ _ rfl
   exact O.nil (X.next (V.ret (X.retCell rfl ag28 sz28 rfl rfl (Ld.whole 5 rfl) (RetM.map (fun w hw => St.trd (hw.sub (Sub.keep 1 rfl (Sub.k (Sub.k (Sub.drop (Sub.drop (Sub.drop (Sub.refl _))))))))) (fun w hw => St.mkExi pv1 (St.mkExi A5 (St.mkExi 0 (St.mkExi ([] : List B3) (St.mkExi A6 (St.mkExi 0 (St.mkExi ([] : List B3) (St.unsep (St.addPur ⟨rfl, (by first | omega | (simp only [List.length_nil]; omega)), (by first | omega | (simp only [List.length_nil]; omega))⟩ (St.unsep (hw.sub (Sub.k (Sub.k (Sub.refl _))))))))))))))))))
end Go.Proofs.YtoeldiaidjnibaaGreat
