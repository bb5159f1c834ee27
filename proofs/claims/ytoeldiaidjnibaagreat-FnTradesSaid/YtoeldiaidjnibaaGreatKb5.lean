/-
  Contracts, part 5.
-/
import Derived.Test.YtoeldiaidjnibaaGreatKb4
set_option linter.unusedVariables false
set_option linter.unusedSimpArgs false
namespace Go.Proofs.YtoeldiaidjnibaaGreat
open Go Go.RowKit Go.Vc Go.Proofs
set_option maxRecDepth 100000 in
set_option maxHeartbeats 1000000 in
theorem l01Bad_ok (cA : Option Addr) (cc : Nat) (code : List UInt8) (s : Nat) (v : Int) (bs : List B3) (A : Option Addr) (c : Nat) (w0 : World) (H : List Assn) (hc : Rd U8C w0 cA code) (lc : code.length ≤ 1048576) (hD : DrS 4100 v bs) : Does Tryz.prog 108 [.pointer (some ⟨s, 0, none⟩), .agg #[.int .i64 v, .slice A bs.length c]] w0 (SrcK 118 cA cc code s :: Own 69 B3C A c bs :: H) (fun rv_ => [.exi fun (pv : Int) => .exi fun (rA : Option Addr) => .exi fun (rc : Nat) => .exi fun (r : List B3) => .sep (.pur (rv_ = .agg #[.int .i64 pv, .slice rA r.length rc] ∧ (-1 ≤ pv ∧ pv ≤ 16) ∧ r.length ≤ 4200)) (.sep (Own 69 B3C rA rc r) (SrcK 118 cA cc code s))] ++ H) := by
 refine Does.enter Tryz.func108 rfl rfl [(0, .pointer (some ⟨s, 0, none⟩)), (1, .agg #[.int .i64 v, .slice A bs.length c])] rfl ?_
 have hv := hD.1
 have hl := hD.2.2
 refine V.seq (V.region (O.f rfl (Ef.box rfl rfl rfl) ?_))
 rintro _ _ ⟨b1, rfl, rfl⟩
 refine O.f rfl (Ef.alloc rfl zr26 rfl) ?_
 rintro _ _ ⟨b2, rfl, rfl⟩
 refine O.nil (X.next (V.seq (V.region (O.f rfl (Ef.build B3C ([] : List B3) rfl Tryz.underlying24 inf69 rfl rfl rfl (by first | decide | (simp; done)) (by kernel_rfl)) ?_))))
 rintro _ _ ⟨A1, hA1, rfl, rfl⟩
 refine O.q rfl (Pu.fieldAddr 1 rfl Tryz.underlying26 rfl sz24 rfl rfl) (O.q rfl (Pu.load rfl pl24 rfl (Ld.blk 2 rfl rfl)) (O.f rfl (Ef.appendN (xs := ([] : List B3)) (ys := bs) 0 rfl Tryz.underlying24 inf69 rfl rfl rfl rfl rfl rfl (fun w hw h => Own.nilc hw (i := 4) (by exact rfl) h) (Ld.own 4 (by exact rfl)) (by simp only [List.length_append, List.length_cons, List.length_nil] at *; omega) (by decide)) ?_))
 rintro _ _ ⟨A2, k1, rfl, rfl, hA2⟩
 replace hA2 := hA2 (.inl hA1)
 refine O.m rfl (O.nil (X.next (V.seq (V.seq (V.region (O.m rfl (O.f rfl (Ef.call call68 rfl rfl (Does.pre (fun w hw => hw.sub (Sub.keep 3 rfl (Sub.k (Sub.k (Sub.k (Sub.k (Sub.refl _))))))) (l01Next_ok _ _ _ s (50 : Int) w0 _   (by first | assumption | omega | (try dsimp only at *; omega)) (by first | assumption | omega | (try dsimp only at *; omega))))) ?_)))))))
 rintro _ _ rfl
 refine O.exi (fun r1 => O.sep (O.pur ?_))
 rintro ⟨rfl, hr1_1, hr1_2, hr1_3⟩
 refine O.nil (X.next (V.block (V.seq (V.region (O.q rfl (Pu.eql rfl rfl rfl) (O.m rfl (O.nil (X.next (V.condD rfl (fun c1 => ?_) (fun c1 => ?_))))))))))
 ·refine V.seq (V.region (O.m rfl (O.f rfl (Ef.build I64 ([(2 : Int), (16 : Int), (0 : Int), (-1 : Int)] : List Int) rfl Tryz.underlying41 inf2 rfl rfl rfl (by first | decide | (simp; done)) (by kernel_rfl)) ?_)))
  rintro _ _ ⟨A3, hA3, rfl, rfl⟩
  refine O.f rfl (Ef.call call98 rfl rfl (Does.pre (fun w hw => hw.sub (Sub.keep 1 rfl (Sub.k (Sub.k (Sub.k (Sub.k (Sub.k (Sub.refl _)))))))) (l01Pick_ok _ _ _ s ([(2 : Int), (16 : Int), (0 : Int), (-1 : Int)] : List Int) _ _ w0 _ (Ld.own 0 (by exact rfl)) (by first | omega | (simp only [tops_len, conts_len, bl, List.length_append, List.length_cons, List.length_nil] at *; omega)) (by first | assumption | omega | (try dsimp only at *; omega)) (by first | assumption | omega | (try dsimp only at *; omega)) (by first | (simp; done) | omega)))) ?_
  rintro _ _ rfl
  refine O.exi (fun r2 => O.sep (O.pur ?_))
  rintro ⟨rfl, hr2_1⟩
  have hpk : r2 = 2 ∨ r2 = 16 ∨ r2 = 0 ∨ r2 = -1 := by simpa using hr2_1
  refine O.m rfl (O.q rfl (Pu.buildS (cs := [.int .i64 r2, .slice A2 ((([] : List B3) ++ bs).length) k1]) rfl rfl Tryz.underlying26 zr26 (by kernel_rfl) rfl (by kernel_rfl)) (O.s rfl rfl (Ef.storeAll 3 rfl sz26 rfl rfl rfl rfl (by simp [Value.oneCell']) rfl) ?_))
  rintro _ _ rfl
  exact O.nil (X.next (V.ret (X.blockRet (X.thenRet (X.retCell rfl ag26 sz26 rfl rfl (Ld.whole 3 rfl) (fun w hw => St.mkExi r2 (St.mkExi A2 (St.mkExi k1 (St.mkExi (([] : List B3) ++ bs) (St.unsep (St.addPur ⟨(by first | rfl | (simp only [List.length_set])), by omega, by first | omega | (simp only [List.length_append, List.length_cons, List.length_nil, List.length_set]; omega)⟩ (St.unsep (hw.sub (Sub.keep 2 rfl (Sub.k (Sub.drop (Sub.drop (Sub.drop (Sub.drop (Sub.refl _))))))))))))))))))))
 ·refine V.seq (V.region (O.q rfl (Pu.eql rfl rfl rfl) (O.m rfl (O.nil (X.next (V.condD rfl (fun c2 => ?_) (fun c2 => ?_)))))))
  ·refine V.drawS mo (by kernel_rfl) (Sub.keep 2 rfl (Sub.keep 2 rfl (Sub.keep 2 rfl (Sub.drop (Sub.drop (Sub.refl _)))))) (fun hwf => D.m 0 rfl (D.m 1 rfl (D.m 3 rfl (D.q 4 rfl (Pu.fieldAddr 0 rfl Tryz.underlying26 rfl sz2 rfl rfl) (D.q 5 rfl (Pu.load rfl pl2 rfl (Ld.blk 1 rfl rfl)) (D.m 8 rfl (D.q 9 rfl (Pu.fieldAddr 0 rfl Tryz.underlying26 rfl sz2 rfl rfl) (D.q 10 rfl (Pu.load rfl pl2 rfl (Ld.blk 1 rfl rfl)) (D.q 11 rfl (Pu.fieldAddr 0 rfl Tryz.underlying26 rfl sz2 rfl rfl) (D.q 12 rfl (Pu.load rfl pl2 rfl (Ld.blk 1 rfl rfl)) (D.q 13 rfl (Pu.sub64 rfl (by omega) rfl rfl rfl) (D.either3 hwf (e1 := 2) (e2 := 6) (e3 := 14) rfl ?_ ?_ ?_))))))))))))
   ·refine ⟨_, _, rfl, rfl, fun _ _ => wanted_none rfl _, Ef.call call68 rfl rfl (Does.pre (fun w hw => hw.sub (Sub.k (Sub.k (Sub.k (Sub.k (Sub.k (Sub.refl _))))))) (l01Next_ok _ _ _ s (3 : Int) w0 _   (by first | assumption | omega | (try dsimp only at *; omega)) (by first | assumption | omega | (try dsimp only at *; omega)))), rfl, rfl, ?_⟩
    rintro _ _ rfl hs
    refine ⟨fun w hw => hw.tail.sub (Sub.keep 1 rfl (Sub.keep 1 rfl (Sub.keep 1 rfl (Sub.drop (Sub.refl _))))), (D.exi (fun r3 => D.sep (D.pur1 ?_)))⟩
    rintro ⟨rfl, hr3_1, hr3_2, hr3_3⟩
    refine D.either hwf (e1 := 6) (e2 := 14) rfl ?_ ?_
    ·refine ⟨_, _, rfl, rfl, fun _ _ => wanted_none rfl _, Ef.build I64 ([(1 : Int), (2 : Int), v] : List Int) rfl Tryz.underlying41 inf2 rfl rfl rfl (by first | decide | (simp; done)) (by kernel_rfl), rfl, rfl, ?_⟩
     rintro _ _ ⟨A4, hA4, rfl, rfl⟩ hs
     refine ⟨fun w hw => hw.sub (Sub.keep 3 rfl (Sub.keep 3 rfl (Sub.keep 3 rfl (Sub.drop (Sub.drop (Sub.drop (Sub.refl _))))))), (D.either hwf (e1 := 7) (e2 := 14) rfl ?_ ?_)⟩
     ·refine ⟨_, _, rfl, rfl, fun _ _ => wanted_none rfl _, Ef.call call98 rfl rfl (Does.pre (fun w hw => hw.sub (Sub.keep 1 rfl (Sub.k (Sub.k (Sub.k (Sub.k (Sub.k (Sub.refl _)))))))) (l01Pick_ok _ _ _ s ([(1 : Int), (2 : Int), v] : List Int) _ _ w0 _ (Ld.own 0 (by exact rfl)) (by first | omega | (simp only [tops_len, conts_len, bl, List.length_append, List.length_cons, List.length_nil] at *; omega)) (by first | assumption | omega | (try dsimp only at *; omega)) (by first | assumption | omega | (try dsimp only at *; omega)) (by first | (simp; done) | omega))), rfl, rfl, ?_⟩
      rintro _ _ rfl hs
      refine ⟨fun w hw => hw.tail.sub (Sub.keep 2 rfl (Sub.keep 2 rfl (Sub.keep 2 rfl (Sub.drop (Sub.drop (Sub.refl _)))))), (D.exi (fun r4 => D.sep (D.pur1 ?_)))⟩
      rintro ⟨rfl, hr4_1⟩
      refine D.f hwf 14 rfl (Ef.build I64 ([(2 : Int), v, (v - (1 : Int))] : List Int) rfl Tryz.underlying41 inf2 rfl rfl rfl (by first | decide | (simp; done)) (by kernel_rfl)) ?_
      rintro _ _ ⟨A5, hA5, rfl, rfl⟩ hs
      refine ⟨fun w hw => hw.sub (Sub.keep 4 rfl (Sub.keep 4 rfl (Sub.keep 4 rfl (Sub.drop (Sub.drop (Sub.drop (Sub.drop (Sub.refl _)))))))), (D.f hwf 15 rfl (Ef.call call98 rfl rfl (Does.pre (fun w hw => hw.sub (Sub.keep 1 rfl (Sub.k (Sub.k (Sub.k (Sub.k (Sub.k (Sub.k (Sub.refl _))))))))) (l01Pick_ok _ _ _ s ([(2 : Int), v, (v - (1 : Int))] : List Int) _ _ w0 _ (Ld.own 0 (by exact rfl)) (by first | omega | (simp only [tops_len, conts_len, bl, List.length_append, List.length_cons, List.length_nil] at *; omega)) (by first | assumption | omega | (try dsimp only at *; omega)) (by first | assumption | omega | (try dsimp only at *; omega)) (by first | (simp; done) | omega)))) ?_)⟩
      rintro _ _ rfl hs
      refine ⟨fun w hw => hw.tail.sub (Sub.keep 3 rfl (Sub.keep 3 rfl (Sub.keep 3 rfl (Sub.drop (Sub.drop (Sub.drop (Sub.refl _))))))), (D.exi (fun r5 => D.sep (D.pur1 ?_)))⟩
      rintro ⟨rfl, hr5_1⟩
      refine D.q 16 rfl (Pu.buildA (cs := [.int .i64 r3, .int .i64 r4, .int .i64 r5]) (v := B3.v (r3, r4, r5)) rfl rfl Tryz.underlying69 zr69 sz2 rfl (by kernel_rfl)) (D.f hwf 17 rfl (Ef.build B3C ([(r3, r4, r5)] : List B3) rfl Tryz.underlying24 inf69 rfl rfl rfl (by first | decide | (simp; done)) (by kernel_rfl)) ?_)
      rintro _ _ ⟨A6, hA6, rfl, rfl⟩ hs
      refine ⟨fun w hw => hw.sub (Sub.keep 5 rfl (Sub.keep 5 rfl (Sub.keep 5 rfl (Sub.drop (Sub.drop (Sub.drop (Sub.drop (Sub.drop (Sub.refl _))))))))), (D.f hwf 18 rfl (Ef.append (xs := (([] : List B3) ++ bs)) (ys := ([(r3, r4, r5)] : List B3)) 4 rfl Tryz.underlying24 inf69 rfl rfl rfl rfl rfl rfl hA6 (Ld.own 0 (by exact rfl)) (by simp only [List.length_append, List.length_cons, List.length_nil] at *; omega) (by decide)) ?_)⟩
      rintro _ _ ⟨A7, k2, rfl, rfl, hA7⟩ hs
      replace hA7 := hA7 (.inr (by simp))
      refine ⟨fun w hw => hw.sub (Sub.keep 5 rfl (Sub.keep 5 rfl (Sub.keep 5 rfl (Sub.drop (Sub.drop (Sub.drop (Sub.drop (Sub.drop (Sub.refl _))))))))), (D.last hwf (e := 19) rfl rfl rfl rfl rfl rfl (Pu.assign rfl rfl) (X.blockNormal (X.next (V.seq (V.region (O.q rfl (Pu.fieldAddr 0 rfl Tryz.underlying26 rfl sz2 rfl rfl) (O.q rfl (Pu.load rfl pl2 rfl (Ld.blk 6 rfl rfl)) (O.m rfl (O.q rfl (Pu.buildS (cs := [.int .i64 v, .slice A7 (((([] : List B3) ++ bs) ++ ([(r3, r4, r5)] : List B3)).length) k2]) rfl rfl Tryz.underlying26 zr26 (by kernel_rfl) rfl (by kernel_rfl)) (O.s rfl rfl (Ef.storeAll 5 rfl sz26 rfl rfl rfl rfl (by simp [Value.oneCell']) rfl) ?_))))))))))⟩
      rintro _ _ rfl
      exact O.nil (X.next (V.ret (X.retCell rfl ag26 sz26 rfl rfl (Ld.whole 5 rfl) (fun w hw => St.mkExi v (St.mkExi A7 (St.mkExi k2 (St.mkExi ((([] : List B3) ++ bs) ++ ([(r3, r4, r5)] : List B3)) (St.unsep (St.addPur ⟨(by first | rfl | (simp only [List.length_set])), by omega, by first | omega | (simp only [List.length_append, List.length_cons, List.length_nil, List.length_set]; omega)⟩ (St.unsep (hw.sub (Sub.keep 4 rfl (Sub.keep 1 rfl (Sub.drop (Sub.drop (Sub.drop (Sub.drop (Sub.drop (Sub.drop (Sub.refl _))))))))))))))))))))
     ·refine ⟨_, _, rfl, rfl, fun _ _ => wanted_none rfl _, Ef.build I64 ([(2 : Int), v, (v - (1 : Int))] : List Int) rfl Tryz.underlying41 inf2 rfl rfl rfl (by first | decide | (simp; done)) (by kernel_rfl), rfl, rfl, ?_⟩
      rintro _ _ ⟨A5, hA5, rfl, rfl⟩ hs
      refine ⟨fun w hw => hw.sub (Sub.keep 4 rfl (Sub.keep 4 rfl (Sub.keep 4 rfl (Sub.drop (Sub.drop (Sub.drop (Sub.drop (Sub.refl _)))))))), (D.f hwf 7 rfl (Ef.call call98 rfl rfl (Does.pre (fun w hw => hw.sub (Sub.keep 2 rfl (Sub.k (Sub.k (Sub.k (Sub.k (Sub.k (Sub.k (Sub.refl _))))))))) (l01Pick_ok _ _ _ s ([(1 : Int), (2 : Int), v] : List Int) _ _ w0 _ (Ld.own 1 (by exact rfl)) (by first | omega | (simp only [tops_len, conts_len, bl, List.length_append, List.length_cons, List.length_nil] at *; omega)) (by first | assumption | omega | (try dsimp only at *; omega)) (by first | assumption | omega | (try dsimp only at *; omega)) (by first | (simp; done) | omega)))) ?_)⟩
      rintro _ _ rfl hs
      refine ⟨fun w hw => hw.tail.sub (Sub.keep 3 rfl (Sub.keep 3 rfl (Sub.keep 3 rfl (Sub.drop (Sub.drop (Sub.drop (Sub.refl _))))))), (D.exi (fun r4 => D.sep (D.pur1 ?_)))⟩
      rintro ⟨rfl, hr4_1⟩
      refine D.f hwf 15 rfl (Ef.call call98 rfl rfl (Does.pre (fun w hw => hw.sub (Sub.k (Sub.k (Sub.k (Sub.k (Sub.k (Sub.k (Sub.k (Sub.refl _))))))))) (l01Pick_ok _ _ _ s ([(2 : Int), v, (v - (1 : Int))] : List Int) _ _ w0 _ (Ld.own 0 (by exact rfl)) (by first | omega | (simp only [tops_len, conts_len, bl, List.length_append, List.length_cons, List.length_nil] at *; omega)) (by first | assumption | omega | (try dsimp only at *; omega)) (by first | assumption | omega | (try dsimp only at *; omega)) (by first | (simp; done) | omega)))) ?_
      rintro _ _ rfl hs
      refine ⟨fun w hw => hw.tail.sub (Sub.keep 3 rfl (Sub.keep 3 rfl (Sub.keep 3 rfl (Sub.drop (Sub.drop (Sub.drop (Sub.refl _))))))), (D.exi (fun r5 => D.sep (D.pur1 ?_)))⟩
      rintro ⟨rfl, hr5_1⟩
      refine D.q 16 rfl (Pu.buildA (cs := [.int .i64 r3, .int .i64 r4, .int .i64 r5]) (v := B3.v (r3, r4, r5)) rfl rfl Tryz.underlying69 zr69 sz2 rfl (by kernel_rfl)) (D.f hwf 17 rfl (Ef.build B3C ([(r3, r4, r5)] : List B3) rfl Tryz.underlying24 inf69 rfl rfl rfl (by first | decide | (simp; done)) (by kernel_rfl)) ?_)
      rintro _ _ ⟨A6, hA6, rfl, rfl⟩ hs
      refine ⟨fun w hw => hw.sub (Sub.keep 5 rfl (Sub.keep 5 rfl (Sub.keep 5 rfl (Sub.drop (Sub.drop (Sub.drop (Sub.drop (Sub.drop (Sub.refl _))))))))), (D.f hwf 18 rfl (Ef.append (xs := (([] : List B3) ++ bs)) (ys := ([(r3, r4, r5)] : List B3)) 4 rfl Tryz.underlying24 inf69 rfl rfl rfl rfl rfl rfl hA6 (Ld.own 0 (by exact rfl)) (by simp only [List.length_append, List.length_cons, List.length_nil] at *; omega) (by decide)) ?_)⟩
      rintro _ _ ⟨A7, k2, rfl, rfl, hA7⟩ hs
      replace hA7 := hA7 (.inr (by simp))
      refine ⟨fun w hw => hw.sub (Sub.keep 5 rfl (Sub.keep 5 rfl (Sub.keep 5 rfl (Sub.drop (Sub.drop (Sub.drop (Sub.drop (Sub.drop (Sub.refl _))))))))), (D.last hwf (e := 19) rfl rfl rfl rfl rfl rfl (Pu.assign rfl rfl) (X.blockNormal (X.next (V.seq (V.region (O.q rfl (Pu.fieldAddr 0 rfl Tryz.underlying26 rfl sz2 rfl rfl) (O.q rfl (Pu.load rfl pl2 rfl (Ld.blk 6 rfl rfl)) (O.m rfl (O.q rfl (Pu.buildS (cs := [.int .i64 v, .slice A7 (((([] : List B3) ++ bs) ++ ([(r3, r4, r5)] : List B3)).length) k2]) rfl rfl Tryz.underlying26 zr26 (by kernel_rfl) rfl (by kernel_rfl)) (O.s rfl rfl (Ef.storeAll 5 rfl sz26 rfl rfl rfl rfl (by simp [Value.oneCell']) rfl) ?_))))))))))⟩
      rintro _ _ rfl
      exact O.nil (X.next (V.ret (X.retCell rfl ag26 sz26 rfl rfl (Ld.whole 5 rfl) (fun w hw => St.mkExi v (St.mkExi A7 (St.mkExi k2 (St.mkExi ((([] : List B3) ++ bs) ++ ([(r3, r4, r5)] : List B3)) (St.unsep (St.addPur ⟨(by first | rfl | (simp only [List.length_set])), by omega, by first | omega | (simp only [List.length_append, List.length_cons, List.length_nil, List.length_set]; omega)⟩ (St.unsep (hw.sub (Sub.keep 4 rfl (Sub.keep 1 rfl (Sub.drop (Sub.drop (Sub.drop (Sub.drop (Sub.drop (Sub.drop (Sub.refl _))))))))))))))))))))
    ·refine ⟨_, _, rfl, rfl, fun _ _ => wanted_none rfl _, Ef.build I64 ([(2 : Int), v, (v - (1 : Int))] : List Int) rfl Tryz.underlying41 inf2 rfl rfl rfl (by first | decide | (simp; done)) (by kernel_rfl), rfl, rfl, ?_⟩
     rintro _ _ ⟨A4, hA4, rfl, rfl⟩ hs
     refine ⟨fun w hw => hw.sub (Sub.keep 3 rfl (Sub.keep 3 rfl (Sub.keep 3 rfl (Sub.drop (Sub.drop (Sub.drop (Sub.refl _))))))), (D.f hwf 6 rfl (Ef.build I64 ([(1 : Int), (2 : Int), v] : List Int) rfl Tryz.underlying41 inf2 rfl rfl rfl (by first | decide | (simp; done)) (by kernel_rfl)) ?_)⟩
     rintro _ _ ⟨A5, hA5, rfl, rfl⟩ hs
     refine ⟨fun w hw => hw.sub (Sub.keep 4 rfl (Sub.keep 4 rfl (Sub.keep 4 rfl (Sub.drop (Sub.drop (Sub.drop (Sub.drop (Sub.refl _)))))))), (D.f hwf 7 rfl (Ef.call call98 rfl rfl (Does.pre (fun w hw => hw.sub (Sub.keep 2 rfl (Sub.k (Sub.k (Sub.k (Sub.k (Sub.k (Sub.k (Sub.refl _))))))))) (l01Pick_ok _ _ _ s ([(1 : Int), (2 : Int), v] : List Int) _ _ w0 _ (Ld.own 0 (by exact rfl)) (by first | omega | (simp only [tops_len, conts_len, bl, List.length_append, List.length_cons, List.length_nil] at *; omega)) (by first | assumption | omega | (try dsimp only at *; omega)) (by first | assumption | omega | (try dsimp only at *; omega)) (by first | (simp; done) | omega)))) ?_)⟩
     rintro _ _ rfl hs
     refine ⟨fun w hw => hw.tail.sub (Sub.keep 3 rfl (Sub.keep 3 rfl (Sub.keep 3 rfl (Sub.drop (Sub.drop (Sub.drop (Sub.refl _))))))), (D.exi (fun r4 => D.sep (D.pur1 ?_)))⟩
     rintro ⟨rfl, hr4_1⟩
     refine D.f hwf 15 rfl (Ef.call call98 rfl rfl (Does.pre (fun w hw => hw.sub (Sub.k (Sub.k (Sub.k (Sub.k (Sub.k (Sub.k (Sub.k (Sub.refl _))))))))) (l01Pick_ok _ _ _ s ([(2 : Int), v, (v - (1 : Int))] : List Int) _ _ w0 _ (Ld.own 1 (by exact rfl)) (by first | omega | (simp only [tops_len, conts_len, bl, List.length_append, List.length_cons, List.length_nil] at *; omega)) (by first | assumption | omega | (try dsimp only at *; omega)) (by first | assumption | omega | (try dsimp only at *; omega)) (by first | (simp; done) | omega)))) ?_
     rintro _ _ rfl hs
     refine ⟨fun w hw => hw.tail.sub (Sub.keep 3 rfl (Sub.keep 3 rfl (Sub.keep 3 rfl (Sub.drop (Sub.drop (Sub.drop (Sub.refl _))))))), (D.exi (fun r5 => D.sep (D.pur1 ?_)))⟩
     rintro ⟨rfl, hr5_1⟩
     refine D.q 16 rfl (Pu.buildA (cs := [.int .i64 r3, .int .i64 r4, .int .i64 r5]) (v := B3.v (r3, r4, r5)) rfl rfl Tryz.underlying69 zr69 sz2 rfl (by kernel_rfl)) (D.f hwf 17 rfl (Ef.build B3C ([(r3, r4, r5)] : List B3) rfl Tryz.underlying24 inf69 rfl rfl rfl (by first | decide | (simp; done)) (by kernel_rfl)) ?_)
     rintro _ _ ⟨A6, hA6, rfl, rfl⟩ hs
     refine ⟨fun w hw => hw.sub (Sub.keep 5 rfl (Sub.keep 5 rfl (Sub.keep 5 rfl (Sub.drop (Sub.drop (Sub.drop (Sub.drop (Sub.drop (Sub.refl _))))))))), (D.f hwf 18 rfl (Ef.append (xs := (([] : List B3) ++ bs)) (ys := ([(r3, r4, r5)] : List B3)) 4 rfl Tryz.underlying24 inf69 rfl rfl rfl rfl rfl rfl hA6 (Ld.own 0 (by exact rfl)) (by simp only [List.length_append, List.length_cons, List.length_nil] at *; omega) (by decide)) ?_)⟩
     rintro _ _ ⟨A7, k2, rfl, rfl, hA7⟩ hs
     replace hA7 := hA7 (.inr (by simp))
     refine ⟨fun w hw => hw.sub (Sub.keep 5 rfl (Sub.keep 5 rfl (Sub.keep 5 rfl (Sub.drop (Sub.drop (Sub.drop (Sub.drop (Sub.drop (Sub.refl _))))))))), (D.last hwf (e := 19) rfl rfl rfl rfl rfl rfl (Pu.assign rfl rfl) (X.blockNormal (X.next (V.seq (V.region (O.q rfl (Pu.fieldAddr 0 rfl Tryz.underlying26 rfl sz2 rfl rfl) (O.q rfl (Pu.load rfl pl2 rfl (Ld.blk 6 rfl rfl)) (O.m rfl (O.q rfl (Pu.buildS (cs := [.int .i64 v, .slice A7 (((([] : List B3) ++ bs) ++ ([(r3, r4, r5)] : List B3)).length) k2]) rfl rfl Tryz.underlying26 zr26 (by kernel_rfl) rfl (by kernel_rfl)) (O.s rfl rfl (Ef.storeAll 5 rfl sz26 rfl rfl rfl rfl (by simp [Value.oneCell']) rfl) ?_))))))))))⟩
     rintro _ _ rfl
     exact O.nil (X.next (V.ret (X.retCell rfl ag26 sz26 rfl rfl (Ld.whole 5 rfl) (fun w hw => St.mkExi v (St.mkExi A7 (St.mkExi k2 (St.mkExi ((([] : List B3) ++ bs) ++ ([(r3, r4, r5)] : List B3)) (St.unsep (St.addPur ⟨(by first | rfl | (simp only [List.length_set])), by omega, by first | omega | (simp only [List.length_append, List.length_cons, List.length_nil, List.length_set]; omega)⟩ (St.unsep (hw.sub (Sub.keep 4 rfl (Sub.keep 1 rfl (Sub.drop (Sub.drop (Sub.drop (Sub.drop (Sub.drop (Sub.drop (Sub.refl _))))))))))))))))))))
   ·refine ⟨_, _, rfl, rfl, fun _ _ => wanted_none rfl _, Ef.build I64 ([(1 : Int), (2 : Int), v] : List Int) rfl Tryz.underlying41 inf2 rfl rfl rfl (by first | decide | (simp; done)) (by kernel_rfl), rfl, rfl, ?_⟩
    rintro _ _ ⟨A4, hA4, rfl, rfl⟩ hs
    refine ⟨fun w hw => hw.sub (Sub.keep 3 rfl (Sub.keep 3 rfl (Sub.keep 3 rfl (Sub.drop (Sub.drop (Sub.drop (Sub.refl _))))))), (D.either hwf (e1 := 2) (e2 := 14) rfl ?_ ?_)⟩
    ·refine ⟨_, _, rfl, rfl, fun _ _ => wanted_none rfl _, Ef.call call68 rfl rfl (Does.pre (fun w hw => hw.sub (Sub.keep 1 rfl (Sub.k (Sub.k (Sub.k (Sub.k (Sub.k (Sub.refl _)))))))) (l01Next_ok _ _ _ s (3 : Int) w0 _   (by first | assumption | omega | (try dsimp only at *; omega)) (by first | assumption | omega | (try dsimp only at *; omega)))), rfl, rfl, ?_⟩
     rintro _ _ rfl hs
     refine ⟨fun w hw => hw.tail.sub (Sub.keep 2 rfl (Sub.keep 2 rfl (Sub.keep 2 rfl (Sub.drop (Sub.drop (Sub.refl _)))))), (D.exi (fun r3 => D.sep (D.pur1 ?_)))⟩
     rintro ⟨rfl, hr3_1, hr3_2, hr3_3⟩
     refine D.either hwf (e1 := 7) (e2 := 14) rfl ?_ ?_
     ·refine ⟨_, _, rfl, rfl, fun _ _ => wanted_none rfl _, Ef.call call98 rfl rfl (Does.pre (fun w hw => hw.sub (Sub.k (Sub.k (Sub.k (Sub.k (Sub.k (Sub.k (Sub.refl _)))))))) (l01Pick_ok _ _ _ s ([(1 : Int), (2 : Int), v] : List Int) _ _ w0 _ (Ld.own 0 (by exact rfl)) (by first | omega | (simp only [tops_len, conts_len, bl, List.length_append, List.length_cons, List.length_nil] at *; omega)) (by first | assumption | omega | (try dsimp only at *; omega)) (by first | assumption | omega | (try dsimp only at *; omega)) (by first | (simp; done) | omega))), rfl, rfl, ?_⟩
      rintro _ _ rfl hs
      refine ⟨fun w hw => hw.tail.sub (Sub.keep 2 rfl (Sub.keep 2 rfl (Sub.keep 2 rfl (Sub.drop (Sub.drop (Sub.refl _)))))), (D.exi (fun r4 => D.sep (D.pur1 ?_)))⟩
      rintro ⟨rfl, hr4_1⟩
      refine D.f hwf 14 rfl (Ef.build I64 ([(2 : Int), v, (v - (1 : Int))] : List Int) rfl Tryz.underlying41 inf2 rfl rfl rfl (by first | decide | (simp; done)) (by kernel_rfl)) ?_
      rintro _ _ ⟨A5, hA5, rfl, rfl⟩ hs
      refine ⟨fun w hw => hw.sub (Sub.keep 4 rfl (Sub.keep 4 rfl (Sub.keep 4 rfl (Sub.drop (Sub.drop (Sub.drop (Sub.drop (Sub.refl _)))))))), (D.f hwf 15 rfl (Ef.call call98 rfl rfl (Does.pre (fun w hw => hw.sub (Sub.keep 1 rfl (Sub.k (Sub.k (Sub.k (Sub.k (Sub.k (Sub.k (Sub.refl _))))))))) (l01Pick_ok _ _ _ s ([(2 : Int), v, (v - (1 : Int))] : List Int) _ _ w0 _ (Ld.own 0 (by exact rfl)) (by first | omega | (simp only [tops_len, conts_len, bl, List.length_append, List.length_cons, List.length_nil] at *; omega)) (by first | assumption | omega | (try dsimp only at *; omega)) (by first | assumption | omega | (try dsimp only at *; omega)) (by first | (simp; done) | omega)))) ?_)⟩
      rintro _ _ rfl hs
      refine ⟨fun w hw => hw.tail.sub (Sub.keep 3 rfl (Sub.keep 3 rfl (Sub.keep 3 rfl (Sub.drop (Sub.drop (Sub.drop (Sub.refl _))))))), (D.exi (fun r5 => D.sep (D.pur1 ?_)))⟩
      rintro ⟨rfl, hr5_1⟩
      refine D.q 16 rfl (Pu.buildA (cs := [.int .i64 r3, .int .i64 r4, .int .i64 r5]) (v := B3.v (r3, r4, r5)) rfl rfl Tryz.underlying69 zr69 sz2 rfl (by kernel_rfl)) (D.f hwf 17 rfl (Ef.build B3C ([(r3, r4, r5)] : List B3) rfl Tryz.underlying24 inf69 rfl rfl rfl (by first | decide | (simp; done)) (by kernel_rfl)) ?_)
      rintro _ _ ⟨A6, hA6, rfl, rfl⟩ hs
      refine ⟨fun w hw => hw.sub (Sub.keep 5 rfl (Sub.keep 5 rfl (Sub.keep 5 rfl (Sub.drop (Sub.drop (Sub.drop (Sub.drop (Sub.drop (Sub.refl _))))))))), (D.f hwf 18 rfl (Ef.append (xs := (([] : List B3) ++ bs)) (ys := ([(r3, r4, r5)] : List B3)) 4 rfl Tryz.underlying24 inf69 rfl rfl rfl rfl rfl rfl hA6 (Ld.own 0 (by exact rfl)) (by simp only [List.length_append, List.length_cons, List.length_nil] at *; omega) (by decide)) ?_)⟩
      rintro _ _ ⟨A7, k2, rfl, rfl, hA7⟩ hs
      replace hA7 := hA7 (.inr (by simp))
      refine ⟨fun w hw => hw.sub (Sub.keep 5 rfl (Sub.keep 5 rfl (Sub.keep 5 rfl (Sub.drop (Sub.drop (Sub.drop (Sub.drop (Sub.drop (Sub.refl _))))))))), (D.last hwf (e := 19) rfl rfl rfl rfl rfl rfl (Pu.assign rfl rfl) (X.blockNormal (X.next (V.seq (V.region (O.q rfl (Pu.fieldAddr 0 rfl Tryz.underlying26 rfl sz2 rfl rfl) (O.q rfl (Pu.load rfl pl2 rfl (Ld.blk 6 rfl rfl)) (O.m rfl (O.q rfl (Pu.buildS (cs := [.int .i64 v, .slice A7 (((([] : List B3) ++ bs) ++ ([(r3, r4, r5)] : List B3)).length) k2]) rfl rfl Tryz.underlying26 zr26 (by kernel_rfl) rfl (by kernel_rfl)) (O.s rfl rfl (Ef.storeAll 5 rfl sz26 rfl rfl rfl rfl (by simp [Value.oneCell']) rfl) ?_))))))))))⟩
      rintro _ _ rfl
      exact O.nil (X.next (V.ret (X.retCell rfl ag26 sz26 rfl rfl (Ld.whole 5 rfl) (fun w hw => St.mkExi v (St.mkExi A7 (St.mkExi k2 (St.mkExi ((([] : List B3) ++ bs) ++ ([(r3, r4, r5)] : List B3)) (St.unsep (St.addPur ⟨(by first | rfl | (simp only [List.length_set])), by omega, by first | omega | (simp only [List.length_append, List.length_cons, List.length_nil, List.length_set]; omega)⟩ (St.unsep (hw.sub (Sub.keep 4 rfl (Sub.keep 1 rfl (Sub.drop (Sub.drop (Sub.drop (Sub.drop (Sub.drop (Sub.drop (Sub.refl _))))))))))))))))))))
     ·refine ⟨_, _, rfl, rfl, fun _ _ => wanted_none rfl _, Ef.build I64 ([(2 : Int), v, (v - (1 : Int))] : List Int) rfl Tryz.underlying41 inf2 rfl rfl rfl (by first | decide | (simp; done)) (by kernel_rfl), rfl, rfl, ?_⟩
      rintro _ _ ⟨A5, hA5, rfl, rfl⟩ hs
      refine ⟨fun w hw => hw.sub (Sub.keep 4 rfl (Sub.keep 4 rfl (Sub.keep 4 rfl (Sub.drop (Sub.drop (Sub.drop (Sub.drop (Sub.refl _)))))))), (D.f hwf 7 rfl (Ef.call call98 rfl rfl (Does.pre (fun w hw => hw.sub (Sub.keep 1 rfl (Sub.k (Sub.k (Sub.k (Sub.k (Sub.k (Sub.k (Sub.refl _))))))))) (l01Pick_ok _ _ _ s ([(1 : Int), (2 : Int), v] : List Int) _ _ w0 _ (Ld.own 1 (by exact rfl)) (by first | omega | (simp only [tops_len, conts_len, bl, List.length_append, List.length_cons, List.length_nil] at *; omega)) (by first | assumption | omega | (try dsimp only at *; omega)) (by first | assumption | omega | (try dsimp only at *; omega)) (by first | (simp; done) | omega)))) ?_)⟩
      rintro _ _ rfl hs
      refine ⟨fun w hw => hw.tail.sub (Sub.keep 3 rfl (Sub.keep 3 rfl (Sub.keep 3 rfl (Sub.drop (Sub.drop (Sub.drop (Sub.refl _))))))), (D.exi (fun r4 => D.sep (D.pur1 ?_)))⟩
      rintro ⟨rfl, hr4_1⟩
      refine D.f hwf 15 rfl (Ef.call call98 rfl rfl (Does.pre (fun w hw => hw.sub (Sub.k (Sub.k (Sub.k (Sub.k (Sub.k (Sub.k (Sub.k (Sub.refl _))))))))) (l01Pick_ok _ _ _ s ([(2 : Int), v, (v - (1 : Int))] : List Int) _ _ w0 _ (Ld.own 0 (by exact rfl)) (by first | omega | (simp only [tops_len, conts_len, bl, List.length_append, List.length_cons, List.length_nil] at *; omega)) (by first | assumption | omega | (try dsimp only at *; omega)) (by first | assumption | omega | (try dsimp only at *; omega)) (by first | (simp; done) | omega)))) ?_
      rintro _ _ rfl hs
      refine ⟨fun w hw => hw.tail.sub (Sub.keep 3 rfl (Sub.keep 3 rfl (Sub.keep 3 rfl (Sub.drop (Sub.drop (Sub.drop (Sub.refl _))))))), (D.exi (fun r5 => D.sep (D.pur1 ?_)))⟩
      rintro ⟨rfl, hr5_1⟩
      refine D.q 16 rfl (Pu.buildA (cs := [.int .i64 r3, .int .i64 r4, .int .i64 r5]) (v := B3.v (r3, r4, r5)) rfl rfl Tryz.underlying69 zr69 sz2 rfl (by kernel_rfl)) (D.f hwf 17 rfl (Ef.build B3C ([(r3, r4, r5)] : List B3) rfl Tryz.underlying24 inf69 rfl rfl rfl (by first | decide | (simp; done)) (by kernel_rfl)) ?_)
      rintro _ _ ⟨A6, hA6, rfl, rfl⟩ hs
      refine ⟨fun w hw => hw.sub (Sub.keep 5 rfl (Sub.keep 5 rfl (Sub.keep 5 rfl (Sub.drop (Sub.drop (Sub.drop (Sub.drop (Sub.drop (Sub.refl _))))))))), (D.f hwf 18 rfl (Ef.append (xs := (([] : List B3) ++ bs)) (ys := ([(r3, r4, r5)] : List B3)) 4 rfl Tryz.underlying24 inf69 rfl rfl rfl rfl rfl rfl hA6 (Ld.own 0 (by exact rfl)) (by simp only [List.length_append, List.length_cons, List.length_nil] at *; omega) (by decide)) ?_)⟩
      rintro _ _ ⟨A7, k2, rfl, rfl, hA7⟩ hs
      replace hA7 := hA7 (.inr (by simp))
      refine ⟨fun w hw => hw.sub (Sub.keep 5 rfl (Sub.keep 5 rfl (Sub.keep 5 rfl (Sub.drop (Sub.drop (Sub.drop (Sub.drop (Sub.drop (Sub.refl _))))))))), (D.last hwf (e := 19) rfl rfl rfl rfl rfl rfl (Pu.assign rfl rfl) (X.blockNormal (X.next (V.seq (V.region (O.q rfl (Pu.fieldAddr 0 rfl Tryz.underlying26 rfl sz2 rfl rfl) (O.q rfl (Pu.load rfl pl2 rfl (Ld.blk 6 rfl rfl)) (O.m rfl (O.q rfl (Pu.buildS (cs := [.int .i64 v, .slice A7 (((([] : List B3) ++ bs) ++ ([(r3, r4, r5)] : List B3)).length) k2]) rfl rfl Tryz.underlying26 zr26 (by kernel_rfl) rfl (by kernel_rfl)) (O.s rfl rfl (Ef.storeAll 5 rfl sz26 rfl rfl rfl rfl (by simp [Value.oneCell']) rfl) ?_))))))))))⟩
      rintro _ _ rfl
      exact O.nil (X.next (V.ret (X.retCell rfl ag26 sz26 rfl rfl (Ld.whole 5 rfl) (fun w hw => St.mkExi v (St.mkExi A7 (St.mkExi k2 (St.mkExi ((([] : List B3) ++ bs) ++ ([(r3, r4, r5)] : List B3)) (St.unsep (St.addPur ⟨(by first | rfl | (simp only [List.length_set])), by omega, by first | omega | (simp only [List.length_append, List.length_cons, List.length_nil, List.length_set]; omega)⟩ (St.unsep (hw.sub (Sub.keep 4 rfl (Sub.keep 1 rfl (Sub.drop (Sub.drop (Sub.drop (Sub.drop (Sub.drop (Sub.drop (Sub.refl _))))))))))))))))))))
    ·refine ⟨_, _, rfl, rfl, fun _ _ => wanted_none rfl _, Ef.build I64 ([(2 : Int), v, (v - (1 : Int))] : List Int) rfl Tryz.underlying41 inf2 rfl rfl rfl (by first | decide | (simp; done)) (by kernel_rfl), rfl, rfl, ?_⟩
     rintro _ _ ⟨A5, hA5, rfl, rfl⟩ hs
     refine ⟨fun w hw => hw.sub (Sub.keep 4 rfl (Sub.keep 4 rfl (Sub.keep 4 rfl (Sub.drop (Sub.drop (Sub.drop (Sub.drop (Sub.refl _)))))))), (D.f hwf 2 rfl (Ef.call call68 rfl rfl (Does.pre (fun w hw => hw.sub (Sub.keep 2 rfl (Sub.k (Sub.k (Sub.k (Sub.k (Sub.k (Sub.k (Sub.refl _))))))))) (l01Next_ok _ _ _ s (3 : Int) w0 _   (by first | assumption | omega | (try dsimp only at *; omega)) (by first | assumption | omega | (try dsimp only at *; omega))))) ?_)⟩
     rintro _ _ rfl hs
     refine ⟨fun w hw => hw.tail.sub (Sub.keep 3 rfl (Sub.keep 3 rfl (Sub.keep 3 rfl (Sub.drop (Sub.drop (Sub.drop (Sub.refl _))))))), (D.exi (fun r3 => D.sep (D.pur1 ?_)))⟩
     rintro ⟨rfl, hr3_1, hr3_2, hr3_3⟩
     refine D.f hwf 7 rfl (Ef.call call98 rfl rfl (Does.pre (fun w hw => hw.sub (Sub.k (Sub.k (Sub.k (Sub.k (Sub.k (Sub.k (Sub.k (Sub.refl _))))))))) (l01Pick_ok _ _ _ s ([(1 : Int), (2 : Int), v] : List Int) _ _ w0 _ (Ld.own 1 (by exact rfl)) (by first | omega | (simp only [tops_len, conts_len, bl, List.length_append, List.length_cons, List.length_nil] at *; omega)) (by first | assumption | omega | (try dsimp only at *; omega)) (by first | assumption | omega | (try dsimp only at *; omega)) (by first | (simp; done) | omega)))) ?_
     rintro _ _ rfl hs
     refine ⟨fun w hw => hw.tail.sub (Sub.keep 3 rfl (Sub.keep 3 rfl (Sub.keep 3 rfl (Sub.drop (Sub.drop (Sub.drop (Sub.refl _))))))), (D.exi (fun r4 => D.sep (D.pur1 ?_)))⟩
     rintro ⟨rfl, hr4_1⟩
     refine D.f hwf 15 rfl (Ef.call call98 rfl rfl (Does.pre (fun w hw => hw.sub (Sub.k (Sub.k (Sub.k (Sub.k (Sub.k (Sub.k (Sub.k (Sub.refl _))))))))) (l01Pick_ok _ _ _ s ([(2 : Int), v, (v - (1 : Int))] : List Int) _ _ w0 _ (Ld.own 0 (by exact rfl)) (by first | omega | (simp only [tops_len, conts_len, bl, List.length_append, List.length_cons, List.length_nil] at *; omega)) (by first | assumption | omega | (try dsimp only at *; omega)) (by first | assumption | omega | (try dsimp only at *; omega)) (by first | (simp; done) | omega)))) ?_
     rintro _ _ rfl hs
     refine ⟨fun w hw => hw.tail.sub (Sub.keep 3 rfl (Sub.keep 3 rfl (Sub.keep 3 rfl (Sub.drop (Sub.drop (Sub.drop (Sub.refl _))))))), (D.exi (fun r5 => D.sep (D.pur1 ?_)))⟩
     rintro ⟨rfl, hr5_1⟩
     refine D.q 16 rfl (Pu.buildA (cs := [.int .i64 r3, .int .i64 r4, .int .i64 r5]) (v := B3.v (r3, r4, r5)) rfl rfl Tryz.underlying69 zr69 sz2 rfl (by kernel_rfl)) (D.f hwf 17 rfl (Ef.build B3C ([(r3, r4, r5)] : List B3) rfl Tryz.underlying24 inf69 rfl rfl rfl (by first | decide | (simp; done)) (by kernel_rfl)) ?_)
     rintro _ _ ⟨A6, hA6, rfl, rfl⟩ hs
     refine ⟨fun w hw => hw.sub (Sub.keep 5 rfl (Sub.keep 5 rfl (Sub.keep 5 rfl (Sub.drop (Sub.drop (Sub.drop (Sub.drop (Sub.drop (Sub.refl _))))))))), (D.f hwf 18 rfl (Ef.append (xs := (([] : List B3) ++ bs)) (ys := ([(r3, r4, r5)] : List B3)) 4 rfl Tryz.underlying24 inf69 rfl rfl rfl rfl rfl rfl hA6 (Ld.own 0 (by exact rfl)) (by simp only [List.length_append, List.length_cons, List.length_nil] at *; omega) (by decide)) ?_)⟩
     rintro _ _ ⟨A7, k2, rfl, rfl, hA7⟩ hs
     replace hA7 := hA7 (.inr (by simp))
     refine ⟨fun w hw => hw.sub (Sub.keep 5 rfl (Sub.keep 5 rfl (Sub.keep 5 rfl (Sub.drop (Sub.drop (Sub.drop (Sub.drop (Sub.drop (Sub.refl _))))))))), (D.last hwf (e := 19) rfl rfl rfl rfl rfl rfl (Pu.assign rfl rfl) (X.blockNormal (X.next (V.seq (V.region (O.q rfl (Pu.fieldAddr 0 rfl Tryz.underlying26 rfl sz2 rfl rfl) (O.q rfl (Pu.load rfl pl2 rfl (Ld.blk 6 rfl rfl)) (O.m rfl (O.q rfl (Pu.buildS (cs := [.int .i64 v, .slice A7 (((([] : List B3) ++ bs) ++ ([(r3, r4, r5)] : List B3)).length) k2]) rfl rfl Tryz.underlying26 zr26 (by kernel_rfl) rfl (by kernel_rfl)) (O.s rfl rfl (Ef.storeAll 5 rfl sz26 rfl rfl rfl rfl (by simp [Value.oneCell']) rfl) ?_))))))))))⟩
     rintro _ _ rfl
     exact O.nil (X.next (V.ret (X.retCell rfl ag26 sz26 rfl rfl (Ld.whole 5 rfl) (fun w hw => St.mkExi v (St.mkExi A7 (St.mkExi k2 (St.mkExi ((([] : List B3) ++ bs) ++ ([(r3, r4, r5)] : List B3)) (St.unsep (St.addPur ⟨(by first | rfl | (simp only [List.length_set])), by omega, by first | omega | (simp only [List.length_append, List.length_cons, List.length_nil, List.length_set]; omega)⟩ (St.unsep (hw.sub (Sub.keep 4 rfl (Sub.keep 1 rfl (Sub.drop (Sub.drop (Sub.drop (Sub.drop (Sub.drop (Sub.drop (Sub.refl _))))))))))))))))))))
   ·refine ⟨_, _, rfl, rfl, fun _ _ => wanted_none rfl _, Ef.build I64 ([(2 : Int), v, (v - (1 : Int))] : List Int) rfl Tryz.underlying41 inf2 rfl rfl rfl (by first | decide | (simp; done)) (by kernel_rfl), rfl, rfl, ?_⟩
    rintro _ _ ⟨A4, hA4, rfl, rfl⟩ hs
    refine ⟨fun w hw => hw.sub (Sub.keep 3 rfl (Sub.keep 3 rfl (Sub.keep 3 rfl (Sub.drop (Sub.drop (Sub.drop (Sub.refl _))))))), (D.either hwf (e1 := 2) (e2 := 6) rfl ?_ ?_)⟩
    ·refine ⟨_, _, rfl, rfl, fun _ _ => wanted_none rfl _, Ef.call call68 rfl rfl (Does.pre (fun w hw => hw.sub (Sub.keep 1 rfl (Sub.k (Sub.k (Sub.k (Sub.k (Sub.k (Sub.refl _)))))))) (l01Next_ok _ _ _ s (3 : Int) w0 _   (by first | assumption | omega | (try dsimp only at *; omega)) (by first | assumption | omega | (try dsimp only at *; omega)))), rfl, rfl, ?_⟩
     rintro _ _ rfl hs
     refine ⟨fun w hw => hw.tail.sub (Sub.keep 2 rfl (Sub.keep 2 rfl (Sub.keep 2 rfl (Sub.drop (Sub.drop (Sub.refl _)))))), (D.exi (fun r3 => D.sep (D.pur1 ?_)))⟩
     rintro ⟨rfl, hr3_1, hr3_2, hr3_3⟩
     refine D.f hwf 6 rfl (Ef.build I64 ([(1 : Int), (2 : Int), v] : List Int) rfl Tryz.underlying41 inf2 rfl rfl rfl (by first | decide | (simp; done)) (by kernel_rfl)) ?_
     rintro _ _ ⟨A5, hA5, rfl, rfl⟩ hs
     refine ⟨fun w hw => hw.sub (Sub.keep 4 rfl (Sub.keep 4 rfl (Sub.keep 4 rfl (Sub.drop (Sub.drop (Sub.drop (Sub.drop (Sub.refl _)))))))), (D.f hwf 7 rfl (Ef.call call98 rfl rfl (Does.pre (fun w hw => hw.sub (Sub.keep 1 rfl (Sub.k (Sub.k (Sub.k (Sub.k (Sub.k (Sub.k (Sub.refl _))))))))) (l01Pick_ok _ _ _ s ([(1 : Int), (2 : Int), v] : List Int) _ _ w0 _ (Ld.own 0 (by exact rfl)) (by first | omega | (simp only [tops_len, conts_len, bl, List.length_append, List.length_cons, List.length_nil] at *; omega)) (by first | assumption | omega | (try dsimp only at *; omega)) (by first | assumption | omega | (try dsimp only at *; omega)) (by first | (simp; done) | omega)))) ?_)⟩
     rintro _ _ rfl hs
     refine ⟨fun w hw => hw.tail.sub (Sub.keep 3 rfl (Sub.keep 3 rfl (Sub.keep 3 rfl (Sub.drop (Sub.drop (Sub.drop (Sub.refl _))))))), (D.exi (fun r4 => D.sep (D.pur1 ?_)))⟩
     rintro ⟨rfl, hr4_1⟩
     refine D.f hwf 15 rfl (Ef.call call98 rfl rfl (Does.pre (fun w hw => hw.sub (Sub.k (Sub.k (Sub.k (Sub.k (Sub.k (Sub.k (Sub.k (Sub.refl _))))))))) (l01Pick_ok _ _ _ s ([(2 : Int), v, (v - (1 : Int))] : List Int) _ _ w0 _ (Ld.own 1 (by exact rfl)) (by first | omega | (simp only [tops_len, conts_len, bl, List.length_append, List.length_cons, List.length_nil] at *; omega)) (by first | assumption | omega | (try dsimp only at *; omega)) (by first | assumption | omega | (try dsimp only at *; omega)) (by first | (simp; done) | omega)))) ?_
     rintro _ _ rfl hs
     refine ⟨fun w hw => hw.tail.sub (Sub.keep 3 rfl (Sub.keep 3 rfl (Sub.keep 3 rfl (Sub.drop (Sub.drop (Sub.drop (Sub.refl _))))))), (D.exi (fun r5 => D.sep (D.pur1 ?_)))⟩
     rintro ⟨rfl, hr5_1⟩
     refine D.q 16 rfl (Pu.buildA (cs := [.int .i64 r3, .int .i64 r4, .int .i64 r5]) (v := B3.v (r3, r4, r5)) rfl rfl Tryz.underlying69 zr69 sz2 rfl (by kernel_rfl)) (D.f hwf 17 rfl (Ef.build B3C ([(r3, r4, r5)] : List B3) rfl Tryz.underlying24 inf69 rfl rfl rfl (by first | decide | (simp; done)) (by kernel_rfl)) ?_)
     rintro _ _ ⟨A6, hA6, rfl, rfl⟩ hs
     refine ⟨fun w hw => hw.sub (Sub.keep 5 rfl (Sub.keep 5 rfl (Sub.keep 5 rfl (Sub.drop (Sub.drop (Sub.drop (Sub.drop (Sub.drop (Sub.refl _))))))))), (D.f hwf 18 rfl (Ef.append (xs := (([] : List B3) ++ bs)) (ys := ([(r3, r4, r5)] : List B3)) 4 rfl Tryz.underlying24 inf69 rfl rfl rfl rfl rfl rfl hA6 (Ld.own 0 (by exact rfl)) (by simp only [List.length_append, List.length_cons, List.length_nil] at *; omega) (by decide)) ?_)⟩
     rintro _ _ ⟨A7, k2, rfl, rfl, hA7⟩ hs
     replace hA7 := hA7 (.inr (by simp))
     refine ⟨fun w hw => hw.sub (Sub.keep 5 rfl (Sub.keep 5 rfl (Sub.keep 5 rfl (Sub.drop (Sub.drop (Sub.drop (Sub.drop (Sub.drop (Sub.refl _))))))))), (D.last hwf (e := 19) rfl rfl rfl rfl rfl rfl (Pu.assign rfl rfl) (X.blockNormal (X.next (V.seq (V.region (O.q rfl (Pu.fieldAddr 0 rfl Tryz.underlying26 rfl sz2 rfl rfl) (O.q rfl (Pu.load rfl pl2 rfl (Ld.blk 6 rfl rfl)) (O.m rfl (O.q rfl (Pu.buildS (cs := [.int .i64 v, .slice A7 (((([] : List B3) ++ bs) ++ ([(r3, r4, r5)] : List B3)).length) k2]) rfl rfl Tryz.underlying26 zr26 (by kernel_rfl) rfl (by kernel_rfl)) (O.s rfl rfl (Ef.storeAll 5 rfl sz26 rfl rfl rfl rfl (by simp [Value.oneCell']) rfl) ?_))))))))))⟩
     rintro _ _ rfl
     exact O.nil (X.next (V.ret (X.retCell rfl ag26 sz26 rfl rfl (Ld.whole 5 rfl) (fun w hw => St.mkExi v (St.mkExi A7 (St.mkExi k2 (St.mkExi ((([] : List B3) ++ bs) ++ ([(r3, r4, r5)] : List B3)) (St.unsep (St.addPur ⟨(by first | rfl | (simp only [List.length_set])), by omega, by first | omega | (simp only [List.length_append, List.length_cons, List.length_nil, List.length_set]; omega)⟩ (St.unsep (hw.sub (Sub.keep 4 rfl (Sub.keep 1 rfl (Sub.drop (Sub.drop (Sub.drop (Sub.drop (Sub.drop (Sub.drop (Sub.refl _))))))))))))))))))))
    ·refine ⟨_, _, rfl, rfl, fun _ _ => wanted_none rfl _, Ef.build I64 ([(1 : Int), (2 : Int), v] : List Int) rfl Tryz.underlying41 inf2 rfl rfl rfl (by first | decide | (simp; done)) (by kernel_rfl), rfl, rfl, ?_⟩
     rintro _ _ ⟨A5, hA5, rfl, rfl⟩ hs
     refine ⟨fun w hw => hw.sub (Sub.keep 4 rfl (Sub.keep 4 rfl (Sub.keep 4 rfl (Sub.drop (Sub.drop (Sub.drop (Sub.drop (Sub.refl _)))))))), (D.f hwf 2 rfl (Ef.call call68 rfl rfl (Does.pre (fun w hw => hw.sub (Sub.keep 2 rfl (Sub.k (Sub.k (Sub.k (Sub.k (Sub.k (Sub.k (Sub.refl _))))))))) (l01Next_ok _ _ _ s (3 : Int) w0 _   (by first | assumption | omega | (try dsimp only at *; omega)) (by first | assumption | omega | (try dsimp only at *; omega))))) ?_)⟩
     rintro _ _ rfl hs
     refine ⟨fun w hw => hw.tail.sub (Sub.keep 3 rfl (Sub.keep 3 rfl (Sub.keep 3 rfl (Sub.drop (Sub.drop (Sub.drop (Sub.refl _))))))), (D.exi (fun r3 => D.sep (D.pur1 ?_)))⟩
     rintro ⟨rfl, hr3_1, hr3_2, hr3_3⟩
     refine D.f hwf 7 rfl (Ef.call call98 rfl rfl (Does.pre (fun w hw => hw.sub (Sub.k (Sub.k (Sub.k (Sub.k (Sub.k (Sub.k (Sub.k (Sub.refl _))))))))) (l01Pick_ok _ _ _ s ([(1 : Int), (2 : Int), v] : List Int) _ _ w0 _ (Ld.own 0 (by exact rfl)) (by first | omega | (simp only [tops_len, conts_len, bl, List.length_append, List.length_cons, List.length_nil] at *; omega)) (by first | assumption | omega | (try dsimp only at *; omega)) (by first | assumption | omega | (try dsimp only at *; omega)) (by first | (simp; done) | omega)))) ?_
     rintro _ _ rfl hs
     refine ⟨fun w hw => hw.tail.sub (Sub.keep 3 rfl (Sub.keep 3 rfl (Sub.keep 3 rfl (Sub.drop (Sub.drop (Sub.drop (Sub.refl _))))))), (D.exi (fun r4 => D.sep (D.pur1 ?_)))⟩
     rintro ⟨rfl, hr4_1⟩
     refine D.f hwf 15 rfl (Ef.call call98 rfl rfl (Does.pre (fun w hw => hw.sub (Sub.k (Sub.k (Sub.k (Sub.k (Sub.k (Sub.k (Sub.k (Sub.refl _))))))))) (l01Pick_ok _ _ _ s ([(2 : Int), v, (v - (1 : Int))] : List Int) _ _ w0 _ (Ld.own 1 (by exact rfl)) (by first | omega | (simp only [tops_len, conts_len, bl, List.length_append, List.length_cons, List.length_nil] at *; omega)) (by first | assumption | omega | (try dsimp only at *; omega)) (by first | assumption | omega | (try dsimp only at *; omega)) (by first | (simp; done) | omega)))) ?_
     rintro _ _ rfl hs
     refine ⟨fun w hw => hw.tail.sub (Sub.keep 3 rfl (Sub.keep 3 rfl (Sub.keep 3 rfl (Sub.drop (Sub.drop (Sub.drop (Sub.refl _))))))), (D.exi (fun r5 => D.sep (D.pur1 ?_)))⟩
     rintro ⟨rfl, hr5_1⟩
     refine D.q 16 rfl (Pu.buildA (cs := [.int .i64 r3, .int .i64 r4, .int .i64 r5]) (v := B3.v (r3, r4, r5)) rfl rfl Tryz.underlying69 zr69 sz2 rfl (by kernel_rfl)) (D.f hwf 17 rfl (Ef.build B3C ([(r3, r4, r5)] : List B3) rfl Tryz.underlying24 inf69 rfl rfl rfl (by first | decide | (simp; done)) (by kernel_rfl)) ?_)
     rintro _ _ ⟨A6, hA6, rfl, rfl⟩ hs
     refine ⟨fun w hw => hw.sub (Sub.keep 5 rfl (Sub.keep 5 rfl (Sub.keep 5 rfl (Sub.drop (Sub.drop (Sub.drop (Sub.drop (Sub.drop (Sub.refl _))))))))), (D.f hwf 18 rfl (Ef.append (xs := (([] : List B3) ++ bs)) (ys := ([(r3, r4, r5)] : List B3)) 4 rfl Tryz.underlying24 inf69 rfl rfl rfl rfl rfl rfl hA6 (Ld.own 0 (by exact rfl)) (by simp only [List.length_append, List.length_cons, List.length_nil] at *; omega) (by decide)) ?_)⟩
     rintro _ _ ⟨A7, k2, rfl, rfl, hA7⟩ hs
     replace hA7 := hA7 (.inr (by simp))
     refine ⟨fun w hw => hw.sub (Sub.keep 5 rfl (Sub.keep 5 rfl (Sub.keep 5 rfl (Sub.drop (Sub.drop (Sub.drop (Sub.drop (Sub.drop (Sub.refl _))))))))), (D.last hwf (e := 19) rfl rfl rfl rfl rfl rfl (Pu.assign rfl rfl) (X.blockNormal (X.next (V.seq (V.region (O.q rfl (Pu.fieldAddr 0 rfl Tryz.underlying26 rfl sz2 rfl rfl) (O.q rfl (Pu.load rfl pl2 rfl (Ld.blk 6 rfl rfl)) (O.m rfl (O.q rfl (Pu.buildS (cs := [.int .i64 v, .slice A7 (((([] : List B3) ++ bs) ++ ([(r3, r4, r5)] : List B3)).length) k2]) rfl rfl Tryz.underlying26 zr26 (by kernel_rfl) rfl (by kernel_rfl)) (O.s rfl rfl (Ef.storeAll 5 rfl sz26 rfl rfl rfl rfl (by simp [Value.oneCell']) rfl) ?_))))))))))⟩
     rintro _ _ rfl
     exact O.nil (X.next (V.ret (X.retCell rfl ag26 sz26 rfl rfl (Ld.whole 5 rfl) (fun w hw => St.mkExi v (St.mkExi A7 (St.mkExi k2 (St.mkExi ((([] : List B3) ++ bs) ++ ([(r3, r4, r5)] : List B3)) (St.unsep (St.addPur ⟨(by first | rfl | (simp only [List.length_set])), by omega, by first | omega | (simp only [List.length_append, List.length_cons, List.length_nil, List.length_set]; omega)⟩ (St.unsep (hw.sub (Sub.keep 4 rfl (Sub.keep 1 rfl (Sub.drop (Sub.drop (Sub.drop (Sub.drop (Sub.drop (Sub.drop (Sub.refl _))))))))))))))))))))
  ·refine V.seq (V.region (O.q rfl (Pu.eql rfl rfl rfl) (O.m rfl (O.nil (X.next (V.condD rfl (fun c3 => ?_) (fun c3 => ?_)))))))
   ·refine V.seq (V.region (O.m rfl (O.q rfl (Pu.len rfl Tryz.underlying24 rfl) (O.q rfl (Pu.gtr rfl rfl rfl) (O.nil (X.next (V.condD rfl (fun c4 => ?_) (fun c4 => ?_))))))))
    ·refine V.seq (V.region (O.m rfl (O.q rfl (Pu.indexAddr (0) rfl Tryz.underlying24 sz69 rfl rfl (by omega) (by omega) hA2) ?_)))
     have e1 : 0 < (([] : List B3) ++ bs).length := by omega
     refine O.q rfl (Pu.loadAgg' (v := B3.v ((([] : List B3) ++ bs)[0]'e1)) rfl rfl ag69 sz69 rfl rfl (Ld.rds (C := B3C) (Ld.own 1 (by exact rfl)) (k := 0) e1 rfl)) (O.f rfl (Ef.alloc rfl zr69 rfl) ?_)
     rintro _ _ ⟨b3, rfl, rfl⟩
     refine O.s rfl rfl (Ef.storeAll 0 rfl sz69 rfl rfl rfl rfl (by simp [Value.oneCell']) rfl) ?_
     rintro _ _ rfl
     refine O.nil (X.next (V.seq (V.region (O.m rfl (O.m rfl (O.q rfl (Pu.indexAddr (1) rfl Tryz.underlying24 sz69 rfl rfl (by omega) (by omega) hA2) ?_))))))
     have e2 : 1 < (([] : List B3) ++ bs).length := by omega
     refine O.q rfl (Pu.loadAgg' (v := B3.v ((([] : List B3) ++ bs)[1]'e2)) rfl rfl ag69 sz69 rfl rfl (Ld.rds (C := B3C) (Ld.own 2 (by exact rfl)) (k := 1) e2 rfl)) (O.q rfl (Pu.indexAddr (0) rfl Tryz.underlying24 sz69 rfl rfl (by omega) (by omega) hA2) (O.s rfl rfl (Ef.storeOwn 2 (0) ((([] : List B3) ++ bs)[1]'e2) rfl sz69 rfl rfl rfl rfl (by first | omega | (rw [List.length_set]; omega)) rfl) ?_))
     rintro _ _ rfl
     refine O.nil (X.next (V.region (O.m rfl (O.q rfl (Pu.loadAgg' (v := B3.v ((([] : List B3) ++ bs)[0]'e1)) rfl rfl ag69 sz69 rfl rfl (Ld.whole 0 rfl)) (O.q rfl (Pu.indexAddr (1) rfl Tryz.underlying24 sz69 rfl rfl (by omega) (by omega) hA2) (O.s rfl rfl (Ef.storeOwn 2 (1) ((([] : List B3) ++ bs)[0]'e1) rfl sz69 rfl rfl rfl rfl (by first | omega | (rw [List.length_set]; omega)) rfl) ?_))))))
     rintro _ _ rfl
     refine O.nil (X.blockNormal (X.next (V.seq (V.region (O.q rfl (Pu.fieldAddr 0 rfl Tryz.underlying26 rfl sz2 rfl rfl) (O.q rfl (Pu.load rfl pl2 rfl (Ld.blk 4 rfl rfl)) (O.m rfl (O.q rfl (Pu.buildS (cs := [.int .i64 v, .slice A2 ((([] : List B3) ++ bs).length) k1]) rfl rfl Tryz.underlying26 zr26 (by kernel_rfl) rfl (by kernel_rfl)) (O.s rfl rfl (Ef.storeAll 3 rfl sz26 rfl rfl rfl rfl (by simp [Value.oneCell']) rfl) ?_)))))))))
     rintro _ _ rfl
     exact O.nil (X.next (V.ret (X.retCell rfl ag26 sz26 rfl rfl (Ld.whole 3 rfl) (fun w hw => St.mkExi v (St.mkExi A2 (St.mkExi k1 (St.mkExi (((([] : List B3) ++ bs).set (0) ((([] : List B3) ++ bs)[1]'e2)).set (1) ((([] : List B3) ++ bs)[0]'e1)) (St.unsep (St.addPur ⟨(by first | rfl | (simp only [List.length_set])), by omega, by first | omega | (simp only [List.length_append, List.length_cons, List.length_nil, List.length_set]; omega)⟩ (St.unsep (hw.sub (Sub.keep 2 rfl (Sub.keep 1 rfl (Sub.drop (Sub.drop (Sub.drop (Sub.drop (Sub.refl _))))))))))))))))))
    ·refine V.skip (X.blockNormal (X.next (V.seq (V.region (O.q rfl (Pu.fieldAddr 0 rfl Tryz.underlying26 rfl sz2 rfl rfl) (O.q rfl (Pu.load rfl pl2 rfl (Ld.blk 3 rfl rfl)) (O.m rfl (O.q rfl (Pu.buildS (cs := [.int .i64 v, .slice A2 ((([] : List B3) ++ bs).length) k1]) rfl rfl Tryz.underlying26 zr26 (by kernel_rfl) rfl (by kernel_rfl)) (O.s rfl rfl (Ef.storeAll 2 rfl sz26 rfl rfl rfl rfl (by simp [Value.oneCell']) rfl) ?_)))))))))
     rintro _ _ rfl
     exact O.nil (X.next (V.ret (X.retCell rfl ag26 sz26 rfl rfl (Ld.whole 2 rfl) (fun w hw => St.mkExi v (St.mkExi A2 (St.mkExi k1 (St.mkExi (([] : List B3) ++ bs) (St.unsep (St.addPur ⟨(by first | rfl | (simp only [List.length_set])), by omega, by first | omega | (simp only [List.length_append, List.length_cons, List.length_nil, List.length_set]; omega)⟩ (St.unsep (hw.sub (Sub.keep 1 rfl (Sub.k (Sub.drop (Sub.drop (Sub.drop (Sub.refl _)))))))))))))))))
   ·refine V.seq (V.region (O.q rfl (Pu.loadAgg rfl ag26 sz26 rfl rfl (Ld.whole 3 rfl)) (O.s rfl rfl (Ef.storeAll 2 rfl sz26 rfl rfl rfl rfl (by simp [Value.oneCell']) rfl) ?_)))
    rintro _ _ rfl
    exact O.nil (X.next (V.ret (X.blockRet (X.thenRet (X.retCell rfl ag26 sz26 rfl rfl (Ld.whole 2 rfl) (fun w hw => St.mkExi v (St.mkExi A (St.mkExi c (St.mkExi bs (St.unsep (St.addPur ⟨(by first | rfl | (simp only [List.length_set])), by omega, by first | omega | (simp only [List.length_append, List.length_cons, List.length_nil, List.length_set]; omega)⟩ (St.unsep (hw.sub (Sub.keep 4 rfl (Sub.k (Sub.drop (Sub.drop (Sub.drop (Sub.refl _)))))))))))))))))))
set_option maxRecDepth 100000 in
set_option maxHeartbeats 1000000 in
theorem l01Spoil_ok (cA : Option Addr) (cc : Nat) (code : List UInt8) (s : Nat) (w0 : World) (H : List Assn) (hc : Rd U8C w0 cA code) (lc : code.length ≤ 1048576) : Does Tryz.prog 67 [.pointer (some ⟨s, 0, none⟩)] w0 (SrcK 118 cA cc code s :: H) (fun rv_ => [.exi fun (pv : Int) => .exi fun (rA : Option Addr) => .exi fun (rc : Nat) => .exi fun (r : List B3) => .sep (.pur (rv_ = .agg #[.int .i64 pv, .slice rA r.length rc] ∧ (-1 ≤ pv ∧ pv ≤ 16) ∧ r.length ≤ 4200)) (.sep (Own 69 B3C rA rc r) (SrcK 118 cA cc code s))] ++ H) := by
 refine Does.enter Tryz.func67 rfl rfl [(0, .pointer (some ⟨s, 0, none⟩))] rfl (V.seq (V.region (O.f rfl (Ef.alloc rfl zr26 rfl) ?_)))
 rintro _ _ ⟨b1, rfl, rfl⟩
 refine O.nil (X.next (V.seq (V.region (O.m rfl (O.m rfl (O.f rfl (Ef.call call109 rfl rfl (Does.pre (fun w hw => hw.sub (Sub.keep 1 rfl (Sub.k (Sub.refl _)))) (l01Draw_ok _ _ _ s w0 _   (by first | assumption | omega | (try dsimp only at *; omega)) (by first | assumption | omega | (try dsimp only at *; omega))))) ?_))))))
 rintro _ _ rfl
 refine O.exi (fun pv1 => O.exi (fun r1A => O.exi (fun r1c => O.exi (fun r1 => O.sep (O.pur ?_)))))
 rintro ⟨rfl, hpv1_1⟩
 refine O.sep (O.f rfl (Ef.call call108 rfl rfl (Does.pre (fun w hw => hw.sub (Sub.keep 1 rfl (Sub.k (Sub.k (Sub.refl _))))) (l01Bad_ok _ _ _ s pv1 r1 _ _ w0 _   (by first | assumption | omega | (try dsimp only at *; omega)) (by first | assumption | omega | (try dsimp only at *; omega)) (by first | assumption | omega | (try dsimp only at *; omega))))) ?_)
 rintro _ _ rfl
 refine O.exi (fun pv2 => O.exi (fun r2A => O.exi (fun r2c => O.exi (fun r2 => O.sep (O.pur ?_)))))
 rintro ⟨rfl, hpv2_1, hpv2_2⟩
 refine O.sep (O.s rfl rfl (Ef.storeAll 2 rfl sz26 rfl rfl rfl rfl (by simp [Value.oneCell']) rfl) ?_)
 rintro _ _ rfl
 exact O.nil (X.next (V.ret (X.retCell rfl ag26 sz26 rfl rfl (Ld.whole 2 rfl) (fun w hw => St.mkExi pv2 (St.mkExi r2A (St.mkExi r2c (St.mkExi r2 (St.unsep (St.addPur ⟨rfl, hpv2_1, hpv2_2⟩ (St.unsep (hw.sub (Sub.k (Sub.k (Sub.drop (Sub.refl _)))))))))))))))
set_option maxRecDepth 100000 in
set_option maxHeartbeats 1000000 in
theorem big_ok (code : List UInt8) (codeA : Option Addr) (codec : Nat) (w : World) (hcode : Rd U8C w codeA code) (lcode : code.length ≤ 9223372036854775807) : Does Tryz.prog 5 [.slice codeA code.length codec] w [] (fun r => [.pur (r = .bool (decide (4096 < code.length)))]) := by
 refine Does.enter Tryz.func5 rfl rfl [(0, .slice codeA code.length codec)] rfl (V.seq (V.region (O.m rfl (O.nil (X.next (V.seq (V.region (O.m rfl (O.q rfl (Pu.len rfl Tryz.underlying22 rfl) (O.q rfl (Pu.gtr rfl rfl rfl) (O.m rfl ?_)))))))))))
 exact O.nil (X.next (V.ret (X.ret1 rfl rfl (fun w hw => St.retP (boolD (by omega)) hw))))
set_option maxRecDepth 100000 in
set_option maxHeartbeats 1000000 in
theorem likeInts_ok (a : List Int) (b : List Int) (aA : Option Addr) (ac : Nat) (bA : Option Addr) (bc : Nat) (w : World) (ha : Rd I64 w aA a) (hb : Rd I64 w bA b) (la : a.length ≤ 9223372036854775807) (lb : b.length ≤ 9223372036854775807) : Does Tryz.prog 20 [.slice aA a.length ac, .slice bA b.length bc] w [] (fun r => [.pur (r = .bool (decide (a = b)))]) := by
 refine Does.enter Tryz.func20 rfl rfl [(0, .slice aA a.length ac), (1, .slice bA b.length bc)] rfl (V.seq (V.region (O.m rfl (O.nil (X.next (V.seq (V.seq (V.region (O.m rfl (O.q rfl (Pu.len rfl Tryz.underlying41 rfl) (O.m rfl ?_)))))))))))
 refine O.q rfl (Pu.len rfl Tryz.underlying41 rfl) (O.q rfl (Pu.neq rfl rfl rfl) (O.nil (X.next (V.condNot rfl (fun c1 => ?_) (fun c1 => ?_)))))
 ·exact V.seq (V.region (O.m rfl (O.nil (X.next (V.ret (X.thenRet (X.ret1 rfl rfl (fun w hw => St.retP (boolF (fun h => c1 (by rw [h]))) hw))))))))
 ·refine V.skip (X.next (V.seq (V.seq (V.region (O.m rfl (O.nil (X.next (V.block (V.loop2 (β := Nat) (fun i => [(5, .int .i64 (i : Int))]) _ (fun i => []) (fun i => i ≤ a.length ∧ ∀ j (h1 : j < a.length) (h2 : j < b.length), j < i → a[j] = b[j]) (fun i => a.length - i) 0 ⟨by omega, fun j _ _ h => by omega⟩ (Ent.cons rfl (Ent.nil _)) (Ent.cons (t := 0) rfl (Ent.cons (t := 1) rfl (Ent.nil _))) (Sub.nil _) ?_)))))))))
  rintro i ⟨hi, he⟩
  refine V.seq (V.seq (V.region (O.m rfl (O.m rfl (O.q rfl (Pu.len rfl Tryz.underlying41 rfl) (O.q rfl (Pu.lss rfl rfl rfl) (O.nil (X.next (V.condD rfl (fun c2 => ?_) (fun c2 => ?_))))))))))
  ·refine V.skip (X.next (V.seq (V.block (V.seq (V.draw mo (by kernel_rfl) (fun hwf => D.m 0 rfl (D.m 1 rfl (D.q 2 rfl (Pu.indexAddr (i) rfl Tryz.underlying41 sz2 rfl rfl (by omega) (by omega) (ha.some (by omega))) ?_))))))))
   have e1 : i < a.length := by omega
   refine D.q 3 rfl (Pu.load rfl pl2 rfl (Ld.rd (Ld.old ha) (k := i) e1 rfl rfl)) (D.m 4 rfl (D.m 5 rfl (D.q 6 rfl (Pu.indexAddr (i) rfl Tryz.underlying41 sz2 rfl rfl (by omega) (by omega) (hb.some (by omega))) ?_)))
   have e2 : i < b.length := by omega
   refine D.q 7 rfl (Pu.load rfl pl2 rfl (Ld.rd (Ld.old hb) (k := i) e2 rfl rfl)) (D.q 8 rfl (Pu.neq rfl rfl rfl) (D.done hwf rfl (X.next (V.condNot rfl (fun c3 => ?_) (fun c3 => ?_)))))
   ·exact V.seq (V.region (O.m rfl (O.nil (X.next (V.ret (X.blockRet (X.thenRet (X.thenRet (X.blockRet (X.thenRet (X.ret1 rfl rfl (fun w hw => St.retP (boolF (fun h => c3 (by simp [h]))) hw))))))))))))
   ·exact V.skip (X.blockNormal (X.next (V.region (O.m rfl (O.q rfl (Pu.add64 (r := ((i + 1 : Nat) : Int)) rfl (by omega) rfl rfl rfl) (O.m rfl (O.nil (X.back2 (i + 1) ⟨by omega, fun j h1 h2 hj => by by_cases e : j = i; (· subst e; exact c3); (· exact he j h1 h2 (by omega))⟩ (by first | omega | (dsimp only; omega)) (Ent.cons rfl (Ent.nil _)) (Ent.cons (t := 0) rfl (Ent.cons (t := 1) rfl (Ent.nil _))) (Sub.nil _)))))))))
  ·exact V.exit (X.thenExit (X.thenExit (X.blockHit (X.next (V.seq (V.region (O.m rfl (O.nil (X.next (V.ret (X.ret1 rfl rfl (fun w hw => St.retP (boolT (List.ext_getElem (by omega) (fun j h1 h2 => he j h1 h2 (by omega)))) hw))))))))))))
set_option maxRecDepth 100000 in
set_option maxHeartbeats 1000000 in
theorem blocks9_ok (a : List B3) (b : List B3) (aA : Option Addr) (ac : Nat) (bA : Option Addr) (bc : Nat) (w : World) (ha : Rd B3C w aA a) (hb : Rd B3C w bA b) (la : a.length ≤ 9223372036854775807) (lb : b.length ≤ 9223372036854775807) : Does Tryz.prog 47 [.slice aA a.length ac, .slice bA b.length bc] w [] (fun r => [.pur (r = .bool (decide (a = b)))]) := by
 refine Does.enter Tryz.func47 rfl rfl [(0, .slice aA a.length ac), (1, .slice bA b.length bc)] rfl (V.seq (V.region (O.m rfl (O.nil (X.next (V.seq (V.seq (V.region (O.m rfl (O.q rfl (Pu.len rfl Tryz.underlying24 rfl) (O.m rfl ?_)))))))))))
 refine O.q rfl (Pu.len rfl Tryz.underlying24 rfl) (O.q rfl (Pu.neq rfl rfl rfl) (O.nil (X.next (V.condNot rfl (fun c1 => ?_) (fun c1 => ?_)))))
 ·exact V.seq (V.region (O.m rfl (O.nil (X.next (V.ret (X.thenRet (X.ret1 rfl rfl (fun w hw => St.retP (boolF (fun h => c1 (by rw [h]))) hw))))))))
 ·refine V.skip (X.next (V.seq (V.seq (V.region (O.m rfl (O.nil (X.next (V.block (V.loop2 (β := Nat) (fun i => [(5, .int .i64 (i : Int))]) _ (fun i => []) (fun i => i ≤ a.length ∧ ∀ j (h1 : j < a.length) (h2 : j < b.length), j < i → a[j] = b[j]) (fun i => a.length - i) 0 ⟨by omega, fun j _ _ h => by omega⟩ (Ent.cons rfl (Ent.nil _)) (Ent.cons (t := 0) rfl (Ent.cons (t := 1) rfl (Ent.nil _))) (Sub.nil _) ?_)))))))))
  rintro i ⟨hi, he⟩
  refine V.seq (V.seq (V.region (O.m rfl (O.m rfl (O.q rfl (Pu.len rfl Tryz.underlying24 rfl) (O.q rfl (Pu.lss rfl rfl rfl) (O.nil (X.next (V.condD rfl (fun c2 => ?_) (fun c2 => ?_))))))))))
  ·refine V.skip (X.next (V.seq (V.block (V.seq (V.draw mo (by kernel_rfl) (fun hwf => D.m 0 rfl (D.m 1 rfl (D.q 2 rfl (Pu.indexAddr (i) rfl Tryz.underlying24 sz69 rfl rfl (by omega) (by omega) (ha.some (by omega))) ?_))))))))
   have e1 : i < a.length := by omega
   refine D.q 3 rfl (Pu.loadAgg' (v := B3.v (a[i]'e1)) rfl rfl ag69 sz69 rfl rfl (Ld.rds (Ld.old ha) (k := i) e1 rfl)) (D.m 4 rfl (D.m 5 rfl (D.q 6 rfl (Pu.indexAddr (i) rfl Tryz.underlying24 sz69 rfl rfl (by omega) (by omega) (hb.some (by omega))) ?_)))
   have e2 : i < b.length := by omega
   refine D.q 7 rfl (Pu.loadAgg' (v := B3.v (b[i]'e2)) rfl rfl ag69 sz69 rfl rfl (Ld.rds (Ld.old hb) (k := i) e2 rfl)) (D.q 8 rfl (Pu.neqB3 Tryz.underlying69 Tryz.underlying2 sz2 (by kernel_rfl) rfl rfl rfl) (D.done hwf rfl (X.next (V.condNot rfl (fun c3 => ?_) (fun c3 => ?_)))))
   ·exact V.seq (V.region (O.m rfl (O.nil (X.next (V.ret (X.blockRet (X.thenRet (X.thenRet (X.blockRet (X.thenRet (X.ret1 rfl rfl (fun w hw => St.retP (boolF (fun h => c3 (by simp [h]))) hw))))))))))))
   ·exact V.skip (X.blockNormal (X.next (V.region (O.m rfl (O.q rfl (Pu.add64 (r := ((i + 1 : Nat) : Int)) rfl (by omega) rfl rfl rfl) (O.m rfl (O.nil (X.back2 (i + 1) ⟨by omega, fun j h1 h2 hj => by by_cases e : j = i; (· subst e; exact c3); (· exact he j h1 h2 (by omega))⟩ (by first | omega | (dsimp only; omega)) (Ent.cons rfl (Ent.nil _)) (Ent.cons (t := 0) rfl (Ent.cons (t := 1) rfl (Ent.nil _))) (Sub.nil _)))))))))
  ·exact V.exit (X.thenExit (X.thenExit (X.blockHit (X.next (V.seq (V.region (O.m rfl (O.nil (X.next (V.ret (X.ret1 rfl rfl (fun w hw => St.retP (boolT (List.ext_getElem (by omega) (fun j h1 h2 => he j h1 h2 (by omega)))) hw))))))))))))
set_option maxRecDepth 100000 in
set_option maxHeartbeats 1000000 in
theorem system9_ok (v : Int) (bs : List B3) (v2 : Int) (bs2 : List B3) (A : Option Addr) (c : Nat) (A2 : Option Addr) (c2 : Nat) (w : World) (hx : Rd B3C w A bs) (hx2 : Rd B3C w A2 bs2) (lx : bs.length ≤ 4611686018427387904) (lx2 : bs2.length ≤ 4611686018427387904) : Does Tryz.prog 9 [.agg #[.int .i64 v, .slice A bs.length c], .agg #[.int .i64 v2, .slice A2 bs2.length c2]] w [] (fun r => [.pur (r = .bool (decide (v = v2 ∧ bs = bs2)))]) := by
 refine Does.enter Tryz.func9 rfl rfl [(0, .agg #[.int .i64 v, .slice A bs.length c]), (1, .agg #[.int .i64 v2, .slice A2 bs2.length c2])] rfl (V.seq (V.region (O.f rfl (Ef.box rfl rfl rfl) ?_)))
 rintro _ _ ⟨b1, rfl, rfl⟩
 refine O.f rfl (Ef.box rfl rfl rfl) ?_
 rintro _ _ ⟨b2, rfl, rfl⟩
 refine O.m rfl (O.nil (X.next (V.seq (V.region (O.q rfl (Pu.fieldAddr 0 rfl Tryz.underlying26 rfl sz2 rfl rfl) (O.q rfl (Pu.load rfl pl2 rfl (Ld.blk 1 rfl rfl)) (O.q rfl (Pu.fieldAddr 0 rfl Tryz.underlying26 rfl sz2 rfl rfl) (O.q rfl (Pu.load rfl pl2 rfl (Ld.blk 0 rfl rfl)) (O.q rfl (Pu.eql rfl rfl rfl) (O.m rfl (O.splitD 10 rfl (fun c1 => ?_) (fun c1 => ?_))))))))))))
 ·refine O.gq rfl (Pu.fieldAddr 1 rfl Tryz.underlying26 rfl sz24 rfl rfl) (O.gq rfl (Pu.load rfl pl24 rfl (Ld.blk 1 rfl rfl)) (O.gq rfl (Pu.fieldAddr 1 rfl Tryz.underlying26 rfl sz24 rfl rfl) (O.gq rfl (Pu.load rfl pl24 rfl (Ld.blk 0 rfl rfl)) (O.gf rfl (Ef.callP call47 rfl rfl (fun w hw => blocks9_ok  bs bs2 _ _ _ _ w ((Ld.old hx) w hw) ((Ld.old hx2) w hw) (by first | omega | (simp only [tops_len, conts_len, bl, List.length_append, List.length_cons, List.length_nil] at *; omega)) (by first | omega | (simp only [tops_len, conts_len, bl, List.length_append, List.length_cons, List.length_nil] at *; omega)) )) ?_))))
  rintro _ _ ⟨rfl, rfl⟩
  exact O.m rfl (O.m rfl (O.nil (X.next (V.ret (X.ret1 rfl rfl (fun w hw => St.retP (boolD (by first | exact ⟨c1, c2⟩ | exact fun h => c1 h.1 | exact fun h => c2 h.2 | (constructor; (· exact fun h => ⟨c1, h⟩); (· exact fun h => h.2)) | simp_all)) hw))))))
 ·exact O.g rfl (O.g rfl (O.g rfl (O.g rfl (O.g rfl (O.m rfl (O.m rfl (O.nil (X.next (V.ret (X.ret1 rfl rfl (fun w hw => St.retP (boolF (by first | exact ⟨c1, c2⟩ | exact fun h => c1 h.1 | exact fun h => c2 h.2 | (constructor; (· exact fun h => ⟨c1, h⟩); (· exact fun h => h.2)) | simp_all)) hw)))))))))))
set_option maxRecDepth 100000 in
set_option maxHeartbeats 1000000 in
theorem l04PairsX_ok (v : Nat) (blocks : List B3) (blocksA : Option Addr) (blocksc : Nat) (w : World) (hblocks : Rd B3C w blocksA blocks) (lblocks : blocks.length ≤ 1099511627776) (hv : v ≤ 15) (hb : ∀ d ∈ blocks, inB v d) : Does Tryz.prog 120 [.slice blocksA blocks.length blocksc] w [] (fun rv_ => [.exi fun (rA : Option Addr) => .exi fun (rc : Nat) => .exi fun (r : List Bool) => .sep (.pur (rv_ = .slice rA r.length rc ∧ r = usedL blocks)) (Own 4 BoolC rA rc r)]) := by
 refine Does.enter Tryz.func120 rfl rfl [(0, .slice blocksA blocks.length blocksc)] rfl (V.seq (V.region (O.m rfl (O.nil (X.next (V.seq (V.region (O.f rfl (Ef.make BoolC false rfl Tryz.underlying139 inf4 rfl rfl rfl rfl (by decide) (by decide)) ?_))))))))
 rintro _ _ ⟨A1, hA1, rfl, rfl⟩
 refine O.m rfl (O.nil (X.next (V.seq (V.seq (V.region (O.m rfl (O.nil (X.next (V.block (V.loop2 (β := Nat × (List Bool)) (fun x => [(4, .int .i64 (x.1 : Int))]) _ (fun x => [Own 4 BoolC A1 256 x.2]) (fun x => x.1 ≤ blocks.length ∧ x.2 = usedL (blocks.take x.1)) (fun x => blocks.length - x.1) (0, (List.replicate (256) false)) (by (try dsimp only); exact ⟨by omega, usedL_nil.symm⟩) (Ent.cons rfl (Ent.nil _)) (Ent.cons (t := 0) rfl (Ent.cons (t := 3) rfl (Ent.nil _))) (Sub.k (Sub.nil _)) ?_))))))))))
 rintro ⟨i, z⟩ ⟨hi, hr⟩
 dsimp only at hi hr ⊢
 have hol : z.length = 256 := by rw [hr]; exact usedL_len _
 refine V.seq (V.seq (V.region (O.m rfl (O.m rfl (O.q rfl (Pu.len rfl Tryz.underlying24 rfl) (O.q rfl (Pu.lss rfl rfl rfl) (O.nil (X.next (V.condD rfl (fun c1 => ?_) (fun c1 => ?_))))))))))
 ·refine V.skip (X.next (V.seq (V.block (V.seq ?_))))
  have ei : i < blocks.length := by omega
  have hin := hb (blocks[i]'ei) (List.getElem_mem ei)
  have hpt := inB_pts hin hv
  have hq1 := prI_lt (a := (blocks[i]'ei).1.toNat) (b := (blocks[i]'ei).2.1.toNat) (by omega) (by omega)
  have hq2 := prI_lt (a := (blocks[i]'ei).1.toNat) (b := (blocks[i]'ei).2.2.toNat) (by omega) (by omega)
  have hq3 := prI_lt (a := (blocks[i]'ei).2.1.toNat) (b := (blocks[i]'ei).2.2.toNat) (by omega) (by omega)
  refine V.draw mo (by kernel_rfl) (fun hwf => D.m 0 rfl (D.m 1 rfl (D.m 2 rfl (D.q 3 rfl (Pu.indexAddr (i) rfl Tryz.underlying24 sz69 rfl rfl (by omega) (by omega) (hblocks.some (by omega))) (D.q 4 rfl (Pu.indexArr' (0) rfl Tryz.underlying69 sz2 rfl rfl (by omega) (by omega) rfl (fun w hw => by have := Rd.some ((Ld.old hblocks) w hw) (by omega); simpa using this)) (D.q 5 rfl (Pu.load rfl pl2 rfl (Ld.part (k := i) (j := 0) (Ld.old hblocks) ei rfl rfl)) (D.m 6 rfl (D.m 7 rfl (D.q 8 rfl (Pu.indexAddr (i) rfl Tryz.underlying24 sz69 rfl rfl (by omega) (by omega) (hblocks.some (by omega))) (D.q 9 rfl (Pu.indexArr' (1) rfl Tryz.underlying69 sz2 rfl rfl (by omega) (by omega) rfl (fun w hw => by have := Rd.some ((Ld.old hblocks) w hw) (by omega); simpa using this)) (D.q 10 rfl (Pu.load rfl pl2 rfl (Ld.part (k := i) (j := 1) (Ld.old hblocks) ei rfl rfl)) ?_)))))))))))
  refine D.f hwf 11 rfl (Ef.callP call150 rfl rfl (fun w hw => l04PairI_ok _ _ w (by omega) (by omega))) ?_
  rintro _ _ ⟨rfl, rfl⟩ hs
  refine ⟨fun w hw => hw, (D.q 12 rfl (Pu.indexAddrS ((prI (((blocks[i]'ei).1)).toNat (((blocks[i]'ei).2.1)).toNat)) rfl Tryz.underlying139 sz4 rfl rfl (by omega) (by omega) (fun w hw => Own.some hw (i := 0) (by exact rfl) (by omega))) (D.effX (Hs' := []) hwf (e := 13) rfl rfl rfl rfl (Ef.storeOwn 0 ((prI (((blocks[i]'ei).1)).toNat (((blocks[i]'ei).2.1)).toNat)) true rfl sz4 rfl rfl rfl rfl (by omega) rfl) rfl [] rfl (List.forall_mem_nil _) ?_))⟩
  rintro _ _ rfl
  refine ⟨fun w hw => hw.sub (Sub.nil _), (D.done hwf rfl (X.next (V.seq ?_)))⟩
  have hs1 : (z.set (prI (blocks[i]'ei).1.toNat (blocks[i]'ei).2.1.toNat) true).length = 256 := by simp only [List.length_set]; omega
  refine V.draw mo (by kernel_rfl) (fun hwf => D.m 0 rfl (D.m 1 rfl (D.m 2 rfl (D.q 3 rfl (Pu.indexAddr (i) rfl Tryz.underlying24 sz69 rfl rfl (by omega) (by omega) (hblocks.some (by omega))) (D.q 4 rfl (Pu.indexArr' (0) rfl Tryz.underlying69 sz2 rfl rfl (by omega) (by omega) rfl (fun w hw => by have := Rd.some ((Ld.old hblocks) w hw) (by omega); simpa using this)) (D.q 5 rfl (Pu.load rfl pl2 rfl (Ld.part (k := i) (j := 0) (Ld.old hblocks) ei rfl rfl)) (D.m 6 rfl (D.m 7 rfl (D.q 8 rfl (Pu.indexAddr (i) rfl Tryz.underlying24 sz69 rfl rfl (by omega) (by omega) (hblocks.some (by omega))) (D.q 9 rfl (Pu.indexArr' (2) rfl Tryz.underlying69 sz2 rfl rfl (by omega) (by omega) rfl (fun w hw => by have := Rd.some ((Ld.old hblocks) w hw) (by omega); simpa using this)) (D.q 10 rfl (Pu.load rfl pl2 rfl (Ld.part (k := i) (j := 2) (Ld.old hblocks) ei rfl rfl)) ?_)))))))))))
  refine D.f hwf 11 rfl (Ef.callP call150 rfl rfl (fun w hw => l04PairI_ok _ _ w (by omega) (by omega))) ?_
  rintro _ _ ⟨rfl, rfl⟩ hs
  refine ⟨fun w hw => hw, (D.q 12 rfl (Pu.indexAddrS ((prI (((blocks[i]'ei).1)).toNat (((blocks[i]'ei).2.2)).toNat)) rfl Tryz.underlying139 sz4 rfl rfl (by omega) (by omega) (fun w hw => Own.some hw (i := 0) (by exact rfl) (by omega))) (D.effX (Hs' := []) hwf (e := 13) rfl rfl rfl rfl (Ef.storeOwn 0 ((prI (((blocks[i]'ei).1)).toNat (((blocks[i]'ei).2.2)).toNat)) true rfl sz4 rfl rfl rfl rfl (by omega) rfl) rfl [] rfl (List.forall_mem_nil _) ?_))⟩
  rintro _ _ rfl
  refine ⟨fun w hw => hw.sub (Sub.nil _), (D.done hwf rfl (X.next ?_))⟩
  have hs2 : ((z.set (prI (blocks[i]'ei).1.toNat (blocks[i]'ei).2.1.toNat) true).set (prI (blocks[i]'ei).1.toNat (blocks[i]'ei).2.2.toNat) true).length = 256 := by simp only [List.length_set]; omega
  refine V.draw mo (by kernel_rfl) (fun hwf => D.m 0 rfl (D.m 1 rfl (D.m 2 rfl (D.q 3 rfl (Pu.indexAddr (i) rfl Tryz.underlying24 sz69 rfl rfl (by omega) (by omega) (hblocks.some (by omega))) (D.q 4 rfl (Pu.indexArr' (1) rfl Tryz.underlying69 sz2 rfl rfl (by omega) (by omega) rfl (fun w hw => by have := Rd.some ((Ld.old hblocks) w hw) (by omega); simpa using this)) (D.q 5 rfl (Pu.load rfl pl2 rfl (Ld.part (k := i) (j := 1) (Ld.old hblocks) ei rfl rfl)) (D.m 6 rfl (D.m 7 rfl (D.q 8 rfl (Pu.indexAddr (i) rfl Tryz.underlying24 sz69 rfl rfl (by omega) (by omega) (hblocks.some (by omega))) (D.q 9 rfl (Pu.indexArr' (2) rfl Tryz.underlying69 sz2 rfl rfl (by omega) (by omega) rfl (fun w hw => by have := Rd.some ((Ld.old hblocks) w hw) (by omega); simpa using this)) (D.q 10 rfl (Pu.load rfl pl2 rfl (Ld.part (k := i) (j := 2) (Ld.old hblocks) ei rfl rfl)) ?_)))))))))))
  refine D.f hwf 11 rfl (Ef.callP call150 rfl rfl (fun w hw => l04PairI_ok _ _ w (by omega) (by omega))) ?_
  rintro _ _ ⟨rfl, rfl⟩ hs
  refine ⟨fun w hw => hw, (D.q 12 rfl (Pu.indexAddrS ((prI (((blocks[i]'ei).2.1)).toNat (((blocks[i]'ei).2.2)).toNat)) rfl Tryz.underlying139 sz4 rfl rfl (by omega) (by omega) (fun w hw => Own.some hw (i := 0) (by exact rfl) (by omega))) (D.effX (Hs' := []) hwf (e := 13) rfl rfl rfl rfl (Ef.storeOwn 0 ((prI (((blocks[i]'ei).2.1)).toNat (((blocks[i]'ei).2.2)).toNat)) true rfl sz4 rfl rfl rfl rfl (by omega) rfl) rfl [] rfl (List.forall_mem_nil _) ?_))⟩
  rintro _ _ rfl
  exact ⟨fun w hw => hw.sub (Sub.nil _), (D.done hwf rfl (X.blockNormal (X.next (V.region (O.m rfl (O.q rfl (Pu.add64 (r := ((i + 1 : Nat) : Int)) rfl (by omega) rfl rfl rfl) (O.m rfl (O.nil (X.back2 (i + 1, (((z.set ((prI (((blocks[i]'ei).1)).toNat (((blocks[i]'ei).2.1)).toNat)) true).set ((prI (((blocks[i]'ei).1)).toNat (((blocks[i]'ei).2.2)).toNat)) true).set ((prI (((blocks[i]'ei).2.1)).toNat (((blocks[i]'ei).2.2)).toNat)) true)) (by (try dsimp only); exact ⟨by omega, by rw [take_snoc ei, usedL_snoc, hr]⟩) (by first | omega | (dsimp only; omega)) (Ent.cons rfl (Ent.nil _)) (Ent.cons (t := 0) rfl (Ent.cons (t := 3) rfl (Ent.nil _))) (Sub.k (Sub.nil _)))))))))))⟩
 ·refine V.exit (X.thenExit (X.thenExit (X.blockHit (X.next (V.seq (V.region (O.m rfl (O.m rfl (O.nil (X.next (V.ret ?_)))))))))))
  exact X.ret1 rfl rfl (fun w hw => St.mkExi A1 (St.mkExi 256 (St.mkExi z (St.unsep (St.addPur ⟨(by rw [hol]), by rw [List.take_of_length_le (by omega)] at hr; exact hr⟩ (hw.sub (Sub.k (Sub.nil _))))))))
set_option maxRecDepth 100000 in
set_option maxHeartbeats 1000000 in
theorem l04Same_ok (v : Nat) (xs : List B3) (ys : List B3) (xsA : Option Addr) (xsc : Nat) (ysA : Option Addr) (ysc : Nat) (w : World) (hxs : Rd B3C w xsA xs) (hys : Rd B3C w ysA ys) (lxs : xs.length ≤ 1099511627776) (lys : ys.length ≤ 1099511627776) (hv : v ≤ 15) (ha : ∀ d ∈ xs, inB v d) (hb : ∀ d ∈ ys, inB v d) : Does Tryz.prog 87 [.slice xsA xs.length xsc, .slice ysA ys.length ysc] w [] (fun r => [.pur (r = .bool (decide (usedL xs = usedL ys)))]) := by
 refine Does.enter Tryz.func87 rfl rfl [(0, .slice xsA xs.length xsc), (1, .slice ysA ys.length ysc)] rfl (V.seq (V.region (O.m rfl (O.nil (X.next (V.seq (V.region (O.m rfl (O.f rfl (Ef.call1 call120 rfl rfl (fun w hw => l04PairsX_ok v xs _ _ w ((Ld.old hxs) w hw) (by first | omega | (simp only [tops_len, conts_len, bl, List.length_append, List.length_cons, List.length_nil] at *; omega)) (by first | assumption | omega | (try dsimp only at *; omega)) (by first | assumption | omega | (try dsimp only at *; omega)))) ?_)))))))))
 rintro _ _ rfl
 refine O.exi (fun r1A => O.exi (fun r1c => O.exi (fun r1 => O.sep (O.pur ?_))))
 rintro ⟨rfl, hr1_1⟩
 have hlr1 : r1.length = 256 := by rw [hr1_1]; exact usedL_len _
 refine O.m rfl (O.f rfl (Ef.call1 call120 rfl rfl (fun w hw => l04PairsX_ok v ys _ _ w ((Ld.old hys) w hw) (by first | omega | (simp only [tops_len, conts_len, bl, List.length_append, List.length_cons, List.length_nil] at *; omega)) (by first | assumption | omega | (try dsimp only at *; omega)) (by first | assumption | omega | (try dsimp only at *; omega)))) ?_)
 rintro _ _ rfl
 refine O.exi (fun r2A => O.exi (fun r2c => O.exi (fun r2 => O.sep (O.pur ?_))))
 rintro ⟨rfl, hr2_1⟩
 have hlr2 : r2.length = 256 := by rw [hr2_1]; exact usedL_len _
 refine O.m rfl (O.m rfl (O.nil (X.next (V.seq (V.seq (V.region (O.m rfl (O.nil (X.next (V.block (V.loop3 (β := Nat) (fun i => [(7, .int .i64 (i : Int))]) _ (fun i => []) _ (fun i => i ≤ 256 ∧ r1.take i = r2.take i) (fun i => 256 - i) 0 ⟨by omega, rfl⟩ (Ent.cons rfl (Ent.nil _)) (Ent.cons (t := 5) rfl (Ent.cons (t := 6) rfl (Ent.nil _))) (Sub.k (Sub.k (Sub.nil _))) ?_)))))))))))
 rintro i ⟨hi, he⟩
 refine V.seq (V.seq (V.region (O.m rfl (O.m rfl (O.q rfl (Pu.len rfl Tryz.underlying139 rfl) (O.q rfl (Pu.lss rfl rfl rfl) (O.nil (X.next (V.condD rfl (fun c1 => ?_) (fun c1 => ?_))))))))))
 ·refine V.skip (X.next (V.seq (V.block (V.seq (V.draw mo (by kernel_rfl) (fun hwf => D.m 0 rfl (D.m 1 rfl (D.q 2 rfl (Pu.indexAddrS (i) rfl Tryz.underlying139 sz4 rfl rfl (by omega) (by omega) (fun w hw => Own.some hw (i := 1) (by exact rfl) (by omega))) ?_))))))))
  have e1 : i < r1.length := by omega
  refine D.q 3 rfl (Pu.load rfl pl4 rfl (Ld.rd (Ld.own 1 (by exact rfl)) (k := i) e1 rfl rfl)) (D.m 4 rfl (D.m 5 rfl (D.q 6 rfl (Pu.indexAddrS (i) rfl Tryz.underlying139 sz4 rfl rfl (by omega) (by omega) (fun w hw => Own.some hw (i := 0) (by exact rfl) (by omega))) ?_)))
  have e2 : i < r2.length := by omega
  refine D.q 7 rfl (Pu.load rfl pl4 rfl (Ld.rd (Ld.own 0 (by exact rfl)) (k := i) e2 rfl rfl)) (D.q 8 rfl (Pu.boolNeq Tryz.underlying4 rfl rfl rfl) (D.done hwf rfl (X.next (V.cond rfl (fun c2 => ?_) (fun c2 => ?_)))))
  ·exact V.seq (V.region (O.m rfl (O.nil (X.next (V.ret (X.blockRet (X.thenRet (X.thenRet (X.blockRet (X.thenRet (X.ret1 rfl rfl (fun w hw => St.retP (boolF (by intro h; rw [← hr1_1, ← hr2_1] at h; subst h; simp at c2)) hw))))))))))))
  ·exact V.skip (X.blockNormal (X.next (V.region (O.m rfl (O.q rfl (Pu.add64 (r := ((i + 1 : Nat) : Int)) rfl (by omega) rfl rfl rfl) (O.m rfl (O.nil (X.back3 (i + 1) ⟨by omega, by rw [take_snoc (by omega), take_snoc (by omega), he]; simp_all⟩ (by first | omega | (dsimp only; omega)) (Ent.cons rfl (Ent.nil _)) (Ent.cons (t := 5) rfl (Ent.cons (t := 6) rfl (Ent.nil _))) (Sub.k (Sub.k (Sub.nil _)))))))))))
 ·exact V.exit (X.thenExit (X.thenExit (X.blockHit (X.next (V.seq (V.region (O.m rfl (O.nil (X.next (V.ret (X.ret1 rfl rfl (fun w hw => St.retP (boolT (by rw [← hr1_1, ← hr2_1]; rw [List.take_of_length_le (by omega), List.take_of_length_le (by omega)] at he; exact he)) hw))))))))))))
set_option maxRecDepth 100000 in
set_option maxHeartbeats 1000000 in
theorem l04Is_ok (v : Int) (os ns : List B3) (A1 A2 : Option Addr) (k1 k2 : Nat) (w : World) (ho : Rd B3C w A1 os) (hnt : Rd B3C w A2 ns) (lo : os.length ≤ 4611686018427387904) (ln : ns.length ≤ 4611686018427387904) : Does Tryz.prog 43 [.agg #[.int .i64 v, .slice A1 os.length k1, .slice A2 ns.length k2]] w [] (fun r => [.pur (r = .bool (decide (TRD v os ns)))]) := by
 refine Does.enter Tryz.func43 rfl rfl [(0, .agg #[.int .i64 v, .slice A1 os.length k1, .slice A2 ns.length k2])] rfl (V.seq (V.region (O.f rfl (Ef.box rfl rfl rfl) ?_)))
 rintro _ _ ⟨b1, rfl, rfl⟩
 refine O.m rfl (O.nil (X.next (V.seq (V.region (O.q rfl (Pu.fieldAddr 0 rfl Tryz.underlying28 rfl sz2 rfl rfl) (O.q rfl (Pu.load rfl pl2 rfl (Ld.blk 0 rfl rfl)) (O.q rfl (Pu.fieldAddr 1 rfl Tryz.underlying28 rfl sz24 rfl rfl) (O.q rfl (Pu.load rfl pl24 rfl (Ld.blk 0 rfl rfl)) (O.q rfl (Pu.buildS (cs := [.int .i64 v, .slice A1 os.length k1]) rfl rfl Tryz.underlying26 zr26 (by kernel_rfl) rfl (by kernel_rfl)) (O.f rfl (Ef.alloc rfl zr26 rfl) ?_))))))))))
 rintro _ _ ⟨b2, rfl, rfl⟩
 refine O.s rfl rfl (Ef.storeAll 0 rfl sz26 rfl rfl rfl rfl (by simp [Value.oneCell']) rfl) ?_
 rintro _ _ rfl
 refine O.nil (X.next (V.seq (V.region (O.q rfl (Pu.fieldAddr 0 rfl Tryz.underlying28 rfl sz2 rfl rfl) (O.q rfl (Pu.load rfl pl2 rfl (Ld.blk 1 rfl rfl)) (O.q rfl (Pu.fieldAddr 2 rfl Tryz.underlying28 rfl sz24 rfl rfl) (O.q rfl (Pu.load rfl pl24 rfl (Ld.blk 1 rfl rfl)) (O.q rfl (Pu.buildS (cs := [.int .i64 v, .slice A2 ns.length k2]) rfl rfl Tryz.underlying26 zr26 (by kernel_rfl) rfl (by kernel_rfl)) (O.f rfl (Ef.alloc rfl zr26 rfl) ?_)))))))))
 rintro _ _ ⟨b3, rfl, rfl⟩
 refine O.s rfl rfl (Ef.storeAll 0 rfl sz26 rfl rfl rfl rfl (by simp [Value.oneCell']) rfl) ?_
 rintro _ _ rfl
 refine O.nil (X.next (V.seq (V.seq (V.region (O.q rfl (Pu.loadAgg rfl ag26 sz26 rfl rfl (Ld.whole 1 rfl)) (O.f rfl (Ef.callP call42 rfl rfl (fun w hw => l01Is_ok _ os _ _ w ((Ld.old ho) w hw) (by omega))) ?_))))))
 rintro _ _ ⟨rfl, rfl⟩
 refine O.q rfl (Pu.not rfl rfl) (O.m rfl (O.splitN 19 rfl (fun c1 => ?_) (fun c1 => ?_)))
 ·refine O.g rfl (O.g rfl (O.g rfl (O.m rfl (O.m rfl (O.g rfl (O.g rfl (O.g rfl (O.g rfl (O.g rfl (O.g rfl (O.m rfl ?_)))))))))))
  exact O.nil (X.next (V.condT rfl (V.seq (V.region (O.m rfl (O.nil (X.next (V.ret (X.thenRet (X.ret1 rfl rfl (fun w hw => St.retP (boolF (fun h => c1 h.1)) hw)))))))))))
 ·have hlo := c1.lo
  have hhi := c1.hi
  have hfo := c1.few
  have hos : STS (v.toNat : Int) os := by rw [show (v.toNat : Int) = v by omega]; exact c1
  refine O.gq rfl (Pu.loadAgg rfl ag26 sz26 rfl rfl (Ld.whole 0 rfl)) (O.gf rfl (Ef.callP call42 rfl rfl (fun w hw => l01Is_ok _ ns _ _ w ((Ld.old hnt) w hw) (by omega))) ?_)
  rintro _ _ ⟨rfl, rfl⟩
  refine O.gq rfl (Pu.not rfl rfl) (O.m rfl (O.m rfl (O.splitN 24 rfl (fun c2 => ?_) (fun c2 => ?_))))
  ·refine O.g rfl (O.g rfl (O.g rfl (O.g rfl (O.g rfl (O.g rfl (O.m rfl (O.nil (X.next (V.condT rfl (V.seq (V.region ?_)))))))))))
   exact O.m rfl (O.nil (X.next (V.ret (X.thenRet (X.ret1 rfl rfl (fun w hw => St.retP (boolF (fun h => c2 h.2.1)) hw))))))
  ·have hfn := c2.few
   have hns : STS (v.toNat : Int) ns := by rw [show (v.toNat : Int) = v by omega]; exact c2
   refine O.gq rfl (Pu.fieldAddr 1 rfl Tryz.underlying28 rfl sz24 rfl rfl) (O.gq rfl (Pu.load rfl pl24 rfl (Ld.blk 2 rfl rfl)) (O.gq rfl (Pu.fieldAddr 2 rfl Tryz.underlying28 rfl sz24 rfl rfl) (O.gq rfl (Pu.load rfl pl24 rfl (Ld.blk 2 rfl rfl)) (O.gf rfl (Ef.callP call87 rfl rfl (fun w hw => l04Same_ok v.toNat os ns _ _ _ _ w ((Ld.old ho) w hw) ((Ld.old hnt) w hw) (by omega) (by omega) (by omega) (fun d hd => (sts_rest hos).ok d hd) (fun d hd => (sts_rest hns).ok d hd))) ?_))))
   rintro _ _ ⟨rfl, rfl⟩
   refine O.gq rfl (Pu.not rfl rfl) (O.m rfl (O.nil (X.next (V.condNot rfl (fun c3 => ?_) (fun c3 => ?_)))))
   ·exact V.seq (V.region (O.m rfl (O.nil (X.next (V.ret (X.thenRet (X.ret1 rfl rfl (fun w hw => St.retP (boolF (fun h => c3 ((usedL_iff (by omega) hos hns).2 h.2.2.2))) hw))))))))
   ·refine V.skip (X.next (V.seq (V.seq (V.region (O.m rfl (O.nil (X.next (V.block (V.loop3 (β := Nat) (fun i => [(5, .int .i64 (i : Int))]) _ (fun i => []) _ (fun i => i ≤ os.length ∧ ∀ j (hj : j < os.length), j < i → os[j] ∉ ns) (fun i => os.length - i) 0 ⟨by omega, fun j hj h => by omega⟩ (Ent.cons rfl (Ent.nil _)) (Ent.cons (t := 1) rfl (Ent.nil _)) (Sub.k (Sub.k (Sub.k (Sub.nil _)))) ?_)))))))))
    rintro i ⟨hi, hn⟩
    refine V.seq (V.seq (V.region (O.m rfl (O.q rfl (Pu.fieldAddr 1 rfl Tryz.underlying28 rfl sz24 rfl rfl) (O.q rfl (Pu.load rfl pl24 rfl (Ld.blk 2 rfl rfl)) (O.q rfl (Pu.len rfl Tryz.underlying24 rfl) (O.q rfl (Pu.lss rfl rfl rfl) (O.nil (X.next (V.condD rfl (fun c4 => ?_) (fun c4 => ?_)))))))))))
    ·refine V.skip (X.next (V.seq (V.block (V.seq (V.draw mo (by kernel_rfl) (fun hwf => D.q 0 rfl (Pu.fieldAddr 2 rfl Tryz.underlying28 rfl sz24 rfl rfl) (D.q 1 rfl (Pu.load rfl pl24 rfl (Ld.blk 2 rfl rfl)) (D.q 2 rfl (Pu.fieldAddr 1 rfl Tryz.underlying28 rfl sz24 rfl rfl) (D.q 3 rfl (Pu.load rfl pl24 rfl (Ld.blk 2 rfl rfl)) (D.m 4 rfl (D.q 5 rfl (Pu.indexAddr (i) rfl Tryz.underlying24 sz69 rfl rfl (by omega) (by omega) (ho.some (by omega))) ?_)))))))))))
     have e1 : i < os.length := by omega
     refine D.q 6 rfl (Pu.loadAgg' (v := B3.v (os[i]'e1)) rfl rfl ag69 sz69 rfl rfl (Ld.rds (Ld.old ho) (k := i) e1 rfl)) (D.f hwf 7 rfl (Ef.callP call88 rfl rfl (fun w hw => l04Member_ok  ns (os[i]'e1) _ _ w ((Ld.old hnt) w hw) (by omega) )) ?_)
     rintro _ _ ⟨rfl, rfl⟩ hs
     refine ⟨fun w hw => hw, (D.done hwf rfl (X.next (V.condD rfl (fun c5 => ?_) (fun c5 => ?_))))⟩
     ·exact V.seq (V.region (O.m rfl (O.nil (X.next (V.ret (X.blockRet (X.thenRet (X.thenRet (X.blockRet (X.thenRet (X.ret1 rfl rfl (fun w hw => St.retP (boolF (fun h => h.2.2.1 _ (List.getElem_mem e1) c5)) hw))))))))))))
     ·exact V.skip (X.blockNormal (X.next (V.region (O.m rfl (O.q rfl (Pu.add64 (r := ((i + 1 : Nat) : Int)) rfl (by omega) rfl rfl rfl) (O.m rfl (O.nil (X.back3 (i + 1) ⟨by omega, fun j hj h => by by_cases e : j = i; (· subst e; exact c5); (· exact hn j hj (by omega))⟩ (by first | omega | (dsimp only; omega)) (Ent.cons rfl (Ent.nil _)) (Ent.cons (t := 1) rfl (Ent.nil _)) (Sub.k (Sub.k (Sub.k (Sub.nil _))))))))))))
    ·exact V.exit (X.thenExit (X.thenExit (X.blockHit (X.next (V.seq (V.region (O.m rfl (O.nil (X.next (V.ret (X.ret1 rfl rfl (fun w hw => St.retP (boolT (⟨c1, c2, fun b hb hm => by obtain ⟨j, hj, rfl⟩ := List.mem_iff_getElem.1 hb; exact hn j hj (by omega) hm, (usedL_iff (by omega) hos hns).1 c3⟩)) hw))))))))))))
set_option maxRecDepth 100000 in
set_option maxHeartbeats 1000000 in
theorem specPointsOfTrade_ok (v : Int) (os ns : List B3) (A1 A2 : Option Addr) (k1 k2 : Nat) (w : World) (ho : Rd B3C w A1 os) (hnt : Rd B3C w A2 ns) (lo : os.length ≤ 4611686018427387904) (ln : ns.length ≤ 4611686018427387904) : Does Tryz.prog 19 [.agg #[.int .i64 v, .slice A1 os.length k1, .slice A2 ns.length k2]] w [] (fun r => [.exi fun (oA : Option Addr) => .exi fun (oc : Nat) => .exi fun (o : List Int) => .sep (.pur (r = .tuple #[.slice oA o.length oc, .int .i64 (if TRD v os ns then 0 else 1)] ∧ PTR v os ns o)) (Own 2 I64 oA oc o)]) := by
 refine Does.enter Tryz.func19 rfl rfl [(0, .agg #[.int .i64 v, .slice A1 os.length k1, .slice A2 ns.length k2])] rfl (V.seq (V.region (O.f rfl (Ef.box rfl rfl rfl) ?_)))
 rintro _ _ ⟨b1, rfl, rfl⟩
 refine O.m rfl (O.m rfl (O.nil (X.next (V.seq (V.seq (V.region (O.q rfl (Pu.loadAgg rfl ag28 sz28 rfl rfl (Ld.whole 0 rfl)) (O.f rfl (Ef.callP call43 rfl rfl (fun w hw => l04Is_ok  v os ns _ _ _ _ w ((Ld.old ho) w hw) ((Ld.old hnt) w hw) (by omega) (by omega) )) ?_))))))))
 rintro _ _ ⟨rfl, rfl⟩
 refine O.q rfl (Pu.not rfl rfl) (O.nil (X.next (V.condNot rfl (fun c1 => ?_) (fun c1 => ?_))))
 ·exact V.seq (V.region (O.m rfl (O.m rfl (O.nil (X.next (V.ret (X.thenRet (X.ret2 rfl rfl rfl (fun w hw => St.mkExi none (St.mkExi 0 (St.mkExi [] (St.unsep (St.addPur ⟨(by rw [if_neg c1]; rfl), (by exact ⟨fun h => absurd h c1, fun _ => rfl⟩)⟩ (St.addNil (T := 2) (C := I64) (hw.sub (Sub.nil _))))))))))))))))
 ·have hlo := c1.1.lo
  have hhi := c1.1.hi
  have hfo := c1.1.few
  refine V.skip (X.next (V.seq (V.region (O.f rfl (Ef.build I64 ([] : List Int) rfl Tryz.underlying41 inf2 rfl rfl rfl (by first | decide | (simp; done)) (by kernel_rfl)) ?_))))
  rintro _ _ ⟨A1, hA1, rfl, rfl⟩
  refine O.m rfl (O.nil (X.next (V.seq (V.seq (V.region (O.m rfl (O.nil (X.next (V.block (V.loop3 (β := (Option Addr) × Nat × (List Int) × Nat) (fun x => [(4, .slice x.1 x.2.2.1.length x.2.1), (5, .int .i64 (x.2.2.2 : Int))]) _ (fun x => [Own 2 I64 x.1 x.2.1 x.2.2.1]) _ (fun x => x.2.2.2 ≤ v.toNat ∧ x.2.2.1 = ptsB os x.2.2.2) (fun x => v.toNat - x.2.2.2) (A1, 0, ([] : List Int), 0) (by (try dsimp only); exact ⟨by omega, rfl⟩) (Ent.cons rfl (Ent.cons rfl (Ent.nil _))) (Ent.cons (t := 1) rfl (Ent.nil _)) (Sub.k (Sub.k (Sub.nil _))) ?_))))))))))
  rintro ⟨outA, outc, out, p⟩ ⟨hp, ho_⟩
  dsimp only at hp ho_ ⊢
  have hol : out.length ≤ p := by rw [ho_]; exact ptsB_len
  refine V.seq (V.seq (V.region (O.m rfl (O.q rfl (Pu.fieldAddr 0 rfl Tryz.underlying28 rfl sz2 rfl rfl) (O.q rfl (Pu.load rfl pl2 rfl (Ld.blk 1 rfl rfl)) (O.q rfl (Pu.lss rfl rfl rfl) (O.nil (X.next (V.condD rfl (fun c2 => ?_) (fun c2 => ?_))))))))))
  ·refine V.skip (X.next (V.seq (V.block (V.seq (V.region (O.m rfl (O.nil (X.next (V.seq (V.seq (V.region ?_)))))))))))
   refine O.m rfl (O.nil (X.next (V.block (V.loop3 (β := Bool × Nat) (fun x => [(6, .bool x.1), (7, .int .i64 (x.2 : Int))]) _ (fun x => []) _ (fun x => x.2 ≤ os.length ∧ x.1 = decide (∃ b ∈ os.take x.2, has b (p : Int))) (fun x => os.length - x.2) (false, 0) (by (try dsimp only); exact ⟨by omega, by simp⟩) (Ent.cons rfl (Ent.cons rfl (Ent.nil _))) (Ent.cons (t := 1) rfl (Ent.cons (t := 4) rfl (Ent.cons (t := 5) rfl (Ent.nil _)))) (Sub.k (Sub.k (Sub.nil _))) ?_))))
   rintro ⟨in_, i⟩ ⟨hi, hz⟩
   dsimp only at hi hz ⊢
   refine V.seq (V.seq (V.region (O.m rfl (O.q rfl (Pu.fieldAddr 1 rfl Tryz.underlying28 rfl sz24 rfl rfl) (O.q rfl (Pu.load rfl pl24 rfl (Ld.blk 1 rfl rfl)) (O.q rfl (Pu.len rfl Tryz.underlying24 rfl) (O.q rfl (Pu.lss rfl rfl rfl) (O.nil (X.next (V.condD rfl (fun c3 => ?_) (fun c3 => ?_)))))))))))
   ·refine V.skip (X.next (V.seq (V.block (V.region (O.m rfl (O.m rfl (O.splitB 26 rfl (fun c4 => ?_) (fun c4 => ?_))))))))
    ·subst c4
     refine O.g rfl (O.g rfl (O.g rfl (O.g rfl (O.g rfl (O.g rfl (O.g rfl (O.m rfl (O.m rfl (O.nil (X.blockNormal (X.next ?_)))))))))))
     exact V.region (O.m rfl (O.q rfl (Pu.add64 (r := ((i + 1 : Nat) : Int)) rfl (by omega) rfl rfl rfl) (O.m rfl (O.nil (X.back3 (true, i + 1) (by (try dsimp only); exact ⟨by omega, by rw [take_snoc (by omega)]; exact (decide_eq_true (by obtain ⟨b, hb, h⟩ := of_decide_eq_true hz.symm; exact ⟨b, List.mem_append.2 (.inl hb), h⟩)).symm⟩) (by first | omega | (dsimp only; omega)) (Ent.cons rfl (Ent.cons rfl (Ent.nil _))) (Ent.cons (t := 1) rfl (Ent.cons (t := 4) rfl (Ent.cons (t := 5) rfl (Ent.nil _)))) (Sub.k (Sub.k (Sub.nil _))))))))
    ·subst c4
     refine O.gq rfl (Pu.fieldAddr 1 rfl Tryz.underlying28 rfl sz24 rfl rfl) (O.gq rfl (Pu.load rfl pl24 rfl (Ld.blk 1 rfl rfl)) (O.gm rfl (O.gq rfl (Pu.indexAddr (i) rfl Tryz.underlying24 sz69 rfl rfl (by omega) (by omega) (ho.some (by omega))) ?_)))
     have e1 : i < os.length := by omega
     refine O.gq rfl (Pu.loadAgg' (v := B3.v (os[i]'e1)) rfl rfl ag69 sz69 rfl rfl (Ld.rds (Ld.old ho) (k := i) e1 rfl)) (O.gm rfl (O.gf rfl (Ef.callP call58 rfl rfl (fun w hw => l01With_ok (os[i]'e1) _ w)) ?_))
     rintro _ _ ⟨rfl, rfl⟩
     exact O.m rfl (O.m rfl (O.nil (X.blockNormal (X.next (V.region (O.m rfl (O.q rfl (Pu.add64 (r := ((i + 1 : Nat) : Int)) rfl (by omega) rfl rfl rfl) (O.m rfl (O.nil (X.back3 (_, i + 1) (by (try dsimp only); exact ⟨by omega, by rw [take_snoc (by omega)]; exact decide_eq_decide.2 ⟨fun h => ⟨_, List.mem_append.2 (.inr (List.mem_singleton.2 rfl)), h⟩, fun ⟨b, hb, h⟩ => by rcases List.mem_append.1 hb with hb | hb; (· exact absurd ⟨b, hb, h⟩ (of_decide_eq_false hz.symm)); (· rw [List.mem_singleton] at hb; subst hb; exact h)⟩⟩) (by first | omega | (dsimp only; omega)) (Ent.cons rfl (Ent.cons rfl (Ent.nil _))) (Ent.cons (t := 1) rfl (Ent.cons (t := 4) rfl (Ent.cons (t := 5) rfl (Ent.nil _)))) (Sub.k (Sub.k (Sub.nil _)))))))))))))
   ·refine V.exit (X.thenExit (X.thenExit (X.blockHit (X.next (V.seq (V.region (O.m rfl (O.nil (X.next (V.cond rfl (fun c5 => ?_) (fun c5 => ?_)))))))))))
    ·subst c5
     refine V.region (O.m rfl (O.m rfl (O.f rfl (Ef.build I64 ([(↑p : Int)] : List Int) rfl Tryz.underlying41 inf2 rfl rfl rfl (by first | decide | (simp; done)) (by kernel_rfl)) ?_)))
     rintro _ _ ⟨A2, hA2, rfl, rfl⟩
     refine O.f rfl (Ef.append (xs := out) (ys := ([(↑p : Int)] : List Int)) 1 rfl Tryz.underlying41 inf2 rfl rfl rfl rfl rfl rfl hA2 (Ld.own 0 (by exact rfl)) (by simp only [List.length_append, List.length_cons, List.length_nil] at *; omega) (by decide)) ?_
     rintro _ _ ⟨A3, k1, rfl, rfl, hA3⟩
     replace hA3 := hA3 (.inr (by simp))
     exact O.m rfl (O.nil (X.blockNormal (X.next (V.region (O.m rfl (O.q rfl (Pu.add64 (r := ((p + 1 : Nat) : Int)) rfl (by omega) rfl rfl rfl) (O.m rfl (O.nil (X.back3 (A3, k1, (out ++ ([(↑p : Int)] : List Int)), p + 1) (by (try dsimp only); exact ⟨by omega, by rw [ho_]; exact (ptsB_yes (by rw [List.take_of_length_le (by omega)] at hz; exact of_decide_eq_true hz.symm)).symm⟩) (by first | omega | (dsimp only; omega)) (Ent.cons rfl (Ent.cons rfl (Ent.nil _))) (Ent.cons (t := 1) rfl (Ent.nil _)) (Sub.keep 1 rfl (Sub.keep 1 rfl (Sub.nil _))))))))))))
    ·subst c5
     exact V.skip (X.blockNormal (X.next (V.region (O.m rfl (O.q rfl (Pu.add64 (r := ((p + 1 : Nat) : Int)) rfl (by omega) rfl rfl rfl) (O.m rfl (O.nil (X.back3 (outA, outc, out, p + 1) (by (try dsimp only); exact ⟨by omega, by rw [ho_]; exact (ptsB_no (by rw [List.take_of_length_le (by omega)] at hz; exact of_decide_eq_false hz.symm)).symm⟩) (by first | omega | (dsimp only; omega)) (Ent.cons rfl (Ent.cons rfl (Ent.nil _))) (Ent.cons (t := 1) rfl (Ent.nil _)) (Sub.k (Sub.k (Sub.nil _)))))))))))
  ·refine V.exit (X.thenExit (X.thenExit (X.blockHit (X.next (V.seq (V.region (O.m rfl (O.m rfl (O.m rfl (O.nil (X.next ?_)))))))))))
   exact V.ret (X.ret2 rfl rfl rfl (fun w hw => St.mkExi outA (St.mkExi outc (St.mkExi out (St.unsep (St.addPur ⟨(by rw [if_pos c1]), (by exact ⟨fun _ => by rw [ho_, show p = v.toNat by omega], fun h => absurd c1 h⟩)⟩ (hw.sub (Sub.k (Sub.nil _)))))))))
set_option maxRecDepth 100000 in
set_option maxHeartbeats 1000000 in
theorem specIsTrade_ok (v : Int) (os ns : List B3) (A1 A2 : Option Addr) (k1 k2 : Nat) (w : World) (ho : Rd B3C w A1 os) (hnt : Rd B3C w A2 ns) (lo : os.length ≤ 4611686018427387904) (ln : ns.length ≤ 4611686018427387904) : Does Tryz.prog 11 [.agg #[.int .i64 v, .slice A1 os.length k1, .slice A2 ns.length k2]] w [] (fun r => [.pur (r = .bool (decide (TRD v os ns)))]) := by
 refine Does.enter Tryz.func11 rfl rfl [(0, .agg #[.int .i64 v, .slice A1 os.length k1, .slice A2 ns.length k2])] rfl (V.seq (V.region (O.f rfl (Ef.box rfl rfl rfl) ?_)))
 rintro _ _ ⟨b1, rfl, rfl⟩
 refine O.m rfl (O.nil (X.next (V.seq (V.region (O.q rfl (Pu.loadAgg rfl ag28 sz28 rfl rfl (Ld.whole 0 rfl)) (O.f rfl (Ef.callP call43 rfl rfl (fun w hw => l04Is_ok  v os ns _ _ _ _ w ((Ld.old ho) w hw) ((Ld.old hnt) w hw) (by omega) (by omega) )) ?_))))))
 rintro _ _ ⟨rfl, rfl⟩
 exact O.m rfl (O.nil (X.next (V.ret (X.ret1 rfl rfl (fun w hw => St.retP (boolD (Iff.rfl)) hw)))))
set_option maxRecDepth 100000 in
set_option maxHeartbeats 1000000 in
theorem l04MadeT_ok (v_ : Int) (out : List B3) (in_ : List B3) (outA : Option Addr) (outc : Nat) (in_A : Option Addr) (in_c : Nat) (w : World) (hout : Rd B3C w outA out) (hin_ : Rd B3C w in_A in_) (lout : out.length ≤ 1099511627776) (lin_ : in_.length ≤ 1099511627776) (lo : out.length ≤ 1000) (li : in_.length ≤ 1000) : Does Tryz.prog 54 [.int .i64 v_, .slice outA out.length outc, .slice in_A in_.length in_c] w [] (fun r => [.exi fun (oA : Option Addr) => .exi fun (oc : Nat) => .exi fun (o : List B3) => .exi fun (iA : Option Addr) => .exi fun (ic : Nat) => .exi fun (i : List B3) => .sep (.pur (r = .agg #[.int .i64 v_, .slice oA o.length oc, .slice iA i.length ic] ∧ (o.Perm out ∧ SrtB o) ∧ (i.Perm in_ ∧ SrtB i))) (.sep (Own 69 B3C oA oc o) (Own 69 B3C iA ic i))]) := by
 refine Does.enter Tryz.func54 rfl rfl [(0, .int .i64 v_), (1, .slice outA out.length outc), (2, .slice in_A in_.length in_c)] rfl (V.seq (V.region (O.f rfl (Ef.alloc rfl zr28 rfl) ?_)))
 rintro _ _ ⟨b1, rfl, rfl⟩
 refine O.nil (X.next (V.seq (V.region (O.m rfl (O.m rfl (O.f rfl (Ef.call1 call90 rfl rfl (fun w hw => l01Sort_ok  out _ _ w ((Ld.old hout) w hw) (by first | omega | (simp only [tops_len, conts_len, bl, List.length_append, List.length_cons, List.length_nil] at *; omega)) (by first | assumption | omega | (try dsimp only at *; omega)))) ?_))))))
 rintro _ _ rfl
 refine O.exi (fun r1A => O.exi (fun r1c => O.exi (fun r1 => O.sep (O.pur ?_))))
 rintro ⟨rfl, hr1_1, hr1_2⟩
 refine O.m rfl (O.f rfl (Ef.call1 call90 rfl rfl (fun w hw => l01Sort_ok  in_ _ _ w ((Ld.old hin_) w hw) (by first | omega | (simp only [tops_len, conts_len, bl, List.length_append, List.length_cons, List.length_nil] at *; omega)) (by first | assumption | omega | (try dsimp only at *; omega)))) ?_)
 rintro _ _ rfl
 refine O.exi (fun r2A => O.exi (fun r2c => O.exi (fun r2 => O.sep (O.pur ?_))))
 rintro ⟨rfl, hr2_1, hr2_2⟩
 refine O.q rfl (Pu.buildS (cs := [.int .i64 v_, .slice r1A r1.length r1c, .slice r2A r2.length r2c]) rfl rfl Tryz.underlying28 zr28 (by kernel_rfl) rfl (by kernel_rfl)) (O.s rfl rfl (Ef.storeAll 2 rfl sz28 rfl rfl rfl rfl (by simp [Value.oneCell']) rfl) ?_)
 rintro _ _ rfl
 exact O.nil (X.next (V.ret (X.retCell rfl ag28 sz28 rfl rfl (Ld.whole 2 rfl) (fun w hw => St.mkExi r1A (St.mkExi r1c (St.mkExi r1 (St.mkExi r2A (St.mkExi r2c (St.mkExi r2 (St.unsep (St.addPur ⟨rfl, ⟨hr1_1, hr1_2⟩, ⟨hr2_1, hr2_2⟩⟩ (St.unsep (hw.sub (Sub.keep 1 rfl (Sub.k (Sub.nil _))))))))))))))))
set_option maxRecDepth 100000 in
set_option maxHeartbeats 1000000 in
theorem l04ExchangedT_ok (b : B3) (p : Int) (q : Int) (w : World) (hb : 0 ≤ b.1 ∧ b.1 ≤ 15 ∧ 0 ≤ b.2.1 ∧ b.2.1 ≤ 15 ∧ 0 ≤ b.2.2 ∧ b.2.2 ≤ 15) (hp : 0 ≤ p ∧ p ≤ 15) (hq : 0 ≤ q ∧ q ≤ 15) : Does Tryz.prog 148 [B3.v b, .int .i64 p, .int .i64 q] w [] (fun r => [.pur (r = B3.v (exB p q b))]) := by
 refine Does.enter Tryz.func148 rfl rfl [(0, B3.v b), (1, .int .i64 p), (2, .int .i64 q)] rfl (V.seq (V.region (O.f rfl (Ef.box rfl rfl rfl) ?_)))
 rintro _ _ ⟨b1, rfl, rfl⟩
 refine O.f rfl (Ef.alloc rfl zr69 rfl) ?_
 rintro _ _ ⟨b2, rfl, rfl⟩
 refine O.nil (X.next (V.seq (V.region (O.q rfl (Pu.indexArr 0 0 rfl Tryz.underlying69 sz2 rfl rfl (by decide) (by decide) (by decide)) (O.q rfl (Pu.load rfl pl2 rfl (Ld.blk 1 rfl rfl)) (O.q rfl (Pu.indexArr 1 1 rfl Tryz.underlying69 sz2 rfl rfl (by decide) (by decide) (by decide)) (O.q rfl (Pu.load rfl pl2 rfl (Ld.blk 1 rfl rfl)) (O.q rfl (Pu.indexArr 2 2 rfl Tryz.underlying69 sz2 rfl rfl (by decide) (by decide) (by decide)) (O.q rfl (Pu.load rfl pl2 rfl (Ld.blk 1 rfl rfl)) (O.f rfl (Ef.build I64 ([b.1, b.2.1, b.2.2] : List Int) rfl Tryz.underlying41 inf2 rfl rfl rfl (by first | decide | (simp; done)) (by kernel_rfl)) ?_))))))))))
 rintro _ _ ⟨A1, hA1, rfl, rfl⟩
 refine O.m rfl (O.nil (X.next (V.seq (V.seq (V.region (O.m rfl (O.nil (X.next (V.block (V.loop3 (β := Nat × (List Int)) (fun x => [(8, .int .i64 (x.1 : Int))]) _ (fun x => [Own 2 I64 A1 3 x.2]) _ (fun x => x.1 ≤ 3 ∧ x.2 = exS p q (bl b) x.1) (fun x => 3 - x.1) (0, ([b.1, b.2.1, b.2.2] : List Int)) (by (try dsimp only); exact ⟨by omega, exS_zero.symm⟩) (Ent.cons rfl (Ent.nil _)) (Ent.cons (t := 1) rfl (Ent.cons (t := 2) rfl (Ent.cons (t := 6) rfl (Ent.cons (t := 7) rfl (Ent.nil _))))) (Sub.k (Sub.k (Sub.k (Sub.nil _)))) ?_))))))))))
 rintro ⟨i, z⟩ ⟨hi, hz⟩
 dsimp only at hi hz ⊢
 have hzl0 : z.length = 3 := by rw [hz]; exact exS_len (show i ≤ (bl b).length from hi)
 have hbl3 : ([b.1, b.2.1, b.2.2] : List Int).length = 3 := rfl
 refine V.seq (V.seq (V.region (O.m rfl (O.q rfl (Pu.lss rfl rfl rfl) (O.nil (X.next (V.condD rfl (fun c1 => ?_) (fun c1 => ?_))))))))
 ·refine V.skip (X.next (V.seq (V.block (V.seq ?_))))
  have hb3 : (bl b).length = 3 := rfl
  have eb : i < (bl b).length := by omega
  have hzl : z.length = 3 := by rw [hz]; exact (exS_len (by omega)).trans hb3
  have ez : i < z.length := by omega
  have hzi : z[i]'ez = ((bl b)[i]'eb) := (List.getElem_of_eq hz ez).trans (exS_at eb _)
  refine V.region (O.m rfl (O.m rfl (O.q rfl (Pu.indexAddrS (i) rfl Tryz.underlying41 sz2 rfl rfl (by omega) (by omega) (fun w hw => Own.some hw (i := 0) (by exact rfl) (by omega))) (O.q rfl (Pu.load rfl pl2 rfl (Ld.rd (Ld.own 0 (by exact rfl)) (k := i) ez rfl rfl)) (O.m rfl (O.q rfl (Pu.eql rfl rfl rfl) (O.nil (X.next (V.condD rfl (fun c2 => ?_) (fun c2 => ?_))))))))))
  ·refine V.region (O.m rfl (O.m rfl (O.m rfl (O.q rfl (Pu.indexAddrS (i) rfl Tryz.underlying41 sz2 rfl rfl (by omega) (by omega) (fun w hw => Own.some hw (i := 0) (by exact rfl) (by omega))) (O.s rfl rfl (Ef.storeOwn 0 (i) q rfl sz2 rfl rfl rfl rfl (by omega) rfl) ?_)))))
   rintro _ _ rfl
   exact O.nil (X.blockNormal (X.next (V.region (O.m rfl (O.q rfl (Pu.add64 (r := ((i + 1 : Nat) : Int)) rfl (by omega) rfl rfl rfl) (O.m rfl (O.nil (X.back3 (i + 1, (z.set (i) q)) (by (try dsimp only); exact ⟨by omega, by rw [hz, ← exS_set eb]; congr 1; exact (show sw2 p q ((bl b)[i]'eb) = _ from (by unfold sw2; rw [if_pos (hzi.symm.trans c2)])).symm⟩) (by first | omega | (dsimp only; omega)) (Ent.cons rfl (Ent.nil _)) (Ent.cons (t := 1) rfl (Ent.cons (t := 2) rfl (Ent.cons (t := 6) rfl (Ent.cons (t := 7) rfl (Ent.nil _))))) (Sub.k (Sub.k (Sub.k (Sub.nil _))))))))))))
  ·refine V.seq (V.region (O.m rfl (O.m rfl (O.q rfl (Pu.indexAddrS (i) rfl Tryz.underlying41 sz2 rfl rfl (by omega) (by omega) (fun w hw => Own.some hw (i := 0) (by exact rfl) (by omega))) (O.q rfl (Pu.load rfl pl2 rfl (Ld.rd (Ld.own 0 (by exact rfl)) (k := i) ez rfl rfl)) (O.m rfl (O.q rfl (Pu.eql rfl rfl rfl) (O.nil (X.next (V.condD rfl (fun c3 => ?_) (fun c3 => ?_)))))))))))
   ·refine V.region (O.m rfl (O.m rfl (O.m rfl (O.q rfl (Pu.indexAddrS (i) rfl Tryz.underlying41 sz2 rfl rfl (by omega) (by omega) (fun w hw => Own.some hw (i := 0) (by exact rfl) (by omega))) (O.s rfl rfl (Ef.storeOwn 0 (i) p rfl sz2 rfl rfl rfl rfl (by omega) rfl) ?_)))))
    rintro _ _ rfl
    exact O.nil (X.blockNormal (X.next (V.region (O.m rfl (O.q rfl (Pu.add64 (r := ((i + 1 : Nat) : Int)) rfl (by omega) rfl rfl rfl) (O.m rfl (O.nil (X.back3 (i + 1, (z.set (i) p)) (by (try dsimp only); exact ⟨by omega, by rw [hz, ← exS_set eb]; congr 1; exact (show sw2 p q ((bl b)[i]'eb) = _ from (by unfold sw2; rw [if_neg (fun h => c2 (hzi.trans h)), if_pos (hzi.symm.trans c3)])).symm⟩) (by first | omega | (dsimp only; omega)) (Ent.cons rfl (Ent.nil _)) (Ent.cons (t := 1) rfl (Ent.cons (t := 2) rfl (Ent.cons (t := 6) rfl (Ent.cons (t := 7) rfl (Ent.nil _))))) (Sub.k (Sub.k (Sub.k (Sub.nil _))))))))))))
   ·exact V.skip (X.blockNormal (X.next (V.region (O.m rfl (O.q rfl (Pu.add64 (r := ((i + 1 : Nat) : Int)) rfl (by omega) rfl rfl rfl) (O.m rfl (O.nil (X.back3 (i + 1, z) (by (try dsimp only); exact ⟨by omega, by rw [← exS_set eb, ← hz, show sw2 p q ((bl b)[i]'eb) = ((bl b)[i]'eb) from (by unfold sw2; rw [if_neg (fun h => c2 (hzi.trans h)), if_neg (fun h => c3 (hzi.trans h))]), ← hzi, List.set_getElem_self]⟩) (by first | omega | (dsimp only; omega)) (Ent.cons rfl (Ent.nil _)) (Ent.cons (t := 1) rfl (Ent.cons (t := 2) rfl (Ent.cons (t := 6) rfl (Ent.cons (t := 7) rfl (Ent.nil _))))) (Sub.k (Sub.k (Sub.k (Sub.nil _))))))))))))
 ·refine V.exit (X.thenExit (X.thenExit (X.blockHit (X.next (V.seq ?_)))))
  have hz2 : z = [sw2 p q b.1, sw2 p q b.2.1, sw2 p q b.2.2] := by rw [hz, show i = 3 by omega]; exact exS_all rfl
  have hzl2 := congrArg List.length hz2
  simp only [List.length_cons, List.length_nil] at hzl2
  have ek0 : 0 < z.length := by omega
  have ek1 : 1 < z.length := by omega
  have ek2 : 2 < z.length := by omega
  have hk0 : z[0]'ek0 = sw2 p q b.1 := List.getElem_of_eq hz2 ek0
  have hk1 : z[1]'ek1 = sw2 p q b.2.1 := List.getElem_of_eq hz2 ek1
  have hk2 : z[2]'ek2 = sw2 p q b.2.2 := List.getElem_of_eq hz2 ek2
  have hw0 : -100 ≤ sw2 p q b.1 ∧ sw2 p q b.1 ≤ 100 := by unfold sw2; (repeat' split) <;> omega
  have hw1 : -100 ≤ sw2 p q b.2.1 ∧ sw2 p q b.2.1 ≤ 100 := by unfold sw2; (repeat' split) <;> omega
  have hw2 : -100 ≤ sw2 p q b.2.2 ∧ sw2 p q b.2.2 ≤ 100 := by unfold sw2; (repeat' split) <;> omega
  refine V.draw mo (by kernel_rfl) (fun hwf => D.m 0 rfl (D.q 1 rfl (Pu.indexAddrS (0) rfl Tryz.underlying41 sz2 rfl rfl (by omega) (by omega) (fun w hw => Own.some hw (i := 0) (by exact rfl) (by omega))) (D.q 2 rfl (Pu.load rfl pl2 rfl (Ld.rd (Ld.own 0 (by exact rfl)) (k := 0) ek0 rfl rfl)) (D.m 3 rfl (D.q 4 rfl (Pu.indexAddrS (1) rfl Tryz.underlying41 sz2 rfl rfl (by omega) (by omega) (fun w hw => Own.some hw (i := 0) (by exact rfl) (by omega))) (D.q 5 rfl (Pu.load rfl pl2 rfl (Ld.rd (Ld.own 0 (by exact rfl)) (k := 1) ek1 rfl rfl)) (D.m 6 rfl (D.q 7 rfl (Pu.indexAddrS (2) rfl Tryz.underlying41 sz2 rfl rfl (by omega) (by omega) (fun w hw => Own.some hw (i := 0) (by exact rfl) (by omega))) (D.q 8 rfl (Pu.load rfl pl2 rfl (Ld.rd (Ld.own 0 (by exact rfl)) (k := 2) ek2 rfl rfl)) (D.f hwf 9 rfl (Ef.callP call112 rfl rfl (fun w hw => l01BlockD_ok  (z[0]'ek0) (z[1]'ek1) (z[2]'ek2) w   (by omega) (by omega) (by omega))) ?_))))))))))
  rintro _ _ ⟨rfl, rfl⟩ hs
  refine ⟨fun w hw => hw, (D.effX (Hs' := []) hwf (e := 10) rfl rfl rfl rfl (Ef.storeAll 1 rfl sz69 rfl rfl rfl rfl (by simp [Value.oneCell']) rfl) rfl [] rfl (List.forall_mem_nil _) ?_)⟩
  rintro _ _ rfl
  exact ⟨fun w hw => hw.sub (Sub.nil _), (D.done hwf rfl (X.next (V.ret (X.retCell rfl ag69 sz69 rfl rfl (Ld.whole 1 rfl) (fun w hw => St.retP (by rw [hk0, hk1, hk2]; rfl) hw)))))⟩
end Go.Proofs.YtoeldiaidjnibaaGreat
