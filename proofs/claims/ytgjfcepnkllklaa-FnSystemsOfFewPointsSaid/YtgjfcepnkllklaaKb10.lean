/-
  Contracts, part 10.
-/
import Derived.Test.YtgjfcepnkllklaaKb9
set_option linter.unusedVariables false
set_option linter.unusedSimpArgs false
namespace Go.Proofs.Ytgjfcepnkllklaa
open Go Go.RowKit Go.Vc Go.Proofs
set_option maxRecDepth 100000 in
set_option maxHeartbeats 1000000 in
theorem l01Bad_ok (cA : Option Addr) (cc : Nat) (code : List UInt8) (s : Nat) (v : Int) (bs : List B3) (A : Option Addr) (c : Nat) (w0 : World) (H : List Assn) (hc : Rd U8C w0 cA code) (lc : code.length ≤ 1048576) (hD : DrS 4100 v bs) : Does Try.prog 56 [.pointer (some ⟨s, 0, none⟩), .agg #[.int .i64 v, .slice A bs.length c]] w0 (SrcK 73 cA cc code s :: Own 56 B3C A c bs :: H) (fun rv_ => [.exi fun (pv : Int) => .exi fun (rA : Option Addr) => .exi fun (rc : Nat) => .exi fun (r : List B3) => .sep (.pur (rv_ = .agg #[.int .i64 pv, .slice rA r.length rc] ∧ (-1 ≤ pv ∧ pv ≤ 16) ∧ r.length ≤ 4200)) (.sep (Own 56 B3C rA rc r) (SrcK 73 cA cc code s))] ++ H) := by
  refine Does.enter Try.func56 rfl rfl [(0, .pointer (some ⟨s, 0, none⟩)), (1, .agg #[.int .i64 v, .slice A bs.length c])] rfl ?_
  have hv := hD.1
  have hl := hD.2.2
  refine V.seq ?_
  refine V.region ?_
  refine O.e rfl rfl rfl (Ef.box rfl rfl rfl) ?_
  rintro _ _ ⟨b1, rfl, rfl⟩
  refine O.e rfl rfl rfl (Ef.alloc rfl zr26 rfl) ?_
  rintro _ _ ⟨b2, rfl, rfl⟩
  refine O.nil ?_
  refine X.next ?_
  refine V.seq ?_
  refine V.region ?_
  refine O.e rfl rfl rfl (Ef.build B3C ([] : List B3) rfl Try.underlying24 inf56 rfl rfl rfl (by first | decide | (simp; done)) (by kernel_rfl)) ?_
  rintro _ _ ⟨A1, hA1, rfl, rfl⟩
  refine O.p rfl rfl rfl (Pu.fieldAddr 1 rfl Try.underlying26 rfl sz24 rfl rfl) ?_
  refine O.p rfl rfl rfl (Pu.load rfl pl24 rfl (Ld.blk 2 rfl rfl)) ?_
  refine O.e rfl rfl rfl (Ef.appendN (xs := ([] : List B3)) (ys := bs) 0 rfl Try.underlying24 inf56 rfl rfl rfl rfl rfl rfl (fun w hw h => Own.nilc hw (i := 4) (by exact rfl) h) (Ld.own 4 (by exact rfl)) (by simp only [List.length_append, List.length_cons, List.length_nil] at *; omega) (by decide)) ?_
  rintro _ _ ⟨A2, k1, rfl, rfl, hA2⟩
  replace hA2 := hA2 (.inl hA1)
  refine O.p rfl rfl rfl (Pu.assign rfl rfl) ?_
  refine O.nil ?_
  refine X.next ?_
  refine V.seq ?_
  refine V.seq ?_
  refine V.region ?_
  refine O.p rfl rfl rfl (Pu.move rfl rfl) ?_
  refine O.e rfl rfl rfl (Ef.call call35 rfl rfl (Does.pre (fun w hw => hw.sub (Sub.keep 3 rfl (Sub.keep 0 rfl (Sub.keep 0 rfl (Sub.keep 0 rfl (Sub.keep 0 rfl (Sub.refl _))))))) (l01Next_ok _ _ _ s (50 : Int) w0 _   (by first | assumption | omega | (try dsimp only at *; omega)) (by first | assumption | omega | (try dsimp only at *; omega))))) ?_
  rintro _ _ rfl
  refine O.exi (fun r1 => ?_)
  refine O.sep ?_
  refine O.pur ?_
  rintro ⟨rfl, hr1_1, hr1_2, hr1_3⟩
  refine O.nil ?_
  refine X.next ?_
  refine V.block ?_
  refine V.seq ?_
  refine V.region ?_
  refine O.p rfl rfl rfl (Pu.eql rfl rfl rfl) ?_
  refine O.p rfl rfl rfl (Pu.assign rfl rfl) ?_
  refine O.nil ?_
  refine X.next ?_
  refine V.condD rfl (fun c1 => ?_) (fun c1 => ?_)
  · skip
    refine V.seq ?_
    refine V.region ?_
    refine O.p rfl rfl rfl (Pu.move rfl rfl) ?_
    refine O.e rfl rfl rfl (Ef.build I64 ([(2 : Int), (16 : Int), (0 : Int), (-1 : Int)] : List Int) rfl Try.underlying34 inf2 rfl rfl rfl (by first | decide | (simp; done)) (by kernel_rfl)) ?_
    rintro _ _ ⟨A3, hA3, rfl, rfl⟩
    refine O.e rfl rfl rfl (Ef.call call34 rfl rfl (Does.pre (fun w hw => hw.sub (Sub.keep 1 rfl (Sub.keep 0 rfl (Sub.keep 0 rfl (Sub.keep 0 rfl (Sub.keep 0 rfl (Sub.keep 0 rfl (Sub.refl _)))))))) (l01Pick_ok _ _ _ s ([(2 : Int), (16 : Int), (0 : Int), (-1 : Int)] : List Int) _ _ w0 _ (Ld.own 0 (by exact rfl)) (by first | omega | (simp only [tops_len, conts_len, bl, List.length_append, List.length_cons, List.length_nil] at *; omega)) (by first | assumption | omega | (try dsimp only at *; omega)) (by first | assumption | omega | (try dsimp only at *; omega)) (by first | (simp; done) | omega)))) ?_
    rintro _ _ rfl
    refine O.exi (fun r2 => ?_)
    refine O.sep ?_
    refine O.pur ?_
    rintro ⟨rfl, hr2_1⟩
    have hpk : r2 = 2 ∨ r2 = 16 ∨ r2 = 0 ∨ r2 = -1 := by simpa using hr2_1
    refine O.p rfl rfl rfl (Pu.move rfl rfl) ?_
    refine O.p rfl rfl rfl (Pu.buildS (cs := [.int .i64 r2, .slice A2 ((([] : List B3) ++ bs).length) k1]) rfl rfl Try.underlying26 zr26 (by kernel_rfl) rfl (by kernel_rfl)) ?_
    refine O.s rfl rfl (Ef.storeAll 3 rfl sz26 rfl rfl rfl rfl (by simp [Value.oneCell']) rfl) ?_
    rintro _ _ rfl
    refine O.nil ?_
    refine X.next ?_
    refine V.ret ?_
    refine X.blockRet ?_
    refine X.thenRet ?_
    refine X.retCell rfl ag26 sz26 rfl rfl (Ld.whole 3 rfl) ?_
    exact fun w hw => St.mkExi r2 (St.mkExi A2 (St.mkExi k1 (St.mkExi (([] : List B3) ++ bs) (St.unsep (St.addPur ⟨(by first | rfl | (simp only [List.length_set])), by omega, by first | omega | (simp only [List.length_append, List.length_cons, List.length_nil, List.length_set]; omega)⟩ (St.unsep (hw.sub (Sub.keep 2 rfl (Sub.keep 0 rfl (Sub.drop (Sub.drop (Sub.drop (Sub.drop (Sub.refl _))))))))))))))
  · skip
    refine V.seq ?_
    refine V.region ?_
    refine O.p rfl rfl rfl (Pu.eql rfl rfl rfl) ?_
    refine O.p rfl rfl rfl (Pu.assign rfl rfl) ?_
    refine O.nil ?_
    refine X.next ?_
    refine V.condD rfl (fun c2 => ?_) (fun c2 => ?_)
    · skip
      refine V.drawS mo (by kernel_rfl) (Sub.keep 2 rfl (Sub.keep 2 rfl (Sub.keep 2 rfl (Sub.drop (Sub.drop (Sub.refl _)))))) (fun hwf => ?_)
      refine D.p 0 rfl rfl rfl rfl rfl rfl (Pu.move rfl rfl) ?_
      refine D.p 1 rfl rfl rfl rfl rfl rfl (Pu.move rfl rfl) ?_
      refine D.p 3 rfl rfl rfl rfl rfl rfl (Pu.move rfl rfl) ?_
      refine D.p 4 rfl rfl rfl rfl rfl rfl (Pu.fieldAddr 0 rfl Try.underlying26 rfl sz2 rfl rfl) ?_
      refine D.p 5 rfl rfl rfl rfl rfl rfl (Pu.load rfl pl2 rfl (Ld.blk 1 rfl rfl)) ?_
      refine D.p 8 rfl rfl rfl rfl rfl rfl (Pu.move rfl rfl) ?_
      refine D.p 9 rfl rfl rfl rfl rfl rfl (Pu.fieldAddr 0 rfl Try.underlying26 rfl sz2 rfl rfl) ?_
      refine D.p 10 rfl rfl rfl rfl rfl rfl (Pu.load rfl pl2 rfl (Ld.blk 1 rfl rfl)) ?_
      refine D.p 11 rfl rfl rfl rfl rfl rfl (Pu.fieldAddr 0 rfl Try.underlying26 rfl sz2 rfl rfl) ?_
      refine D.p 12 rfl rfl rfl rfl rfl rfl (Pu.load rfl pl2 rfl (Ld.blk 1 rfl rfl)) ?_
      refine D.p 13 rfl rfl rfl rfl rfl rfl (Pu.sub64 rfl (by omega) rfl rfl rfl) ?_
      refine D.either3 hwf (e1 := 2) (e2 := 6) (e3 := 14) rfl ?_ ?_ ?_
      · skip
        refine ⟨_, _, rfl, rfl, fun _ _ => wanted_none rfl _, Ef.call call35 rfl rfl (Does.pre (fun w hw => hw.sub (Sub.keep 0 rfl (Sub.keep 0 rfl (Sub.keep 0 rfl (Sub.keep 0 rfl (Sub.keep 0 rfl (Sub.refl _))))))) (l01Next_ok _ _ _ s (3 : Int) w0 _   (by first | assumption | omega | (try dsimp only at *; omega)) (by first | assumption | omega | (try dsimp only at *; omega)))), rfl, rfl, ?_⟩
        rintro _ _ rfl hs
        refine ⟨fun w hw => hw.tail.sub (Sub.keep 1 rfl (Sub.keep 1 rfl (Sub.keep 1 rfl (Sub.drop (Sub.refl _))))), ?_⟩
        refine D.exi (fun r3 => ?_)
        refine D.sep ?_
        refine D.pur1 ?_
        rintro ⟨rfl, hr3_1, hr3_2, hr3_3⟩
        refine D.either hwf (e1 := 6) (e2 := 14) rfl ?_ ?_
        · skip
          refine ⟨_, _, rfl, rfl, fun _ _ => wanted_none rfl _, Ef.build I64 ([(1 : Int), (2 : Int), v] : List Int) rfl Try.underlying34 inf2 rfl rfl rfl (by first | decide | (simp; done)) (by kernel_rfl), rfl, rfl, ?_⟩
          rintro _ _ ⟨A4, hA4, rfl, rfl⟩ hs
          refine ⟨fun w hw => hw.sub (Sub.keep 3 rfl (Sub.keep 3 rfl (Sub.keep 3 rfl (Sub.drop (Sub.drop (Sub.drop (Sub.refl _))))))), ?_⟩
          refine D.either hwf (e1 := 7) (e2 := 14) rfl ?_ ?_
          · skip
            refine ⟨_, _, rfl, rfl, fun _ _ => wanted_none rfl _, Ef.call call34 rfl rfl (Does.pre (fun w hw => hw.sub (Sub.keep 1 rfl (Sub.keep 0 rfl (Sub.keep 0 rfl (Sub.keep 0 rfl (Sub.keep 0 rfl (Sub.keep 0 rfl (Sub.refl _)))))))) (l01Pick_ok _ _ _ s ([(1 : Int), (2 : Int), v] : List Int) _ _ w0 _ (Ld.own 0 (by exact rfl)) (by first | omega | (simp only [tops_len, conts_len, bl, List.length_append, List.length_cons, List.length_nil] at *; omega)) (by first | assumption | omega | (try dsimp only at *; omega)) (by first | assumption | omega | (try dsimp only at *; omega)) (by first | (simp; done) | omega))), rfl, rfl, ?_⟩
            rintro _ _ rfl hs
            refine ⟨fun w hw => hw.tail.sub (Sub.keep 2 rfl (Sub.keep 2 rfl (Sub.keep 2 rfl (Sub.drop (Sub.drop (Sub.refl _)))))), ?_⟩
            refine D.exi (fun r4 => ?_)
            refine D.sep ?_
            refine D.pur1 ?_
            rintro ⟨rfl, hr4_1⟩
            refine D.eff hwf (e := 14) rfl rfl rfl rfl (Ef.build I64 ([(2 : Int), v, (v - (1 : Int))] : List Int) rfl Try.underlying34 inf2 rfl rfl rfl (by first | decide | (simp; done)) (by kernel_rfl)) rfl rfl rfl ?_
            rintro _ _ ⟨A5, hA5, rfl, rfl⟩ hs
            refine ⟨fun w hw => hw.sub (Sub.keep 4 rfl (Sub.keep 4 rfl (Sub.keep 4 rfl (Sub.drop (Sub.drop (Sub.drop (Sub.drop (Sub.refl _)))))))), ?_⟩
            refine D.eff hwf (e := 15) rfl rfl rfl rfl (Ef.call call34 rfl rfl (Does.pre (fun w hw => hw.sub (Sub.keep 1 rfl (Sub.keep 0 rfl (Sub.keep 0 rfl (Sub.keep 0 rfl (Sub.keep 0 rfl (Sub.keep 0 rfl (Sub.keep 0 rfl (Sub.refl _))))))))) (l01Pick_ok _ _ _ s ([(2 : Int), v, (v - (1 : Int))] : List Int) _ _ w0 _ (Ld.own 0 (by exact rfl)) (by first | omega | (simp only [tops_len, conts_len, bl, List.length_append, List.length_cons, List.length_nil] at *; omega)) (by first | assumption | omega | (try dsimp only at *; omega)) (by first | assumption | omega | (try dsimp only at *; omega)) (by first | (simp; done) | omega)))) rfl rfl rfl ?_
            rintro _ _ rfl hs
            refine ⟨fun w hw => hw.tail.sub (Sub.keep 3 rfl (Sub.keep 3 rfl (Sub.keep 3 rfl (Sub.drop (Sub.drop (Sub.drop (Sub.refl _))))))), ?_⟩
            refine D.exi (fun r5 => ?_)
            refine D.sep ?_
            refine D.pur1 ?_
            rintro ⟨rfl, hr5_1⟩
            refine D.p 16 rfl rfl rfl rfl rfl rfl (Pu.buildA (cs := [.int .i64 r3, .int .i64 r4, .int .i64 r5]) (v := B3.v (r3, r4, r5)) rfl rfl Try.underlying56 zr56 sz2 rfl (by kernel_rfl)) ?_
            refine D.eff hwf (e := 17) rfl rfl rfl rfl (Ef.build B3C ([(r3, r4, r5)] : List B3) rfl Try.underlying24 inf56 rfl rfl rfl (by first | decide | (simp; done)) (by kernel_rfl)) rfl rfl rfl ?_
            rintro _ _ ⟨A6, hA6, rfl, rfl⟩ hs
            refine ⟨fun w hw => hw.sub (Sub.keep 5 rfl (Sub.keep 5 rfl (Sub.keep 5 rfl (Sub.drop (Sub.drop (Sub.drop (Sub.drop (Sub.drop (Sub.refl _))))))))), ?_⟩
            refine D.eff hwf (e := 18) rfl rfl rfl rfl (Ef.append (xs := (([] : List B3) ++ bs)) (ys := ([(r3, r4, r5)] : List B3)) 4 rfl Try.underlying24 inf56 rfl rfl rfl rfl rfl rfl hA6 (Ld.own 0 (by exact rfl)) (by simp only [List.length_append, List.length_cons, List.length_nil] at *; omega) (by decide)) rfl rfl rfl ?_
            rintro _ _ ⟨A7, k2, rfl, rfl, hA7⟩ hs
            replace hA7 := hA7 (.inr (by simp))
            refine ⟨fun w hw => hw.sub (Sub.keep 5 rfl (Sub.keep 5 rfl (Sub.keep 5 rfl (Sub.drop (Sub.drop (Sub.drop (Sub.drop (Sub.drop (Sub.refl _))))))))), ?_⟩
            refine D.last hwf (e := 19) rfl rfl rfl rfl rfl rfl (Pu.assign rfl rfl) ?_
            refine X.blockNormal ?_
            refine X.next ?_
            refine V.seq ?_
            refine V.region ?_
            refine O.p rfl rfl rfl (Pu.fieldAddr 0 rfl Try.underlying26 rfl sz2 rfl rfl) ?_
            refine O.p rfl rfl rfl (Pu.load rfl pl2 rfl (Ld.blk 6 rfl rfl)) ?_
            refine O.p rfl rfl rfl (Pu.move rfl rfl) ?_
            refine O.p rfl rfl rfl (Pu.buildS (cs := [.int .i64 v, .slice A7 (((([] : List B3) ++ bs) ++ ([(r3, r4, r5)] : List B3)).length) k2]) rfl rfl Try.underlying26 zr26 (by kernel_rfl) rfl (by kernel_rfl)) ?_
            refine O.s rfl rfl (Ef.storeAll 5 rfl sz26 rfl rfl rfl rfl (by simp [Value.oneCell']) rfl) ?_
            rintro _ _ rfl
            refine O.nil ?_
            refine X.next ?_
            refine V.ret ?_
            refine X.retCell rfl ag26 sz26 rfl rfl (Ld.whole 5 rfl) ?_
            exact fun w hw => St.mkExi v (St.mkExi A7 (St.mkExi k2 (St.mkExi ((([] : List B3) ++ bs) ++ ([(r3, r4, r5)] : List B3)) (St.unsep (St.addPur ⟨(by first | rfl | (simp only [List.length_set])), by omega, by first | omega | (simp only [List.length_append, List.length_cons, List.length_nil, List.length_set]; omega)⟩ (St.unsep (hw.sub (Sub.keep 4 rfl (Sub.keep 1 rfl (Sub.drop (Sub.drop (Sub.drop (Sub.drop (Sub.drop (Sub.drop (Sub.refl _))))))))))))))))
          · skip
            refine ⟨_, _, rfl, rfl, fun _ _ => wanted_none rfl _, Ef.build I64 ([(2 : Int), v, (v - (1 : Int))] : List Int) rfl Try.underlying34 inf2 rfl rfl rfl (by first | decide | (simp; done)) (by kernel_rfl), rfl, rfl, ?_⟩
            rintro _ _ ⟨A5, hA5, rfl, rfl⟩ hs
            refine ⟨fun w hw => hw.sub (Sub.keep 4 rfl (Sub.keep 4 rfl (Sub.keep 4 rfl (Sub.drop (Sub.drop (Sub.drop (Sub.drop (Sub.refl _)))))))), ?_⟩
            refine D.eff hwf (e := 7) rfl rfl rfl rfl (Ef.call call34 rfl rfl (Does.pre (fun w hw => hw.sub (Sub.keep 2 rfl (Sub.keep 0 rfl (Sub.keep 0 rfl (Sub.keep 0 rfl (Sub.keep 0 rfl (Sub.keep 0 rfl (Sub.keep 0 rfl (Sub.refl _))))))))) (l01Pick_ok _ _ _ s ([(1 : Int), (2 : Int), v] : List Int) _ _ w0 _ (Ld.own 1 (by exact rfl)) (by first | omega | (simp only [tops_len, conts_len, bl, List.length_append, List.length_cons, List.length_nil] at *; omega)) (by first | assumption | omega | (try dsimp only at *; omega)) (by first | assumption | omega | (try dsimp only at *; omega)) (by first | (simp; done) | omega)))) rfl rfl rfl ?_
            rintro _ _ rfl hs
            refine ⟨fun w hw => hw.tail.sub (Sub.keep 3 rfl (Sub.keep 3 rfl (Sub.keep 3 rfl (Sub.drop (Sub.drop (Sub.drop (Sub.refl _))))))), ?_⟩
            refine D.exi (fun r4 => ?_)
            refine D.sep ?_
            refine D.pur1 ?_
            rintro ⟨rfl, hr4_1⟩
            refine D.eff hwf (e := 15) rfl rfl rfl rfl (Ef.call call34 rfl rfl (Does.pre (fun w hw => hw.sub (Sub.keep 0 rfl (Sub.keep 0 rfl (Sub.keep 0 rfl (Sub.keep 0 rfl (Sub.keep 0 rfl (Sub.keep 0 rfl (Sub.keep 0 rfl (Sub.refl _))))))))) (l01Pick_ok _ _ _ s ([(2 : Int), v, (v - (1 : Int))] : List Int) _ _ w0 _ (Ld.own 0 (by exact rfl)) (by first | omega | (simp only [tops_len, conts_len, bl, List.length_append, List.length_cons, List.length_nil] at *; omega)) (by first | assumption | omega | (try dsimp only at *; omega)) (by first | assumption | omega | (try dsimp only at *; omega)) (by first | (simp; done) | omega)))) rfl rfl rfl ?_
            rintro _ _ rfl hs
            refine ⟨fun w hw => hw.tail.sub (Sub.keep 3 rfl (Sub.keep 3 rfl (Sub.keep 3 rfl (Sub.drop (Sub.drop (Sub.drop (Sub.refl _))))))), ?_⟩
            refine D.exi (fun r5 => ?_)
            refine D.sep ?_
            refine D.pur1 ?_
            rintro ⟨rfl, hr5_1⟩
            refine D.p 16 rfl rfl rfl rfl rfl rfl (Pu.buildA (cs := [.int .i64 r3, .int .i64 r4, .int .i64 r5]) (v := B3.v (r3, r4, r5)) rfl rfl Try.underlying56 zr56 sz2 rfl (by kernel_rfl)) ?_
            refine D.eff hwf (e := 17) rfl rfl rfl rfl (Ef.build B3C ([(r3, r4, r5)] : List B3) rfl Try.underlying24 inf56 rfl rfl rfl (by first | decide | (simp; done)) (by kernel_rfl)) rfl rfl rfl ?_
            rintro _ _ ⟨A6, hA6, rfl, rfl⟩ hs
            refine ⟨fun w hw => hw.sub (Sub.keep 5 rfl (Sub.keep 5 rfl (Sub.keep 5 rfl (Sub.drop (Sub.drop (Sub.drop (Sub.drop (Sub.drop (Sub.refl _))))))))), ?_⟩
            refine D.eff hwf (e := 18) rfl rfl rfl rfl (Ef.append (xs := (([] : List B3) ++ bs)) (ys := ([(r3, r4, r5)] : List B3)) 4 rfl Try.underlying24 inf56 rfl rfl rfl rfl rfl rfl hA6 (Ld.own 0 (by exact rfl)) (by simp only [List.length_append, List.length_cons, List.length_nil] at *; omega) (by decide)) rfl rfl rfl ?_
            rintro _ _ ⟨A7, k2, rfl, rfl, hA7⟩ hs
            replace hA7 := hA7 (.inr (by simp))
            refine ⟨fun w hw => hw.sub (Sub.keep 5 rfl (Sub.keep 5 rfl (Sub.keep 5 rfl (Sub.drop (Sub.drop (Sub.drop (Sub.drop (Sub.drop (Sub.refl _))))))))), ?_⟩
            refine D.last hwf (e := 19) rfl rfl rfl rfl rfl rfl (Pu.assign rfl rfl) ?_
            refine X.blockNormal ?_
            refine X.next ?_
            refine V.seq ?_
            refine V.region ?_
            refine O.p rfl rfl rfl (Pu.fieldAddr 0 rfl Try.underlying26 rfl sz2 rfl rfl) ?_
            refine O.p rfl rfl rfl (Pu.load rfl pl2 rfl (Ld.blk 6 rfl rfl)) ?_
            refine O.p rfl rfl rfl (Pu.move rfl rfl) ?_
            refine O.p rfl rfl rfl (Pu.buildS (cs := [.int .i64 v, .slice A7 (((([] : List B3) ++ bs) ++ ([(r3, r4, r5)] : List B3)).length) k2]) rfl rfl Try.underlying26 zr26 (by kernel_rfl) rfl (by kernel_rfl)) ?_
            refine O.s rfl rfl (Ef.storeAll 5 rfl sz26 rfl rfl rfl rfl (by simp [Value.oneCell']) rfl) ?_
            rintro _ _ rfl
            refine O.nil ?_
            refine X.next ?_
            refine V.ret ?_
            refine X.retCell rfl ag26 sz26 rfl rfl (Ld.whole 5 rfl) ?_
            exact fun w hw => St.mkExi v (St.mkExi A7 (St.mkExi k2 (St.mkExi ((([] : List B3) ++ bs) ++ ([(r3, r4, r5)] : List B3)) (St.unsep (St.addPur ⟨(by first | rfl | (simp only [List.length_set])), by omega, by first | omega | (simp only [List.length_append, List.length_cons, List.length_nil, List.length_set]; omega)⟩ (St.unsep (hw.sub (Sub.keep 4 rfl (Sub.keep 1 rfl (Sub.drop (Sub.drop (Sub.drop (Sub.drop (Sub.drop (Sub.drop (Sub.refl _))))))))))))))))
        · skip
          refine ⟨_, _, rfl, rfl, fun _ _ => wanted_none rfl _, Ef.build I64 ([(2 : Int), v, (v - (1 : Int))] : List Int) rfl Try.underlying34 inf2 rfl rfl rfl (by first | decide | (simp; done)) (by kernel_rfl), rfl, rfl, ?_⟩
          rintro _ _ ⟨A4, hA4, rfl, rfl⟩ hs
          refine ⟨fun w hw => hw.sub (Sub.keep 3 rfl (Sub.keep 3 rfl (Sub.keep 3 rfl (Sub.drop (Sub.drop (Sub.drop (Sub.refl _))))))), ?_⟩
          refine D.eff hwf (e := 6) rfl rfl rfl rfl (Ef.build I64 ([(1 : Int), (2 : Int), v] : List Int) rfl Try.underlying34 inf2 rfl rfl rfl (by first | decide | (simp; done)) (by kernel_rfl)) rfl rfl rfl ?_
          rintro _ _ ⟨A5, hA5, rfl, rfl⟩ hs
          refine ⟨fun w hw => hw.sub (Sub.keep 4 rfl (Sub.keep 4 rfl (Sub.keep 4 rfl (Sub.drop (Sub.drop (Sub.drop (Sub.drop (Sub.refl _)))))))), ?_⟩
          refine D.eff hwf (e := 7) rfl rfl rfl rfl (Ef.call call34 rfl rfl (Does.pre (fun w hw => hw.sub (Sub.keep 2 rfl (Sub.keep 0 rfl (Sub.keep 0 rfl (Sub.keep 0 rfl (Sub.keep 0 rfl (Sub.keep 0 rfl (Sub.keep 0 rfl (Sub.refl _))))))))) (l01Pick_ok _ _ _ s ([(1 : Int), (2 : Int), v] : List Int) _ _ w0 _ (Ld.own 0 (by exact rfl)) (by first | omega | (simp only [tops_len, conts_len, bl, List.length_append, List.length_cons, List.length_nil] at *; omega)) (by first | assumption | omega | (try dsimp only at *; omega)) (by first | assumption | omega | (try dsimp only at *; omega)) (by first | (simp; done) | omega)))) rfl rfl rfl ?_
          rintro _ _ rfl hs
          refine ⟨fun w hw => hw.tail.sub (Sub.keep 3 rfl (Sub.keep 3 rfl (Sub.keep 3 rfl (Sub.drop (Sub.drop (Sub.drop (Sub.refl _))))))), ?_⟩
          refine D.exi (fun r4 => ?_)
          refine D.sep ?_
          refine D.pur1 ?_
          rintro ⟨rfl, hr4_1⟩
          refine D.eff hwf (e := 15) rfl rfl rfl rfl (Ef.call call34 rfl rfl (Does.pre (fun w hw => hw.sub (Sub.keep 0 rfl (Sub.keep 0 rfl (Sub.keep 0 rfl (Sub.keep 0 rfl (Sub.keep 0 rfl (Sub.keep 0 rfl (Sub.keep 0 rfl (Sub.refl _))))))))) (l01Pick_ok _ _ _ s ([(2 : Int), v, (v - (1 : Int))] : List Int) _ _ w0 _ (Ld.own 1 (by exact rfl)) (by first | omega | (simp only [tops_len, conts_len, bl, List.length_append, List.length_cons, List.length_nil] at *; omega)) (by first | assumption | omega | (try dsimp only at *; omega)) (by first | assumption | omega | (try dsimp only at *; omega)) (by first | (simp; done) | omega)))) rfl rfl rfl ?_
          rintro _ _ rfl hs
          refine ⟨fun w hw => hw.tail.sub (Sub.keep 3 rfl (Sub.keep 3 rfl (Sub.keep 3 rfl (Sub.drop (Sub.drop (Sub.drop (Sub.refl _))))))), ?_⟩
          refine D.exi (fun r5 => ?_)
          refine D.sep ?_
          refine D.pur1 ?_
          rintro ⟨rfl, hr5_1⟩
          refine D.p 16 rfl rfl rfl rfl rfl rfl (Pu.buildA (cs := [.int .i64 r3, .int .i64 r4, .int .i64 r5]) (v := B3.v (r3, r4, r5)) rfl rfl Try.underlying56 zr56 sz2 rfl (by kernel_rfl)) ?_
          refine D.eff hwf (e := 17) rfl rfl rfl rfl (Ef.build B3C ([(r3, r4, r5)] : List B3) rfl Try.underlying24 inf56 rfl rfl rfl (by first | decide | (simp; done)) (by kernel_rfl)) rfl rfl rfl ?_
          rintro _ _ ⟨A6, hA6, rfl, rfl⟩ hs
          refine ⟨fun w hw => hw.sub (Sub.keep 5 rfl (Sub.keep 5 rfl (Sub.keep 5 rfl (Sub.drop (Sub.drop (Sub.drop (Sub.drop (Sub.drop (Sub.refl _))))))))), ?_⟩
          refine D.eff hwf (e := 18) rfl rfl rfl rfl (Ef.append (xs := (([] : List B3) ++ bs)) (ys := ([(r3, r4, r5)] : List B3)) 4 rfl Try.underlying24 inf56 rfl rfl rfl rfl rfl rfl hA6 (Ld.own 0 (by exact rfl)) (by simp only [List.length_append, List.length_cons, List.length_nil] at *; omega) (by decide)) rfl rfl rfl ?_
          rintro _ _ ⟨A7, k2, rfl, rfl, hA7⟩ hs
          replace hA7 := hA7 (.inr (by simp))
          refine ⟨fun w hw => hw.sub (Sub.keep 5 rfl (Sub.keep 5 rfl (Sub.keep 5 rfl (Sub.drop (Sub.drop (Sub.drop (Sub.drop (Sub.drop (Sub.refl _))))))))), ?_⟩
          refine D.last hwf (e := 19) rfl rfl rfl rfl rfl rfl (Pu.assign rfl rfl) ?_
          refine X.blockNormal ?_
          refine X.next ?_
          refine V.seq ?_
          refine V.region ?_
          refine O.p rfl rfl rfl (Pu.fieldAddr 0 rfl Try.underlying26 rfl sz2 rfl rfl) ?_
          refine O.p rfl rfl rfl (Pu.load rfl pl2 rfl (Ld.blk 6 rfl rfl)) ?_
          refine O.p rfl rfl rfl (Pu.move rfl rfl) ?_
          refine O.p rfl rfl rfl (Pu.buildS (cs := [.int .i64 v, .slice A7 (((([] : List B3) ++ bs) ++ ([(r3, r4, r5)] : List B3)).length) k2]) rfl rfl Try.underlying26 zr26 (by kernel_rfl) rfl (by kernel_rfl)) ?_
          refine O.s rfl rfl (Ef.storeAll 5 rfl sz26 rfl rfl rfl rfl (by simp [Value.oneCell']) rfl) ?_
          rintro _ _ rfl
          refine O.nil ?_
          refine X.next ?_
          refine V.ret ?_
          refine X.retCell rfl ag26 sz26 rfl rfl (Ld.whole 5 rfl) ?_
          exact fun w hw => St.mkExi v (St.mkExi A7 (St.mkExi k2 (St.mkExi ((([] : List B3) ++ bs) ++ ([(r3, r4, r5)] : List B3)) (St.unsep (St.addPur ⟨(by first | rfl | (simp only [List.length_set])), by omega, by first | omega | (simp only [List.length_append, List.length_cons, List.length_nil, List.length_set]; omega)⟩ (St.unsep (hw.sub (Sub.keep 4 rfl (Sub.keep 1 rfl (Sub.drop (Sub.drop (Sub.drop (Sub.drop (Sub.drop (Sub.drop (Sub.refl _))))))))))))))))
      · skip
        refine ⟨_, _, rfl, rfl, fun _ _ => wanted_none rfl _, Ef.build I64 ([(1 : Int), (2 : Int), v] : List Int) rfl Try.underlying34 inf2 rfl rfl rfl (by first | decide | (simp; done)) (by kernel_rfl), rfl, rfl, ?_⟩
        rintro _ _ ⟨A4, hA4, rfl, rfl⟩ hs
        refine ⟨fun w hw => hw.sub (Sub.keep 3 rfl (Sub.keep 3 rfl (Sub.keep 3 rfl (Sub.drop (Sub.drop (Sub.drop (Sub.refl _))))))), ?_⟩
        refine D.either hwf (e1 := 2) (e2 := 14) rfl ?_ ?_
        · skip
          refine ⟨_, _, rfl, rfl, fun _ _ => wanted_none rfl _, Ef.call call35 rfl rfl (Does.pre (fun w hw => hw.sub (Sub.keep 1 rfl (Sub.keep 0 rfl (Sub.keep 0 rfl (Sub.keep 0 rfl (Sub.keep 0 rfl (Sub.keep 0 rfl (Sub.refl _)))))))) (l01Next_ok _ _ _ s (3 : Int) w0 _   (by first | assumption | omega | (try dsimp only at *; omega)) (by first | assumption | omega | (try dsimp only at *; omega)))), rfl, rfl, ?_⟩
          rintro _ _ rfl hs
          refine ⟨fun w hw => hw.tail.sub (Sub.keep 2 rfl (Sub.keep 2 rfl (Sub.keep 2 rfl (Sub.drop (Sub.drop (Sub.refl _)))))), ?_⟩
          refine D.exi (fun r3 => ?_)
          refine D.sep ?_
          refine D.pur1 ?_
          rintro ⟨rfl, hr3_1, hr3_2, hr3_3⟩
          refine D.either hwf (e1 := 7) (e2 := 14) rfl ?_ ?_
          · skip
            refine ⟨_, _, rfl, rfl, fun _ _ => wanted_none rfl _, Ef.call call34 rfl rfl (Does.pre (fun w hw => hw.sub (Sub.keep 0 rfl (Sub.keep 0 rfl (Sub.keep 0 rfl (Sub.keep 0 rfl (Sub.keep 0 rfl (Sub.keep 0 rfl (Sub.refl _)))))))) (l01Pick_ok _ _ _ s ([(1 : Int), (2 : Int), v] : List Int) _ _ w0 _ (Ld.own 0 (by exact rfl)) (by first | omega | (simp only [tops_len, conts_len, bl, List.length_append, List.length_cons, List.length_nil] at *; omega)) (by first | assumption | omega | (try dsimp only at *; omega)) (by first | assumption | omega | (try dsimp only at *; omega)) (by first | (simp; done) | omega))), rfl, rfl, ?_⟩
            rintro _ _ rfl hs
            refine ⟨fun w hw => hw.tail.sub (Sub.keep 2 rfl (Sub.keep 2 rfl (Sub.keep 2 rfl (Sub.drop (Sub.drop (Sub.refl _)))))), ?_⟩
            refine D.exi (fun r4 => ?_)
            refine D.sep ?_
            refine D.pur1 ?_
            rintro ⟨rfl, hr4_1⟩
            refine D.eff hwf (e := 14) rfl rfl rfl rfl (Ef.build I64 ([(2 : Int), v, (v - (1 : Int))] : List Int) rfl Try.underlying34 inf2 rfl rfl rfl (by first | decide | (simp; done)) (by kernel_rfl)) rfl rfl rfl ?_
            rintro _ _ ⟨A5, hA5, rfl, rfl⟩ hs
            refine ⟨fun w hw => hw.sub (Sub.keep 4 rfl (Sub.keep 4 rfl (Sub.keep 4 rfl (Sub.drop (Sub.drop (Sub.drop (Sub.drop (Sub.refl _)))))))), ?_⟩
            refine D.eff hwf (e := 15) rfl rfl rfl rfl (Ef.call call34 rfl rfl (Does.pre (fun w hw => hw.sub (Sub.keep 1 rfl (Sub.keep 0 rfl (Sub.keep 0 rfl (Sub.keep 0 rfl (Sub.keep 0 rfl (Sub.keep 0 rfl (Sub.keep 0 rfl (Sub.refl _))))))))) (l01Pick_ok _ _ _ s ([(2 : Int), v, (v - (1 : Int))] : List Int) _ _ w0 _ (Ld.own 0 (by exact rfl)) (by first | omega | (simp only [tops_len, conts_len, bl, List.length_append, List.length_cons, List.length_nil] at *; omega)) (by first | assumption | omega | (try dsimp only at *; omega)) (by first | assumption | omega | (try dsimp only at *; omega)) (by first | (simp; done) | omega)))) rfl rfl rfl ?_
            rintro _ _ rfl hs
            refine ⟨fun w hw => hw.tail.sub (Sub.keep 3 rfl (Sub.keep 3 rfl (Sub.keep 3 rfl (Sub.drop (Sub.drop (Sub.drop (Sub.refl _))))))), ?_⟩
            refine D.exi (fun r5 => ?_)
            refine D.sep ?_
            refine D.pur1 ?_
            rintro ⟨rfl, hr5_1⟩
            refine D.p 16 rfl rfl rfl rfl rfl rfl (Pu.buildA (cs := [.int .i64 r3, .int .i64 r4, .int .i64 r5]) (v := B3.v (r3, r4, r5)) rfl rfl Try.underlying56 zr56 sz2 rfl (by kernel_rfl)) ?_
            refine D.eff hwf (e := 17) rfl rfl rfl rfl (Ef.build B3C ([(r3, r4, r5)] : List B3) rfl Try.underlying24 inf56 rfl rfl rfl (by first | decide | (simp; done)) (by kernel_rfl)) rfl rfl rfl ?_
            rintro _ _ ⟨A6, hA6, rfl, rfl⟩ hs
            refine ⟨fun w hw => hw.sub (Sub.keep 5 rfl (Sub.keep 5 rfl (Sub.keep 5 rfl (Sub.drop (Sub.drop (Sub.drop (Sub.drop (Sub.drop (Sub.refl _))))))))), ?_⟩
            refine D.eff hwf (e := 18) rfl rfl rfl rfl (Ef.append (xs := (([] : List B3) ++ bs)) (ys := ([(r3, r4, r5)] : List B3)) 4 rfl Try.underlying24 inf56 rfl rfl rfl rfl rfl rfl hA6 (Ld.own 0 (by exact rfl)) (by simp only [List.length_append, List.length_cons, List.length_nil] at *; omega) (by decide)) rfl rfl rfl ?_
            rintro _ _ ⟨A7, k2, rfl, rfl, hA7⟩ hs
            replace hA7 := hA7 (.inr (by simp))
            refine ⟨fun w hw => hw.sub (Sub.keep 5 rfl (Sub.keep 5 rfl (Sub.keep 5 rfl (Sub.drop (Sub.drop (Sub.drop (Sub.drop (Sub.drop (Sub.refl _))))))))), ?_⟩
            refine D.last hwf (e := 19) rfl rfl rfl rfl rfl rfl (Pu.assign rfl rfl) ?_
            refine X.blockNormal ?_
            refine X.next ?_
            refine V.seq ?_
            refine V.region ?_
            refine O.p rfl rfl rfl (Pu.fieldAddr 0 rfl Try.underlying26 rfl sz2 rfl rfl) ?_
            refine O.p rfl rfl rfl (Pu.load rfl pl2 rfl (Ld.blk 6 rfl rfl)) ?_
            refine O.p rfl rfl rfl (Pu.move rfl rfl) ?_
            refine O.p rfl rfl rfl (Pu.buildS (cs := [.int .i64 v, .slice A7 (((([] : List B3) ++ bs) ++ ([(r3, r4, r5)] : List B3)).length) k2]) rfl rfl Try.underlying26 zr26 (by kernel_rfl) rfl (by kernel_rfl)) ?_
            refine O.s rfl rfl (Ef.storeAll 5 rfl sz26 rfl rfl rfl rfl (by simp [Value.oneCell']) rfl) ?_
            rintro _ _ rfl
            refine O.nil ?_
            refine X.next ?_
            refine V.ret ?_
            refine X.retCell rfl ag26 sz26 rfl rfl (Ld.whole 5 rfl) ?_
            exact fun w hw => St.mkExi v (St.mkExi A7 (St.mkExi k2 (St.mkExi ((([] : List B3) ++ bs) ++ ([(r3, r4, r5)] : List B3)) (St.unsep (St.addPur ⟨(by first | rfl | (simp only [List.length_set])), by omega, by first | omega | (simp only [List.length_append, List.length_cons, List.length_nil, List.length_set]; omega)⟩ (St.unsep (hw.sub (Sub.keep 4 rfl (Sub.keep 1 rfl (Sub.drop (Sub.drop (Sub.drop (Sub.drop (Sub.drop (Sub.drop (Sub.refl _))))))))))))))))
          · skip
            refine ⟨_, _, rfl, rfl, fun _ _ => wanted_none rfl _, Ef.build I64 ([(2 : Int), v, (v - (1 : Int))] : List Int) rfl Try.underlying34 inf2 rfl rfl rfl (by first | decide | (simp; done)) (by kernel_rfl), rfl, rfl, ?_⟩
            rintro _ _ ⟨A5, hA5, rfl, rfl⟩ hs
            refine ⟨fun w hw => hw.sub (Sub.keep 4 rfl (Sub.keep 4 rfl (Sub.keep 4 rfl (Sub.drop (Sub.drop (Sub.drop (Sub.drop (Sub.refl _)))))))), ?_⟩
            refine D.eff hwf (e := 7) rfl rfl rfl rfl (Ef.call call34 rfl rfl (Does.pre (fun w hw => hw.sub (Sub.keep 1 rfl (Sub.keep 0 rfl (Sub.keep 0 rfl (Sub.keep 0 rfl (Sub.keep 0 rfl (Sub.keep 0 rfl (Sub.keep 0 rfl (Sub.refl _))))))))) (l01Pick_ok _ _ _ s ([(1 : Int), (2 : Int), v] : List Int) _ _ w0 _ (Ld.own 1 (by exact rfl)) (by first | omega | (simp only [tops_len, conts_len, bl, List.length_append, List.length_cons, List.length_nil] at *; omega)) (by first | assumption | omega | (try dsimp only at *; omega)) (by first | assumption | omega | (try dsimp only at *; omega)) (by first | (simp; done) | omega)))) rfl rfl rfl ?_
            rintro _ _ rfl hs
            refine ⟨fun w hw => hw.tail.sub (Sub.keep 3 rfl (Sub.keep 3 rfl (Sub.keep 3 rfl (Sub.drop (Sub.drop (Sub.drop (Sub.refl _))))))), ?_⟩
            refine D.exi (fun r4 => ?_)
            refine D.sep ?_
            refine D.pur1 ?_
            rintro ⟨rfl, hr4_1⟩
            refine D.eff hwf (e := 15) rfl rfl rfl rfl (Ef.call call34 rfl rfl (Does.pre (fun w hw => hw.sub (Sub.keep 0 rfl (Sub.keep 0 rfl (Sub.keep 0 rfl (Sub.keep 0 rfl (Sub.keep 0 rfl (Sub.keep 0 rfl (Sub.keep 0 rfl (Sub.refl _))))))))) (l01Pick_ok _ _ _ s ([(2 : Int), v, (v - (1 : Int))] : List Int) _ _ w0 _ (Ld.own 0 (by exact rfl)) (by first | omega | (simp only [tops_len, conts_len, bl, List.length_append, List.length_cons, List.length_nil] at *; omega)) (by first | assumption | omega | (try dsimp only at *; omega)) (by first | assumption | omega | (try dsimp only at *; omega)) (by first | (simp; done) | omega)))) rfl rfl rfl ?_
            rintro _ _ rfl hs
            refine ⟨fun w hw => hw.tail.sub (Sub.keep 3 rfl (Sub.keep 3 rfl (Sub.keep 3 rfl (Sub.drop (Sub.drop (Sub.drop (Sub.refl _))))))), ?_⟩
            refine D.exi (fun r5 => ?_)
            refine D.sep ?_
            refine D.pur1 ?_
            rintro ⟨rfl, hr5_1⟩
            refine D.p 16 rfl rfl rfl rfl rfl rfl (Pu.buildA (cs := [.int .i64 r3, .int .i64 r4, .int .i64 r5]) (v := B3.v (r3, r4, r5)) rfl rfl Try.underlying56 zr56 sz2 rfl (by kernel_rfl)) ?_
            refine D.eff hwf (e := 17) rfl rfl rfl rfl (Ef.build B3C ([(r3, r4, r5)] : List B3) rfl Try.underlying24 inf56 rfl rfl rfl (by first | decide | (simp; done)) (by kernel_rfl)) rfl rfl rfl ?_
            rintro _ _ ⟨A6, hA6, rfl, rfl⟩ hs
            refine ⟨fun w hw => hw.sub (Sub.keep 5 rfl (Sub.keep 5 rfl (Sub.keep 5 rfl (Sub.drop (Sub.drop (Sub.drop (Sub.drop (Sub.drop (Sub.refl _))))))))), ?_⟩
            refine D.eff hwf (e := 18) rfl rfl rfl rfl (Ef.append (xs := (([] : List B3) ++ bs)) (ys := ([(r3, r4, r5)] : List B3)) 4 rfl Try.underlying24 inf56 rfl rfl rfl rfl rfl rfl hA6 (Ld.own 0 (by exact rfl)) (by simp only [List.length_append, List.length_cons, List.length_nil] at *; omega) (by decide)) rfl rfl rfl ?_
            rintro _ _ ⟨A7, k2, rfl, rfl, hA7⟩ hs
            replace hA7 := hA7 (.inr (by simp))
            refine ⟨fun w hw => hw.sub (Sub.keep 5 rfl (Sub.keep 5 rfl (Sub.keep 5 rfl (Sub.drop (Sub.drop (Sub.drop (Sub.drop (Sub.drop (Sub.refl _))))))))), ?_⟩
            refine D.last hwf (e := 19) rfl rfl rfl rfl rfl rfl (Pu.assign rfl rfl) ?_
            refine X.blockNormal ?_
            refine X.next ?_
            refine V.seq ?_
            refine V.region ?_
            refine O.p rfl rfl rfl (Pu.fieldAddr 0 rfl Try.underlying26 rfl sz2 rfl rfl) ?_
            refine O.p rfl rfl rfl (Pu.load rfl pl2 rfl (Ld.blk 6 rfl rfl)) ?_
            refine O.p rfl rfl rfl (Pu.move rfl rfl) ?_
            refine O.p rfl rfl rfl (Pu.buildS (cs := [.int .i64 v, .slice A7 (((([] : List B3) ++ bs) ++ ([(r3, r4, r5)] : List B3)).length) k2]) rfl rfl Try.underlying26 zr26 (by kernel_rfl) rfl (by kernel_rfl)) ?_
            refine O.s rfl rfl (Ef.storeAll 5 rfl sz26 rfl rfl rfl rfl (by simp [Value.oneCell']) rfl) ?_
            rintro _ _ rfl
            refine O.nil ?_
            refine X.next ?_
            refine V.ret ?_
            refine X.retCell rfl ag26 sz26 rfl rfl (Ld.whole 5 rfl) ?_
            exact fun w hw => St.mkExi v (St.mkExi A7 (St.mkExi k2 (St.mkExi ((([] : List B3) ++ bs) ++ ([(r3, r4, r5)] : List B3)) (St.unsep (St.addPur ⟨(by first | rfl | (simp only [List.length_set])), by omega, by first | omega | (simp only [List.length_append, List.length_cons, List.length_nil, List.length_set]; omega)⟩ (St.unsep (hw.sub (Sub.keep 4 rfl (Sub.keep 1 rfl (Sub.drop (Sub.drop (Sub.drop (Sub.drop (Sub.drop (Sub.drop (Sub.refl _))))))))))))))))
        · skip
          refine ⟨_, _, rfl, rfl, fun _ _ => wanted_none rfl _, Ef.build I64 ([(2 : Int), v, (v - (1 : Int))] : List Int) rfl Try.underlying34 inf2 rfl rfl rfl (by first | decide | (simp; done)) (by kernel_rfl), rfl, rfl, ?_⟩
          rintro _ _ ⟨A5, hA5, rfl, rfl⟩ hs
          refine ⟨fun w hw => hw.sub (Sub.keep 4 rfl (Sub.keep 4 rfl (Sub.keep 4 rfl (Sub.drop (Sub.drop (Sub.drop (Sub.drop (Sub.refl _)))))))), ?_⟩
          refine D.eff hwf (e := 2) rfl rfl rfl rfl (Ef.call call35 rfl rfl (Does.pre (fun w hw => hw.sub (Sub.keep 2 rfl (Sub.keep 0 rfl (Sub.keep 0 rfl (Sub.keep 0 rfl (Sub.keep 0 rfl (Sub.keep 0 rfl (Sub.keep 0 rfl (Sub.refl _))))))))) (l01Next_ok _ _ _ s (3 : Int) w0 _   (by first | assumption | omega | (try dsimp only at *; omega)) (by first | assumption | omega | (try dsimp only at *; omega))))) rfl rfl rfl ?_
          rintro _ _ rfl hs
          refine ⟨fun w hw => hw.tail.sub (Sub.keep 3 rfl (Sub.keep 3 rfl (Sub.keep 3 rfl (Sub.drop (Sub.drop (Sub.drop (Sub.refl _))))))), ?_⟩
          refine D.exi (fun r3 => ?_)
          refine D.sep ?_
          refine D.pur1 ?_
          rintro ⟨rfl, hr3_1, hr3_2, hr3_3⟩
          refine D.eff hwf (e := 7) rfl rfl rfl rfl (Ef.call call34 rfl rfl (Does.pre (fun w hw => hw.sub (Sub.keep 0 rfl (Sub.keep 0 rfl (Sub.keep 0 rfl (Sub.keep 0 rfl (Sub.keep 0 rfl (Sub.keep 0 rfl (Sub.keep 0 rfl (Sub.refl _))))))))) (l01Pick_ok _ _ _ s ([(1 : Int), (2 : Int), v] : List Int) _ _ w0 _ (Ld.own 1 (by exact rfl)) (by first | omega | (simp only [tops_len, conts_len, bl, List.length_append, List.length_cons, List.length_nil] at *; omega)) (by first | assumption | omega | (try dsimp only at *; omega)) (by first | assumption | omega | (try dsimp only at *; omega)) (by first | (simp; done) | omega)))) rfl rfl rfl ?_
          rintro _ _ rfl hs
          refine ⟨fun w hw => hw.tail.sub (Sub.keep 3 rfl (Sub.keep 3 rfl (Sub.keep 3 rfl (Sub.drop (Sub.drop (Sub.drop (Sub.refl _))))))), ?_⟩
          refine D.exi (fun r4 => ?_)
          refine D.sep ?_
          refine D.pur1 ?_
          rintro ⟨rfl, hr4_1⟩
          refine D.eff hwf (e := 15) rfl rfl rfl rfl (Ef.call call34 rfl rfl (Does.pre (fun w hw => hw.sub (Sub.keep 0 rfl (Sub.keep 0 rfl (Sub.keep 0 rfl (Sub.keep 0 rfl (Sub.keep 0 rfl (Sub.keep 0 rfl (Sub.keep 0 rfl (Sub.refl _))))))))) (l01Pick_ok _ _ _ s ([(2 : Int), v, (v - (1 : Int))] : List Int) _ _ w0 _ (Ld.own 0 (by exact rfl)) (by first | omega | (simp only [tops_len, conts_len, bl, List.length_append, List.length_cons, List.length_nil] at *; omega)) (by first | assumption | omega | (try dsimp only at *; omega)) (by first | assumption | omega | (try dsimp only at *; omega)) (by first | (simp; done) | omega)))) rfl rfl rfl ?_
          rintro _ _ rfl hs
          refine ⟨fun w hw => hw.tail.sub (Sub.keep 3 rfl (Sub.keep 3 rfl (Sub.keep 3 rfl (Sub.drop (Sub.drop (Sub.drop (Sub.refl _))))))), ?_⟩
          refine D.exi (fun r5 => ?_)
          refine D.sep ?_
          refine D.pur1 ?_
          rintro ⟨rfl, hr5_1⟩
          refine D.p 16 rfl rfl rfl rfl rfl rfl (Pu.buildA (cs := [.int .i64 r3, .int .i64 r4, .int .i64 r5]) (v := B3.v (r3, r4, r5)) rfl rfl Try.underlying56 zr56 sz2 rfl (by kernel_rfl)) ?_
          refine D.eff hwf (e := 17) rfl rfl rfl rfl (Ef.build B3C ([(r3, r4, r5)] : List B3) rfl Try.underlying24 inf56 rfl rfl rfl (by first | decide | (simp; done)) (by kernel_rfl)) rfl rfl rfl ?_
          rintro _ _ ⟨A6, hA6, rfl, rfl⟩ hs
          refine ⟨fun w hw => hw.sub (Sub.keep 5 rfl (Sub.keep 5 rfl (Sub.keep 5 rfl (Sub.drop (Sub.drop (Sub.drop (Sub.drop (Sub.drop (Sub.refl _))))))))), ?_⟩
          refine D.eff hwf (e := 18) rfl rfl rfl rfl (Ef.append (xs := (([] : List B3) ++ bs)) (ys := ([(r3, r4, r5)] : List B3)) 4 rfl Try.underlying24 inf56 rfl rfl rfl rfl rfl rfl hA6 (Ld.own 0 (by exact rfl)) (by simp only [List.length_append, List.length_cons, List.length_nil] at *; omega) (by decide)) rfl rfl rfl ?_
          rintro _ _ ⟨A7, k2, rfl, rfl, hA7⟩ hs
          replace hA7 := hA7 (.inr (by simp))
          refine ⟨fun w hw => hw.sub (Sub.keep 5 rfl (Sub.keep 5 rfl (Sub.keep 5 rfl (Sub.drop (Sub.drop (Sub.drop (Sub.drop (Sub.drop (Sub.refl _))))))))), ?_⟩
          refine D.last hwf (e := 19) rfl rfl rfl rfl rfl rfl (Pu.assign rfl rfl) ?_
          refine X.blockNormal ?_
          refine X.next ?_
          refine V.seq ?_
          refine V.region ?_
          refine O.p rfl rfl rfl (Pu.fieldAddr 0 rfl Try.underlying26 rfl sz2 rfl rfl) ?_
          refine O.p rfl rfl rfl (Pu.load rfl pl2 rfl (Ld.blk 6 rfl rfl)) ?_
          refine O.p rfl rfl rfl (Pu.move rfl rfl) ?_
          refine O.p rfl rfl rfl (Pu.buildS (cs := [.int .i64 v, .slice A7 (((([] : List B3) ++ bs) ++ ([(r3, r4, r5)] : List B3)).length) k2]) rfl rfl Try.underlying26 zr26 (by kernel_rfl) rfl (by kernel_rfl)) ?_
          refine O.s rfl rfl (Ef.storeAll 5 rfl sz26 rfl rfl rfl rfl (by simp [Value.oneCell']) rfl) ?_
          rintro _ _ rfl
          refine O.nil ?_
          refine X.next ?_
          refine V.ret ?_
          refine X.retCell rfl ag26 sz26 rfl rfl (Ld.whole 5 rfl) ?_
          exact fun w hw => St.mkExi v (St.mkExi A7 (St.mkExi k2 (St.mkExi ((([] : List B3) ++ bs) ++ ([(r3, r4, r5)] : List B3)) (St.unsep (St.addPur ⟨(by first | rfl | (simp only [List.length_set])), by omega, by first | omega | (simp only [List.length_append, List.length_cons, List.length_nil, List.length_set]; omega)⟩ (St.unsep (hw.sub (Sub.keep 4 rfl (Sub.keep 1 rfl (Sub.drop (Sub.drop (Sub.drop (Sub.drop (Sub.drop (Sub.drop (Sub.refl _))))))))))))))))
      · skip
        refine ⟨_, _, rfl, rfl, fun _ _ => wanted_none rfl _, Ef.build I64 ([(2 : Int), v, (v - (1 : Int))] : List Int) rfl Try.underlying34 inf2 rfl rfl rfl (by first | decide | (simp; done)) (by kernel_rfl), rfl, rfl, ?_⟩
        rintro _ _ ⟨A4, hA4, rfl, rfl⟩ hs
        refine ⟨fun w hw => hw.sub (Sub.keep 3 rfl (Sub.keep 3 rfl (Sub.keep 3 rfl (Sub.drop (Sub.drop (Sub.drop (Sub.refl _))))))), ?_⟩
        refine D.either hwf (e1 := 2) (e2 := 6) rfl ?_ ?_
        · skip
          refine ⟨_, _, rfl, rfl, fun _ _ => wanted_none rfl _, Ef.call call35 rfl rfl (Does.pre (fun w hw => hw.sub (Sub.keep 1 rfl (Sub.keep 0 rfl (Sub.keep 0 rfl (Sub.keep 0 rfl (Sub.keep 0 rfl (Sub.keep 0 rfl (Sub.refl _)))))))) (l01Next_ok _ _ _ s (3 : Int) w0 _   (by first | assumption | omega | (try dsimp only at *; omega)) (by first | assumption | omega | (try dsimp only at *; omega)))), rfl, rfl, ?_⟩
          rintro _ _ rfl hs
          refine ⟨fun w hw => hw.tail.sub (Sub.keep 2 rfl (Sub.keep 2 rfl (Sub.keep 2 rfl (Sub.drop (Sub.drop (Sub.refl _)))))), ?_⟩
          refine D.exi (fun r3 => ?_)
          refine D.sep ?_
          refine D.pur1 ?_
          rintro ⟨rfl, hr3_1, hr3_2, hr3_3⟩
          refine D.eff hwf (e := 6) rfl rfl rfl rfl (Ef.build I64 ([(1 : Int), (2 : Int), v] : List Int) rfl Try.underlying34 inf2 rfl rfl rfl (by first | decide | (simp; done)) (by kernel_rfl)) rfl rfl rfl ?_
          rintro _ _ ⟨A5, hA5, rfl, rfl⟩ hs
          refine ⟨fun w hw => hw.sub (Sub.keep 4 rfl (Sub.keep 4 rfl (Sub.keep 4 rfl (Sub.drop (Sub.drop (Sub.drop (Sub.drop (Sub.refl _)))))))), ?_⟩
          refine D.eff hwf (e := 7) rfl rfl rfl rfl (Ef.call call34 rfl rfl (Does.pre (fun w hw => hw.sub (Sub.keep 1 rfl (Sub.keep 0 rfl (Sub.keep 0 rfl (Sub.keep 0 rfl (Sub.keep 0 rfl (Sub.keep 0 rfl (Sub.keep 0 rfl (Sub.refl _))))))))) (l01Pick_ok _ _ _ s ([(1 : Int), (2 : Int), v] : List Int) _ _ w0 _ (Ld.own 0 (by exact rfl)) (by first | omega | (simp only [tops_len, conts_len, bl, List.length_append, List.length_cons, List.length_nil] at *; omega)) (by first | assumption | omega | (try dsimp only at *; omega)) (by first | assumption | omega | (try dsimp only at *; omega)) (by first | (simp; done) | omega)))) rfl rfl rfl ?_
          rintro _ _ rfl hs
          refine ⟨fun w hw => hw.tail.sub (Sub.keep 3 rfl (Sub.keep 3 rfl (Sub.keep 3 rfl (Sub.drop (Sub.drop (Sub.drop (Sub.refl _))))))), ?_⟩
          refine D.exi (fun r4 => ?_)
          refine D.sep ?_
          refine D.pur1 ?_
          rintro ⟨rfl, hr4_1⟩
          refine D.eff hwf (e := 15) rfl rfl rfl rfl (Ef.call call34 rfl rfl (Does.pre (fun w hw => hw.sub (Sub.keep 0 rfl (Sub.keep 0 rfl (Sub.keep 0 rfl (Sub.keep 0 rfl (Sub.keep 0 rfl (Sub.keep 0 rfl (Sub.keep 0 rfl (Sub.refl _))))))))) (l01Pick_ok _ _ _ s ([(2 : Int), v, (v - (1 : Int))] : List Int) _ _ w0 _ (Ld.own 1 (by exact rfl)) (by first | omega | (simp only [tops_len, conts_len, bl, List.length_append, List.length_cons, List.length_nil] at *; omega)) (by first | assumption | omega | (try dsimp only at *; omega)) (by first | assumption | omega | (try dsimp only at *; omega)) (by first | (simp; done) | omega)))) rfl rfl rfl ?_
          rintro _ _ rfl hs
          refine ⟨fun w hw => hw.tail.sub (Sub.keep 3 rfl (Sub.keep 3 rfl (Sub.keep 3 rfl (Sub.drop (Sub.drop (Sub.drop (Sub.refl _))))))), ?_⟩
          refine D.exi (fun r5 => ?_)
          refine D.sep ?_
          refine D.pur1 ?_
          rintro ⟨rfl, hr5_1⟩
          refine D.p 16 rfl rfl rfl rfl rfl rfl (Pu.buildA (cs := [.int .i64 r3, .int .i64 r4, .int .i64 r5]) (v := B3.v (r3, r4, r5)) rfl rfl Try.underlying56 zr56 sz2 rfl (by kernel_rfl)) ?_
          refine D.eff hwf (e := 17) rfl rfl rfl rfl (Ef.build B3C ([(r3, r4, r5)] : List B3) rfl Try.underlying24 inf56 rfl rfl rfl (by first | decide | (simp; done)) (by kernel_rfl)) rfl rfl rfl ?_
          rintro _ _ ⟨A6, hA6, rfl, rfl⟩ hs
          refine ⟨fun w hw => hw.sub (Sub.keep 5 rfl (Sub.keep 5 rfl (Sub.keep 5 rfl (Sub.drop (Sub.drop (Sub.drop (Sub.drop (Sub.drop (Sub.refl _))))))))), ?_⟩
          refine D.eff hwf (e := 18) rfl rfl rfl rfl (Ef.append (xs := (([] : List B3) ++ bs)) (ys := ([(r3, r4, r5)] : List B3)) 4 rfl Try.underlying24 inf56 rfl rfl rfl rfl rfl rfl hA6 (Ld.own 0 (by exact rfl)) (by simp only [List.length_append, List.length_cons, List.length_nil] at *; omega) (by decide)) rfl rfl rfl ?_
          rintro _ _ ⟨A7, k2, rfl, rfl, hA7⟩ hs
          replace hA7 := hA7 (.inr (by simp))
          refine ⟨fun w hw => hw.sub (Sub.keep 5 rfl (Sub.keep 5 rfl (Sub.keep 5 rfl (Sub.drop (Sub.drop (Sub.drop (Sub.drop (Sub.drop (Sub.refl _))))))))), ?_⟩
          refine D.last hwf (e := 19) rfl rfl rfl rfl rfl rfl (Pu.assign rfl rfl) ?_
          refine X.blockNormal ?_
          refine X.next ?_
          refine V.seq ?_
          refine V.region ?_
          refine O.p rfl rfl rfl (Pu.fieldAddr 0 rfl Try.underlying26 rfl sz2 rfl rfl) ?_
          refine O.p rfl rfl rfl (Pu.load rfl pl2 rfl (Ld.blk 6 rfl rfl)) ?_
          refine O.p rfl rfl rfl (Pu.move rfl rfl) ?_
          refine O.p rfl rfl rfl (Pu.buildS (cs := [.int .i64 v, .slice A7 (((([] : List B3) ++ bs) ++ ([(r3, r4, r5)] : List B3)).length) k2]) rfl rfl Try.underlying26 zr26 (by kernel_rfl) rfl (by kernel_rfl)) ?_
          refine O.s rfl rfl (Ef.storeAll 5 rfl sz26 rfl rfl rfl rfl (by simp [Value.oneCell']) rfl) ?_
          rintro _ _ rfl
          refine O.nil ?_
          refine X.next ?_
          refine V.ret ?_
          refine X.retCell rfl ag26 sz26 rfl rfl (Ld.whole 5 rfl) ?_
          exact fun w hw => St.mkExi v (St.mkExi A7 (St.mkExi k2 (St.mkExi ((([] : List B3) ++ bs) ++ ([(r3, r4, r5)] : List B3)) (St.unsep (St.addPur ⟨(by first | rfl | (simp only [List.length_set])), by omega, by first | omega | (simp only [List.length_append, List.length_cons, List.length_nil, List.length_set]; omega)⟩ (St.unsep (hw.sub (Sub.keep 4 rfl (Sub.keep 1 rfl (Sub.drop (Sub.drop (Sub.drop (Sub.drop (Sub.drop (Sub.drop (Sub.refl _))))))))))))))))
        · skip
          refine ⟨_, _, rfl, rfl, fun _ _ => wanted_none rfl _, Ef.build I64 ([(1 : Int), (2 : Int), v] : List Int) rfl Try.underlying34 inf2 rfl rfl rfl (by first | decide | (simp; done)) (by kernel_rfl), rfl, rfl, ?_⟩
          rintro _ _ ⟨A5, hA5, rfl, rfl⟩ hs
          refine ⟨fun w hw => hw.sub (Sub.keep 4 rfl (Sub.keep 4 rfl (Sub.keep 4 rfl (Sub.drop (Sub.drop (Sub.drop (Sub.drop (Sub.refl _)))))))), ?_⟩
          refine D.eff hwf (e := 2) rfl rfl rfl rfl (Ef.call call35 rfl rfl (Does.pre (fun w hw => hw.sub (Sub.keep 2 rfl (Sub.keep 0 rfl (Sub.keep 0 rfl (Sub.keep 0 rfl (Sub.keep 0 rfl (Sub.keep 0 rfl (Sub.keep 0 rfl (Sub.refl _))))))))) (l01Next_ok _ _ _ s (3 : Int) w0 _   (by first | assumption | omega | (try dsimp only at *; omega)) (by first | assumption | omega | (try dsimp only at *; omega))))) rfl rfl rfl ?_
          rintro _ _ rfl hs
          refine ⟨fun w hw => hw.tail.sub (Sub.keep 3 rfl (Sub.keep 3 rfl (Sub.keep 3 rfl (Sub.drop (Sub.drop (Sub.drop (Sub.refl _))))))), ?_⟩
          refine D.exi (fun r3 => ?_)
          refine D.sep ?_
          refine D.pur1 ?_
          rintro ⟨rfl, hr3_1, hr3_2, hr3_3⟩
          refine D.eff hwf (e := 7) rfl rfl rfl rfl (Ef.call call34 rfl rfl (Does.pre (fun w hw => hw.sub (Sub.keep 0 rfl (Sub.keep 0 rfl (Sub.keep 0 rfl (Sub.keep 0 rfl (Sub.keep 0 rfl (Sub.keep 0 rfl (Sub.keep 0 rfl (Sub.refl _))))))))) (l01Pick_ok _ _ _ s ([(1 : Int), (2 : Int), v] : List Int) _ _ w0 _ (Ld.own 0 (by exact rfl)) (by first | omega | (simp only [tops_len, conts_len, bl, List.length_append, List.length_cons, List.length_nil] at *; omega)) (by first | assumption | omega | (try dsimp only at *; omega)) (by first | assumption | omega | (try dsimp only at *; omega)) (by first | (simp; done) | omega)))) rfl rfl rfl ?_
          rintro _ _ rfl hs
          refine ⟨fun w hw => hw.tail.sub (Sub.keep 3 rfl (Sub.keep 3 rfl (Sub.keep 3 rfl (Sub.drop (Sub.drop (Sub.drop (Sub.refl _))))))), ?_⟩
          refine D.exi (fun r4 => ?_)
          refine D.sep ?_
          refine D.pur1 ?_
          rintro ⟨rfl, hr4_1⟩
          refine D.eff hwf (e := 15) rfl rfl rfl rfl (Ef.call call34 rfl rfl (Does.pre (fun w hw => hw.sub (Sub.keep 0 rfl (Sub.keep 0 rfl (Sub.keep 0 rfl (Sub.keep 0 rfl (Sub.keep 0 rfl (Sub.keep 0 rfl (Sub.keep 0 rfl (Sub.refl _))))))))) (l01Pick_ok _ _ _ s ([(2 : Int), v, (v - (1 : Int))] : List Int) _ _ w0 _ (Ld.own 1 (by exact rfl)) (by first | omega | (simp only [tops_len, conts_len, bl, List.length_append, List.length_cons, List.length_nil] at *; omega)) (by first | assumption | omega | (try dsimp only at *; omega)) (by first | assumption | omega | (try dsimp only at *; omega)) (by first | (simp; done) | omega)))) rfl rfl rfl ?_
          rintro _ _ rfl hs
          refine ⟨fun w hw => hw.tail.sub (Sub.keep 3 rfl (Sub.keep 3 rfl (Sub.keep 3 rfl (Sub.drop (Sub.drop (Sub.drop (Sub.refl _))))))), ?_⟩
          refine D.exi (fun r5 => ?_)
          refine D.sep ?_
          refine D.pur1 ?_
          rintro ⟨rfl, hr5_1⟩
          refine D.p 16 rfl rfl rfl rfl rfl rfl (Pu.buildA (cs := [.int .i64 r3, .int .i64 r4, .int .i64 r5]) (v := B3.v (r3, r4, r5)) rfl rfl Try.underlying56 zr56 sz2 rfl (by kernel_rfl)) ?_
          refine D.eff hwf (e := 17) rfl rfl rfl rfl (Ef.build B3C ([(r3, r4, r5)] : List B3) rfl Try.underlying24 inf56 rfl rfl rfl (by first | decide | (simp; done)) (by kernel_rfl)) rfl rfl rfl ?_
          rintro _ _ ⟨A6, hA6, rfl, rfl⟩ hs
          refine ⟨fun w hw => hw.sub (Sub.keep 5 rfl (Sub.keep 5 rfl (Sub.keep 5 rfl (Sub.drop (Sub.drop (Sub.drop (Sub.drop (Sub.drop (Sub.refl _))))))))), ?_⟩
          refine D.eff hwf (e := 18) rfl rfl rfl rfl (Ef.append (xs := (([] : List B3) ++ bs)) (ys := ([(r3, r4, r5)] : List B3)) 4 rfl Try.underlying24 inf56 rfl rfl rfl rfl rfl rfl hA6 (Ld.own 0 (by exact rfl)) (by simp only [List.length_append, List.length_cons, List.length_nil] at *; omega) (by decide)) rfl rfl rfl ?_
          rintro _ _ ⟨A7, k2, rfl, rfl, hA7⟩ hs
          replace hA7 := hA7 (.inr (by simp))
          refine ⟨fun w hw => hw.sub (Sub.keep 5 rfl (Sub.keep 5 rfl (Sub.keep 5 rfl (Sub.drop (Sub.drop (Sub.drop (Sub.drop (Sub.drop (Sub.refl _))))))))), ?_⟩
          refine D.last hwf (e := 19) rfl rfl rfl rfl rfl rfl (Pu.assign rfl rfl) ?_
          refine X.blockNormal ?_
          refine X.next ?_
          refine V.seq ?_
          refine V.region ?_
          refine O.p rfl rfl rfl (Pu.fieldAddr 0 rfl Try.underlying26 rfl sz2 rfl rfl) ?_
          refine O.p rfl rfl rfl (Pu.load rfl pl2 rfl (Ld.blk 6 rfl rfl)) ?_
          refine O.p rfl rfl rfl (Pu.move rfl rfl) ?_
          refine O.p rfl rfl rfl (Pu.buildS (cs := [.int .i64 v, .slice A7 (((([] : List B3) ++ bs) ++ ([(r3, r4, r5)] : List B3)).length) k2]) rfl rfl Try.underlying26 zr26 (by kernel_rfl) rfl (by kernel_rfl)) ?_
          refine O.s rfl rfl (Ef.storeAll 5 rfl sz26 rfl rfl rfl rfl (by simp [Value.oneCell']) rfl) ?_
          rintro _ _ rfl
          refine O.nil ?_
          refine X.next ?_
          refine V.ret ?_
          refine X.retCell rfl ag26 sz26 rfl rfl (Ld.whole 5 rfl) ?_
          exact fun w hw => St.mkExi v (St.mkExi A7 (St.mkExi k2 (St.mkExi ((([] : List B3) ++ bs) ++ ([(r3, r4, r5)] : List B3)) (St.unsep (St.addPur ⟨(by first | rfl | (simp only [List.length_set])), by omega, by first | omega | (simp only [List.length_append, List.length_cons, List.length_nil, List.length_set]; omega)⟩ (St.unsep (hw.sub (Sub.keep 4 rfl (Sub.keep 1 rfl (Sub.drop (Sub.drop (Sub.drop (Sub.drop (Sub.drop (Sub.drop (Sub.refl _))))))))))))))))
    · skip
      refine V.seq ?_
      refine V.region ?_
      refine O.p rfl rfl rfl (Pu.eql rfl rfl rfl) ?_
      refine O.p rfl rfl rfl (Pu.assign rfl rfl) ?_
      refine O.nil ?_
      refine X.next ?_
      refine V.condD rfl (fun c3 => ?_) (fun c3 => ?_)
      · skip
        refine V.seq ?_
        refine V.region ?_
        refine O.p rfl rfl rfl (Pu.move rfl rfl) ?_
        refine O.p rfl rfl rfl (Pu.len rfl Try.underlying24 rfl) ?_
        refine O.p rfl rfl rfl (Pu.gtr rfl rfl rfl) ?_
        refine O.nil ?_
        refine X.next ?_
        refine V.condD rfl (fun c4 => ?_) (fun c4 => ?_)
        · skip
          refine V.seq ?_
          refine V.region ?_
          refine O.p rfl rfl rfl (Pu.move rfl rfl) ?_
          refine O.p rfl rfl rfl (Pu.indexAddr (0) rfl Try.underlying24 sz56 rfl rfl (by omega) (by omega) hA2) ?_
          have e1 : 0 < (([] : List B3) ++ bs).length := by omega
          refine O.p rfl rfl rfl (Pu.loadAgg' (v := B3.v ((([] : List B3) ++ bs)[0]'e1)) rfl rfl ag56 sz56 rfl rfl (Ld.rds (C := B3C) (Ld.own 1 (by exact rfl)) (k := 0) e1 rfl)) ?_
          refine O.e rfl rfl rfl (Ef.alloc rfl zr56 rfl) ?_
          rintro _ _ ⟨b3, rfl, rfl⟩
          refine O.s rfl rfl (Ef.storeAll 0 rfl sz56 rfl rfl rfl rfl (by simp [Value.oneCell']) rfl) ?_
          rintro _ _ rfl
          refine O.nil ?_
          refine X.next ?_
          refine V.seq ?_
          refine V.region ?_
          refine O.p rfl rfl rfl (Pu.move rfl rfl) ?_
          refine O.p rfl rfl rfl (Pu.move rfl rfl) ?_
          refine O.p rfl rfl rfl (Pu.indexAddr (1) rfl Try.underlying24 sz56 rfl rfl (by omega) (by omega) hA2) ?_
          have e2 : 1 < (([] : List B3) ++ bs).length := by omega
          refine O.p rfl rfl rfl (Pu.loadAgg' (v := B3.v ((([] : List B3) ++ bs)[1]'e2)) rfl rfl ag56 sz56 rfl rfl (Ld.rds (C := B3C) (Ld.own 2 (by exact rfl)) (k := 1) e2 rfl)) ?_
          refine O.p rfl rfl rfl (Pu.indexAddr (0) rfl Try.underlying24 sz56 rfl rfl (by omega) (by omega) hA2) ?_
          refine O.s rfl rfl (Ef.storeOwn 2 (0) ((([] : List B3) ++ bs)[1]'e2) rfl sz56 rfl rfl rfl rfl (by first | omega | (rw [List.length_set]; omega)) rfl) ?_
          rintro _ _ rfl
          refine O.nil ?_
          refine X.next ?_
          refine V.region ?_
          refine O.p rfl rfl rfl (Pu.move rfl rfl) ?_
          refine O.p rfl rfl rfl (Pu.loadAgg' (v := B3.v ((([] : List B3) ++ bs)[0]'e1)) rfl rfl ag56 sz56 rfl rfl (Ld.whole 0 rfl)) ?_
          refine O.p rfl rfl rfl (Pu.indexAddr (1) rfl Try.underlying24 sz56 rfl rfl (by omega) (by omega) hA2) ?_
          refine O.s rfl rfl (Ef.storeOwn 2 (1) ((([] : List B3) ++ bs)[0]'e1) rfl sz56 rfl rfl rfl rfl (by first | omega | (rw [List.length_set]; omega)) rfl) ?_
          rintro _ _ rfl
          refine O.nil ?_
          refine X.blockNormal ?_
          refine X.next ?_
          refine V.seq ?_
          refine V.region ?_
          refine O.p rfl rfl rfl (Pu.fieldAddr 0 rfl Try.underlying26 rfl sz2 rfl rfl) ?_
          refine O.p rfl rfl rfl (Pu.load rfl pl2 rfl (Ld.blk 4 rfl rfl)) ?_
          refine O.p rfl rfl rfl (Pu.move rfl rfl) ?_
          refine O.p rfl rfl rfl (Pu.buildS (cs := [.int .i64 v, .slice A2 ((([] : List B3) ++ bs).length) k1]) rfl rfl Try.underlying26 zr26 (by kernel_rfl) rfl (by kernel_rfl)) ?_
          refine O.s rfl rfl (Ef.storeAll 3 rfl sz26 rfl rfl rfl rfl (by simp [Value.oneCell']) rfl) ?_
          rintro _ _ rfl
          refine O.nil ?_
          refine X.next ?_
          refine V.ret ?_
          refine X.retCell rfl ag26 sz26 rfl rfl (Ld.whole 3 rfl) ?_
          exact fun w hw => St.mkExi v (St.mkExi A2 (St.mkExi k1 (St.mkExi (((([] : List B3) ++ bs).set (0) ((([] : List B3) ++ bs)[1]'e2)).set (1) ((([] : List B3) ++ bs)[0]'e1)) (St.unsep (St.addPur ⟨(by first | rfl | (simp only [List.length_set])), by omega, by first | omega | (simp only [List.length_append, List.length_cons, List.length_nil, List.length_set]; omega)⟩ (St.unsep (hw.sub (Sub.keep 2 rfl (Sub.keep 1 rfl (Sub.drop (Sub.drop (Sub.drop (Sub.drop (Sub.refl _))))))))))))))
        · skip
          refine V.skip ?_
          refine X.blockNormal ?_
          refine X.next ?_
          refine V.seq ?_
          refine V.region ?_
          refine O.p rfl rfl rfl (Pu.fieldAddr 0 rfl Try.underlying26 rfl sz2 rfl rfl) ?_
          refine O.p rfl rfl rfl (Pu.load rfl pl2 rfl (Ld.blk 3 rfl rfl)) ?_
          refine O.p rfl rfl rfl (Pu.move rfl rfl) ?_
          refine O.p rfl rfl rfl (Pu.buildS (cs := [.int .i64 v, .slice A2 ((([] : List B3) ++ bs).length) k1]) rfl rfl Try.underlying26 zr26 (by kernel_rfl) rfl (by kernel_rfl)) ?_
          refine O.s rfl rfl (Ef.storeAll 2 rfl sz26 rfl rfl rfl rfl (by simp [Value.oneCell']) rfl) ?_
          rintro _ _ rfl
          refine O.nil ?_
          refine X.next ?_
          refine V.ret ?_
          refine X.retCell rfl ag26 sz26 rfl rfl (Ld.whole 2 rfl) ?_
          exact fun w hw => St.mkExi v (St.mkExi A2 (St.mkExi k1 (St.mkExi (([] : List B3) ++ bs) (St.unsep (St.addPur ⟨(by first | rfl | (simp only [List.length_set])), by omega, by first | omega | (simp only [List.length_append, List.length_cons, List.length_nil, List.length_set]; omega)⟩ (St.unsep (hw.sub (Sub.keep 1 rfl (Sub.keep 0 rfl (Sub.drop (Sub.drop (Sub.drop (Sub.refl _)))))))))))))
      · skip
        refine V.seq ?_
        refine V.region ?_
        refine O.p rfl rfl rfl (Pu.loadAgg rfl ag26 sz26 rfl rfl (Ld.whole 3 rfl)) ?_
        refine O.s rfl rfl (Ef.storeAll 2 rfl sz26 rfl rfl rfl rfl (by simp [Value.oneCell']) rfl) ?_
        rintro _ _ rfl
        refine O.nil ?_
        refine X.next ?_
        refine V.ret ?_
        refine X.blockRet ?_
        refine X.thenRet ?_
        refine X.retCell rfl ag26 sz26 rfl rfl (Ld.whole 2 rfl) ?_
        exact fun w hw => St.mkExi v (St.mkExi A (St.mkExi c (St.mkExi bs (St.unsep (St.addPur ⟨(by first | rfl | (simp only [List.length_set])), by omega, by first | omega | (simp only [List.length_append, List.length_cons, List.length_nil, List.length_set]; omega)⟩ (St.unsep (hw.sub (Sub.keep 4 rfl (Sub.keep 0 rfl (Sub.drop (Sub.drop (Sub.drop (Sub.refl _)))))))))))))
set_option maxRecDepth 100000 in
set_option maxHeartbeats 1000000 in
theorem l01Spoil_ok (cA : Option Addr) (cc : Nat) (code : List UInt8) (s : Nat) (w0 : World) (H : List Assn) (hc : Rd U8C w0 cA code) (lc : code.length ≤ 1048576) : Does Try.prog 42 [.pointer (some ⟨s, 0, none⟩)] w0 (SrcK 73 cA cc code s :: H) (fun rv_ => [.exi fun (pv : Int) => .exi fun (rA : Option Addr) => .exi fun (rc : Nat) => .exi fun (r : List B3) => .sep (.pur (rv_ = .agg #[.int .i64 pv, .slice rA r.length rc] ∧ (-1 ≤ pv ∧ pv ≤ 16) ∧ r.length ≤ 4200)) (.sep (Own 56 B3C rA rc r) (SrcK 73 cA cc code s))] ++ H) := by
  refine Does.enter Try.func42 rfl rfl [(0, .pointer (some ⟨s, 0, none⟩))] rfl ?_
  refine V.seq ?_
  refine V.region ?_
  refine O.e rfl rfl rfl (Ef.alloc rfl zr26 rfl) ?_
  rintro _ _ ⟨b1, rfl, rfl⟩
  refine O.nil ?_
  refine X.next ?_
  refine V.seq ?_
  refine V.region ?_
  refine O.p rfl rfl rfl (Pu.move rfl rfl) ?_
  refine O.p rfl rfl rfl (Pu.move rfl rfl) ?_
  refine O.e rfl rfl rfl (Ef.call call57 rfl rfl (Does.pre (fun w hw => hw.sub (Sub.keep 1 rfl (Sub.keep 0 rfl (Sub.refl _)))) (l01Draw_ok _ _ _ s w0 _   (by first | assumption | omega | (try dsimp only at *; omega)) (by first | assumption | omega | (try dsimp only at *; omega))))) ?_
  rintro _ _ rfl
  refine O.exi (fun pv1 => ?_)
  refine O.exi (fun r1A => ?_)
  refine O.exi (fun r1c => ?_)
  refine O.exi (fun r1 => ?_)
  refine O.sep ?_
  refine O.pur ?_
  rintro ⟨rfl, hpv1_1⟩
  refine O.sep ?_
  refine O.e rfl rfl rfl (Ef.call call56 rfl rfl (Does.pre (fun w hw => hw.sub (Sub.keep 1 rfl (Sub.keep 0 rfl (Sub.keep 0 rfl (Sub.refl _))))) (l01Bad_ok _ _ _ s pv1 r1 _ _ w0 _   (by first | assumption | omega | (try dsimp only at *; omega)) (by first | assumption | omega | (try dsimp only at *; omega)) (by first | assumption | omega | (try dsimp only at *; omega))))) ?_
  rintro _ _ rfl
  refine O.exi (fun pv2 => ?_)
  refine O.exi (fun r2A => ?_)
  refine O.exi (fun r2c => ?_)
  refine O.exi (fun r2 => ?_)
  refine O.sep ?_
  refine O.pur ?_
  rintro ⟨rfl, hpv2_1, hpv2_2⟩
  refine O.sep ?_
  refine O.s rfl rfl (Ef.storeAll 2 rfl sz26 rfl rfl rfl rfl (by simp [Value.oneCell']) rfl) ?_
  rintro _ _ rfl
  refine O.nil ?_
  refine X.next ?_
  refine V.ret ?_
  refine X.retCell rfl ag26 sz26 rfl rfl (Ld.whole 2 rfl) ?_
  exact fun w hw => St.mkExi pv2 (St.mkExi r2A (St.mkExi r2c (St.mkExi r2 (St.unsep (St.addPur ⟨rfl, hpv2_1, hpv2_2⟩ (St.unsep (hw.sub (Sub.keep 0 rfl (Sub.keep 0 rfl (Sub.drop (Sub.refl _)))))))))))
set_option maxRecDepth 100000 in
set_option maxHeartbeats 1000000 in
theorem l10Draw_ok (cA : Option Addr) (cc : Nat) (code : List UInt8) (s : Nat) (w0 : World) (H : List Assn) (hc : Rd U8C w0 cA code) (lc : code.length ≤ 1048576) : Does Try.prog 24 [.pointer (some ⟨s, 0, none⟩)] w0 (SrcK 73 cA cc code s :: H) (fun rv_ => [.exi fun (pv : Int) => .exi fun (rA : Option Addr) => .exi fun (rc : Nat) => .exi fun (r : List B3) => .sep (.pur (rv_ = .agg #[.int .i64 pv, .slice rA r.length rc] ∧ r.length ≤ 4200)) (.sep (Own 56 B3C rA rc r) (SrcK 73 cA cc code s))] ++ H) := by
  refine Does.enter Try.func24 rfl rfl [(0, .pointer (some ⟨s, 0, none⟩))] rfl ?_
  refine V.seq ?_
  refine V.region ?_
  refine O.e rfl rfl rfl (Ef.alloc rfl zr26 rfl) ?_
  rintro _ _ ⟨b1, rfl, rfl⟩
  refine O.nil ?_
  refine X.next ?_
  refine V.seq ?_
  refine V.region ?_
  refine O.e rfl rfl rfl (Ef.build StrC ([(ByteArray.mk #[115, 105, 110, 103, 108, 101]), (ByteArray.mk #[102, 97, 110, 111]), (ByteArray.mk #[102, 97, 110, 111]), (ByteArray.mk #[97, 102, 102, 105, 110, 101])] : List ByteArray) rfl Try.underlying70 inf9 rfl rfl rfl (by first | decide | (simp; done)) (by kernel_rfl)) ?_
  rintro _ _ ⟨A1, hA1, rfl, rfl⟩
  refine O.p rfl rfl rfl (Pu.move rfl rfl) ?_
  refine O.e rfl rfl rfl (Ef.call call35 rfl rfl (Does.pre (fun w hw => hw.sub (Sub.keep 2 rfl (Sub.keep 0 rfl (Sub.keep 0 rfl (Sub.refl _))))) (l01Next_ok _ _ _ s (4 : Int) w0 _   (by first | assumption | omega | (try dsimp only at *; omega)) (by first | assumption | omega | (try dsimp only at *; omega))))) ?_
  rintro _ _ rfl
  refine O.exi (fun r1 => ?_)
  refine O.sep ?_
  refine O.pur ?_
  rintro ⟨rfl, hr1_1, hr1_2, hr1_3⟩
  refine O.p rfl rfl rfl (Pu.indexAddr ((r1).toNat) rfl Try.underlying70 sz9 rfl rfl (by omega) (by simp only [List.length_cons, List.length_nil]; omega) hA1) ?_
  have e1 : (r1).toNat < ([(ByteArray.mk #[115, 105, 110, 103, 108, 101]), (ByteArray.mk #[102, 97, 110, 111]), (ByteArray.mk #[102, 97, 110, 111]), (ByteArray.mk #[97, 102, 102, 105, 110, 101])] : List ByteArray).length := by simp only [List.length_cons, List.length_nil]; omega
  refine O.p rfl rfl rfl (Pu.load rfl pl9 rfl (Ld.rd (Ld.own 1 (by exact rfl)) (k := (r1).toNat) e1 rfl rfl)) ?_
  refine O.e rfl rfl rfl (Ef.call1 call48 rfl rfl (fun w hw => l01NamedAny_ok  (([(ByteArray.mk #[115, 105, 110, 103, 108, 101]), (ByteArray.mk #[102, 97, 110, 111]), (ByteArray.mk #[102, 97, 110, 111]), (ByteArray.mk #[97, 102, 102, 105, 110, 101])] : List ByteArray)[(r1).toNat]'e1) w   (nm4 _ (List.getElem_mem _)))) ?_
  rintro _ _ rfl
  refine O.exi (fun pv1 => ?_)
  refine O.exi (fun r2A => ?_)
  refine O.exi (fun r2c => ?_)
  refine O.exi (fun r2 => ?_)
  refine O.sep ?_
  refine O.pur ?_
  rintro ⟨rfl, hpv1_1⟩
  have hDn := hpv1_1
  have hvn := hDn.1
  have hln := hDn.2.2
  refine O.p rfl rfl rfl (Pu.move rfl rfl) ?_
  refine O.p rfl rfl rfl (Pu.extract rfl rfl rfl) ?_
  refine O.p rfl rfl rfl (Pu.extract rfl rfl rfl) ?_
  refine O.e rfl rfl rfl (Ef.alloc rfl zr26 rfl) ?_
  rintro _ _ ⟨b2, rfl, rfl⟩
  refine O.s rfl rfl (Ef.storeAll 0 rfl sz26 rfl rfl rfl rfl (by simp [Value.oneCell']) rfl) ?_
  rintro _ _ rfl
  refine O.p rfl rfl rfl (Pu.assign rfl rfl) ?_
  refine O.nil ?_
  refine X.next ?_
  refine V.seq ?_
  refine V.seq ?_
  refine V.region ?_
  refine O.p rfl rfl rfl (Pu.move rfl rfl) ?_
  refine O.e rfl rfl rfl (Ef.call call35 rfl rfl (Does.pre (fun w hw => hw.sub (Sub.keep 2 rfl (Sub.keep 0 rfl (Sub.keep 0 rfl (Sub.keep 0 rfl (Sub.keep 0 rfl (Sub.refl _))))))) (l01Next_ok _ _ _ s (12 : Int) w0 _   (by first | assumption | omega | (try dsimp only at *; omega)) (by first | assumption | omega | (try dsimp only at *; omega))))) ?_
  rintro _ _ rfl
  refine O.exi (fun r3 => ?_)
  refine O.sep ?_
  refine O.pur ?_
  rintro ⟨rfl, hr3_1, hr3_2, hr3_3⟩
  refine O.p rfl rfl rfl (Pu.eql rfl rfl rfl) ?_
  refine O.nil ?_
  refine X.next ?_
  refine V.condD rfl (fun c1 => ?_) (fun c1 => ?_)
  · skip
    refine V.seq ?_
    refine V.region ?_
    refine O.p rfl rfl rfl (Pu.move rfl rfl) ?_
    refine O.e rfl rfl rfl (Ef.call call42 rfl rfl (Does.pre (fun w hw => hw.sub (Sub.keep 0 rfl (Sub.keep 0 rfl (Sub.keep 0 rfl (Sub.keep 0 rfl (Sub.keep 0 rfl (Sub.refl _))))))) (l01Spoil_ok _ _ _ s w0 _   (by first | assumption | omega | (try dsimp only at *; omega)) (by first | assumption | omega | (try dsimp only at *; omega))))) ?_
    rintro _ _ rfl
    refine O.exi (fun pv2 => ?_)
    refine O.exi (fun r4A => ?_)
    refine O.exi (fun r4c => ?_)
    refine O.exi (fun r4 => ?_)
    refine O.sep ?_
    refine O.pur ?_
    rintro ⟨rfl, hpv2_1, hpv2_2⟩
    refine O.sep ?_
    refine O.s rfl rfl (Ef.storeAll 5 rfl sz26 rfl rfl rfl rfl (by simp [Value.oneCell']) rfl) ?_
    rintro _ _ rfl
    refine O.nil ?_
    refine X.next ?_
    refine V.ret ?_
    refine X.thenRet ?_
    refine X.retCell rfl ag26 sz26 rfl rfl (Ld.whole 5 rfl) ?_
    exact fun w hw => St.mkExi pv2 (St.mkExi r4A (St.mkExi r4c (St.mkExi r4 (St.unsep (St.addPur ⟨rfl, by first | omega | (have := hDr.2.2; omega)⟩ (St.unsep (hw.sub (Sub.keep 0 rfl (Sub.keep 0 rfl (Sub.drop (Sub.drop (Sub.drop (Sub.drop (Sub.refl _))))))))))))))
  · skip
    refine V.skip ?_
    refine X.next ?_
    refine V.seq ?_
    refine V.drawS mo (by kernel_rfl) (Sub.keep 1 rfl (Sub.keep 1 rfl (Sub.keep 1 rfl (Sub.keep 1 rfl (Sub.drop (Sub.refl _)))))) (fun hwf => ?_)
    refine D.p 0 rfl rfl rfl rfl rfl rfl (Pu.loadAgg rfl ag26 sz26 rfl rfl (Ld.whole 0 rfl)) ?_
    refine D.p 1 rfl rfl rfl rfl rfl rfl (Pu.move rfl rfl) ?_
    refine D.p 2 rfl rfl rfl rfl rfl rfl (Pu.fieldAddr 0 rfl Try.underlying26 rfl sz2 rfl rfl) ?_
    refine D.p 3 rfl rfl rfl rfl rfl rfl (Pu.load rfl pl2 rfl (Ld.blk 0 rfl rfl)) ?_
    refine D.eff hwf (e := 4) rfl rfl rfl rfl (Ef.call call45 rfl rfl (Does.pre (fun w hw => hw.sub (Sub.keep 0 rfl (Sub.keep 0 rfl (Sub.keep 0 rfl (Sub.keep 0 rfl (Sub.keep 0 rfl (Sub.refl _))))))) (l01DrawOrder_ok _ _ _ s pv1 w0 _   (by first | assumption | omega | (try dsimp only at *; omega)) (by first | assumption | omega | (try dsimp only at *; omega)) (by omega)))) rfl rfl rfl ?_
    rintro _ _ rfl hs
    refine ⟨fun w hw => hw.tail.sub (Sub.keep 0 rfl (Sub.keep 0 rfl (Sub.keep 0 rfl (Sub.keep 0 rfl (Sub.refl _))))), ?_⟩
    refine D.exi (fun r5A => ?_)
    refine D.exi (fun r5c => ?_)
    refine D.exi (fun r5 => ?_)
    refine D.sep ?_
    refine D.pur1 ?_
    rintro ⟨rfl, hr5_1⟩
    refine D.sep ?_
    have hol := hr5_1.1
    refine D.eff hwf (e := 5) rfl rfl rfl rfl (Ef.call1 call44 rfl rfl (fun w hw => l01RenamedD_ok  pv1 r2 r5 _ _ _ _ w ((Ld.own 3 (by exact rfl)) w hw) ((Ld.own 0 (by exact rfl)) w hw) (by first | omega | (simp only [tops_len, conts_len, bl, List.length_append, List.length_cons, List.length_nil] at *; omega)) (by first | omega | (simp only [tops_len, conts_len, bl, List.length_append, List.length_cons, List.length_nil] at *; omega)) (by rw [hr5_1.1]; exact hDn.2.1) (by omega) (fun q hq => by have := hr5_1.2.2 q hq; omega))) rfl rfl rfl ?_
    rintro _ _ rfl hs
    refine ⟨fun w hw => hs w hw.tail, ?_⟩
    refine D.exi (fun r6A => ?_)
    refine D.exi (fun r6c => ?_)
    refine D.exi (fun r6 => ?_)
    refine D.sep ?_
    refine D.pur1 ?_
    rintro ⟨rfl, hr6_1, hr6_2⟩
    have hDr := hDn.ren hr5_1 hr6_1
    refine D.effX (Hs' := []) hwf (e := 6) rfl rfl rfl rfl (Ef.storeAll 6 rfl sz26 rfl rfl rfl rfl (by simp [Value.oneCell']) rfl) rfl [] rfl (List.forall_mem_nil _) ?_
    rintro _ _ rfl
    refine ⟨fun w hw => hw.sub (Sub.nil _), ?_⟩
    refine D.done hwf rfl ?_
    refine X.next ?_
    refine V.ret ?_
    refine X.retCell rfl ag26 sz26 rfl rfl (Ld.whole 6 rfl) ?_
    exact fun w hw => St.mkExi pv1 (St.mkExi r6A (St.mkExi r6c (St.mkExi r6 (St.unsep (St.addPur ⟨rfl, by first | omega | (have := hDr.2.2; omega)⟩ (St.unsep (hw.sub (Sub.keep 0 rfl (Sub.keep 1 rfl (Sub.drop (Sub.drop (Sub.drop (Sub.drop (Sub.drop (Sub.refl _)))))))))))))))
set_option maxRecDepth 100000 in
set_option maxHeartbeats 1000000 in
theorem DrawNumberOfSystem_ok (code : List UInt8) (codeA : Option Addr) (codec : Nat) (w : World) (hcode : Rd U8C w codeA code) (lcode : code.length ≤ 1099511627776) (lc : code.length ≤ 1048576) : Does Try.prog 5 [.slice codeA code.length codec] w [] (fun rv_ => [.exi fun (pv : Int) => .exi fun (rA : Option Addr) => .exi fun (rc : Nat) => .exi fun (r : List B3) => .sep (.pur (rv_ = .agg #[.int .i64 pv, .slice rA r.length rc] ∧ r.length ≤ 4200)) (Own 56 B3C rA rc r)]) := by
  refine Does.enter Try.func5 rfl rfl [(0, .slice codeA code.length codec)] rfl ?_
  refine V.seq ?_
  refine V.region ?_
  refine O.e rfl rfl rfl (Ef.alloc rfl zr26 rfl) ?_
  rintro _ _ ⟨b1, rfl, rfl⟩
  refine O.nil ?_
  refine X.next ?_
  refine V.seq ?_
  refine V.region ?_
  refine O.p rfl rfl rfl (Pu.move rfl rfl) ?_
  refine O.e rfl rfl rfl (Ef.call1 call25 rfl rfl (fun w hw => l01From_ok  code _ _ w ((Ld.old hcode) w hw) (by first | omega | (simp only [tops_len, conts_len, bl, List.length_append, List.length_cons, List.length_nil] at *; omega)) (by first | assumption | omega | (try dsimp only at *; omega)))) ?_
  rintro _ _ rfl
  refine O.exi (fun s1 => ?_)
  refine O.sep ?_
  refine O.pur ?_
  rintro rfl
  refine O.e rfl rfl rfl (Ef.call call24 rfl rfl (Does.pre (fun w hw => hw.sub (Sub.keep 0 rfl (Sub.keep 0 rfl (Sub.nil _)))) (l10Draw_ok _ _ _ s1 w _   (by first | assumption | omega | (try dsimp only at *; omega)) (by first | assumption | omega | (try dsimp only at *; omega))))) ?_
  rintro _ _ rfl
  refine O.exi (fun pv1 => ?_)
  refine O.exi (fun r1A => ?_)
  refine O.exi (fun r1c => ?_)
  refine O.exi (fun r1 => ?_)
  refine O.sep ?_
  refine O.pur ?_
  rintro ⟨rfl, hpv1_1⟩
  refine O.sep ?_
  refine O.s rfl rfl (Ef.storeAll 2 rfl sz26 rfl rfl rfl rfl (by simp [Value.oneCell']) rfl) ?_
  rintro _ _ rfl
  refine O.nil ?_
  refine X.next ?_
  refine V.ret ?_
  refine X.retCell rfl ag26 sz26 rfl rfl (Ld.whole 2 rfl) ?_
  exact fun w hw => St.mkExi pv1 (St.mkExi r1A (St.mkExi r1c (St.mkExi r1 (St.unsep (St.addPur ⟨rfl, hpv1_1⟩ (hw.sub (Sub.keep 0 rfl (Sub.nil _))))))))
set_option maxRecDepth 100000 in
set_option maxHeartbeats 1000000 in
theorem DrawCommonNumbers_ok (code : List UInt8) (codeA : Option Addr) (codec : Nat) (w : World) (hcode : Rd U8C w codeA code) (lcode : code.length ≤ 1099511627776) (lc : code.length ≤ 1048576) : Does Try.prog 12 [.slice codeA code.length codec] w [] (fun rv_ => [.exi fun (pv : Int) => .exi fun (rA : Option Addr) => .exi fun (rc : Nat) => .exi fun (r : List B3) => .sep (.pur (rv_ = .agg #[.int .i64 pv, .slice rA r.length rc] ∧ r.length ≤ 4200)) (Own 56 B3C rA rc r)]) := by
  refine Does.enter Try.func12 rfl rfl [(0, .slice codeA code.length codec)] rfl ?_
  refine V.seq ?_
  refine V.region ?_
  refine O.e rfl rfl rfl (Ef.alloc rfl zr26 rfl) ?_
  rintro _ _ ⟨b1, rfl, rfl⟩
  refine O.nil ?_
  refine X.next ?_
  refine V.seq ?_
  refine V.region ?_
  refine O.p rfl rfl rfl (Pu.move rfl rfl) ?_
  refine O.e rfl rfl rfl (Ef.call1 call25 rfl rfl (fun w hw => l01From_ok  code _ _ w ((Ld.old hcode) w hw) (by first | omega | (simp only [tops_len, conts_len, bl, List.length_append, List.length_cons, List.length_nil] at *; omega)) (by first | assumption | omega | (try dsimp only at *; omega)))) ?_
  rintro _ _ rfl
  refine O.exi (fun s1 => ?_)
  refine O.sep ?_
  refine O.pur ?_
  rintro rfl
  refine O.e rfl rfl rfl (Ef.call call24 rfl rfl (Does.pre (fun w hw => hw.sub (Sub.keep 0 rfl (Sub.keep 0 rfl (Sub.nil _)))) (l10Draw_ok _ _ _ s1 w _   (by first | assumption | omega | (try dsimp only at *; omega)) (by first | assumption | omega | (try dsimp only at *; omega))))) ?_
  rintro _ _ rfl
  refine O.exi (fun pv1 => ?_)
  refine O.exi (fun r1A => ?_)
  refine O.exi (fun r1c => ?_)
  refine O.exi (fun r1 => ?_)
  refine O.sep ?_
  refine O.pur ?_
  rintro ⟨rfl, hpv1_1⟩
  refine O.sep ?_
  refine O.s rfl rfl (Ef.storeAll 2 rfl sz26 rfl rfl rfl rfl (by simp [Value.oneCell']) rfl) ?_
  rintro _ _ rfl
  refine O.nil ?_
  refine X.next ?_
  refine V.ret ?_
  refine X.retCell rfl ag26 sz26 rfl rfl (Ld.whole 2 rfl) ?_
  exact fun w hw => St.mkExi pv1 (St.mkExi r1A (St.mkExi r1c (St.mkExi r1 (St.unsep (St.addPur ⟨rfl, hpv1_1⟩ (hw.sub (Sub.keep 0 rfl (Sub.nil _))))))))
set_option maxRecDepth 100000 in
set_option maxHeartbeats 1000000 in
theorem DrawSystemAt_ok (code : List UInt8) (codeA : Option Addr) (codec : Nat) (w : World) (hcode : Rd U8C w codeA code) (lcode : code.length ≤ 1099511627776) (lc : code.length ≤ 1048576) : Does Try.prog 8 [.slice codeA code.length codec] w [] (fun r => [.exi fun (a : Int) => .exi fun (b : Int) => .pur (r = .tuple #[.int .i64 a, .int .i64 b])]) := by
  refine Does.enter Try.func8 rfl rfl [(0, .slice codeA code.length codec)] rfl ?_
  refine V.seq ?_
  refine V.region ?_
  refine O.p rfl rfl rfl (Pu.assign rfl rfl) ?_
  refine O.p rfl rfl rfl (Pu.assign rfl rfl) ?_
  refine O.nil ?_
  refine X.next ?_
  refine V.seq ?_
  refine V.region ?_
  refine O.p rfl rfl rfl (Pu.move rfl rfl) ?_
  refine O.e rfl rfl rfl (Ef.call1 call25 rfl rfl (fun w hw => l01From_ok  code _ _ w ((Ld.old hcode) w hw) (by first | omega | (simp only [tops_len, conts_len, bl, List.length_append, List.length_cons, List.length_nil] at *; omega)) (by first | assumption | omega | (try dsimp only at *; omega)))) ?_
  rintro _ _ rfl
  refine O.exi (fun s1 => ?_)
  refine O.sep ?_
  refine O.pur ?_
  rintro rfl
  refine O.p rfl rfl rfl (Pu.assign rfl rfl) ?_
  refine O.nil ?_
  refine X.next ?_
  refine V.seq ?_
  refine V.region ?_
  refine O.p rfl rfl rfl (Pu.move rfl rfl) ?_
  refine O.e rfl rfl rfl (Ef.build I64 ([(3 : Int), (7 : Int), (7 : Int), (7 : Int), (9 : Int), (13 : Int)] : List Int) rfl Try.underlying34 inf2 rfl rfl rfl (by first | decide | (simp; done)) (by kernel_rfl)) ?_
  rintro _ _ ⟨A1, hA1, rfl, rfl⟩
  refine O.e rfl rfl rfl (Ef.call call34 rfl rfl (Does.pre (fun w hw => hw.sub (Sub.keep 1 rfl (Sub.keep 0 rfl (Sub.nil _)))) (l01Pick_ok _ _ _ s1 ([(3 : Int), (7 : Int), (7 : Int), (7 : Int), (9 : Int), (13 : Int)] : List Int) _ _ w _ (Ld.own 0 (by exact rfl)) (by first | omega | (simp only [tops_len, conts_len, bl, List.length_append, List.length_cons, List.length_nil] at *; omega)) (by first | assumption | omega | (try dsimp only at *; omega)) (by first | assumption | omega | (try dsimp only at *; omega)) (by first | (simp; done) | omega)))) ?_
  rintro _ _ rfl
  refine O.exi (fun r1 => ?_)
  refine O.sep ?_
  refine O.pur ?_
  rintro ⟨rfl, hr1_1⟩
  refine O.p rfl rfl rfl (Pu.assign rfl rfl) ?_
  refine O.nil ?_
  refine X.next ?_
  refine V.seq ?_
  refine V.region ?_
  refine O.p rfl rfl rfl (Pu.move rfl rfl) ?_
  refine O.p rfl rfl rfl (Pu.move rfl rfl) ?_
  refine O.p rfl rfl rfl (Pu.move rfl rfl) ?_
  refine O.e rfl rfl rfl (Ef.build I64 ([(1 : Int), (30 : Int), (31 : Int), (840 : Int), (842 : Int)] : List Int) rfl Try.underlying34 inf2 rfl rfl rfl (by first | decide | (simp; done)) (by kernel_rfl)) ?_
  rintro _ _ ⟨A2, hA2, rfl, rfl⟩
  refine O.e rfl rfl rfl (Ef.call call34 rfl rfl (Does.pre (fun w hw => hw.sub (Sub.keep 1 rfl (Sub.keep 0 rfl (Sub.keep 0 rfl (Sub.nil _))))) (l01Pick_ok _ _ _ s1 ([(1 : Int), (30 : Int), (31 : Int), (840 : Int), (842 : Int)] : List Int) _ _ w _ (Ld.own 0 (by exact rfl)) (by first | omega | (simp only [tops_len, conts_len, bl, List.length_append, List.length_cons, List.length_nil] at *; omega)) (by first | assumption | omega | (try dsimp only at *; omega)) (by first | assumption | omega | (try dsimp only at *; omega)) (by first | (simp; done) | omega)))) ?_
  rintro _ _ rfl
  refine O.exi (fun r2 => ?_)
  refine O.sep ?_
  refine O.pur ?_
  rintro ⟨rfl, hr2_1⟩
  refine O.e rfl rfl rfl (Ef.call call35 rfl rfl (Does.pre (fun w hw => hw.sub (Sub.keep 0 rfl (Sub.keep 0 rfl (Sub.keep 0 rfl (Sub.nil _))))) (l01Next_ok _ _ _ s1 r2 w _   (by first | assumption | omega | (try dsimp only at *; omega)) (by first | assumption | omega | (try dsimp only at *; omega))))) ?_
  rintro _ _ rfl
  refine O.exi (fun r3 => ?_)
  refine O.sep ?_
  refine O.pur ?_
  rintro ⟨rfl, hr3_1, hr3_2, hr3_3⟩
  refine O.p rfl rfl rfl (Pu.assign rfl rfl) ?_
  refine O.p rfl rfl rfl (Pu.assign rfl rfl) ?_
  refine O.nil ?_
  refine X.next ?_
  refine V.ret ?_
  refine X.ret2 rfl rfl rfl ?_
  exact fun w hw => St.mkExi r1 (St.mkExi r3 (St.addPur rfl (hw.sub (Sub.nil _))))
set_option maxRecDepth 100000 in
set_option maxHeartbeats 1000000 in
theorem DrawAreApart_ok (code : List UInt8) (codeA : Option Addr) (codec : Nat) (w : World) (hcode : Rd U8C w codeA code) (lcode : code.length ≤ 1099511627776) (lc : code.length ≤ 1048576) : Does Try.prog 18 [.slice codeA code.length codec] w [] (fun rv_ => [.exi fun (pv : Int) => .exi fun (rA : Option Addr) => .exi fun (rc : Nat) => .exi fun (r : List B3) => .exi fun (pu : Int) => .exi fun (qA : Option Addr) => .exi fun (qc : Nat) => .exi fun (q : List B3) => .sep (.pur (rv_ = .tuple #[.agg #[.int .i64 pv, .slice rA r.length rc], .agg #[.int .i64 pu, .slice qA q.length qc]] ∧ r.length ≤ 4200 ∧ q.length ≤ 4200)) (.sep (Own 56 B3C rA rc r) (Own 56 B3C qA qc q))]) := by
  refine Does.enter Try.func18 rfl rfl [(0, .slice codeA code.length codec)] rfl ?_
  refine V.seq ?_
  refine V.region ?_
  refine O.e rfl rfl rfl (Ef.alloc rfl zr26 rfl) ?_
  rintro _ _ ⟨b1, rfl, rfl⟩
  refine O.e rfl rfl rfl (Ef.alloc rfl zr26 rfl) ?_
  rintro _ _ ⟨b2, rfl, rfl⟩
  refine O.nil ?_
  refine X.next ?_
  refine V.seq ?_
  refine V.region ?_
  refine O.p rfl rfl rfl (Pu.move rfl rfl) ?_
  refine O.e rfl rfl rfl (Ef.call1 call25 rfl rfl (fun w hw => l01From_ok  code _ _ w ((Ld.old hcode) w hw) (by first | omega | (simp only [tops_len, conts_len, bl, List.length_append, List.length_cons, List.length_nil] at *; omega)) (by first | assumption | omega | (try dsimp only at *; omega)))) ?_
  rintro _ _ rfl
  refine O.exi (fun s1 => ?_)
  refine O.sep ?_
  refine O.pur ?_
  rintro rfl
  refine O.p rfl rfl rfl (Pu.assign rfl rfl) ?_
  refine O.nil ?_
  refine X.next ?_
  refine V.seq ?_
  refine V.region ?_
  refine O.p rfl rfl rfl (Pu.move rfl rfl) ?_
  refine O.e rfl rfl rfl (Ef.call call42 rfl rfl (Does.pre (fun w hw => hw.sub (Sub.keep 0 rfl (Sub.keep 0 rfl (Sub.keep 0 rfl (Sub.nil _))))) (l01Spoil_ok _ _ _ s1 w _   (by first | assumption | omega | (try dsimp only at *; omega)) (by first | assumption | omega | (try dsimp only at *; omega))))) ?_
  rintro _ _ rfl
  refine O.exi (fun pv1 => ?_)
  refine O.exi (fun r1A => ?_)
  refine O.exi (fun r1c => ?_)
  refine O.exi (fun r1 => ?_)
  refine O.sep ?_
  refine O.pur ?_
  rintro ⟨rfl, hpv1_1, hpv1_2⟩
  refine O.sep ?_
  refine O.e rfl rfl rfl (Ef.alloc rfl zr26 rfl) ?_
  rintro _ _ ⟨b3, rfl, rfl⟩
  refine O.s rfl rfl (Ef.storeAll 0 rfl sz26 rfl rfl rfl rfl (by simp [Value.oneCell']) rfl) ?_
  rintro _ _ rfl
  refine O.nil ?_
  refine X.next ?_
  refine V.seq ?_
  refine V.seq ?_
  refine V.region ?_
  refine O.p rfl rfl rfl (Pu.loadAgg rfl ag26 sz26 rfl rfl (Ld.whole 0 rfl)) ?_
  refine O.e rfl rfl rfl (Ef.callP call43 rfl rfl (fun w hw => l01Is_ok _ r1 _ _ w ((Ld.own 1 (by exact rfl)) w hw) (by omega))) ?_
  rintro _ _ ⟨rfl, rfl⟩
  refine O.p rfl rfl rfl (Pu.move rfl rfl) ?_
  refine O.splitD 12 rfl (fun c1 => ?_) (fun c1 => ?_)
  · skip
    have hS := c1
    have hlo := hS.lo
    have hhi := hS.hi
    refine O.gp rfl rfl rfl rfl rfl (Pu.move rfl rfl) ?_
    refine O.ge rfl rfl rfl rfl rfl (Ef.call call35 rfl rfl (Does.pre (fun w hw => hw.sub (Sub.keep 2 rfl (Sub.keep 0 rfl (Sub.keep 0 rfl (Sub.keep 0 rfl (Sub.keep 0 rfl (Sub.nil _))))))) (l01Next_ok _ _ _ s1 (2 : Int) w _   (by first | assumption | omega | (try dsimp only at *; omega)) (by first | assumption | omega | (try dsimp only at *; omega))))) ?_
    rintro _ _ rfl
    refine O.exi (fun r2 => ?_)
    refine O.sep ?_
    refine O.pur ?_
    rintro ⟨rfl, hr2_1, hr2_2, hr2_3⟩
    refine O.gp rfl rfl rfl rfl rfl (Pu.eql rfl rfl rfl) ?_
    refine O.p rfl rfl rfl (Pu.pickT rfl rfl rfl) ?_
    refine O.nil ?_
    refine X.next ?_
    refine V.condD rfl (fun c2 => ?_) (fun c2 => ?_)
    · skip
      refine V.seq ?_
      refine V.drawS mo (by kernel_rfl) (Sub.keep 1 rfl (Sub.keep 1 rfl (Sub.nil _))) (fun hwf => ?_)
      refine D.p 0 rfl rfl rfl rfl rfl rfl (Pu.loadAgg rfl ag26 sz26 rfl rfl (Ld.whole 0 rfl)) ?_
      refine D.p 1 rfl rfl rfl rfl rfl rfl (Pu.loadAgg rfl ag26 sz26 rfl rfl (Ld.whole 0 rfl)) ?_
      refine D.p 2 rfl rfl rfl rfl rfl rfl (Pu.move rfl rfl) ?_
      refine D.p 3 rfl rfl rfl rfl rfl rfl (Pu.fieldAddr 0 rfl Try.underlying26 rfl sz2 rfl rfl) ?_
      refine D.p 4 rfl rfl rfl rfl rfl rfl (Pu.load rfl pl2 rfl (Ld.blk 0 rfl rfl)) ?_
      refine D.eff hwf (e := 5) rfl rfl rfl rfl (Ef.call call45 rfl rfl (Does.pre (fun w hw => hw.sub (Sub.keep 0 rfl (Sub.keep 0 rfl (Sub.keep 0 rfl (Sub.keep 0 rfl (Sub.keep 0 rfl (Sub.nil _))))))) (l01DrawOrder_ok _ _ _ s1 pv1 w _   (by first | assumption | omega | (try dsimp only at *; omega)) (by first | assumption | omega | (try dsimp only at *; omega)) (by omega)))) rfl rfl rfl ?_
      rintro _ _ rfl hs
      refine ⟨fun w hw => hw.tail.sub (Sub.keep 0 rfl (Sub.keep 0 rfl (Sub.nil _))), ?_⟩
      refine D.exi (fun r3A => ?_)
      refine D.exi (fun r3c => ?_)
      refine D.exi (fun r3 => ?_)
      refine D.sep ?_
      refine D.pur1 ?_
      rintro ⟨rfl, hr3_1⟩
      refine D.sep ?_
      have hol := hr3_1.1
      refine D.eff hwf (e := 6) rfl rfl rfl rfl (Ef.call1 call44 rfl rfl (fun w hw => l01RenamedD_ok  pv1 r1 r3 _ _ _ _ w ((Ld.own 3 (by exact rfl)) w hw) ((Ld.own 0 (by exact rfl)) w hw) (by first | omega | (simp only [tops_len, conts_len, bl, List.length_append, List.length_cons, List.length_nil] at *; omega)) (by first | omega | (simp only [tops_len, conts_len, bl, List.length_append, List.length_cons, List.length_nil] at *; omega)) (by rw [hr3_1.1]; exact hS.good) (by omega) (fun q hq => by have := hr3_1.2.2 q hq; omega))) rfl rfl rfl ?_
      rintro _ _ rfl hs
      refine ⟨fun w hw => hs w hw.tail, ?_⟩
      refine D.exi (fun r4A => ?_)
      refine D.exi (fun r4c => ?_)
      refine D.exi (fun r4 => ?_)
      refine D.sep ?_
      refine D.pur1 ?_
      rintro ⟨rfl, hr4_1, hr4_2⟩
      refine D.eff hwf (e := 7) rfl rfl rfl rfl (Ef.storeAll 6 rfl sz26 rfl rfl rfl rfl (by simp [Value.oneCell']) rfl) rfl rfl rfl ?_
      rintro _ _ rfl hs
      refine ⟨fun w hw => hw.sub (Sub.keep 3 rfl (Sub.keep 3 rfl (Sub.nil _))), ?_⟩
      refine D.eff hwf (e := 8) rfl rfl rfl rfl (Ef.storeAll 5 rfl sz26 rfl rfl rfl rfl (by simp [Value.oneCell']) rfl) rfl rfl rfl ?_
      rintro _ _ rfl hs
      refine ⟨fun w hw => hw.sub (Sub.keep 3 rfl (Sub.keep 3 rfl (Sub.nil _))), ?_⟩
      refine D.done hwf rfl ?_
      refine X.next ?_
      refine V.ret ?_
      refine X.thenRet ?_
      refine X.retCell22 rfl ag26 sz26 rfl ag26 sz26 rfl rfl rfl (Ld.whole 6 rfl) (Ld.whole 5 rfl) ?_
      exact fun w hw => St.mkExi pv1 (St.mkExi r1A (St.mkExi r1c (St.mkExi r1 (St.mkExi pv1 (St.mkExi r4A (St.mkExi r4c (St.mkExi r4 (St.unsep (St.addPur ⟨rfl, (by omega), (by first | omega | (have h := hr4_1.length_eq; rw [List.length_map] at h; omega))⟩ (St.unsep (hw.sub (Sub.keep 4 rfl (Sub.keep 0 rfl (Sub.nil _))))))))))))))
    · skip
      refine V.skip ?_
      refine X.next ?_
      refine V.seq ?_
      refine V.drawS mo (by kernel_rfl) (Sub.keep 1 rfl (Sub.keep 1 rfl (Sub.nil _))) (fun hwf => ?_)
      refine D.p 0 rfl rfl rfl rfl rfl rfl (Pu.loadAgg rfl ag26 sz26 rfl rfl (Ld.whole 0 rfl)) ?_
      refine D.p 1 rfl rfl rfl rfl rfl rfl (Pu.move rfl rfl) ?_
      refine D.eff hwf (e := 2) rfl rfl rfl rfl (Ef.call call42 rfl rfl (Does.pre (fun w hw => hw.sub (Sub.keep 0 rfl (Sub.keep 0 rfl (Sub.keep 0 rfl (Sub.keep 0 rfl (Sub.keep 0 rfl (Sub.nil _))))))) (l01Spoil_ok _ _ _ s1 w _   (by first | assumption | omega | (try dsimp only at *; omega)) (by first | assumption | omega | (try dsimp only at *; omega))))) rfl rfl rfl ?_
      rintro _ _ rfl hs
      refine ⟨fun w hw => hw.tail.sub (Sub.keep 0 rfl (Sub.keep 0 rfl (Sub.nil _))), ?_⟩
      refine D.exi (fun pv2 => ?_)
      refine D.exi (fun r5A => ?_)
      refine D.exi (fun r5c => ?_)
      refine D.exi (fun r5 => ?_)
      refine D.sep ?_
      refine D.pur1 ?_
      rintro ⟨rfl, hpv2_1, hpv2_2⟩
      refine D.sep ?_
      refine D.eff hwf (e := 3) rfl rfl rfl rfl (Ef.storeAll 5 rfl sz26 rfl rfl rfl rfl (by simp [Value.oneCell']) rfl) rfl rfl rfl ?_
      rintro _ _ rfl hs
      refine ⟨fun w hw => hw.sub (Sub.keep 2 rfl (Sub.keep 2 rfl (Sub.nil _))), ?_⟩
      refine D.eff hwf (e := 4) rfl rfl rfl rfl (Ef.storeAll 4 rfl sz26 rfl rfl rfl rfl (by simp [Value.oneCell']) rfl) rfl rfl rfl ?_
      rintro _ _ rfl hs
      refine ⟨fun w hw => hw.sub (Sub.keep 2 rfl (Sub.keep 2 rfl (Sub.nil _))), ?_⟩
      refine D.done hwf rfl ?_
      refine X.next ?_
      refine V.ret ?_
      refine X.retCell22 rfl ag26 sz26 rfl ag26 sz26 rfl rfl rfl (Ld.whole 5 rfl) (Ld.whole 4 rfl) ?_
      exact fun w hw => St.mkExi pv1 (St.mkExi r1A (St.mkExi r1c (St.mkExi r1 (St.mkExi pv2 (St.mkExi r5A (St.mkExi r5c (St.mkExi r5 (St.unsep (St.addPur ⟨rfl, (by omega), (by first | omega | (have h := hr5_1.length_eq; rw [List.length_map] at h; omega))⟩ (St.unsep (hw.sub (Sub.keep 3 rfl (Sub.keep 0 rfl (Sub.nil _))))))))))))))
  · skip
    refine O.gs rfl rfl rfl rfl rfl rfl ?_
    refine O.gs rfl rfl rfl rfl rfl rfl ?_
    refine O.gs rfl rfl rfl rfl rfl rfl ?_
    refine O.p rfl rfl rfl (Pu.pickF rfl rfl rfl) ?_
    refine O.nil ?_
    refine X.next ?_
    refine V.condF rfl ?_
    refine V.skip ?_
    refine X.next ?_
    refine V.seq ?_
    refine V.drawS mo (by kernel_rfl) (Sub.keep 0 rfl (Sub.keep 0 rfl (Sub.nil _))) (fun hwf => ?_)
    refine D.p 0 rfl rfl rfl rfl rfl rfl (Pu.loadAgg rfl ag26 sz26 rfl rfl (Ld.whole 0 rfl)) ?_
    refine D.p 1 rfl rfl rfl rfl rfl rfl (Pu.move rfl rfl) ?_
    refine D.eff hwf (e := 2) rfl rfl rfl rfl (Ef.call call42 rfl rfl (Does.pre (fun w hw => hw.sub (Sub.keep 2 rfl (Sub.keep 0 rfl (Sub.keep 0 rfl (Sub.keep 0 rfl (Sub.keep 0 rfl (Sub.nil _))))))) (l01Spoil_ok _ _ _ s1 w _   (by first | assumption | omega | (try dsimp only at *; omega)) (by first | assumption | omega | (try dsimp only at *; omega))))) rfl rfl rfl ?_
    rintro _ _ rfl hs
    refine ⟨fun w hw => hw.tail.sub (Sub.keep 0 rfl (Sub.keep 0 rfl (Sub.nil _))), ?_⟩
    refine D.exi (fun pv3 => ?_)
    refine D.exi (fun r6A => ?_)
    refine D.exi (fun r6c => ?_)
    refine D.exi (fun r6 => ?_)
    refine D.sep ?_
    refine D.pur1 ?_
    rintro ⟨rfl, hpv3_1, hpv3_2⟩
    refine D.sep ?_
    refine D.eff hwf (e := 3) rfl rfl rfl rfl (Ef.storeAll 5 rfl sz26 rfl rfl rfl rfl (by simp [Value.oneCell']) rfl) rfl rfl rfl ?_
    rintro _ _ rfl hs
    refine ⟨fun w hw => hw.sub (Sub.keep 2 rfl (Sub.keep 2 rfl (Sub.nil _))), ?_⟩
    refine D.eff hwf (e := 4) rfl rfl rfl rfl (Ef.storeAll 4 rfl sz26 rfl rfl rfl rfl (by simp [Value.oneCell']) rfl) rfl rfl rfl ?_
    rintro _ _ rfl hs
    refine ⟨fun w hw => hw.sub (Sub.keep 2 rfl (Sub.keep 2 rfl (Sub.nil _))), ?_⟩
    refine D.done hwf rfl ?_
    refine X.next ?_
    refine V.ret ?_
    refine X.retCell22 rfl ag26 sz26 rfl ag26 sz26 rfl rfl rfl (Ld.whole 5 rfl) (Ld.whole 4 rfl) ?_
    exact fun w hw => St.mkExi pv1 (St.mkExi r1A (St.mkExi r1c (St.mkExi r1 (St.mkExi pv3 (St.mkExi r6A (St.mkExi r6c (St.mkExi r6 (St.unsep (St.addPur ⟨rfl, (by omega), (by first | omega | (have h := hr6_1.length_eq; rw [List.length_map] at h; omega))⟩ (St.unsep (hw.sub (Sub.keep 3 rfl (Sub.keep 0 rfl (Sub.nil _))))))))))))))
set_option maxRecDepth 100000 in
set_option maxHeartbeats 1000000 in
theorem big_ok (code : List UInt8) (codeA : Option Addr) (codec : Nat) (w : World) (hcode : Rd U8C w codeA code) (lcode : code.length ≤ 9223372036854775807) : Does Try.prog 4 [.slice codeA code.length codec] w [] (fun r => [.pur (r = .bool (decide (4096 < code.length)))]) := by
  refine Does.enter Try.func4 rfl rfl [(0, .slice codeA code.length codec)] rfl ?_
  refine V.seq ?_
  refine V.region ?_
  refine O.p rfl rfl rfl (Pu.assign rfl rfl) ?_
  refine O.nil ?_
  refine X.next ?_
  refine V.seq ?_
  refine V.region ?_
  refine O.p rfl rfl rfl (Pu.move rfl rfl) ?_
  refine O.p rfl rfl rfl (Pu.len rfl Try.underlying22 rfl) ?_
  refine O.p rfl rfl rfl (Pu.gtr rfl rfl rfl) ?_
  refine O.p rfl rfl rfl (Pu.assign rfl rfl) ?_
  refine O.nil ?_
  refine X.next ?_
  refine V.ret ?_
  refine X.ret1 rfl rfl ?_
  exact fun w hw => St.retP (boolD (by omega)) hw
set_option maxRecDepth 100000 in
set_option maxHeartbeats 1000000 in
theorem likeInts_ok (a : List Int) (b : List Int) (aA : Option Addr) (ac : Nat) (bA : Option Addr) (bc : Nat) (w : World) (ha : Rd I64 w aA a) (hb : Rd I64 w bA b) (la : a.length ≤ 9223372036854775807) (lb : b.length ≤ 9223372036854775807) : Does Try.prog 15 [.slice aA a.length ac, .slice bA b.length bc] w [] (fun r => [.pur (r = .bool (decide (a = b)))]) := by
  refine Does.enter Try.func15 rfl rfl [(0, .slice aA a.length ac), (1, .slice bA b.length bc)] rfl ?_
  refine V.seq ?_
  refine V.region ?_
  refine O.p rfl rfl rfl (Pu.assign rfl rfl) ?_
  refine O.nil ?_
  refine X.next ?_
  refine V.seq ?_
  refine V.seq ?_
  refine V.region ?_
  refine O.p rfl rfl rfl (Pu.move rfl rfl) ?_
  refine O.p rfl rfl rfl (Pu.len rfl Try.underlying34 rfl) ?_
  refine O.p rfl rfl rfl (Pu.move rfl rfl) ?_
  refine O.p rfl rfl rfl (Pu.len rfl Try.underlying34 rfl) ?_
  refine O.p rfl rfl rfl (Pu.neq rfl rfl rfl) ?_
  refine O.nil ?_
  refine X.next ?_
  refine V.condNot rfl (fun c1 => ?_) (fun c1 => ?_)
  · skip
    refine V.seq ?_
    refine V.region ?_
    refine O.p rfl rfl rfl (Pu.assign rfl rfl) ?_
    refine O.nil ?_
    refine X.next ?_
    refine V.ret ?_
    refine X.thenRet ?_
    refine X.ret1 rfl rfl ?_
    exact fun w hw => St.retP (boolF (fun h => c1 (by rw [h]))) hw
  · skip
    refine V.skip ?_
    refine X.next ?_
    refine V.seq ?_
    refine V.seq ?_
    refine V.region ?_
    refine O.p rfl rfl rfl (Pu.assign rfl rfl) ?_
    refine O.nil ?_
    refine X.next ?_
    refine V.block ?_
    refine V.loop2 (β := Nat) (fun i => [(5, .int .i64 (i : Int))]) _ (fun i => []) (fun i => i ≤ a.length ∧ ∀ j (h1 : j < a.length) (h2 : j < b.length), j < i → a[j] = b[j]) (fun i => a.length - i) 0 ⟨by omega, fun j _ _ h => by omega⟩ (Ent.cons rfl (Ent.nil _)) (Ent.cons (t := 0) rfl (Ent.cons (t := 1) rfl (Ent.nil _))) (Sub.nil _) ?_
    rintro i ⟨hi, he⟩
    refine V.seq ?_
    refine V.seq ?_
    refine V.region ?_
    refine O.p rfl rfl rfl (Pu.move rfl rfl) ?_
    refine O.p rfl rfl rfl (Pu.move rfl rfl) ?_
    refine O.p rfl rfl rfl (Pu.len rfl Try.underlying34 rfl) ?_
    refine O.p rfl rfl rfl (Pu.lss rfl rfl rfl) ?_
    refine O.nil ?_
    refine X.next ?_
    refine V.condD rfl (fun c2 => ?_) (fun c2 => ?_)
    · skip
      refine V.skip ?_
      refine X.next ?_
      refine V.seq ?_
      refine V.block ?_
      refine V.seq ?_
      refine V.draw mo (by kernel_rfl) (fun hwf => ?_)
      refine D.p 0 rfl rfl rfl rfl rfl rfl (Pu.move rfl rfl) ?_
      refine D.p 1 rfl rfl rfl rfl rfl rfl (Pu.move rfl rfl) ?_
      refine D.p 2 rfl rfl rfl rfl rfl rfl (Pu.indexAddr (i) rfl Try.underlying34 sz2 rfl rfl (by omega) (by omega) (ha.some (by omega))) ?_
      have e1 : i < a.length := by omega
      refine D.p 3 rfl rfl rfl rfl rfl rfl (Pu.load rfl pl2 rfl (Ld.rd (Ld.old ha) (k := i) e1 rfl rfl)) ?_
      refine D.p 4 rfl rfl rfl rfl rfl rfl (Pu.move rfl rfl) ?_
      refine D.p 5 rfl rfl rfl rfl rfl rfl (Pu.move rfl rfl) ?_
      refine D.p 6 rfl rfl rfl rfl rfl rfl (Pu.indexAddr (i) rfl Try.underlying34 sz2 rfl rfl (by omega) (by omega) (hb.some (by omega))) ?_
      have e2 : i < b.length := by omega
      refine D.p 7 rfl rfl rfl rfl rfl rfl (Pu.load rfl pl2 rfl (Ld.rd (Ld.old hb) (k := i) e2 rfl rfl)) ?_
      refine D.p 8 rfl rfl rfl rfl rfl rfl (Pu.neq rfl rfl rfl) ?_
      refine D.done hwf rfl ?_
      refine X.next ?_
      refine V.condNot rfl (fun c3 => ?_) (fun c3 => ?_)
      · skip
        refine V.seq ?_
        refine V.region ?_
        refine O.p rfl rfl rfl (Pu.assign rfl rfl) ?_
        refine O.nil ?_
        refine X.next ?_
        refine V.ret ?_
        refine X.blockRet ?_
        refine X.thenRet ?_
        refine X.thenRet ?_
        refine X.blockRet ?_
        refine X.thenRet ?_
        refine X.ret1 rfl rfl ?_
        exact fun w hw => St.retP (boolF (fun h => c3 (by simp [h]))) hw
      · skip
        refine V.skip ?_
        refine X.blockNormal ?_
        refine X.next ?_
        refine V.region ?_
        refine O.p rfl rfl rfl (Pu.move rfl rfl) ?_
        refine O.p rfl rfl rfl (Pu.add64 (r := ((i + 1 : Nat) : Int)) rfl (by omega) rfl rfl rfl) ?_
        refine O.p rfl rfl rfl (Pu.assign rfl rfl) ?_
        refine O.nil ?_
        exact X.back2 (i + 1) ⟨by omega, fun j h1 h2 hj => by by_cases e : j = i; (· subst e; exact c3); (· exact he j h1 h2 (by omega))⟩ (by first | omega | (dsimp only; omega)) (Ent.cons rfl (Ent.nil _)) (Ent.cons (t := 0) rfl (Ent.cons (t := 1) rfl (Ent.nil _))) (Sub.nil _)
    · skip
      refine V.exit ?_
      refine X.thenExit ?_
      refine X.thenExit ?_
      refine X.blockHit ?_
      refine X.next ?_
      refine V.seq ?_
      refine V.region ?_
      refine O.p rfl rfl rfl (Pu.assign rfl rfl) ?_
      refine O.nil ?_
      refine X.next ?_
      refine V.ret ?_
      refine X.ret1 rfl rfl ?_
      exact fun w hw => St.retP (boolT (List.ext_getElem (by omega) (fun j h1 h2 => he j h1 h2 (by omega)))) hw
set_option maxRecDepth 100000 in
set_option maxHeartbeats 1000000 in
theorem blocks9_ok (a : List B3) (b : List B3) (aA : Option Addr) (ac : Nat) (bA : Option Addr) (bc : Nat) (w : World) (ha : Rd B3C w aA a) (hb : Rd B3C w bA b) (la : a.length ≤ 9223372036854775807) (lb : b.length ≤ 9223372036854775807) : Does Try.prog 40 [.slice aA a.length ac, .slice bA b.length bc] w [] (fun r => [.pur (r = .bool (decide (a = b)))]) := by
  refine Does.enter Try.func40 rfl rfl [(0, .slice aA a.length ac), (1, .slice bA b.length bc)] rfl ?_
  refine V.seq ?_
  refine V.region ?_
  refine O.p rfl rfl rfl (Pu.assign rfl rfl) ?_
  refine O.nil ?_
  refine X.next ?_
  refine V.seq ?_
  refine V.seq ?_
  refine V.region ?_
  refine O.p rfl rfl rfl (Pu.move rfl rfl) ?_
  refine O.p rfl rfl rfl (Pu.len rfl Try.underlying24 rfl) ?_
  refine O.p rfl rfl rfl (Pu.move rfl rfl) ?_
  refine O.p rfl rfl rfl (Pu.len rfl Try.underlying24 rfl) ?_
  refine O.p rfl rfl rfl (Pu.neq rfl rfl rfl) ?_
  refine O.nil ?_
  refine X.next ?_
  refine V.condNot rfl (fun c1 => ?_) (fun c1 => ?_)
  · skip
    refine V.seq ?_
    refine V.region ?_
    refine O.p rfl rfl rfl (Pu.assign rfl rfl) ?_
    refine O.nil ?_
    refine X.next ?_
    refine V.ret ?_
    refine X.thenRet ?_
    refine X.ret1 rfl rfl ?_
    exact fun w hw => St.retP (boolF (fun h => c1 (by rw [h]))) hw
  · skip
    refine V.skip ?_
    refine X.next ?_
    refine V.seq ?_
    refine V.seq ?_
    refine V.region ?_
    refine O.p rfl rfl rfl (Pu.assign rfl rfl) ?_
    refine O.nil ?_
    refine X.next ?_
    refine V.block ?_
    refine V.loop2 (β := Nat) (fun i => [(5, .int .i64 (i : Int))]) _ (fun i => []) (fun i => i ≤ a.length ∧ ∀ j (h1 : j < a.length) (h2 : j < b.length), j < i → a[j] = b[j]) (fun i => a.length - i) 0 ⟨by omega, fun j _ _ h => by omega⟩ (Ent.cons rfl (Ent.nil _)) (Ent.cons (t := 0) rfl (Ent.cons (t := 1) rfl (Ent.nil _))) (Sub.nil _) ?_
    rintro i ⟨hi, he⟩
    refine V.seq ?_
    refine V.seq ?_
    refine V.region ?_
    refine O.p rfl rfl rfl (Pu.move rfl rfl) ?_
    refine O.p rfl rfl rfl (Pu.move rfl rfl) ?_
    refine O.p rfl rfl rfl (Pu.len rfl Try.underlying24 rfl) ?_
    refine O.p rfl rfl rfl (Pu.lss rfl rfl rfl) ?_
    refine O.nil ?_
    refine X.next ?_
    refine V.condD rfl (fun c2 => ?_) (fun c2 => ?_)
    · skip
      refine V.skip ?_
      refine X.next ?_
      refine V.seq ?_
      refine V.block ?_
      refine V.seq ?_
      refine V.draw mo (by kernel_rfl) (fun hwf => ?_)
      refine D.p 0 rfl rfl rfl rfl rfl rfl (Pu.move rfl rfl) ?_
      refine D.p 1 rfl rfl rfl rfl rfl rfl (Pu.move rfl rfl) ?_
      refine D.p 2 rfl rfl rfl rfl rfl rfl (Pu.indexAddr (i) rfl Try.underlying24 sz56 rfl rfl (by omega) (by omega) (ha.some (by omega))) ?_
      have e1 : i < a.length := by omega
      refine D.p 3 rfl rfl rfl rfl rfl rfl (Pu.loadAgg' (v := B3.v (a[i]'e1)) rfl rfl ag56 sz56 rfl rfl (Ld.rds (Ld.old ha) (k := i) e1 rfl)) ?_
      refine D.p 4 rfl rfl rfl rfl rfl rfl (Pu.move rfl rfl) ?_
      refine D.p 5 rfl rfl rfl rfl rfl rfl (Pu.move rfl rfl) ?_
      refine D.p 6 rfl rfl rfl rfl rfl rfl (Pu.indexAddr (i) rfl Try.underlying24 sz56 rfl rfl (by omega) (by omega) (hb.some (by omega))) ?_
      have e2 : i < b.length := by omega
      refine D.p 7 rfl rfl rfl rfl rfl rfl (Pu.loadAgg' (v := B3.v (b[i]'e2)) rfl rfl ag56 sz56 rfl rfl (Ld.rds (Ld.old hb) (k := i) e2 rfl)) ?_
      refine D.p 8 rfl rfl rfl rfl rfl rfl (Pu.neqB3 Try.underlying56 Try.underlying2 sz2 (by kernel_rfl) rfl rfl rfl) ?_
      refine D.done hwf rfl ?_
      refine X.next ?_
      refine V.condNot rfl (fun c3 => ?_) (fun c3 => ?_)
      · skip
        refine V.seq ?_
        refine V.region ?_
        refine O.p rfl rfl rfl (Pu.assign rfl rfl) ?_
        refine O.nil ?_
        refine X.next ?_
        refine V.ret ?_
        refine X.blockRet ?_
        refine X.thenRet ?_
        refine X.thenRet ?_
        refine X.blockRet ?_
        refine X.thenRet ?_
        refine X.ret1 rfl rfl ?_
        exact fun w hw => St.retP (boolF (fun h => c3 (by simp [h]))) hw
      · skip
        refine V.skip ?_
        refine X.blockNormal ?_
        refine X.next ?_
        refine V.region ?_
        refine O.p rfl rfl rfl (Pu.move rfl rfl) ?_
        refine O.p rfl rfl rfl (Pu.add64 (r := ((i + 1 : Nat) : Int)) rfl (by omega) rfl rfl rfl) ?_
        refine O.p rfl rfl rfl (Pu.assign rfl rfl) ?_
        refine O.nil ?_
        exact X.back2 (i + 1) ⟨by omega, fun j h1 h2 hj => by by_cases e : j = i; (· subst e; exact c3); (· exact he j h1 h2 (by omega))⟩ (by first | omega | (dsimp only; omega)) (Ent.cons rfl (Ent.nil _)) (Ent.cons (t := 0) rfl (Ent.cons (t := 1) rfl (Ent.nil _))) (Sub.nil _)
    · skip
      refine V.exit ?_
      refine X.thenExit ?_
      refine X.thenExit ?_
      refine X.blockHit ?_
      refine X.next ?_
      refine V.seq ?_
      refine V.region ?_
      refine O.p rfl rfl rfl (Pu.assign rfl rfl) ?_
      refine O.nil ?_
      refine X.next ?_
      refine V.ret ?_
      refine X.ret1 rfl rfl ?_
      exact fun w hw => St.retP (boolT (List.ext_getElem (by omega) (fun j h1 h2 => he j h1 h2 (by omega)))) hw
set_option maxRecDepth 100000 in
set_option maxHeartbeats 1000000 in
theorem system9_ok (v : Int) (bs : List B3) (v2 : Int) (bs2 : List B3) (A : Option Addr) (c : Nat) (A2 : Option Addr) (c2 : Nat) (w : World) (hx : Rd B3C w A bs) (hx2 : Rd B3C w A2 bs2) (lx : bs.length ≤ 4611686018427387904) (lx2 : bs2.length ≤ 4611686018427387904) : Does Try.prog 11 [.agg #[.int .i64 v, .slice A bs.length c], .agg #[.int .i64 v2, .slice A2 bs2.length c2]] w [] (fun r => [.pur (r = .bool (decide (v = v2 ∧ bs = bs2)))]) := by
  refine Does.enter Try.func11 rfl rfl [(0, .agg #[.int .i64 v, .slice A bs.length c]), (1, .agg #[.int .i64 v2, .slice A2 bs2.length c2])] rfl ?_
  refine V.seq ?_
  refine V.region ?_
  refine O.e rfl rfl rfl (Ef.box rfl rfl rfl) ?_
  rintro _ _ ⟨b1, rfl, rfl⟩
  refine O.e rfl rfl rfl (Ef.box rfl rfl rfl) ?_
  rintro _ _ ⟨b2, rfl, rfl⟩
  refine O.p rfl rfl rfl (Pu.assign rfl rfl) ?_
  refine O.nil ?_
  refine X.next ?_
  refine V.seq ?_
  refine V.region ?_
  refine O.p rfl rfl rfl (Pu.fieldAddr 0 rfl Try.underlying26 rfl sz2 rfl rfl) ?_
  refine O.p rfl rfl rfl (Pu.load rfl pl2 rfl (Ld.blk 1 rfl rfl)) ?_
  refine O.p rfl rfl rfl (Pu.fieldAddr 0 rfl Try.underlying26 rfl sz2 rfl rfl) ?_
  refine O.p rfl rfl rfl (Pu.load rfl pl2 rfl (Ld.blk 0 rfl rfl)) ?_
  refine O.p rfl rfl rfl (Pu.eql rfl rfl rfl) ?_
  refine O.p rfl rfl rfl (Pu.move rfl rfl) ?_
  refine O.splitD 10 rfl (fun c1 => ?_) (fun c1 => ?_)
  · skip
    refine O.gp rfl rfl rfl rfl rfl (Pu.fieldAddr 1 rfl Try.underlying26 rfl sz24 rfl rfl) ?_
    refine O.gp rfl rfl rfl rfl rfl (Pu.load rfl pl24 rfl (Ld.blk 1 rfl rfl)) ?_
    refine O.gp rfl rfl rfl rfl rfl (Pu.fieldAddr 1 rfl Try.underlying26 rfl sz24 rfl rfl) ?_
    refine O.gp rfl rfl rfl rfl rfl (Pu.load rfl pl24 rfl (Ld.blk 0 rfl rfl)) ?_
    refine O.ge rfl rfl rfl rfl rfl (Ef.callP call40 rfl rfl (fun w hw => blocks9_ok  bs bs2 _ _ _ _ w ((Ld.old hx) w hw) ((Ld.old hx2) w hw) (by first | omega | (simp only [tops_len, conts_len, bl, List.length_append, List.length_cons, List.length_nil] at *; omega)) (by first | omega | (simp only [tops_len, conts_len, bl, List.length_append, List.length_cons, List.length_nil] at *; omega)) )) ?_
    rintro _ _ ⟨rfl, rfl⟩
    refine O.p rfl rfl rfl (Pu.pickT rfl rfl rfl) ?_
    refine O.p rfl rfl rfl (Pu.assign rfl rfl) ?_
    refine O.nil ?_
    refine X.next ?_
    refine V.ret ?_
    refine X.ret1 rfl rfl ?_
    exact fun w hw => St.retP (boolD (by first | exact ⟨c1, c2⟩ | exact fun h => c1 h.1 | exact fun h => c2 h.2 | (constructor; (· exact fun h => ⟨c1, h⟩); (· exact fun h => h.2)) | simp_all)) hw
  · skip
    refine O.gs rfl rfl rfl rfl rfl rfl ?_
    refine O.gs rfl rfl rfl rfl rfl rfl ?_
    refine O.gs rfl rfl rfl rfl rfl rfl ?_
    refine O.gs rfl rfl rfl rfl rfl rfl ?_
    refine O.gs rfl rfl rfl rfl rfl rfl ?_
    refine O.p rfl rfl rfl (Pu.pickF rfl rfl rfl) ?_
    refine O.p rfl rfl rfl (Pu.assign rfl rfl) ?_
    refine O.nil ?_
    refine X.next ?_
    refine V.ret ?_
    refine X.ret1 rfl rfl ?_
    exact fun w hw => St.retP (boolF (by first | exact ⟨c1, c2⟩ | exact fun h => c1 h.1 | exact fun h => c2 h.2 | (constructor; (· exact fun h => ⟨c1, h⟩); (· exact fun h => h.2)) | simp_all)) hw
set_option maxRecDepth 100000 in
set_option maxHeartbeats 1000000 in
theorem sum_ok (list : List Int) (listA : Option Addr) (listc : Nat) (w : World) (hlist : Rd I64 w listA list) (llist : list.length ≤ 1099511627776) (hb : ∀ x ∈ list, 0 ≤ x ∧ x ≤ 1000000) (hl : list.length ≤ 1000000) : Does Try.prog 22 [.slice listA list.length listc] w [] (fun r => [.pur (r = .int .i64 list.sum)]) := by
  refine Does.enter Try.func22 rfl rfl [(0, .slice listA list.length listc)] rfl ?_
  refine V.seq ?_
  refine V.region ?_
  refine O.p rfl rfl rfl (Pu.assign rfl rfl) ?_
  refine O.nil ?_
  refine X.next ?_
  refine V.seq ?_
  refine V.region ?_
  refine O.p rfl rfl rfl (Pu.assign rfl rfl) ?_
  refine O.nil ?_
  refine X.next ?_
  refine V.seq ?_
  refine V.seq ?_
  refine V.region ?_
  refine O.p rfl rfl rfl (Pu.assign rfl rfl) ?_
  refine O.nil ?_
  refine X.next ?_
  refine V.block ?_
  refine V.loop2 (β := Int × Nat) (fun x => [(3, .int .i64 (x.1 : Int)), (4, .int .i64 (x.2 : Int))]) _ (fun x => []) (fun x => x.2 ≤ list.length ∧ x.1 = (list.take x.2).sum ∧ 0 ≤ x.1 ∧ x.1 ≤ 1000000 * (x.2 : Int)) (fun x => list.length - x.2) ((0 : Int), 0) (by (try dsimp only); exact ⟨by omega, rfl, by omega, by omega⟩) (Ent.cons rfl (Ent.cons rfl (Ent.nil _))) (Ent.cons (t := 0) rfl (Ent.nil _)) (Sub.nil _) ?_
  rintro ⟨n, i⟩ ⟨hi, hn, h0, hm⟩
  dsimp only at hi hn h0 hm ⊢
  refine V.seq ?_
  refine V.seq ?_
  refine V.region ?_
  refine O.p rfl rfl rfl (Pu.move rfl rfl) ?_
  refine O.p rfl rfl rfl (Pu.move rfl rfl) ?_
  refine O.p rfl rfl rfl (Pu.len rfl Try.underlying34 rfl) ?_
  refine O.p rfl rfl rfl (Pu.lss rfl rfl rfl) ?_
  refine O.nil ?_
  refine X.next ?_
  refine V.condD rfl (fun c1 => ?_) (fun c1 => ?_)
  · skip
    have hbi := hb _ (List.getElem_mem (show i < list.length by omega))
    refine V.skip ?_
    refine X.next ?_
    refine V.seq ?_
    refine V.block ?_
    refine V.region ?_
    refine O.p rfl rfl rfl (Pu.move rfl rfl) ?_
    refine O.p rfl rfl rfl (Pu.move rfl rfl) ?_
    refine O.p rfl rfl rfl (Pu.move rfl rfl) ?_
    refine O.p rfl rfl rfl (Pu.indexAddr (i) rfl Try.underlying34 sz2 rfl rfl (by omega) (by omega) (hlist.some (by omega))) ?_
    have e1 : i < list.length := by omega
    refine O.p rfl rfl rfl (Pu.load rfl pl2 rfl (Ld.rd (Ld.old hlist) (k := i) e1 rfl rfl)) ?_
    refine O.p rfl rfl rfl (Pu.add64 rfl (by omega) rfl rfl rfl) ?_
    refine O.p rfl rfl rfl (Pu.assign rfl rfl) ?_
    refine O.nil ?_
    refine X.blockNormal ?_
    refine X.next ?_
    refine V.region ?_
    refine O.p rfl rfl rfl (Pu.move rfl rfl) ?_
    refine O.p rfl rfl rfl (Pu.add64 (r := ((i + 1 : Nat) : Int)) rfl (by omega) rfl rfl rfl) ?_
    refine O.p rfl rfl rfl (Pu.assign rfl rfl) ?_
    refine O.nil ?_
    exact X.back2 ((n + (list[i]'e1)), i + 1) (by (try dsimp only); exact ⟨by omega, by rw [take_snoc (by omega), List.sum_append, hn]; simp, by omega, by omega⟩) (by first | omega | (dsimp only; omega)) (Ent.cons rfl (Ent.cons rfl (Ent.nil _))) (Ent.cons (t := 0) rfl (Ent.nil _)) (Sub.nil _)
  · skip
    refine V.exit ?_
    refine X.thenExit ?_
    refine X.thenExit ?_
    refine X.blockHit ?_
    refine X.next ?_
    refine V.seq ?_
    refine V.region ?_
    refine O.p rfl rfl rfl (Pu.move rfl rfl) ?_
    refine O.p rfl rfl rfl (Pu.assign rfl rfl) ?_
    refine O.nil ?_
    refine X.next ?_
    refine V.ret ?_
    refine X.ret1 rfl rfl ?_
    exact fun w hw => St.retP (iv (by rw [hn, List.take_of_length_le (by omega)])) hw
end Go.Proofs.Ytgjfcepnkllklaa
