/-
  Contracts, part 8.
-/
import Derived.Test.YtgjfcepnkllklaaGreatKb7
set_option linter.unusedVariables false
set_option linter.unusedSimpArgs false
namespace Go.Proofs.YtgjfcepnkllklaaGreat
open Go Go.RowKit Go.Vc Go.Proofs
set_option maxRecDepth 100000 in
set_option maxHeartbeats 1000000 in
theorem l01DrawOf_ok (cA : Option Addr) (cc : Nat) (code : List UInt8) (s : Nat) (v_ : Int) (w0 : World) (H : List Assn) (hc : Rd U8C w0 cA code) (lc : code.length ≤ 1048576) (hv : 3 ≤ v_ ∧ v_ ≤ 15) : Does Tryz.prog 186 [.pointer (some ⟨s, 0, none⟩), .int .i64 v_] w0 (SrcK 132 cA cc code s :: H) (fun rv_ => [.exi fun (rA : Option Addr) => .exi fun (rc : Nat) => .exi fun (r : List B3) => .sep (.pur (rv_ = .agg #[.int .i64 v_, .slice rA r.length rc] ∧ DrS 40 v_ r)) (.sep (Own 51 B3C rA rc r) (SrcK 132 cA cc code s))] ++ H) := by
  refine Does.enter Tryz.func186 rfl rfl [(0, .pointer (some ⟨s, 0, none⟩)), (1, .int .i64 v_)] rfl ?_
  refine V.seq ?_
  refine V.region ?_
  refine O.e rfl rfl rfl (Ef.alloc rfl zr26 rfl) ?_
  rintro _ _ ⟨b1, rfl, rfl⟩
  refine O.nil ?_
  refine X.next ?_
  refine V.seq ?_
  refine V.region ?_
  refine O.p rfl rfl rfl (Pu.move rfl rfl) ?_
  refine O.e rfl rfl rfl (Ef.build B3C ([] : List B3) rfl Tryz.underlying24 inf51 rfl rfl rfl (by first | decide | (simp; done)) (by kernel_rfl)) ?_
  rintro _ _ ⟨A1, hA1, rfl, rfl⟩
  refine O.p rfl rfl rfl (Pu.buildS (cs := [.int .i64 v_, .slice A1 0 0]) rfl rfl Tryz.underlying26 zr26 (by kernel_rfl) rfl (by kernel_rfl)) ?_
  refine O.e rfl rfl rfl (Ef.alloc rfl zr26 rfl) ?_
  rintro _ _ ⟨b2, rfl, rfl⟩
  refine O.s rfl rfl (Ef.storeAll 0 rfl sz26 rfl rfl rfl rfl (by simp [Value.oneCell']) rfl) ?_
  rintro _ _ rfl
  refine O.nil ?_
  refine X.next ?_
  refine V.seq ?_
  refine V.seq ?_
  refine V.region ?_
  refine O.p rfl rfl rfl (Pu.move rfl rfl) ?_
  refine O.p rfl rfl rfl (Pu.move rfl rfl) ?_
  refine O.e rfl rfl rfl (Ef.build I64 ([(4 : Int), (12 : Int), (40 : Int)] : List Int) rfl Tryz.underlying34 inf2 rfl rfl rfl (by first | decide | (simp; done)) (by kernel_rfl)) ?_
  rintro _ _ ⟨A2, hA2, rfl, rfl⟩
  refine O.e rfl rfl rfl (Ef.call call93 rfl rfl (Does.pre (fun w hw => hw.sub (Sub.keep 4 rfl (Sub.keep 0 rfl (Sub.keep 0 rfl (Sub.keep 0 rfl (Sub.keep 0 rfl (Sub.refl _))))))) (l01Pick_ok _ _ _ s ([(4 : Int), (12 : Int), (40 : Int)] : List Int) _ _ w0 _ (Ld.own 0 (by exact rfl)) (by first | omega | (simp only [tops_len, conts_len, bl, List.length_append, List.length_cons, List.length_nil] at *; omega)) (by first | assumption | omega | (try dsimp only at *; omega)) (by first | assumption | omega | (try dsimp only at *; omega)) (by first | (simp; done) | omega)))) ?_
  rintro _ _ rfl
  refine O.exi (fun r1 => ?_)
  refine O.sep ?_
  refine O.pur ?_
  rintro ⟨rfl, hr1_1⟩
  have hp40 : 0 ≤ r1 ∧ r1 ≤ 40 := by simp only [List.mem_cons, List.not_mem_nil, or_false] at hr1_1; omega
  refine O.e rfl rfl rfl (Ef.call call92 rfl rfl (Does.pre (fun w hw => hw.sub (Sub.keep 0 rfl (Sub.keep 0 rfl (Sub.keep 0 rfl (Sub.keep 0 rfl (Sub.keep 0 rfl (Sub.refl _))))))) (l01Next_ok _ _ _ s r1 w0 _   (by first | assumption | omega | (try dsimp only at *; omega)) (by first | assumption | omega | (try dsimp only at *; omega))))) ?_
  rintro _ _ rfl
  refine O.exi (fun r2 => ?_)
  refine O.sep ?_
  refine O.pur ?_
  rintro ⟨rfl, hr2_1, hr2_2, hr2_3⟩
  refine O.p rfl rfl rfl (Pu.assign rfl rfl) ?_
  refine O.nil ?_
  refine X.next ?_
  refine V.block ?_
  refine V.loop3 (β := Int × (Option Addr) × Nat × (List B3)) (fun x => [(6, .int .i64 (x.1 : Int))]) _ (fun x => [Blk b2 [.int .i64 v_, .slice x.2.1 x.2.2.2.length x.2.2.1] 26, Own 51 B3C x.2.1 x.2.2.1 x.2.2.2]) _ (fun x => (∀ b ∈ x.2.2.2, good v_ b) ∧ x.2.2.2.length + x.1.toNat ≤ 40) (fun x => x.1.toNat) (r2, A1, 0, ([] : List B3)) (by (try dsimp only); exact ⟨by simp, by simp only [List.length_nil]; omega⟩) (Ent.cons rfl (Ent.nil _)) (Ent.cons (t := 0) rfl (Ent.cons (t := 1) rfl (Ent.cons (t := 4) rfl (Ent.cons (t := 5) rfl (Ent.nil _))))) (Sub.keep 2 rfl (Sub.keep 2 rfl (Sub.keep 0 rfl (Sub.keep 0 rfl (Sub.keep 0 rfl (Sub.refl _)))))) ?_
  rintro ⟨k, xsA, xsc, xs⟩ ⟨hg, hl⟩
  dsimp only at hg hl ⊢
  refine V.seq ?_
  refine V.seq ?_
  refine V.region ?_
  refine O.p rfl rfl rfl (Pu.move rfl rfl) ?_
  refine O.p rfl rfl rfl (Pu.gtr rfl rfl rfl) ?_
  refine O.nil ?_
  refine X.next ?_
  refine V.condD rfl (fun c1 => ?_) (fun c1 => ?_)
  · skip
    refine V.skip ?_
    refine X.next ?_
    refine V.seq ?_
    refine V.block ?_
    refine V.seq ?_
    refine V.region ?_
    refine O.p rfl rfl rfl (Pu.move rfl rfl) ?_
    refine O.p rfl rfl rfl (Pu.move rfl rfl) ?_
    refine O.e rfl rfl rfl (Ef.call call90 rfl rfl (Does.pre (fun w hw => hw.sub (Sub.keep 2 rfl (Sub.keep 0 rfl (Sub.keep 0 rfl (Sub.keep 0 rfl (Sub.keep 0 rfl (Sub.refl _))))))) (l01DrawOrder_ok _ _ _ s v_ w0 _   (by first | assumption | omega | (try dsimp only at *; omega)) (by first | assumption | omega | (try dsimp only at *; omega)) (by omega)))) ?_
    rintro _ _ rfl
    refine O.exi (fun r3A => ?_)
    refine O.exi (fun r3c => ?_)
    refine O.exi (fun r3 => ?_)
    refine O.sep ?_
    refine O.pur ?_
    rintro ⟨rfl, hr3_1⟩
    refine O.sep ?_
    refine O.p rfl rfl rfl (Pu.assign rfl rfl) ?_
    refine O.nil ?_
    refine X.next ?_
    refine V.seq ?_
    have hol := hr3_1.1
    have g0 := ord_at hr3_1 (i := 0) (by omega)
    have g1 := ord_at hr3_1 (i := 1) (by omega)
    have g2 := ord_at hr3_1 (i := 2) (by omega)
    have hgb := good_bk3 g0 g1 g2 (ord_ne hr3_1 (by omega) (by omega) (by decide)) (ord_ne hr3_1 (by omega) (by omega) (by decide)) (ord_ne hr3_1 (by omega) (by omega) (by decide))
    refine V.draw mo (by kernel_rfl) (fun hwf => ?_)
    refine D.p 0 rfl rfl rfl rfl rfl rfl (Pu.move rfl rfl) ?_
    refine D.p 1 rfl rfl rfl rfl rfl rfl (Pu.indexAddrS (0) rfl Tryz.underlying34 sz2 rfl rfl (by omega) (by omega) (fun w hw => Own.some hw (i := 0) (by exact rfl) (by omega))) ?_
    have e1 : 0 < r3.length := by omega
    refine D.p 2 rfl rfl rfl rfl rfl rfl (Pu.load rfl pl2 rfl (Ld.rd (Ld.own 0 (by exact rfl)) (k := 0) e1 rfl rfl)) ?_
    refine D.p 3 rfl rfl rfl rfl rfl rfl (Pu.move rfl rfl) ?_
    refine D.p 4 rfl rfl rfl rfl rfl rfl (Pu.indexAddrS (1) rfl Tryz.underlying34 sz2 rfl rfl (by omega) (by omega) (fun w hw => Own.some hw (i := 0) (by exact rfl) (by omega))) ?_
    have e2 : 1 < r3.length := by omega
    refine D.p 5 rfl rfl rfl rfl rfl rfl (Pu.load rfl pl2 rfl (Ld.rd (Ld.own 0 (by exact rfl)) (k := 1) e2 rfl rfl)) ?_
    refine D.p 6 rfl rfl rfl rfl rfl rfl (Pu.move rfl rfl) ?_
    refine D.p 7 rfl rfl rfl rfl rfl rfl (Pu.indexAddrS (2) rfl Tryz.underlying34 sz2 rfl rfl (by omega) (by omega) (fun w hw => Own.some hw (i := 0) (by exact rfl) (by omega))) ?_
    have e3 : 2 < r3.length := by omega
    refine D.p 8 rfl rfl rfl rfl rfl rfl (Pu.load rfl pl2 rfl (Ld.rd (Ld.own 0 (by exact rfl)) (k := 2) e3 rfl rfl)) ?_
    refine D.either hwf (e1 := 9) (e2 := 10) rfl ?_ ?_
    · skip
      refine ⟨_, _, rfl, rfl, fun _ _ => wanted_none rfl _, Ef.callP call206 rfl rfl (fun w hw => l01BlockD_ok  (r3[0]'e1) (r3[1]'e2) (r3[2]'e3) w   (by first | assumption | omega | (try dsimp only at *; omega)) (by first | assumption | omega | (try dsimp only at *; omega)) (by first | assumption | omega | (try dsimp only at *; omega))), rfl, rfl, ?_⟩
      rintro _ _ ⟨rfl, rfl⟩ hs
      refine ⟨fun w hw => hw, ?_⟩
      refine D.eff hwf (e := 10) rfl rfl rfl rfl (Ef.alloc rfl zr51 rfl) rfl rfl rfl ?_
      rintro _ _ ⟨b3, rfl, rfl⟩ hs
      refine ⟨fun w hw => hw.sub (Sub.keep 1 rfl (Sub.keep 1 rfl (Sub.keep 1 rfl (Sub.keep 1 rfl (Sub.keep 1 rfl (Sub.keep 1 rfl (Sub.drop (Sub.refl _)))))))), ?_⟩
      refine D.eff hwf (e := 11) rfl rfl rfl rfl (Ef.storeAll 0 rfl sz51 rfl rfl rfl rfl (by simp [Value.oneCell']) rfl) rfl rfl rfl ?_
      rintro _ _ rfl hs
      refine ⟨fun w hw => hw.sub (Sub.keep 1 rfl (Sub.keep 1 rfl (Sub.keep 1 rfl (Sub.keep 1 rfl (Sub.keep 1 rfl (Sub.keep 1 rfl (Sub.drop (Sub.refl _)))))))), ?_⟩
      refine D.done hwf rfl ?_
      refine X.next ?_
      refine V.seq ?_
      refine V.region ?_
      refine O.p rfl rfl rfl (Pu.loadAgg rfl ag26 sz26 rfl rfl (Ld.whole 3 rfl)) ?_
      refine O.p rfl rfl rfl (Pu.loadAgg' (v := B3.v (bk3 (r3[0]'e1) (r3[1]'e2) (r3[2]'e3))) rfl rfl ag51 sz51 rfl rfl (Ld.whole 0 rfl)) ?_
      refine O.e rfl rfl rfl (Ef.callP call213 rfl rfl (fun w hw => l01Free_ok  v_ xs (bk3 (r3[0]'e1) (r3[1]'e2) (r3[2]'e3)) _ _ w ((Ld.own 4 (by exact rfl)) w hw) (by first | omega | (simp only [tops_len, conts_len, bl, List.length_append, List.length_cons, List.length_nil] at *; omega)) )) ?_
      rintro _ _ ⟨rfl, rfl⟩
      refine O.nil ?_
      refine X.next ?_
      refine V.condD rfl (fun c2 => ?_) (fun c2 => ?_)
      · skip
        refine V.draw mo (by kernel_rfl) (fun hwf => ?_)
        refine D.p 0 rfl rfl rfl rfl rfl rfl (Pu.move rfl rfl) ?_
        refine D.p 2 rfl rfl rfl rfl rfl rfl (Pu.fieldAddr 1 rfl Tryz.underlying26 rfl sz24 rfl rfl) ?_
        refine D.p 3 rfl rfl rfl rfl rfl rfl (Pu.load rfl pl24 rfl (Ld.blk 3 rfl rfl)) ?_
        refine D.p 5 rfl rfl rfl rfl rfl rfl (Pu.loadAgg' (v := B3.v (bk3 (r3[0]'e1) (r3[1]'e2) (r3[2]'e3))) rfl rfl ag51 sz51 rfl rfl (Ld.whole 0 rfl)) ?_
        refine D.either hwf (e1 := 1) (e2 := 6) rfl ?_ ?_
        · skip
          refine ⟨_, _, rfl, rfl, fun _ _ => wanted_none rfl _, Ef.build B3C ([] : List B3) rfl Tryz.underlying24 inf51 rfl rfl rfl (by first | decide | (simp; done)) (by kernel_rfl), rfl, rfl, ?_⟩
          rintro _ _ ⟨A3, hA3, rfl, rfl⟩ hs
          refine ⟨fun w hw => hw.sub (Sub.keep 1 rfl (Sub.keep 1 rfl (Sub.keep 1 rfl (Sub.keep 1 rfl (Sub.keep 1 rfl (Sub.keep 1 rfl (Sub.keep 1 rfl (Sub.drop (Sub.refl _))))))))), ?_⟩
          refine D.either hwf (e1 := 4) (e2 := 6) rfl ?_ ?_
          · skip
            refine ⟨_, _, rfl, rfl, fun _ _ => wanted_none rfl _, Ef.appendN (xs := ([] : List B3)) (ys := xs) 0 rfl Tryz.underlying24 inf51 rfl rfl rfl rfl rfl rfl (fun w hw h => Own.nilc hw (i := 5) (by exact rfl) h) (Ld.own 5 (by exact rfl)) (by simp only [List.length_append, List.length_cons, List.length_nil] at *; omega) (by decide), rfl, rfl, ?_⟩
            rintro _ _ ⟨A4, k1, rfl, rfl, hA4⟩ hs
            replace hA4 := hA4 (.inl hA3)
            refine ⟨fun w hw => hw.sub (Sub.keep 1 rfl (Sub.keep 1 rfl (Sub.keep 1 rfl (Sub.keep 1 rfl (Sub.keep 1 rfl (Sub.keep 1 rfl (Sub.keep 1 rfl (Sub.drop (Sub.refl _))))))))), ?_⟩
            refine D.eff hwf (e := 6) rfl rfl rfl rfl (Ef.build B3C ([(bk3 (r3[0]'e1) (r3[1]'e2) (r3[2]'e3))] : List B3) rfl Tryz.underlying24 inf51 rfl rfl rfl (by first | decide | (simp; done)) (by kernel_rfl)) rfl rfl rfl ?_
            rintro _ _ ⟨A5, hA5, rfl, rfl⟩ hs
            refine ⟨fun w hw => hw.sub (Sub.keep 2 rfl (Sub.keep 2 rfl (Sub.keep 2 rfl (Sub.keep 2 rfl (Sub.keep 2 rfl (Sub.keep 2 rfl (Sub.keep 2 rfl (Sub.drop (Sub.drop (Sub.refl _)))))))))), ?_⟩
            refine D.eff hwf (e := 7) rfl rfl rfl rfl (Ef.append (xs := (([] : List B3) ++ xs)) (ys := ([(bk3 (r3[0]'e1) (r3[1]'e2) (r3[2]'e3))] : List B3)) 1 rfl Tryz.underlying24 inf51 rfl rfl rfl rfl rfl rfl hA5 (Ld.own 0 (by exact rfl)) (by simp only [List.length_append, List.length_cons, List.length_nil] at *; omega) (by decide)) rfl rfl rfl ?_
            rintro _ _ ⟨A6, k2, rfl, rfl, hA6⟩ hs
            replace hA6 := hA6 (.inr (by simp))
            refine ⟨fun w hw => hw.sub (Sub.keep 2 rfl (Sub.keep 2 rfl (Sub.keep 2 rfl (Sub.keep 2 rfl (Sub.keep 2 rfl (Sub.keep 2 rfl (Sub.keep 2 rfl (Sub.drop (Sub.drop (Sub.refl _)))))))))), ?_⟩
            refine D.eff hwf (e := 8) rfl rfl rfl rfl (Ef.call1 call199 rfl rfl (fun w hw => l01Made_ok  v_ ((([] : List B3) ++ xs) ++ ([(bk3 (r3[0]'e1) (r3[1]'e2) (r3[2]'e3))] : List B3)) _ _ w ((Ld.own 1 (by exact rfl)) w hw) (by first | omega | (simp only [List.length_append, List.length_cons, List.length_nil, List.length_take, List.length_drop]; omega)) (by first | omega | (simp only [List.length_append, List.length_cons, List.length_nil, List.length_take, List.length_drop]; omega)))) rfl rfl rfl ?_
            rintro _ _ rfl hs
            refine ⟨fun w hw => hs w hw.tail, ?_⟩
            refine D.exi (fun r4A => ?_)
            refine D.exi (fun r4c => ?_)
            refine D.exi (fun r4 => ?_)
            refine D.sep ?_
            refine D.pur1 ?_
            rintro ⟨rfl, hr4_1, hr4_2⟩
            refine D.effX (Hs' := []) hwf (e := 9) rfl rfl rfl rfl (Ef.storeAll 6 rfl sz26 rfl rfl rfl rfl (by simp [Value.oneCell']) rfl) rfl [] rfl (List.forall_mem_nil _) ?_
            rintro _ _ rfl
            refine ⟨fun w hw => hw.sub (Sub.nil _), ?_⟩
            refine D.done hwf rfl ?_
            refine X.blockNormal ?_
            refine X.next ?_
            refine V.region ?_
            refine O.p rfl rfl rfl (Pu.move rfl rfl) ?_
            refine O.p rfl rfl rfl (Pu.sub64 rfl (by omega) rfl rfl rfl) ?_
            refine O.p rfl rfl rfl (Pu.assign rfl rfl) ?_
            refine O.nil ?_
            exact X.back3 ((k - (1 : Int)), r4A, r4c, r4) (by (try dsimp only); exact ⟨fun d hd => good_snoc hg hgb d (hr4_1.mem_iff.1 hd), by have h := hr4_1.length_eq; simp only [List.length_append, List.length_singleton, List.length_nil] at h; omega⟩) (by first | omega | (dsimp only; omega)) (Ent.cons rfl (Ent.nil _)) (Ent.cons (t := 0) rfl (Ent.cons (t := 1) rfl (Ent.cons (t := 4) rfl (Ent.cons (t := 5) rfl (Ent.nil _))))) (Sub.keep 6 rfl (Sub.keep 0 rfl (Sub.keep 4 rfl (Sub.keep 5 rfl (Sub.keep 5 rfl (Sub.drop (Sub.drop (Sub.drop (Sub.drop (Sub.drop (Sub.refl _)))))))))))
          · skip
            refine ⟨_, _, rfl, rfl, fun _ _ => wanted_none rfl _, Ef.build B3C ([(bk3 (r3[0]'e1) (r3[1]'e2) (r3[2]'e3))] : List B3) rfl Tryz.underlying24 inf51 rfl rfl rfl (by first | decide | (simp; done)) (by kernel_rfl), rfl, rfl, ?_⟩
            rintro _ _ ⟨A4, hA4, rfl, rfl⟩ hs
            refine ⟨fun w hw => hw.sub (Sub.keep 2 rfl (Sub.keep 2 rfl (Sub.keep 2 rfl (Sub.keep 2 rfl (Sub.keep 2 rfl (Sub.keep 2 rfl (Sub.keep 2 rfl (Sub.drop (Sub.drop (Sub.refl _)))))))))), ?_⟩
            refine D.eff hwf (e := 4) rfl rfl rfl rfl (Ef.appendN (xs := ([] : List B3)) (ys := xs) 1 rfl Tryz.underlying24 inf51 rfl rfl rfl rfl rfl rfl (fun w hw h => Own.nilc hw (i := 6) (by exact rfl) h) (Ld.own 6 (by exact rfl)) (by simp only [List.length_append, List.length_cons, List.length_nil] at *; omega) (by decide)) rfl rfl rfl ?_
            rintro _ _ ⟨A5, k1, rfl, rfl, hA5⟩ hs
            replace hA5 := hA5 (.inl hA3)
            refine ⟨fun w hw => hw.sub (Sub.keep 2 rfl (Sub.keep 2 rfl (Sub.keep 2 rfl (Sub.keep 2 rfl (Sub.keep 2 rfl (Sub.keep 2 rfl (Sub.keep 2 rfl (Sub.drop (Sub.drop (Sub.refl _)))))))))), ?_⟩
            refine D.eff hwf (e := 7) rfl rfl rfl rfl (Ef.append (xs := (([] : List B3) ++ xs)) (ys := ([(bk3 (r3[0]'e1) (r3[1]'e2) (r3[2]'e3))] : List B3)) 1 rfl Tryz.underlying24 inf51 rfl rfl rfl rfl rfl rfl hA4 (Ld.own 0 (by exact rfl)) (by simp only [List.length_append, List.length_cons, List.length_nil] at *; omega) (by decide)) rfl rfl rfl ?_
            rintro _ _ ⟨A6, k2, rfl, rfl, hA6⟩ hs
            replace hA6 := hA6 (.inr (by simp))
            refine ⟨fun w hw => hw.sub (Sub.keep 2 rfl (Sub.keep 2 rfl (Sub.keep 2 rfl (Sub.keep 2 rfl (Sub.keep 2 rfl (Sub.keep 2 rfl (Sub.keep 2 rfl (Sub.drop (Sub.drop (Sub.refl _)))))))))), ?_⟩
            refine D.eff hwf (e := 8) rfl rfl rfl rfl (Ef.call1 call199 rfl rfl (fun w hw => l01Made_ok  v_ ((([] : List B3) ++ xs) ++ ([(bk3 (r3[0]'e1) (r3[1]'e2) (r3[2]'e3))] : List B3)) _ _ w ((Ld.own 1 (by exact rfl)) w hw) (by first | omega | (simp only [List.length_append, List.length_cons, List.length_nil, List.length_take, List.length_drop]; omega)) (by first | omega | (simp only [List.length_append, List.length_cons, List.length_nil, List.length_take, List.length_drop]; omega)))) rfl rfl rfl ?_
            rintro _ _ rfl hs
            refine ⟨fun w hw => hs w hw.tail, ?_⟩
            refine D.exi (fun r4A => ?_)
            refine D.exi (fun r4c => ?_)
            refine D.exi (fun r4 => ?_)
            refine D.sep ?_
            refine D.pur1 ?_
            rintro ⟨rfl, hr4_1, hr4_2⟩
            refine D.effX (Hs' := []) hwf (e := 9) rfl rfl rfl rfl (Ef.storeAll 6 rfl sz26 rfl rfl rfl rfl (by simp [Value.oneCell']) rfl) rfl [] rfl (List.forall_mem_nil _) ?_
            rintro _ _ rfl
            refine ⟨fun w hw => hw.sub (Sub.nil _), ?_⟩
            refine D.done hwf rfl ?_
            refine X.blockNormal ?_
            refine X.next ?_
            refine V.region ?_
            refine O.p rfl rfl rfl (Pu.move rfl rfl) ?_
            refine O.p rfl rfl rfl (Pu.sub64 rfl (by omega) rfl rfl rfl) ?_
            refine O.p rfl rfl rfl (Pu.assign rfl rfl) ?_
            refine O.nil ?_
            exact X.back3 ((k - (1 : Int)), r4A, r4c, r4) (by (try dsimp only); exact ⟨fun d hd => good_snoc hg hgb d (hr4_1.mem_iff.1 hd), by have h := hr4_1.length_eq; simp only [List.length_append, List.length_singleton, List.length_nil] at h; omega⟩) (by first | omega | (dsimp only; omega)) (Ent.cons rfl (Ent.nil _)) (Ent.cons (t := 0) rfl (Ent.cons (t := 1) rfl (Ent.cons (t := 4) rfl (Ent.cons (t := 5) rfl (Ent.nil _))))) (Sub.keep 6 rfl (Sub.keep 0 rfl (Sub.keep 4 rfl (Sub.keep 5 rfl (Sub.keep 5 rfl (Sub.drop (Sub.drop (Sub.drop (Sub.drop (Sub.drop (Sub.refl _)))))))))))
        · skip
          refine ⟨_, _, rfl, rfl, fun _ _ => wanted_none rfl _, Ef.build B3C ([(bk3 (r3[0]'e1) (r3[1]'e2) (r3[2]'e3))] : List B3) rfl Tryz.underlying24 inf51 rfl rfl rfl (by first | decide | (simp; done)) (by kernel_rfl), rfl, rfl, ?_⟩
          rintro _ _ ⟨A3, hA3, rfl, rfl⟩ hs
          refine ⟨fun w hw => hw.sub (Sub.keep 1 rfl (Sub.keep 1 rfl (Sub.keep 1 rfl (Sub.keep 1 rfl (Sub.keep 1 rfl (Sub.keep 1 rfl (Sub.keep 1 rfl (Sub.drop (Sub.refl _))))))))), ?_⟩
          refine D.eff hwf (e := 1) rfl rfl rfl rfl (Ef.build B3C ([] : List B3) rfl Tryz.underlying24 inf51 rfl rfl rfl (by first | decide | (simp; done)) (by kernel_rfl)) rfl rfl rfl ?_
          rintro _ _ ⟨A4, hA4, rfl, rfl⟩ hs
          refine ⟨fun w hw => hw.sub (Sub.keep 2 rfl (Sub.keep 2 rfl (Sub.keep 2 rfl (Sub.keep 2 rfl (Sub.keep 2 rfl (Sub.keep 2 rfl (Sub.keep 2 rfl (Sub.drop (Sub.drop (Sub.refl _)))))))))), ?_⟩
          refine D.eff hwf (e := 4) rfl rfl rfl rfl (Ef.appendN (xs := ([] : List B3)) (ys := xs) 0 rfl Tryz.underlying24 inf51 rfl rfl rfl rfl rfl rfl (fun w hw h => Own.nilc hw (i := 6) (by exact rfl) h) (Ld.own 6 (by exact rfl)) (by simp only [List.length_append, List.length_cons, List.length_nil] at *; omega) (by decide)) rfl rfl rfl ?_
          rintro _ _ ⟨A5, k1, rfl, rfl, hA5⟩ hs
          replace hA5 := hA5 (.inl hA4)
          refine ⟨fun w hw => hw.sub (Sub.keep 2 rfl (Sub.keep 2 rfl (Sub.keep 2 rfl (Sub.keep 2 rfl (Sub.keep 2 rfl (Sub.keep 2 rfl (Sub.keep 2 rfl (Sub.drop (Sub.drop (Sub.refl _)))))))))), ?_⟩
          refine D.eff hwf (e := 7) rfl rfl rfl rfl (Ef.append (xs := (([] : List B3) ++ xs)) (ys := ([(bk3 (r3[0]'e1) (r3[1]'e2) (r3[2]'e3))] : List B3)) 0 rfl Tryz.underlying24 inf51 rfl rfl rfl rfl rfl rfl hA3 (Ld.own 1 (by exact rfl)) (by simp only [List.length_append, List.length_cons, List.length_nil] at *; omega) (by decide)) rfl rfl rfl ?_
          rintro _ _ ⟨A6, k2, rfl, rfl, hA6⟩ hs
          replace hA6 := hA6 (.inr (by simp))
          refine ⟨fun w hw => hw.sub (Sub.keep 2 rfl (Sub.keep 2 rfl (Sub.keep 2 rfl (Sub.keep 2 rfl (Sub.keep 2 rfl (Sub.keep 2 rfl (Sub.keep 2 rfl (Sub.drop (Sub.drop (Sub.refl _)))))))))), ?_⟩
          refine D.eff hwf (e := 8) rfl rfl rfl rfl (Ef.call1 call199 rfl rfl (fun w hw => l01Made_ok  v_ ((([] : List B3) ++ xs) ++ ([(bk3 (r3[0]'e1) (r3[1]'e2) (r3[2]'e3))] : List B3)) _ _ w ((Ld.own 0 (by exact rfl)) w hw) (by first | omega | (simp only [List.length_append, List.length_cons, List.length_nil, List.length_take, List.length_drop]; omega)) (by first | omega | (simp only [List.length_append, List.length_cons, List.length_nil, List.length_take, List.length_drop]; omega)))) rfl rfl rfl ?_
          rintro _ _ rfl hs
          refine ⟨fun w hw => hs w hw.tail, ?_⟩
          refine D.exi (fun r4A => ?_)
          refine D.exi (fun r4c => ?_)
          refine D.exi (fun r4 => ?_)
          refine D.sep ?_
          refine D.pur1 ?_
          rintro ⟨rfl, hr4_1, hr4_2⟩
          refine D.effX (Hs' := []) hwf (e := 9) rfl rfl rfl rfl (Ef.storeAll 6 rfl sz26 rfl rfl rfl rfl (by simp [Value.oneCell']) rfl) rfl [] rfl (List.forall_mem_nil _) ?_
          rintro _ _ rfl
          refine ⟨fun w hw => hw.sub (Sub.nil _), ?_⟩
          refine D.done hwf rfl ?_
          refine X.blockNormal ?_
          refine X.next ?_
          refine V.region ?_
          refine O.p rfl rfl rfl (Pu.move rfl rfl) ?_
          refine O.p rfl rfl rfl (Pu.sub64 rfl (by omega) rfl rfl rfl) ?_
          refine O.p rfl rfl rfl (Pu.assign rfl rfl) ?_
          refine O.nil ?_
          exact X.back3 ((k - (1 : Int)), r4A, r4c, r4) (by (try dsimp only); exact ⟨fun d hd => good_snoc hg hgb d (hr4_1.mem_iff.1 hd), by have h := hr4_1.length_eq; simp only [List.length_append, List.length_singleton, List.length_nil] at h; omega⟩) (by first | omega | (dsimp only; omega)) (Ent.cons rfl (Ent.nil _)) (Ent.cons (t := 0) rfl (Ent.cons (t := 1) rfl (Ent.cons (t := 4) rfl (Ent.cons (t := 5) rfl (Ent.nil _))))) (Sub.keep 6 rfl (Sub.keep 0 rfl (Sub.keep 4 rfl (Sub.keep 5 rfl (Sub.keep 5 rfl (Sub.drop (Sub.drop (Sub.drop (Sub.drop (Sub.drop (Sub.refl _)))))))))))
      · skip
        refine V.skip ?_
        refine X.blockNormal ?_
        refine X.next ?_
        refine V.region ?_
        refine O.p rfl rfl rfl (Pu.move rfl rfl) ?_
        refine O.p rfl rfl rfl (Pu.sub64 rfl (by omega) rfl rfl rfl) ?_
        refine O.p rfl rfl rfl (Pu.assign rfl rfl) ?_
        refine O.nil ?_
        exact X.back3 ((k - (1 : Int)), xsA, xsc, xs) (by (try dsimp only); exact ⟨hg, by omega⟩) (by first | omega | (dsimp only; omega)) (Ent.cons rfl (Ent.nil _)) (Ent.cons (t := 0) rfl (Ent.cons (t := 1) rfl (Ent.cons (t := 4) rfl (Ent.cons (t := 5) rfl (Ent.nil _))))) (Sub.keep 3 rfl (Sub.keep 3 rfl (Sub.keep 2 rfl (Sub.keep 2 rfl (Sub.keep 2 rfl (Sub.drop (Sub.drop (Sub.refl _))))))))
    · skip
      refine ⟨_, _, rfl, rfl, fun _ _ => wanted_none rfl _, Ef.alloc rfl zr51 rfl, rfl, rfl, ?_⟩
      rintro _ _ ⟨b3, rfl, rfl⟩ hs
      refine ⟨fun w hw => hw.sub (Sub.keep 1 rfl (Sub.keep 1 rfl (Sub.keep 1 rfl (Sub.keep 1 rfl (Sub.keep 1 rfl (Sub.keep 1 rfl (Sub.drop (Sub.refl _)))))))), ?_⟩
      refine D.eff hwf (e := 9) rfl rfl rfl rfl (Ef.callP call206 rfl rfl (fun w hw => l01BlockD_ok  (r3[0]'e1) (r3[1]'e2) (r3[2]'e3) w   (by first | assumption | omega | (try dsimp only at *; omega)) (by first | assumption | omega | (try dsimp only at *; omega)) (by first | assumption | omega | (try dsimp only at *; omega)))) rfl rfl rfl ?_
      rintro _ _ ⟨rfl, rfl⟩ hs
      refine ⟨fun w hw => hw.sub (Sub.keep 1 rfl (Sub.keep 1 rfl (Sub.keep 1 rfl (Sub.keep 1 rfl (Sub.keep 1 rfl (Sub.keep 1 rfl (Sub.drop (Sub.refl _)))))))), ?_⟩
      refine D.eff hwf (e := 11) rfl rfl rfl rfl (Ef.storeAll 0 rfl sz51 rfl rfl rfl rfl (by simp [Value.oneCell']) rfl) rfl rfl rfl ?_
      rintro _ _ rfl hs
      refine ⟨fun w hw => hw.sub (Sub.keep 1 rfl (Sub.keep 1 rfl (Sub.keep 1 rfl (Sub.keep 1 rfl (Sub.keep 1 rfl (Sub.keep 1 rfl (Sub.drop (Sub.refl _)))))))), ?_⟩
      refine D.done hwf rfl ?_
      refine X.next ?_
      refine V.seq ?_
      refine V.region ?_
      refine O.p rfl rfl rfl (Pu.loadAgg rfl ag26 sz26 rfl rfl (Ld.whole 3 rfl)) ?_
      refine O.p rfl rfl rfl (Pu.loadAgg' (v := B3.v (bk3 (r3[0]'e1) (r3[1]'e2) (r3[2]'e3))) rfl rfl ag51 sz51 rfl rfl (Ld.whole 0 rfl)) ?_
      refine O.e rfl rfl rfl (Ef.callP call213 rfl rfl (fun w hw => l01Free_ok  v_ xs (bk3 (r3[0]'e1) (r3[1]'e2) (r3[2]'e3)) _ _ w ((Ld.own 4 (by exact rfl)) w hw) (by first | omega | (simp only [tops_len, conts_len, bl, List.length_append, List.length_cons, List.length_nil] at *; omega)) )) ?_
      rintro _ _ ⟨rfl, rfl⟩
      refine O.nil ?_
      refine X.next ?_
      refine V.condD rfl (fun c2 => ?_) (fun c2 => ?_)
      · skip
        refine V.draw mo (by kernel_rfl) (fun hwf => ?_)
        refine D.p 0 rfl rfl rfl rfl rfl rfl (Pu.move rfl rfl) ?_
        refine D.p 2 rfl rfl rfl rfl rfl rfl (Pu.fieldAddr 1 rfl Tryz.underlying26 rfl sz24 rfl rfl) ?_
        refine D.p 3 rfl rfl rfl rfl rfl rfl (Pu.load rfl pl24 rfl (Ld.blk 3 rfl rfl)) ?_
        refine D.p 5 rfl rfl rfl rfl rfl rfl (Pu.loadAgg' (v := B3.v (bk3 (r3[0]'e1) (r3[1]'e2) (r3[2]'e3))) rfl rfl ag51 sz51 rfl rfl (Ld.whole 0 rfl)) ?_
        refine D.either hwf (e1 := 1) (e2 := 6) rfl ?_ ?_
        · skip
          refine ⟨_, _, rfl, rfl, fun _ _ => wanted_none rfl _, Ef.build B3C ([] : List B3) rfl Tryz.underlying24 inf51 rfl rfl rfl (by first | decide | (simp; done)) (by kernel_rfl), rfl, rfl, ?_⟩
          rintro _ _ ⟨A3, hA3, rfl, rfl⟩ hs
          refine ⟨fun w hw => hw.sub (Sub.keep 1 rfl (Sub.keep 1 rfl (Sub.keep 1 rfl (Sub.keep 1 rfl (Sub.keep 1 rfl (Sub.keep 1 rfl (Sub.keep 1 rfl (Sub.drop (Sub.refl _))))))))), ?_⟩
          refine D.either hwf (e1 := 4) (e2 := 6) rfl ?_ ?_
          · skip
            refine ⟨_, _, rfl, rfl, fun _ _ => wanted_none rfl _, Ef.appendN (xs := ([] : List B3)) (ys := xs) 0 rfl Tryz.underlying24 inf51 rfl rfl rfl rfl rfl rfl (fun w hw h => Own.nilc hw (i := 5) (by exact rfl) h) (Ld.own 5 (by exact rfl)) (by simp only [List.length_append, List.length_cons, List.length_nil] at *; omega) (by decide), rfl, rfl, ?_⟩
            rintro _ _ ⟨A4, k1, rfl, rfl, hA4⟩ hs
            replace hA4 := hA4 (.inl hA3)
            refine ⟨fun w hw => hw.sub (Sub.keep 1 rfl (Sub.keep 1 rfl (Sub.keep 1 rfl (Sub.keep 1 rfl (Sub.keep 1 rfl (Sub.keep 1 rfl (Sub.keep 1 rfl (Sub.drop (Sub.refl _))))))))), ?_⟩
            refine D.eff hwf (e := 6) rfl rfl rfl rfl (Ef.build B3C ([(bk3 (r3[0]'e1) (r3[1]'e2) (r3[2]'e3))] : List B3) rfl Tryz.underlying24 inf51 rfl rfl rfl (by first | decide | (simp; done)) (by kernel_rfl)) rfl rfl rfl ?_
            rintro _ _ ⟨A5, hA5, rfl, rfl⟩ hs
            refine ⟨fun w hw => hw.sub (Sub.keep 2 rfl (Sub.keep 2 rfl (Sub.keep 2 rfl (Sub.keep 2 rfl (Sub.keep 2 rfl (Sub.keep 2 rfl (Sub.keep 2 rfl (Sub.drop (Sub.drop (Sub.refl _)))))))))), ?_⟩
            refine D.eff hwf (e := 7) rfl rfl rfl rfl (Ef.append (xs := (([] : List B3) ++ xs)) (ys := ([(bk3 (r3[0]'e1) (r3[1]'e2) (r3[2]'e3))] : List B3)) 1 rfl Tryz.underlying24 inf51 rfl rfl rfl rfl rfl rfl hA5 (Ld.own 0 (by exact rfl)) (by simp only [List.length_append, List.length_cons, List.length_nil] at *; omega) (by decide)) rfl rfl rfl ?_
            rintro _ _ ⟨A6, k2, rfl, rfl, hA6⟩ hs
            replace hA6 := hA6 (.inr (by simp))
            refine ⟨fun w hw => hw.sub (Sub.keep 2 rfl (Sub.keep 2 rfl (Sub.keep 2 rfl (Sub.keep 2 rfl (Sub.keep 2 rfl (Sub.keep 2 rfl (Sub.keep 2 rfl (Sub.drop (Sub.drop (Sub.refl _)))))))))), ?_⟩
            refine D.eff hwf (e := 8) rfl rfl rfl rfl (Ef.call1 call199 rfl rfl (fun w hw => l01Made_ok  v_ ((([] : List B3) ++ xs) ++ ([(bk3 (r3[0]'e1) (r3[1]'e2) (r3[2]'e3))] : List B3)) _ _ w ((Ld.own 1 (by exact rfl)) w hw) (by first | omega | (simp only [List.length_append, List.length_cons, List.length_nil, List.length_take, List.length_drop]; omega)) (by first | omega | (simp only [List.length_append, List.length_cons, List.length_nil, List.length_take, List.length_drop]; omega)))) rfl rfl rfl ?_
            rintro _ _ rfl hs
            refine ⟨fun w hw => hs w hw.tail, ?_⟩
            refine D.exi (fun r4A => ?_)
            refine D.exi (fun r4c => ?_)
            refine D.exi (fun r4 => ?_)
            refine D.sep ?_
            refine D.pur1 ?_
            rintro ⟨rfl, hr4_1, hr4_2⟩
            refine D.effX (Hs' := []) hwf (e := 9) rfl rfl rfl rfl (Ef.storeAll 6 rfl sz26 rfl rfl rfl rfl (by simp [Value.oneCell']) rfl) rfl [] rfl (List.forall_mem_nil _) ?_
            rintro _ _ rfl
            refine ⟨fun w hw => hw.sub (Sub.nil _), ?_⟩
            refine D.done hwf rfl ?_
            refine X.blockNormal ?_
            refine X.next ?_
            refine V.region ?_
            refine O.p rfl rfl rfl (Pu.move rfl rfl) ?_
            refine O.p rfl rfl rfl (Pu.sub64 rfl (by omega) rfl rfl rfl) ?_
            refine O.p rfl rfl rfl (Pu.assign rfl rfl) ?_
            refine O.nil ?_
            exact X.back3 ((k - (1 : Int)), r4A, r4c, r4) (by (try dsimp only); exact ⟨fun d hd => good_snoc hg hgb d (hr4_1.mem_iff.1 hd), by have h := hr4_1.length_eq; simp only [List.length_append, List.length_singleton, List.length_nil] at h; omega⟩) (by first | omega | (dsimp only; omega)) (Ent.cons rfl (Ent.nil _)) (Ent.cons (t := 0) rfl (Ent.cons (t := 1) rfl (Ent.cons (t := 4) rfl (Ent.cons (t := 5) rfl (Ent.nil _))))) (Sub.keep 6 rfl (Sub.keep 0 rfl (Sub.keep 4 rfl (Sub.keep 5 rfl (Sub.keep 5 rfl (Sub.drop (Sub.drop (Sub.drop (Sub.drop (Sub.drop (Sub.refl _)))))))))))
          · skip
            refine ⟨_, _, rfl, rfl, fun _ _ => wanted_none rfl _, Ef.build B3C ([(bk3 (r3[0]'e1) (r3[1]'e2) (r3[2]'e3))] : List B3) rfl Tryz.underlying24 inf51 rfl rfl rfl (by first | decide | (simp; done)) (by kernel_rfl), rfl, rfl, ?_⟩
            rintro _ _ ⟨A4, hA4, rfl, rfl⟩ hs
            refine ⟨fun w hw => hw.sub (Sub.keep 2 rfl (Sub.keep 2 rfl (Sub.keep 2 rfl (Sub.keep 2 rfl (Sub.keep 2 rfl (Sub.keep 2 rfl (Sub.keep 2 rfl (Sub.drop (Sub.drop (Sub.refl _)))))))))), ?_⟩
            refine D.eff hwf (e := 4) rfl rfl rfl rfl (Ef.appendN (xs := ([] : List B3)) (ys := xs) 1 rfl Tryz.underlying24 inf51 rfl rfl rfl rfl rfl rfl (fun w hw h => Own.nilc hw (i := 6) (by exact rfl) h) (Ld.own 6 (by exact rfl)) (by simp only [List.length_append, List.length_cons, List.length_nil] at *; omega) (by decide)) rfl rfl rfl ?_
            rintro _ _ ⟨A5, k1, rfl, rfl, hA5⟩ hs
            replace hA5 := hA5 (.inl hA3)
            refine ⟨fun w hw => hw.sub (Sub.keep 2 rfl (Sub.keep 2 rfl (Sub.keep 2 rfl (Sub.keep 2 rfl (Sub.keep 2 rfl (Sub.keep 2 rfl (Sub.keep 2 rfl (Sub.drop (Sub.drop (Sub.refl _)))))))))), ?_⟩
            refine D.eff hwf (e := 7) rfl rfl rfl rfl (Ef.append (xs := (([] : List B3) ++ xs)) (ys := ([(bk3 (r3[0]'e1) (r3[1]'e2) (r3[2]'e3))] : List B3)) 1 rfl Tryz.underlying24 inf51 rfl rfl rfl rfl rfl rfl hA4 (Ld.own 0 (by exact rfl)) (by simp only [List.length_append, List.length_cons, List.length_nil] at *; omega) (by decide)) rfl rfl rfl ?_
            rintro _ _ ⟨A6, k2, rfl, rfl, hA6⟩ hs
            replace hA6 := hA6 (.inr (by simp))
            refine ⟨fun w hw => hw.sub (Sub.keep 2 rfl (Sub.keep 2 rfl (Sub.keep 2 rfl (Sub.keep 2 rfl (Sub.keep 2 rfl (Sub.keep 2 rfl (Sub.keep 2 rfl (Sub.drop (Sub.drop (Sub.refl _)))))))))), ?_⟩
            refine D.eff hwf (e := 8) rfl rfl rfl rfl (Ef.call1 call199 rfl rfl (fun w hw => l01Made_ok  v_ ((([] : List B3) ++ xs) ++ ([(bk3 (r3[0]'e1) (r3[1]'e2) (r3[2]'e3))] : List B3)) _ _ w ((Ld.own 1 (by exact rfl)) w hw) (by first | omega | (simp only [List.length_append, List.length_cons, List.length_nil, List.length_take, List.length_drop]; omega)) (by first | omega | (simp only [List.length_append, List.length_cons, List.length_nil, List.length_take, List.length_drop]; omega)))) rfl rfl rfl ?_
            rintro _ _ rfl hs
            refine ⟨fun w hw => hs w hw.tail, ?_⟩
            refine D.exi (fun r4A => ?_)
            refine D.exi (fun r4c => ?_)
            refine D.exi (fun r4 => ?_)
            refine D.sep ?_
            refine D.pur1 ?_
            rintro ⟨rfl, hr4_1, hr4_2⟩
            refine D.effX (Hs' := []) hwf (e := 9) rfl rfl rfl rfl (Ef.storeAll 6 rfl sz26 rfl rfl rfl rfl (by simp [Value.oneCell']) rfl) rfl [] rfl (List.forall_mem_nil _) ?_
            rintro _ _ rfl
            refine ⟨fun w hw => hw.sub (Sub.nil _), ?_⟩
            refine D.done hwf rfl ?_
            refine X.blockNormal ?_
            refine X.next ?_
            refine V.region ?_
            refine O.p rfl rfl rfl (Pu.move rfl rfl) ?_
            refine O.p rfl rfl rfl (Pu.sub64 rfl (by omega) rfl rfl rfl) ?_
            refine O.p rfl rfl rfl (Pu.assign rfl rfl) ?_
            refine O.nil ?_
            exact X.back3 ((k - (1 : Int)), r4A, r4c, r4) (by (try dsimp only); exact ⟨fun d hd => good_snoc hg hgb d (hr4_1.mem_iff.1 hd), by have h := hr4_1.length_eq; simp only [List.length_append, List.length_singleton, List.length_nil] at h; omega⟩) (by first | omega | (dsimp only; omega)) (Ent.cons rfl (Ent.nil _)) (Ent.cons (t := 0) rfl (Ent.cons (t := 1) rfl (Ent.cons (t := 4) rfl (Ent.cons (t := 5) rfl (Ent.nil _))))) (Sub.keep 6 rfl (Sub.keep 0 rfl (Sub.keep 4 rfl (Sub.keep 5 rfl (Sub.keep 5 rfl (Sub.drop (Sub.drop (Sub.drop (Sub.drop (Sub.drop (Sub.refl _)))))))))))
        · skip
          refine ⟨_, _, rfl, rfl, fun _ _ => wanted_none rfl _, Ef.build B3C ([(bk3 (r3[0]'e1) (r3[1]'e2) (r3[2]'e3))] : List B3) rfl Tryz.underlying24 inf51 rfl rfl rfl (by first | decide | (simp; done)) (by kernel_rfl), rfl, rfl, ?_⟩
          rintro _ _ ⟨A3, hA3, rfl, rfl⟩ hs
          refine ⟨fun w hw => hw.sub (Sub.keep 1 rfl (Sub.keep 1 rfl (Sub.keep 1 rfl (Sub.keep 1 rfl (Sub.keep 1 rfl (Sub.keep 1 rfl (Sub.keep 1 rfl (Sub.drop (Sub.refl _))))))))), ?_⟩
          refine D.eff hwf (e := 1) rfl rfl rfl rfl (Ef.build B3C ([] : List B3) rfl Tryz.underlying24 inf51 rfl rfl rfl (by first | decide | (simp; done)) (by kernel_rfl)) rfl rfl rfl ?_
          rintro _ _ ⟨A4, hA4, rfl, rfl⟩ hs
          refine ⟨fun w hw => hw.sub (Sub.keep 2 rfl (Sub.keep 2 rfl (Sub.keep 2 rfl (Sub.keep 2 rfl (Sub.keep 2 rfl (Sub.keep 2 rfl (Sub.keep 2 rfl (Sub.drop (Sub.drop (Sub.refl _)))))))))), ?_⟩
          refine D.eff hwf (e := 4) rfl rfl rfl rfl (Ef.appendN (xs := ([] : List B3)) (ys := xs) 0 rfl Tryz.underlying24 inf51 rfl rfl rfl rfl rfl rfl (fun w hw h => Own.nilc hw (i := 6) (by exact rfl) h) (Ld.own 6 (by exact rfl)) (by simp only [List.length_append, List.length_cons, List.length_nil] at *; omega) (by decide)) rfl rfl rfl ?_
          rintro _ _ ⟨A5, k1, rfl, rfl, hA5⟩ hs
          replace hA5 := hA5 (.inl hA4)
          refine ⟨fun w hw => hw.sub (Sub.keep 2 rfl (Sub.keep 2 rfl (Sub.keep 2 rfl (Sub.keep 2 rfl (Sub.keep 2 rfl (Sub.keep 2 rfl (Sub.keep 2 rfl (Sub.drop (Sub.drop (Sub.refl _)))))))))), ?_⟩
          refine D.eff hwf (e := 7) rfl rfl rfl rfl (Ef.append (xs := (([] : List B3) ++ xs)) (ys := ([(bk3 (r3[0]'e1) (r3[1]'e2) (r3[2]'e3))] : List B3)) 0 rfl Tryz.underlying24 inf51 rfl rfl rfl rfl rfl rfl hA3 (Ld.own 1 (by exact rfl)) (by simp only [List.length_append, List.length_cons, List.length_nil] at *; omega) (by decide)) rfl rfl rfl ?_
          rintro _ _ ⟨A6, k2, rfl, rfl, hA6⟩ hs
          replace hA6 := hA6 (.inr (by simp))
          refine ⟨fun w hw => hw.sub (Sub.keep 2 rfl (Sub.keep 2 rfl (Sub.keep 2 rfl (Sub.keep 2 rfl (Sub.keep 2 rfl (Sub.keep 2 rfl (Sub.keep 2 rfl (Sub.drop (Sub.drop (Sub.refl _)))))))))), ?_⟩
          refine D.eff hwf (e := 8) rfl rfl rfl rfl (Ef.call1 call199 rfl rfl (fun w hw => l01Made_ok  v_ ((([] : List B3) ++ xs) ++ ([(bk3 (r3[0]'e1) (r3[1]'e2) (r3[2]'e3))] : List B3)) _ _ w ((Ld.own 0 (by exact rfl)) w hw) (by first | omega | (simp only [List.length_append, List.length_cons, List.length_nil, List.length_take, List.length_drop]; omega)) (by first | omega | (simp only [List.length_append, List.length_cons, List.length_nil, List.length_take, List.length_drop]; omega)))) rfl rfl rfl ?_
          rintro _ _ rfl hs
          refine ⟨fun w hw => hs w hw.tail, ?_⟩
          refine D.exi (fun r4A => ?_)
          refine D.exi (fun r4c => ?_)
          refine D.exi (fun r4 => ?_)
          refine D.sep ?_
          refine D.pur1 ?_
          rintro ⟨rfl, hr4_1, hr4_2⟩
          refine D.effX (Hs' := []) hwf (e := 9) rfl rfl rfl rfl (Ef.storeAll 6 rfl sz26 rfl rfl rfl rfl (by simp [Value.oneCell']) rfl) rfl [] rfl (List.forall_mem_nil _) ?_
          rintro _ _ rfl
          refine ⟨fun w hw => hw.sub (Sub.nil _), ?_⟩
          refine D.done hwf rfl ?_
          refine X.blockNormal ?_
          refine X.next ?_
          refine V.region ?_
          refine O.p rfl rfl rfl (Pu.move rfl rfl) ?_
          refine O.p rfl rfl rfl (Pu.sub64 rfl (by omega) rfl rfl rfl) ?_
          refine O.p rfl rfl rfl (Pu.assign rfl rfl) ?_
          refine O.nil ?_
          exact X.back3 ((k - (1 : Int)), r4A, r4c, r4) (by (try dsimp only); exact ⟨fun d hd => good_snoc hg hgb d (hr4_1.mem_iff.1 hd), by have h := hr4_1.length_eq; simp only [List.length_append, List.length_singleton, List.length_nil] at h; omega⟩) (by first | omega | (dsimp only; omega)) (Ent.cons rfl (Ent.nil _)) (Ent.cons (t := 0) rfl (Ent.cons (t := 1) rfl (Ent.cons (t := 4) rfl (Ent.cons (t := 5) rfl (Ent.nil _))))) (Sub.keep 6 rfl (Sub.keep 0 rfl (Sub.keep 4 rfl (Sub.keep 5 rfl (Sub.keep 5 rfl (Sub.drop (Sub.drop (Sub.drop (Sub.drop (Sub.drop (Sub.refl _)))))))))))
      · skip
        refine V.skip ?_
        refine X.blockNormal ?_
        refine X.next ?_
        refine V.region ?_
        refine O.p rfl rfl rfl (Pu.move rfl rfl) ?_
        refine O.p rfl rfl rfl (Pu.sub64 rfl (by omega) rfl rfl rfl) ?_
        refine O.p rfl rfl rfl (Pu.assign rfl rfl) ?_
        refine O.nil ?_
        exact X.back3 ((k - (1 : Int)), xsA, xsc, xs) (by (try dsimp only); exact ⟨hg, by omega⟩) (by first | omega | (dsimp only; omega)) (Ent.cons rfl (Ent.nil _)) (Ent.cons (t := 0) rfl (Ent.cons (t := 1) rfl (Ent.cons (t := 4) rfl (Ent.cons (t := 5) rfl (Ent.nil _))))) (Sub.keep 3 rfl (Sub.keep 3 rfl (Sub.keep 2 rfl (Sub.keep 2 rfl (Sub.keep 2 rfl (Sub.drop (Sub.drop (Sub.refl _))))))))
  · skip
    refine V.exit ?_
    refine X.thenExit ?_
    refine X.thenExit ?_
    refine X.blockHit ?_
    refine X.next ?_
    refine V.seq ?_
    refine V.region ?_
    refine O.p rfl rfl rfl (Pu.loadAgg rfl ag26 sz26 rfl rfl (Ld.whole 0 rfl)) ?_
    refine O.s rfl rfl (Ef.storeAll 4 rfl sz26 rfl rfl rfl rfl (by simp [Value.oneCell']) rfl) ?_
    rintro _ _ rfl
    refine O.nil ?_
    refine X.next ?_
    refine V.ret ?_
    refine X.retCell rfl ag26 sz26 rfl rfl (Ld.whole 4 rfl) ?_
    exact fun w hw => St.mkExi xsA (St.mkExi xsc (St.mkExi xs (St.unsep (St.addPur ⟨rfl, ⟨hv, hg, by omega⟩⟩ (St.unsep (hw.sub (Sub.keep 1 rfl (Sub.keep 1 rfl (Sub.drop (Sub.drop (Sub.drop (Sub.refl _))))))))))))
set_option maxRecDepth 100000 in
set_option maxHeartbeats 1000000 in
theorem l01Switched_ok (cA : Option Addr) (cc : Nat) (code : List UInt8) (n : Nat) (s : Nat) (v : Int) (bs : List B3) (A : Option Addr) (c : Nat) (w0 : World) (H : List Assn) (hc : Rd U8C w0 cA code) (lc : code.length ≤ 1048576) (hD : DrS n v bs) (hn : n ≤ 5000) : Does Tryz.prog 226 [.pointer (some ⟨s, 0, none⟩), .agg #[.int .i64 v, .slice A bs.length c]] w0 (SrcK 132 cA cc code s :: Own 51 B3C A c bs :: H) (fun rv_ => [.exi fun (rA : Option Addr) => .exi fun (rc : Nat) => .exi fun (r : List B3) => .sep (.pur (rv_ = .agg #[.int .i64 v, .slice rA r.length rc] ∧ DrS (n + 4) v r)) (.sep (Own 51 B3C rA rc r) (SrcK 132 cA cc code s))] ++ H) := by
  refine Does.enter Tryz.func226 rfl rfl [(0, .pointer (some ⟨s, 0, none⟩)), (1, .agg #[.int .i64 v, .slice A bs.length c])] rfl ?_
  have hv := hD.1
  have hg := hD.2.1
  have hl := hD.2.2
  have hg15 := hD.g15
  refine V.seq ?_
  refine V.region ?_
  refine O.e rfl rfl rfl (Ef.box rfl rfl rfl) ?_
  rintro _ _ ⟨b1, rfl, rfl⟩
  refine O.e rfl rfl rfl (Ef.alloc rfl zr26 rfl) ?_
  rintro _ _ ⟨b2, rfl, rfl⟩
  refine O.nil ?_
  refine X.next ?_
  refine V.seq ?_
  refine V.region ?_
  refine O.p rfl rfl rfl (Pu.move rfl rfl) ?_
  refine O.p rfl rfl rfl (Pu.fieldAddr 0 rfl Tryz.underlying26 rfl sz2 rfl rfl) ?_
  refine O.p rfl rfl rfl (Pu.load rfl pl2 rfl (Ld.blk 1 rfl rfl)) ?_
  refine O.e rfl rfl rfl (Ef.call call90 rfl rfl (Does.pre (fun w hw => hw.sub (Sub.keep 2 rfl (Sub.keep 0 rfl (Sub.keep 0 rfl (Sub.keep 0 rfl (Sub.refl _)))))) (l01DrawOrder_ok _ _ _ s v w0 _   (by first | assumption | omega | (try dsimp only at *; omega)) (by first | assumption | omega | (try dsimp only at *; omega)) (by omega)))) ?_
  rintro _ _ rfl
  refine O.exi (fun r1A => ?_)
  refine O.exi (fun r1c => ?_)
  refine O.exi (fun r1 => ?_)
  refine O.sep ?_
  refine O.pur ?_
  rintro ⟨rfl, hr1_1⟩
  refine O.sep ?_
  have hol := hr1_1.1
  refine O.p rfl rfl rfl (Pu.assign rfl rfl) ?_
  refine O.nil ?_
  refine X.next ?_
  refine V.seq ?_
  refine V.draw mo (by kernel_rfl) (fun hwf => ?_)
  refine D.p 0 rfl rfl rfl rfl rfl rfl (Pu.move rfl rfl) ?_
  refine D.p 1 rfl rfl rfl rfl rfl rfl (Pu.indexAddrS (0) rfl Tryz.underlying34 sz2 rfl rfl (by omega) (by omega) (fun w hw => Own.some hw (i := 0) (by exact rfl) (by omega))) ?_
  have e1 : 0 < r1.length := by omega
  refine D.p 2 rfl rfl rfl rfl rfl rfl (Pu.load rfl pl2 rfl (Ld.rd (Ld.own 0 (by exact rfl)) (k := 0) e1 rfl rfl)) ?_
  refine D.p 3 rfl rfl rfl rfl rfl rfl (Pu.move rfl rfl) ?_
  refine D.p 4 rfl rfl rfl rfl rfl rfl (Pu.indexAddrS (1) rfl Tryz.underlying34 sz2 rfl rfl (by omega) (by omega) (fun w hw => Own.some hw (i := 0) (by exact rfl) (by omega))) ?_
  have e2 : 1 < r1.length := by omega
  refine D.p 5 rfl rfl rfl rfl rfl rfl (Pu.load rfl pl2 rfl (Ld.rd (Ld.own 0 (by exact rfl)) (k := 1) e2 rfl rfl)) ?_
  refine D.p 6 rfl rfl rfl rfl rfl rfl (Pu.assign rfl rfl) ?_
  refine D.p 7 rfl rfl rfl rfl rfl rfl (Pu.assign rfl rfl) ?_
  refine D.done hwf rfl ?_
  refine X.next ?_
  refine V.seq ?_
  refine V.seq ?_
  refine V.region ?_
  refine O.p rfl rfl rfl (Pu.assign rfl rfl) ?_
  refine O.nil ?_
  refine X.next ?_
  refine V.block ?_
  refine V.loop3 (β := Nat) (fun i => [(8, .int .i64 (i : Int))]) _ (fun i => []) _ (fun i => 2 ≤ i ∧ i ≤ r1.length) (fun i => r1.length - i) 2 ⟨by omega, by omega⟩ (Ent.cons rfl (Ent.nil _)) (Ent.cons (t := 3) rfl (Ent.cons (t := 4) rfl (Ent.cons (t := 5) rfl (Ent.cons (t := 6) rfl (Ent.cons (t := 7) rfl (Ent.nil _)))))) (Sub.keep 0 rfl (Sub.keep 0 rfl (Sub.keep 0 rfl (Sub.keep 0 rfl (Sub.keep 0 rfl (Sub.refl _)))))) ?_
  rintro i ⟨hi2, hi⟩
  refine V.seq ?_
  refine V.seq ?_
  refine V.region ?_
  refine O.p rfl rfl rfl (Pu.move rfl rfl) ?_
  refine O.p rfl rfl rfl (Pu.move rfl rfl) ?_
  refine O.p rfl rfl rfl (Pu.len rfl Tryz.underlying34 rfl) ?_
  refine O.p rfl rfl rfl (Pu.lss rfl rfl rfl) ?_
  refine O.nil ?_
  refine X.next ?_
  refine V.condD rfl (fun c1 => ?_) (fun c1 => ?_)
  · skip
    refine V.skip ?_
    refine X.next ?_
    refine V.seq ?_
    refine V.block ?_
    refine V.seq ?_
    refine V.region ?_
    refine O.p rfl rfl rfl (Pu.move rfl rfl) ?_
    refine O.p rfl rfl rfl (Pu.move rfl rfl) ?_
    refine O.p rfl rfl rfl (Pu.indexAddrS (i) rfl Tryz.underlying34 sz2 rfl rfl (by omega) (by omega) (fun w hw => Own.some hw (i := 0) (by exact rfl) (by omega))) ?_
    have e3 : i < r1.length := by omega
    refine O.p rfl rfl rfl (Pu.load rfl pl2 rfl (Ld.rd (Ld.own 0 (by exact rfl)) (k := i) e3 rfl rfl)) ?_
    refine O.p rfl rfl rfl (Pu.assign rfl rfl) ?_
    refine O.nil ?_
    refine X.next ?_
    refine V.seq ?_
    have g0 := ord_at hr1_1 (i := 0) (by omega)
    have g1 := ord_at hr1_1 (i := 1) (by omega)
    have gi := ord_at hr1_1 (i := i) (by omega)
    have n01 := ord_ne hr1_1 (i := 0) (j := 1) (by omega) (by omega) (by decide)
    have n0i := ord_ne hr1_1 (i := 0) (j := i) (by omega) (by omega) (by omega)
    have n1i := ord_ne hr1_1 (i := 1) (j := i) (by omega) (by omega) (by omega)
    refine V.region ?_
    refine O.p rfl rfl rfl (Pu.loadAgg rfl ag26 sz26 rfl rfl (Ld.whole 3 rfl)) ?_
    refine O.p rfl rfl rfl (Pu.move rfl rfl) ?_
    refine O.p rfl rfl rfl (Pu.move rfl rfl) ?_
    refine O.e rfl rfl rfl (Ef.callP call170 rfl rfl (fun w hw => l01Third_ok  v bs (r1[0]'e1) (r1[i]'e3) _ _ w ((Ld.own 4 (by exact rfl)) w hw) (by first | omega | (simp only [tops_len, conts_len, bl, List.length_append, List.length_cons, List.length_nil] at *; omega)) hg15 (by omega) (by omega))) ?_
    rintro _ _ ⟨rfl, rfl⟩
    refine O.p rfl rfl rfl (Pu.assign rfl rfl) ?_
    refine O.nil ?_
    refine X.next ?_
    refine V.seq ?_
    refine V.region ?_
    refine O.p rfl rfl rfl (Pu.loadAgg rfl ag26 sz26 rfl rfl (Ld.whole 3 rfl)) ?_
    refine O.p rfl rfl rfl (Pu.move rfl rfl) ?_
    refine O.p rfl rfl rfl (Pu.move rfl rfl) ?_
    refine O.e rfl rfl rfl (Ef.callP call170 rfl rfl (fun w hw => l01Third_ok  v bs (r1[1]'e2) (r1[i]'e3) _ _ w ((Ld.own 4 (by exact rfl)) w hw) (by first | omega | (simp only [tops_len, conts_len, bl, List.length_append, List.length_cons, List.length_nil] at *; omega)) hg15 (by omega) (by omega))) ?_
    rintro _ _ ⟨rfl, rfl⟩
    refine O.p rfl rfl rfl (Pu.assign rfl rfl) ?_
    refine O.nil ?_
    refine X.next ?_
    refine V.seq ?_
    refine V.seq ?_
    refine V.region ?_
    refine O.p rfl rfl rfl (Pu.move rfl rfl) ?_
    refine O.p rfl rfl rfl (Pu.lss rfl rfl rfl) ?_
    refine O.p rfl rfl rfl (Pu.move rfl rfl) ?_
    refine O.splitD 46 rfl (fun c2 => ?_) (fun c2 => ?_)
    · skip
      refine O.gs rfl rfl rfl rfl rfl rfl ?_
      refine O.gs rfl rfl rfl rfl rfl rfl ?_
      refine O.p rfl rfl rfl (Pu.pickT rfl rfl rfl) ?_
      refine O.p rfl rfl rfl (Pu.move rfl rfl) ?_
      refine O.gs rfl rfl rfl rfl rfl rfl ?_
      refine O.gs rfl rfl rfl rfl rfl rfl ?_
      refine O.gs rfl rfl rfl rfl rfl rfl ?_
      refine O.p rfl rfl rfl (Pu.pickT rfl rfl rfl) ?_
      refine O.p rfl rfl rfl (Pu.move rfl rfl) ?_
      refine O.gs rfl rfl rfl rfl rfl rfl ?_
      refine O.gs rfl rfl rfl rfl rfl rfl ?_
      refine O.gs rfl rfl rfl rfl rfl rfl ?_
      refine O.p rfl rfl rfl (Pu.pickT rfl rfl rfl) ?_
      refine O.nil ?_
      refine X.next ?_
      refine V.condT rfl ?_
      refine V.exit ?_
      refine X.thenExit ?_
      refine X.blockHit ?_
      refine X.next ?_
      refine V.region ?_
      refine O.p rfl rfl rfl (Pu.move rfl rfl) ?_
      refine O.p rfl rfl rfl (Pu.add64 (r := ((i + 1 : Nat) : Int)) rfl (by omega) rfl rfl rfl) ?_
      refine O.p rfl rfl rfl (Pu.assign rfl rfl) ?_
      refine O.nil ?_
      exact X.back3 (i + 1) ⟨by omega, by omega⟩ (by first | omega | (dsimp only; omega)) (Ent.cons rfl (Ent.nil _)) (Ent.cons (t := 3) rfl (Ent.cons (t := 4) rfl (Ent.cons (t := 5) rfl (Ent.cons (t := 6) rfl (Ent.cons (t := 7) rfl (Ent.nil _)))))) (Sub.keep 0 rfl (Sub.keep 0 rfl (Sub.keep 0 rfl (Sub.keep 0 rfl (Sub.keep 0 rfl (Sub.refl _))))))
    · skip
      refine O.gp rfl rfl rfl rfl rfl (Pu.move rfl rfl) ?_
      refine O.gp rfl rfl rfl rfl rfl (Pu.lss rfl rfl rfl) ?_
      refine O.p rfl rfl rfl (Pu.pickF rfl rfl rfl) ?_
      refine O.p rfl rfl rfl (Pu.move rfl rfl) ?_
      refine O.splitD 50 rfl (fun c3 => ?_) (fun c3 => ?_)
      · skip
        refine O.gs rfl rfl rfl rfl rfl rfl ?_
        refine O.gs rfl rfl rfl rfl rfl rfl ?_
        refine O.gs rfl rfl rfl rfl rfl rfl ?_
        refine O.p rfl rfl rfl (Pu.pickT rfl rfl rfl) ?_
        refine O.p rfl rfl rfl (Pu.move rfl rfl) ?_
        refine O.gs rfl rfl rfl rfl rfl rfl ?_
        refine O.gs rfl rfl rfl rfl rfl rfl ?_
        refine O.gs rfl rfl rfl rfl rfl rfl ?_
        refine O.p rfl rfl rfl (Pu.pickT rfl rfl rfl) ?_
        refine O.nil ?_
        refine X.next ?_
        refine V.condT rfl ?_
        refine V.exit ?_
        refine X.thenExit ?_
        refine X.blockHit ?_
        refine X.next ?_
        refine V.region ?_
        refine O.p rfl rfl rfl (Pu.move rfl rfl) ?_
        refine O.p rfl rfl rfl (Pu.add64 (r := ((i + 1 : Nat) : Int)) rfl (by omega) rfl rfl rfl) ?_
        refine O.p rfl rfl rfl (Pu.assign rfl rfl) ?_
        refine O.nil ?_
        exact X.back3 (i + 1) ⟨by omega, by omega⟩ (by first | omega | (dsimp only; omega)) (Ent.cons rfl (Ent.nil _)) (Ent.cons (t := 3) rfl (Ent.cons (t := 4) rfl (Ent.cons (t := 5) rfl (Ent.cons (t := 6) rfl (Ent.cons (t := 7) rfl (Ent.nil _)))))) (Sub.keep 0 rfl (Sub.keep 0 rfl (Sub.keep 0 rfl (Sub.keep 0 rfl (Sub.keep 0 rfl (Sub.refl _))))))
      · skip
        refine O.gp rfl rfl rfl rfl rfl (Pu.move rfl rfl) ?_
        refine O.gp rfl rfl rfl rfl rfl (Pu.move rfl rfl) ?_
        refine O.gp rfl rfl rfl rfl rfl (Pu.eql rfl rfl rfl) ?_
        refine O.p rfl rfl rfl (Pu.pickF rfl rfl rfl) ?_
        refine O.p rfl rfl rfl (Pu.move rfl rfl) ?_
        refine O.splitD 55 rfl (fun c4 => ?_) (fun c4 => ?_)
        · skip
          refine O.gs rfl rfl rfl rfl rfl rfl ?_
          refine O.gs rfl rfl rfl rfl rfl rfl ?_
          refine O.gs rfl rfl rfl rfl rfl rfl ?_
          refine O.p rfl rfl rfl (Pu.pickT rfl rfl rfl) ?_
          refine O.nil ?_
          refine X.next ?_
          refine V.condT rfl ?_
          refine V.exit ?_
          refine X.thenExit ?_
          refine X.blockHit ?_
          refine X.next ?_
          refine V.region ?_
          refine O.p rfl rfl rfl (Pu.move rfl rfl) ?_
          refine O.p rfl rfl rfl (Pu.add64 (r := ((i + 1 : Nat) : Int)) rfl (by omega) rfl rfl rfl) ?_
          refine O.p rfl rfl rfl (Pu.assign rfl rfl) ?_
          refine O.nil ?_
          exact X.back3 (i + 1) ⟨by omega, by omega⟩ (by first | omega | (dsimp only; omega)) (Ent.cons rfl (Ent.nil _)) (Ent.cons (t := 3) rfl (Ent.cons (t := 4) rfl (Ent.cons (t := 5) rfl (Ent.cons (t := 6) rfl (Ent.cons (t := 7) rfl (Ent.nil _)))))) (Sub.keep 0 rfl (Sub.keep 0 rfl (Sub.keep 0 rfl (Sub.keep 0 rfl (Sub.keep 0 rfl (Sub.refl _))))))
        · skip
          refine O.gp rfl rfl rfl rfl rfl (Pu.move rfl rfl) ?_
          refine O.gp rfl rfl rfl rfl rfl (Pu.move rfl rfl) ?_
          refine O.gp rfl rfl rfl rfl rfl (Pu.eql rfl rfl rfl) ?_
          refine O.p rfl rfl rfl (Pu.pickF rfl rfl rfl) ?_
          refine O.nil ?_
          refine X.next ?_
          refine V.condD rfl (fun c5 => ?_) (fun c5 => ?_)
          · skip
            refine V.exit ?_
            refine X.thenExit ?_
            refine X.blockHit ?_
            refine X.next ?_
            refine V.region ?_
            refine O.p rfl rfl rfl (Pu.move rfl rfl) ?_
            refine O.p rfl rfl rfl (Pu.add64 (r := ((i + 1 : Nat) : Int)) rfl (by omega) rfl rfl rfl) ?_
            refine O.p rfl rfl rfl (Pu.assign rfl rfl) ?_
            refine O.nil ?_
            exact X.back3 (i + 1) ⟨by omega, by omega⟩ (by first | omega | (dsimp only; omega)) (Ent.cons rfl (Ent.nil _)) (Ent.cons (t := 3) rfl (Ent.cons (t := 4) rfl (Ent.cons (t := 5) rfl (Ent.cons (t := 6) rfl (Ent.cons (t := 7) rfl (Ent.nil _)))))) (Sub.keep 0 rfl (Sub.keep 0 rfl (Sub.keep 0 rfl (Sub.keep 0 rfl (Sub.keep 0 rfl (Sub.refl _))))))
          · skip
            refine V.skip ?_
            refine X.next ?_
            refine V.seq ?_
            have te : (0 ≤ (third bs (r1[0]'e1) (r1[i]'e3)) ∧ (third bs (r1[0]'e1) (r1[i]'e3)) < v) ∧ (third bs (r1[0]'e1) (r1[i]'e3)) ≠ (r1[0]'e1) ∧ (third bs (r1[0]'e1) (r1[i]'e3)) ≠ (r1[i]'e3) := third_good hg n0i (by omega)
            have tf : (0 ≤ (third bs (r1[1]'e2) (r1[i]'e3)) ∧ (third bs (r1[1]'e2) (r1[i]'e3)) < v) ∧ (third bs (r1[1]'e2) (r1[i]'e3)) ≠ (r1[1]'e2) ∧ (third bs (r1[1]'e2) (r1[i]'e3)) ≠ (r1[i]'e3) := third_good hg n1i (by omega)
            refine V.region ?_
            refine O.p rfl rfl rfl (Pu.loadAgg rfl ag26 sz26 rfl rfl (Ld.whole 3 rfl)) ?_
            refine O.p rfl rfl rfl (Pu.move rfl rfl) ?_
            refine O.p rfl rfl rfl (Pu.move rfl rfl) ?_
            refine O.e rfl rfl rfl (Ef.callP call170 rfl rfl (fun w hw => l01Third_ok  v bs (r1[0]'e1) (third bs (r1[1]'e2) (r1[i]'e3)) _ _ w ((Ld.own 4 (by exact rfl)) w hw) (by first | omega | (simp only [tops_len, conts_len, bl, List.length_append, List.length_cons, List.length_nil] at *; omega)) hg15 (by omega) (by omega))) ?_
            rintro _ _ ⟨rfl, rfl⟩
            refine O.p rfl rfl rfl (Pu.assign rfl rfl) ?_
            refine O.nil ?_
            refine X.next ?_
            refine V.seq ?_
            refine V.seq ?_
            refine V.region ?_
            refine O.p rfl rfl rfl (Pu.move rfl rfl) ?_
            refine O.p rfl rfl rfl (Pu.lss rfl rfl rfl) ?_
            refine O.p rfl rfl rfl (Pu.move rfl rfl) ?_
            refine O.splitD 66 rfl (fun c6 => ?_) (fun c6 => ?_)
            · skip
              refine O.gs rfl rfl rfl rfl rfl rfl ?_
              refine O.gs rfl rfl rfl rfl rfl rfl ?_
              refine O.gs rfl rfl rfl rfl rfl rfl ?_
              refine O.p rfl rfl rfl (Pu.pickT rfl rfl rfl) ?_
              refine O.p rfl rfl rfl (Pu.move rfl rfl) ?_
              refine O.gs rfl rfl rfl rfl rfl rfl ?_
              refine O.gs rfl rfl rfl rfl rfl rfl ?_
              refine O.gs rfl rfl rfl rfl rfl rfl ?_
              refine O.gs rfl rfl rfl rfl rfl rfl ?_
              refine O.gs rfl rfl rfl rfl rfl rfl ?_
              refine O.gs rfl rfl rfl rfl rfl rfl ?_
              refine O.p rfl rfl rfl (Pu.pickT rfl rfl rfl) ?_
              refine O.nil ?_
              refine X.next ?_
              refine V.condT rfl ?_
              refine V.exit ?_
              refine X.thenExit ?_
              refine X.blockHit ?_
              refine X.next ?_
              refine V.region ?_
              refine O.p rfl rfl rfl (Pu.move rfl rfl) ?_
              refine O.p rfl rfl rfl (Pu.add64 (r := ((i + 1 : Nat) : Int)) rfl (by omega) rfl rfl rfl) ?_
              refine O.p rfl rfl rfl (Pu.assign rfl rfl) ?_
              refine O.nil ?_
              exact X.back3 (i + 1) ⟨by omega, by omega⟩ (by first | omega | (dsimp only; omega)) (Ent.cons rfl (Ent.nil _)) (Ent.cons (t := 3) rfl (Ent.cons (t := 4) rfl (Ent.cons (t := 5) rfl (Ent.cons (t := 6) rfl (Ent.cons (t := 7) rfl (Ent.nil _)))))) (Sub.keep 0 rfl (Sub.keep 0 rfl (Sub.keep 0 rfl (Sub.keep 0 rfl (Sub.keep 0 rfl (Sub.refl _))))))
            · skip
              refine O.gp rfl rfl rfl rfl rfl (Pu.move rfl rfl) ?_
              refine O.gp rfl rfl rfl rfl rfl (Pu.move rfl rfl) ?_
              refine O.gp rfl rfl rfl rfl rfl (Pu.eql rfl rfl rfl) ?_
              refine O.p rfl rfl rfl (Pu.pickF rfl rfl rfl) ?_
              refine O.p rfl rfl rfl (Pu.move rfl rfl) ?_
              refine O.splitD 71 rfl (fun c7 => ?_) (fun c7 => ?_)
              · skip
                refine O.gs rfl rfl rfl rfl rfl rfl ?_
                refine O.gs rfl rfl rfl rfl rfl rfl ?_
                refine O.gs rfl rfl rfl rfl rfl rfl ?_
                refine O.gs rfl rfl rfl rfl rfl rfl ?_
                refine O.gs rfl rfl rfl rfl rfl rfl ?_
                refine O.gs rfl rfl rfl rfl rfl rfl ?_
                refine O.p rfl rfl rfl (Pu.pickT rfl rfl rfl) ?_
                refine O.nil ?_
                refine X.next ?_
                refine V.condT rfl ?_
                refine V.exit ?_
                refine X.thenExit ?_
                refine X.blockHit ?_
                refine X.next ?_
                refine V.region ?_
                refine O.p rfl rfl rfl (Pu.move rfl rfl) ?_
                refine O.p rfl rfl rfl (Pu.add64 (r := ((i + 1 : Nat) : Int)) rfl (by omega) rfl rfl rfl) ?_
                refine O.p rfl rfl rfl (Pu.assign rfl rfl) ?_
                refine O.nil ?_
                exact X.back3 (i + 1) ⟨by omega, by omega⟩ (by first | omega | (dsimp only; omega)) (Ent.cons rfl (Ent.nil _)) (Ent.cons (t := 3) rfl (Ent.cons (t := 4) rfl (Ent.cons (t := 5) rfl (Ent.cons (t := 6) rfl (Ent.cons (t := 7) rfl (Ent.nil _)))))) (Sub.keep 0 rfl (Sub.keep 0 rfl (Sub.keep 0 rfl (Sub.keep 0 rfl (Sub.keep 0 rfl (Sub.refl _))))))
              · skip
                refine O.gp rfl rfl rfl rfl rfl (Pu.loadAgg rfl ag26 sz26 rfl rfl (Ld.whole 3 rfl)) ?_
                refine O.gp rfl rfl rfl rfl rfl (Pu.move rfl rfl) ?_
                refine O.gp rfl rfl rfl rfl rfl (Pu.move rfl rfl) ?_
                refine O.ge rfl rfl rfl rfl rfl (Ef.callP call170 rfl rfl (fun w hw => l01Third_ok  v bs (r1[1]'e2) (third bs (r1[0]'e1) (r1[i]'e3)) _ _ w ((Ld.own 4 (by exact rfl)) w hw) (by first | omega | (simp only [tops_len, conts_len, bl, List.length_append, List.length_cons, List.length_nil] at *; omega)) hg15 (by omega) (by omega))) ?_
                rintro _ _ ⟨rfl, rfl⟩
                refine O.gp rfl rfl rfl rfl rfl (Pu.move rfl rfl) ?_
                refine O.gp rfl rfl rfl rfl rfl (Pu.neq rfl rfl rfl) ?_
                refine O.p rfl rfl rfl (Pu.pickF rfl rfl rfl) ?_
                refine O.nil ?_
                refine X.next ?_
                refine V.condNot rfl (fun c8 => ?_) (fun c8 => ?_)
                · skip
                  refine V.exit ?_
                  refine X.thenExit ?_
                  refine X.blockHit ?_
                  refine X.next ?_
                  refine V.region ?_
                  refine O.p rfl rfl rfl (Pu.move rfl rfl) ?_
                  refine O.p rfl rfl rfl (Pu.add64 (r := ((i + 1 : Nat) : Int)) rfl (by omega) rfl rfl rfl) ?_
                  refine O.p rfl rfl rfl (Pu.assign rfl rfl) ?_
                  refine O.nil ?_
                  exact X.back3 (i + 1) ⟨by omega, by omega⟩ (by first | omega | (dsimp only; omega)) (Ent.cons rfl (Ent.nil _)) (Ent.cons (t := 3) rfl (Ent.cons (t := 4) rfl (Ent.cons (t := 5) rfl (Ent.cons (t := 6) rfl (Ent.cons (t := 7) rfl (Ent.nil _)))))) (Sub.keep 0 rfl (Sub.keep 0 rfl (Sub.keep 0 rfl (Sub.keep 0 rfl (Sub.keep 0 rfl (Sub.refl _))))))
                · skip
                  refine V.skip ?_
                  refine X.next ?_
                  refine V.seq ?_
                  have td : (0 ≤ (third bs (r1[0]'e1) (third bs (r1[1]'e2) (r1[i]'e3))) ∧ (third bs (r1[0]'e1) (third bs (r1[1]'e2) (r1[i]'e3))) < v) ∧ (third bs (r1[0]'e1) (third bs (r1[1]'e2) (r1[i]'e3))) ≠ (r1[0]'e1) ∧ (third bs (r1[0]'e1) (third bs (r1[1]'e2) (r1[i]'e3))) ≠ (third bs (r1[1]'e2) (r1[i]'e3)) := third_good hg (by omega) (by omega)
                  have tg := third_good hg (a := (r1[1]'e2)) (b := (third bs (r1[0]'e1) (r1[i]'e3))) (by omega) (by omega)
                  have q1 : good v (bk3 (r1[1]'e2) (r1[i]'e3) (third bs (r1[0]'e1) (r1[i]'e3))) := good_bk3 (by omega) (by omega) (by omega) (by omega) (by omega) (by omega)
                  have q2 : good v (bk3 (r1[1]'e2) (third bs (r1[0]'e1) (third bs (r1[1]'e2) (r1[i]'e3))) (third bs (r1[1]'e2) (r1[i]'e3))) := good_bk3 (by omega) (by omega) (by omega) (by omega) (by omega) (by omega)
                  have q3 : good v (bk3 (r1[0]'e1) (r1[i]'e3) (third bs (r1[1]'e2) (r1[i]'e3))) := good_bk3 (by omega) (by omega) (by omega) (by omega) (by omega) (by omega)
                  have q4 : good v (bk3 (r1[0]'e1) (third bs (r1[0]'e1) (third bs (r1[1]'e2) (r1[i]'e3))) (third bs (r1[0]'e1) (r1[i]'e3))) := good_bk3 (by omega) (by omega) (by omega) (by omega) (by omega) (by omega)
                  refine V.region ?_
                  refine O.p rfl rfl rfl (Pu.move rfl rfl) ?_
                  refine O.p rfl rfl rfl (Pu.move rfl rfl) ?_
                  refine O.p rfl rfl rfl (Pu.move rfl rfl) ?_
                  refine O.e rfl rfl rfl (Ef.callP call206 rfl rfl (fun w hw => l01BlockD_ok  (r1[1]'e2) (r1[i]'e3) (third bs (r1[0]'e1) (r1[i]'e3)) w   (by first | assumption | omega | (try dsimp only at *; omega)) (by first | assumption | omega | (try dsimp only at *; omega)) (by first | assumption | omega | (try dsimp only at *; omega)))) ?_
                  rintro _ _ ⟨rfl, rfl⟩
                  refine O.p rfl rfl rfl (Pu.move rfl rfl) ?_
                  refine O.p rfl rfl rfl (Pu.move rfl rfl) ?_
                  refine O.p rfl rfl rfl (Pu.move rfl rfl) ?_
                  refine O.e rfl rfl rfl (Ef.callP call206 rfl rfl (fun w hw => l01BlockD_ok  (r1[1]'e2) (third bs (r1[0]'e1) (third bs (r1[1]'e2) (r1[i]'e3))) (third bs (r1[1]'e2) (r1[i]'e3)) w   (by first | assumption | omega | (try dsimp only at *; omega)) (by first | assumption | omega | (try dsimp only at *; omega)) (by first | assumption | omega | (try dsimp only at *; omega)))) ?_
                  rintro _ _ ⟨rfl, rfl⟩
                  refine O.p rfl rfl rfl (Pu.move rfl rfl) ?_
                  refine O.p rfl rfl rfl (Pu.move rfl rfl) ?_
                  refine O.p rfl rfl rfl (Pu.move rfl rfl) ?_
                  refine O.e rfl rfl rfl (Ef.callP call206 rfl rfl (fun w hw => l01BlockD_ok  (r1[0]'e1) (r1[i]'e3) (third bs (r1[1]'e2) (r1[i]'e3)) w   (by first | assumption | omega | (try dsimp only at *; omega)) (by first | assumption | omega | (try dsimp only at *; omega)) (by first | assumption | omega | (try dsimp only at *; omega)))) ?_
                  rintro _ _ ⟨rfl, rfl⟩
                  refine O.p rfl rfl rfl (Pu.move rfl rfl) ?_
                  refine O.p rfl rfl rfl (Pu.move rfl rfl) ?_
                  refine O.p rfl rfl rfl (Pu.move rfl rfl) ?_
                  refine O.e rfl rfl rfl (Ef.callP call206 rfl rfl (fun w hw => l01BlockD_ok  (r1[0]'e1) (third bs (r1[0]'e1) (third bs (r1[1]'e2) (r1[i]'e3))) (third bs (r1[0]'e1) (r1[i]'e3)) w   (by first | assumption | omega | (try dsimp only at *; omega)) (by first | assumption | omega | (try dsimp only at *; omega)) (by first | assumption | omega | (try dsimp only at *; omega)))) ?_
                  rintro _ _ ⟨rfl, rfl⟩
                  refine O.e rfl rfl rfl (Ef.build B3C ([(bk3 (r1[1]'e2) (r1[i]'e3) (third bs (r1[0]'e1) (r1[i]'e3))), (bk3 (r1[1]'e2) (third bs (r1[0]'e1) (third bs (r1[1]'e2) (r1[i]'e3))) (third bs (r1[1]'e2) (r1[i]'e3))), (bk3 (r1[0]'e1) (r1[i]'e3) (third bs (r1[1]'e2) (r1[i]'e3))), (bk3 (r1[0]'e1) (third bs (r1[0]'e1) (third bs (r1[1]'e2) (r1[i]'e3))) (third bs (r1[0]'e1) (r1[i]'e3)))] : List B3) rfl Tryz.underlying24 inf51 rfl rfl rfl (by first | decide | (simp; done)) (by kernel_rfl)) ?_
                  rintro _ _ ⟨A1, hA1, rfl, rfl⟩
                  refine O.p rfl rfl rfl (Pu.assign rfl rfl) ?_
                  refine O.nil ?_
                  refine X.next ?_
                  refine V.seq ?_
                  refine V.region ?_
                  refine O.p rfl rfl rfl (Pu.move rfl rfl) ?_
                  refine O.p rfl rfl rfl (Pu.move rfl rfl) ?_
                  refine O.p rfl rfl rfl (Pu.move rfl rfl) ?_
                  refine O.e rfl rfl rfl (Ef.callP call206 rfl rfl (fun w hw => l01BlockD_ok  (r1[0]'e1) (r1[i]'e3) (third bs (r1[0]'e1) (r1[i]'e3)) w   (by first | assumption | omega | (try dsimp only at *; omega)) (by first | assumption | omega | (try dsimp only at *; omega)) (by first | assumption | omega | (try dsimp only at *; omega)))) ?_
                  rintro _ _ ⟨rfl, rfl⟩
                  refine O.p rfl rfl rfl (Pu.move rfl rfl) ?_
                  refine O.p rfl rfl rfl (Pu.move rfl rfl) ?_
                  refine O.p rfl rfl rfl (Pu.move rfl rfl) ?_
                  refine O.e rfl rfl rfl (Ef.callP call206 rfl rfl (fun w hw => l01BlockD_ok  (r1[0]'e1) (third bs (r1[0]'e1) (third bs (r1[1]'e2) (r1[i]'e3))) (third bs (r1[1]'e2) (r1[i]'e3)) w   (by first | assumption | omega | (try dsimp only at *; omega)) (by first | assumption | omega | (try dsimp only at *; omega)) (by first | assumption | omega | (try dsimp only at *; omega)))) ?_
                  rintro _ _ ⟨rfl, rfl⟩
                  refine O.p rfl rfl rfl (Pu.move rfl rfl) ?_
                  refine O.p rfl rfl rfl (Pu.move rfl rfl) ?_
                  refine O.p rfl rfl rfl (Pu.move rfl rfl) ?_
                  refine O.e rfl rfl rfl (Ef.callP call206 rfl rfl (fun w hw => l01BlockD_ok  (r1[1]'e2) (r1[i]'e3) (third bs (r1[1]'e2) (r1[i]'e3)) w   (by first | assumption | omega | (try dsimp only at *; omega)) (by first | assumption | omega | (try dsimp only at *; omega)) (by first | assumption | omega | (try dsimp only at *; omega)))) ?_
                  rintro _ _ ⟨rfl, rfl⟩
                  refine O.p rfl rfl rfl (Pu.move rfl rfl) ?_
                  refine O.p rfl rfl rfl (Pu.move rfl rfl) ?_
                  refine O.p rfl rfl rfl (Pu.move rfl rfl) ?_
                  refine O.e rfl rfl rfl (Ef.callP call206 rfl rfl (fun w hw => l01BlockD_ok  (r1[1]'e2) (third bs (r1[0]'e1) (third bs (r1[1]'e2) (r1[i]'e3))) (third bs (r1[0]'e1) (r1[i]'e3)) w   (by first | assumption | omega | (try dsimp only at *; omega)) (by first | assumption | omega | (try dsimp only at *; omega)) (by first | assumption | omega | (try dsimp only at *; omega)))) ?_
                  rintro _ _ ⟨rfl, rfl⟩
                  refine O.e rfl rfl rfl (Ef.build B3C ([(bk3 (r1[0]'e1) (r1[i]'e3) (third bs (r1[0]'e1) (r1[i]'e3))), (bk3 (r1[0]'e1) (third bs (r1[0]'e1) (third bs (r1[1]'e2) (r1[i]'e3))) (third bs (r1[1]'e2) (r1[i]'e3))), (bk3 (r1[1]'e2) (r1[i]'e3) (third bs (r1[1]'e2) (r1[i]'e3))), (bk3 (r1[1]'e2) (third bs (r1[0]'e1) (third bs (r1[1]'e2) (r1[i]'e3))) (third bs (r1[0]'e1) (r1[i]'e3)))] : List B3) rfl Tryz.underlying24 inf51 rfl rfl rfl (by first | decide | (simp; done)) (by kernel_rfl)) ?_
                  rintro _ _ ⟨A2, hA2, rfl, rfl⟩
                  refine O.p rfl rfl rfl (Pu.assign rfl rfl) ?_
                  refine O.nil ?_
                  refine X.next ?_
                  refine V.seq ?_
                  refine V.seq ?_
                  refine V.region ?_
                  refine O.p rfl rfl rfl (Pu.assign rfl rfl) ?_
                  refine O.nil ?_
                  refine X.next ?_
                  refine V.block ?_
                  refine V.loop3 (β := (Option Addr) × Nat × (List B3) × Nat) (fun x => [(13, .slice x.1 x.2.2.1.length x.2.1), (15, .int .i64 (x.2.2.2 : Int))]) _ (fun x => [Own 51 B3C x.1 x.2.1 x.2.2.1]) _ (fun x => x.2.2.2 ≤ bs.length ∧ (∀ d ∈ x.2.2.1, good v d) ∧ x.2.2.1.length ≤ 4 + x.2.2.2) (fun x => bs.length - x.2.2.2) (A1, 4, ([(bk3 (r1[1]'e2) (r1[i]'e3) (third bs (r1[0]'e1) (r1[i]'e3))), (bk3 (r1[1]'e2) (third bs (r1[0]'e1) (third bs (r1[1]'e2) (r1[i]'e3))) (third bs (r1[1]'e2) (r1[i]'e3))), (bk3 (r1[0]'e1) (r1[i]'e3) (third bs (r1[1]'e2) (r1[i]'e3))), (bk3 (r1[0]'e1) (third bs (r1[0]'e1) (third bs (r1[1]'e2) (r1[i]'e3))) (third bs (r1[0]'e1) (r1[i]'e3)))] : List B3), 0) (by (try dsimp only); exact ⟨by omega, (by intro d hd; simp only [List.mem_cons, List.not_mem_nil, or_false] at hd; rcases hd with rfl | rfl | rfl | rfl; (· exact q1); (· exact q2); (· exact q3); (· exact q4)), by simp⟩) (Ent.cons rfl (Ent.cons rfl (Ent.nil _))) (Ent.cons (t := 3) rfl (Ent.cons (t := 4) rfl (Ent.cons (t := 5) rfl (Ent.cons (t := 6) rfl (Ent.cons (t := 7) rfl (Ent.cons (t := 8) rfl (Ent.cons (t := 14) rfl (Ent.nil _)))))))) (Sub.keep 1 rfl (Sub.keep 0 rfl (Sub.keep 0 rfl (Sub.keep 0 rfl (Sub.keep 0 rfl (Sub.keep 0 rfl (Sub.keep 0 rfl (Sub.refl _)))))))) ?_
                  rintro ⟨blocksA, blocksc, blocks, k⟩ ⟨hk, hgb, hlb⟩
                  dsimp only at hk hgb hlb ⊢
                  refine V.seq ?_
                  refine V.seq ?_
                  refine V.region ?_
                  refine O.p rfl rfl rfl (Pu.move rfl rfl) ?_
                  refine O.p rfl rfl rfl (Pu.fieldAddr 1 rfl Tryz.underlying26 rfl sz24 rfl rfl) ?_
                  refine O.p rfl rfl rfl (Pu.load rfl pl24 rfl (Ld.blk 5 rfl rfl)) ?_
                  refine O.p rfl rfl rfl (Pu.len rfl Tryz.underlying24 rfl) ?_
                  refine O.p rfl rfl rfl (Pu.lss rfl rfl rfl) ?_
                  refine O.nil ?_
                  refine X.next ?_
                  refine V.condD rfl (fun c9 => ?_) (fun c9 => ?_)
                  · skip
                    refine V.skip ?_
                    refine X.next ?_
                    refine V.seq ?_
                    refine V.block ?_
                    refine V.seq ?_
                    refine V.draw mo (by kernel_rfl) (fun hwf => ?_)
                    refine D.p 0 rfl rfl rfl rfl rfl rfl (Pu.fieldAddr 1 rfl Tryz.underlying26 rfl sz24 rfl rfl) ?_
                    refine D.p 1 rfl rfl rfl rfl rfl rfl (Pu.load rfl pl24 rfl (Ld.blk 5 rfl rfl)) ?_
                    refine D.p 2 rfl rfl rfl rfl rfl rfl (Pu.move rfl rfl) ?_
                    refine D.p 3 rfl rfl rfl rfl rfl rfl (Pu.indexAddrS (k) rfl Tryz.underlying24 sz51 rfl rfl (by omega) (by omega) (fun w hw => Own.some hw (i := 6) (by exact rfl) (by omega))) ?_
                    have e4 : k < bs.length := by omega
                    refine D.p 4 rfl rfl rfl rfl rfl rfl (Pu.loadAgg' (v := B3.v (bs[k]'e4)) rfl rfl ag51 sz51 rfl rfl (Ld.rds (C := B3C) (Ld.own 6 (by exact rfl)) (k := k) e4 rfl)) ?_
                    refine D.p 5 rfl rfl rfl rfl rfl rfl (Pu.move rfl rfl) ?_
                    refine D.p 6 rfl rfl rfl rfl rfl rfl (Pu.indexAddr (0) rfl Tryz.underlying24 sz51 rfl rfl (by omega) (by simp) hA2) ?_
                    have e5 : 0 < ([(bk3 (r1[0]'e1) (r1[i]'e3) (third bs (r1[0]'e1) (r1[i]'e3))), (bk3 (r1[0]'e1) (third bs (r1[0]'e1) (third bs (r1[1]'e2) (r1[i]'e3))) (third bs (r1[1]'e2) (r1[i]'e3))), (bk3 (r1[1]'e2) (r1[i]'e3) (third bs (r1[1]'e2) (r1[i]'e3))), (bk3 (r1[1]'e2) (third bs (r1[0]'e1) (third bs (r1[1]'e2) (r1[i]'e3))) (third bs (r1[0]'e1) (r1[i]'e3)))] : List B3).length := by simp
                    refine D.p 7 rfl rfl rfl rfl rfl rfl (Pu.loadAgg' (v := B3.v (([(bk3 (r1[0]'e1) (r1[i]'e3) (third bs (r1[0]'e1) (r1[i]'e3))), (bk3 (r1[0]'e1) (third bs (r1[0]'e1) (third bs (r1[1]'e2) (r1[i]'e3))) (third bs (r1[1]'e2) (r1[i]'e3))), (bk3 (r1[1]'e2) (r1[i]'e3) (third bs (r1[1]'e2) (r1[i]'e3))), (bk3 (r1[1]'e2) (third bs (r1[0]'e1) (third bs (r1[1]'e2) (r1[i]'e3))) (third bs (r1[0]'e1) (r1[i]'e3)))] : List B3)[0]'e5)) rfl rfl ag51 sz51 rfl rfl (Ld.rds (C := B3C) (Ld.own 1 (by exact rfl)) (k := 0) e5 rfl)) ?_
                    refine D.p 8 rfl rfl rfl rfl rfl rfl (Pu.neqB3 Tryz.underlying51 Tryz.underlying2 sz2 (by kernel_rfl) rfl rfl rfl) ?_
                    refine D.p 9 rfl rfl rfl rfl rfl rfl (Pu.move rfl rfl) ?_
                    refine D.splitN 129 rfl (fun c10 => ?_) (fun c10 => ?_)
                    · skip
                      refine D.gp 10 rfl rfl rfl rfl rfl rfl rfl rfl (Pu.fieldAddr 1 rfl Tryz.underlying26 rfl sz24 rfl rfl) ?_
                      refine D.gp 11 rfl rfl rfl rfl rfl rfl rfl rfl (Pu.load rfl pl24 rfl (Ld.blk 5 rfl rfl)) ?_
                      refine D.gp 12 rfl rfl rfl rfl rfl rfl rfl rfl (Pu.move rfl rfl) ?_
                      refine D.gp 13 rfl rfl rfl rfl rfl rfl rfl rfl (Pu.indexAddrS (k) rfl Tryz.underlying24 sz51 rfl rfl (by omega) (by omega) (fun w hw => Own.some hw (i := 6) (by exact rfl) (by omega))) ?_
                      refine D.gp 14 rfl rfl rfl rfl rfl rfl rfl rfl (Pu.loadAgg' (v := B3.v (bs[k]'e4)) rfl rfl ag51 sz51 rfl rfl (Ld.rds (C := B3C) (Ld.own 6 (by exact rfl)) (k := k) e4 rfl)) ?_
                      refine D.gp 15 rfl rfl rfl rfl rfl rfl rfl rfl (Pu.move rfl rfl) ?_
                      refine D.gp 16 rfl rfl rfl rfl rfl rfl rfl rfl (Pu.indexAddr (1) rfl Tryz.underlying24 sz51 rfl rfl (by omega) (by simp) hA2) ?_
                      have e6 : 1 < ([(bk3 (r1[0]'e1) (r1[i]'e3) (third bs (r1[0]'e1) (r1[i]'e3))), (bk3 (r1[0]'e1) (third bs (r1[0]'e1) (third bs (r1[1]'e2) (r1[i]'e3))) (third bs (r1[1]'e2) (r1[i]'e3))), (bk3 (r1[1]'e2) (r1[i]'e3) (third bs (r1[1]'e2) (r1[i]'e3))), (bk3 (r1[1]'e2) (third bs (r1[0]'e1) (third bs (r1[1]'e2) (r1[i]'e3))) (third bs (r1[0]'e1) (r1[i]'e3)))] : List B3).length := by simp
                      refine D.gp 17 rfl rfl rfl rfl rfl rfl rfl rfl (Pu.loadAgg' (v := B3.v (([(bk3 (r1[0]'e1) (r1[i]'e3) (third bs (r1[0]'e1) (r1[i]'e3))), (bk3 (r1[0]'e1) (third bs (r1[0]'e1) (third bs (r1[1]'e2) (r1[i]'e3))) (third bs (r1[1]'e2) (r1[i]'e3))), (bk3 (r1[1]'e2) (r1[i]'e3) (third bs (r1[1]'e2) (r1[i]'e3))), (bk3 (r1[1]'e2) (third bs (r1[0]'e1) (third bs (r1[1]'e2) (r1[i]'e3))) (third bs (r1[0]'e1) (r1[i]'e3)))] : List B3)[1]'e6)) rfl rfl ag51 sz51 rfl rfl (Ld.rds (C := B3C) (Ld.own 1 (by exact rfl)) (k := 1) e6 rfl)) ?_
                      refine D.gp 18 rfl rfl rfl rfl rfl rfl rfl rfl (Pu.neqB3 Tryz.underlying51 Tryz.underlying2 sz2 (by kernel_rfl) rfl rfl rfl) ?_
                      refine D.p 19 rfl rfl rfl rfl rfl rfl (Pu.pickT rfl rfl rfl) ?_
                      refine D.p 20 rfl rfl rfl rfl rfl rfl (Pu.move rfl rfl) ?_
                      refine D.splitN 140 rfl (fun c11 => ?_) (fun c11 => ?_)
                      · skip
                        refine D.gp 21 rfl rfl rfl rfl rfl rfl rfl rfl (Pu.fieldAddr 1 rfl Tryz.underlying26 rfl sz24 rfl rfl) ?_
                        refine D.gp 22 rfl rfl rfl rfl rfl rfl rfl rfl (Pu.load rfl pl24 rfl (Ld.blk 5 rfl rfl)) ?_
                        refine D.gp 23 rfl rfl rfl rfl rfl rfl rfl rfl (Pu.move rfl rfl) ?_
                        refine D.gp 24 rfl rfl rfl rfl rfl rfl rfl rfl (Pu.indexAddrS (k) rfl Tryz.underlying24 sz51 rfl rfl (by omega) (by omega) (fun w hw => Own.some hw (i := 6) (by exact rfl) (by omega))) ?_
                        refine D.gp 25 rfl rfl rfl rfl rfl rfl rfl rfl (Pu.loadAgg' (v := B3.v (bs[k]'e4)) rfl rfl ag51 sz51 rfl rfl (Ld.rds (C := B3C) (Ld.own 6 (by exact rfl)) (k := k) e4 rfl)) ?_
                        refine D.gp 26 rfl rfl rfl rfl rfl rfl rfl rfl (Pu.move rfl rfl) ?_
                        refine D.gp 27 rfl rfl rfl rfl rfl rfl rfl rfl (Pu.indexAddr (2) rfl Tryz.underlying24 sz51 rfl rfl (by omega) (by simp) hA2) ?_
                        have e7 : 2 < ([(bk3 (r1[0]'e1) (r1[i]'e3) (third bs (r1[0]'e1) (r1[i]'e3))), (bk3 (r1[0]'e1) (third bs (r1[0]'e1) (third bs (r1[1]'e2) (r1[i]'e3))) (third bs (r1[1]'e2) (r1[i]'e3))), (bk3 (r1[1]'e2) (r1[i]'e3) (third bs (r1[1]'e2) (r1[i]'e3))), (bk3 (r1[1]'e2) (third bs (r1[0]'e1) (third bs (r1[1]'e2) (r1[i]'e3))) (third bs (r1[0]'e1) (r1[i]'e3)))] : List B3).length := by simp
                        refine D.gp 28 rfl rfl rfl rfl rfl rfl rfl rfl (Pu.loadAgg' (v := B3.v (([(bk3 (r1[0]'e1) (r1[i]'e3) (third bs (r1[0]'e1) (r1[i]'e3))), (bk3 (r1[0]'e1) (third bs (r1[0]'e1) (third bs (r1[1]'e2) (r1[i]'e3))) (third bs (r1[1]'e2) (r1[i]'e3))), (bk3 (r1[1]'e2) (r1[i]'e3) (third bs (r1[1]'e2) (r1[i]'e3))), (bk3 (r1[1]'e2) (third bs (r1[0]'e1) (third bs (r1[1]'e2) (r1[i]'e3))) (third bs (r1[0]'e1) (r1[i]'e3)))] : List B3)[2]'e7)) rfl rfl ag51 sz51 rfl rfl (Ld.rds (C := B3C) (Ld.own 1 (by exact rfl)) (k := 2) e7 rfl)) ?_
                        refine D.gp 29 rfl rfl rfl rfl rfl rfl rfl rfl (Pu.neqB3 Tryz.underlying51 Tryz.underlying2 sz2 (by kernel_rfl) rfl rfl rfl) ?_
                        refine D.p 30 rfl rfl rfl rfl rfl rfl (Pu.pickT rfl rfl rfl) ?_
                        refine D.p 31 rfl rfl rfl rfl rfl rfl (Pu.move rfl rfl) ?_
                        refine D.splitN 151 rfl (fun c12 => ?_) (fun c12 => ?_)
                        · skip
                          refine D.gp 32 rfl rfl rfl rfl rfl rfl rfl rfl (Pu.fieldAddr 1 rfl Tryz.underlying26 rfl sz24 rfl rfl) ?_
                          refine D.gp 33 rfl rfl rfl rfl rfl rfl rfl rfl (Pu.load rfl pl24 rfl (Ld.blk 5 rfl rfl)) ?_
                          refine D.gp 34 rfl rfl rfl rfl rfl rfl rfl rfl (Pu.move rfl rfl) ?_
                          refine D.gp 35 rfl rfl rfl rfl rfl rfl rfl rfl (Pu.indexAddrS (k) rfl Tryz.underlying24 sz51 rfl rfl (by omega) (by omega) (fun w hw => Own.some hw (i := 6) (by exact rfl) (by omega))) ?_
                          refine D.gp 36 rfl rfl rfl rfl rfl rfl rfl rfl (Pu.loadAgg' (v := B3.v (bs[k]'e4)) rfl rfl ag51 sz51 rfl rfl (Ld.rds (C := B3C) (Ld.own 6 (by exact rfl)) (k := k) e4 rfl)) ?_
                          refine D.gp 37 rfl rfl rfl rfl rfl rfl rfl rfl (Pu.move rfl rfl) ?_
                          refine D.gp 38 rfl rfl rfl rfl rfl rfl rfl rfl (Pu.indexAddr (3) rfl Tryz.underlying24 sz51 rfl rfl (by omega) (by simp) hA2) ?_
                          have e8 : 3 < ([(bk3 (r1[0]'e1) (r1[i]'e3) (third bs (r1[0]'e1) (r1[i]'e3))), (bk3 (r1[0]'e1) (third bs (r1[0]'e1) (third bs (r1[1]'e2) (r1[i]'e3))) (third bs (r1[1]'e2) (r1[i]'e3))), (bk3 (r1[1]'e2) (r1[i]'e3) (third bs (r1[1]'e2) (r1[i]'e3))), (bk3 (r1[1]'e2) (third bs (r1[0]'e1) (third bs (r1[1]'e2) (r1[i]'e3))) (third bs (r1[0]'e1) (r1[i]'e3)))] : List B3).length := by simp
                          refine D.gp 39 rfl rfl rfl rfl rfl rfl rfl rfl (Pu.loadAgg' (v := B3.v (([(bk3 (r1[0]'e1) (r1[i]'e3) (third bs (r1[0]'e1) (r1[i]'e3))), (bk3 (r1[0]'e1) (third bs (r1[0]'e1) (third bs (r1[1]'e2) (r1[i]'e3))) (third bs (r1[1]'e2) (r1[i]'e3))), (bk3 (r1[1]'e2) (r1[i]'e3) (third bs (r1[1]'e2) (r1[i]'e3))), (bk3 (r1[1]'e2) (third bs (r1[0]'e1) (third bs (r1[1]'e2) (r1[i]'e3))) (third bs (r1[0]'e1) (r1[i]'e3)))] : List B3)[3]'e8)) rfl rfl ag51 sz51 rfl rfl (Ld.rds (C := B3C) (Ld.own 1 (by exact rfl)) (k := 3) e8 rfl)) ?_
                          refine D.gp 40 rfl rfl rfl rfl rfl rfl rfl rfl (Pu.neqB3 Tryz.underlying51 Tryz.underlying2 sz2 (by kernel_rfl) rfl rfl rfl) ?_
                          refine D.p 41 rfl rfl rfl rfl rfl rfl (Pu.pickT rfl rfl rfl) ?_
                          refine D.done hwf rfl ?_
                          refine X.next ?_
                          refine V.condNot rfl (fun c13 => ?_) (fun c13 => ?_)
                          · skip
                            refine V.region ?_
                            refine O.p rfl rfl rfl (Pu.move rfl rfl) ?_
                            refine O.p rfl rfl rfl (Pu.fieldAddr 1 rfl Tryz.underlying26 rfl sz24 rfl rfl) ?_
                            refine O.p rfl rfl rfl (Pu.load rfl pl24 rfl (Ld.blk 5 rfl rfl)) ?_
                            refine O.p rfl rfl rfl (Pu.move rfl rfl) ?_
                            refine O.p rfl rfl rfl (Pu.indexAddrS (k) rfl Tryz.underlying24 sz51 rfl rfl (by omega) (by omega) (fun w hw => Own.some hw (i := 6) (by exact rfl) (by omega))) ?_
                            refine O.p rfl rfl rfl (Pu.loadAgg' (v := B3.v (bs[k]'e4)) rfl rfl ag51 sz51 rfl rfl (Ld.rds (C := B3C) (Ld.own 6 (by exact rfl)) (k := k) e4 rfl)) ?_
                            refine O.e rfl rfl rfl (Ef.build B3C ([(bs[k]'e4)] : List B3) rfl Tryz.underlying24 inf51 rfl rfl rfl (by first | decide | (simp; done)) (by kernel_rfl)) ?_
                            rintro _ _ ⟨A3, hA3, rfl, rfl⟩
                            refine O.e rfl rfl rfl (Ef.append (xs := blocks) (ys := ([(bs[k]'e4)] : List B3)) 1 rfl Tryz.underlying24 inf51 rfl rfl rfl rfl rfl rfl hA3 (Ld.own 0 (by exact rfl)) (by simp only [List.length_append, List.length_cons, List.length_nil] at *; omega) (by decide)) ?_
                            rintro _ _ ⟨A4, k1, rfl, rfl, hA4⟩
                            replace hA4 := hA4 (.inr (by simp))
                            refine O.p rfl rfl rfl (Pu.assign rfl rfl) ?_
                            refine O.nil ?_
                            refine X.blockNormal ?_
                            refine X.next ?_
                            refine V.region ?_
                            refine O.p rfl rfl rfl (Pu.move rfl rfl) ?_
                            refine O.p rfl rfl rfl (Pu.add64 (r := ((k + 1 : Nat) : Int)) rfl (by omega) rfl rfl rfl) ?_
                            refine O.p rfl rfl rfl (Pu.assign rfl rfl) ?_
                            refine O.nil ?_
                            exact X.back3 (A4, k1, (blocks ++ ([(bs[k]'e4)] : List B3)), k + 1) (by (try dsimp only); exact ⟨by omega, (by first | exact hgb | exact good_snoc hgb (hg _ (List.getElem_mem _))), (by first | omega | (simp only [List.length_append, List.length_singleton]; omega))⟩) (by first | omega | (dsimp only; omega)) (Ent.cons rfl (Ent.cons rfl (Ent.nil _))) (Ent.cons (t := 3) rfl (Ent.cons (t := 4) rfl (Ent.cons (t := 5) rfl (Ent.cons (t := 6) rfl (Ent.cons (t := 7) rfl (Ent.cons (t := 8) rfl (Ent.cons (t := 14) rfl (Ent.nil _)))))))) (Sub.keep 1 rfl (Sub.keep 1 rfl (Sub.keep 1 rfl (Sub.keep 1 rfl (Sub.keep 1 rfl (Sub.keep 1 rfl (Sub.keep 1 rfl (Sub.drop (Sub.refl _)))))))))
                          · skip
                            refine V.skip ?_
                            refine X.blockNormal ?_
                            refine X.next ?_
                            refine V.region ?_
                            refine O.p rfl rfl rfl (Pu.move rfl rfl) ?_
                            refine O.p rfl rfl rfl (Pu.add64 (r := ((k + 1 : Nat) : Int)) rfl (by omega) rfl rfl rfl) ?_
                            refine O.p rfl rfl rfl (Pu.assign rfl rfl) ?_
                            refine O.nil ?_
                            exact X.back3 (blocksA, blocksc, blocks, k + 1) (by (try dsimp only); exact ⟨by omega, (by first | exact hgb | exact good_snoc hgb (hg _ (List.getElem_mem _))), (by first | omega | (simp only [List.length_append, List.length_singleton]; omega))⟩) (by first | omega | (dsimp only; omega)) (Ent.cons rfl (Ent.cons rfl (Ent.nil _))) (Ent.cons (t := 3) rfl (Ent.cons (t := 4) rfl (Ent.cons (t := 5) rfl (Ent.cons (t := 6) rfl (Ent.cons (t := 7) rfl (Ent.cons (t := 8) rfl (Ent.cons (t := 14) rfl (Ent.nil _)))))))) (Sub.keep 0 rfl (Sub.keep 0 rfl (Sub.keep 0 rfl (Sub.keep 0 rfl (Sub.keep 0 rfl (Sub.keep 0 rfl (Sub.keep 0 rfl (Sub.refl _))))))))
                        · skip
                          refine D.gs 32 rfl rfl rfl rfl rfl rfl rfl rfl rfl ?_
                          refine D.gs 33 rfl rfl rfl rfl rfl rfl rfl rfl rfl ?_
                          refine D.gs 34 rfl rfl rfl rfl rfl rfl rfl rfl rfl ?_
                          refine D.gs 35 rfl rfl rfl rfl rfl rfl rfl rfl rfl ?_
                          refine D.gs 36 rfl rfl rfl rfl rfl rfl rfl rfl rfl ?_
                          refine D.gs 37 rfl rfl rfl rfl rfl rfl rfl rfl rfl ?_
                          refine D.gs 38 rfl rfl rfl rfl rfl rfl rfl rfl rfl ?_
                          refine D.gs 39 rfl rfl rfl rfl rfl rfl rfl rfl rfl ?_
                          refine D.gs 40 rfl rfl rfl rfl rfl rfl rfl rfl rfl ?_
                          refine D.p 41 rfl rfl rfl rfl rfl rfl (Pu.pickF rfl rfl rfl) ?_
                          refine D.done hwf rfl ?_
                          refine X.next ?_
                          refine V.condF rfl ?_
                          refine V.skip ?_
                          refine X.blockNormal ?_
                          refine X.next ?_
                          refine V.region ?_
                          refine O.p rfl rfl rfl (Pu.move rfl rfl) ?_
                          refine O.p rfl rfl rfl (Pu.add64 (r := ((k + 1 : Nat) : Int)) rfl (by omega) rfl rfl rfl) ?_
                          refine O.p rfl rfl rfl (Pu.assign rfl rfl) ?_
                          refine O.nil ?_
                          exact X.back3 (blocksA, blocksc, blocks, k + 1) (by (try dsimp only); exact ⟨by omega, (by first | exact hgb | exact good_snoc hgb (hg _ (List.getElem_mem _))), (by first | omega | (simp only [List.length_append, List.length_singleton]; omega))⟩) (by first | omega | (dsimp only; omega)) (Ent.cons rfl (Ent.cons rfl (Ent.nil _))) (Ent.cons (t := 3) rfl (Ent.cons (t := 4) rfl (Ent.cons (t := 5) rfl (Ent.cons (t := 6) rfl (Ent.cons (t := 7) rfl (Ent.cons (t := 8) rfl (Ent.cons (t := 14) rfl (Ent.nil _)))))))) (Sub.keep 0 rfl (Sub.keep 0 rfl (Sub.keep 0 rfl (Sub.keep 0 rfl (Sub.keep 0 rfl (Sub.keep 0 rfl (Sub.keep 0 rfl (Sub.refl _))))))))
                      · skip
                        refine D.gs 21 rfl rfl rfl rfl rfl rfl rfl rfl rfl ?_
                        refine D.gs 22 rfl rfl rfl rfl rfl rfl rfl rfl rfl ?_
                        refine D.gs 23 rfl rfl rfl rfl rfl rfl rfl rfl rfl ?_
                        refine D.gs 24 rfl rfl rfl rfl rfl rfl rfl rfl rfl ?_
                        refine D.gs 25 rfl rfl rfl rfl rfl rfl rfl rfl rfl ?_
                        refine D.gs 26 rfl rfl rfl rfl rfl rfl rfl rfl rfl ?_
                        refine D.gs 27 rfl rfl rfl rfl rfl rfl rfl rfl rfl ?_
                        refine D.gs 28 rfl rfl rfl rfl rfl rfl rfl rfl rfl ?_
                        refine D.gs 29 rfl rfl rfl rfl rfl rfl rfl rfl rfl ?_
                        refine D.p 30 rfl rfl rfl rfl rfl rfl (Pu.pickF rfl rfl rfl) ?_
                        refine D.p 31 rfl rfl rfl rfl rfl rfl (Pu.move rfl rfl) ?_
                        refine D.gs 32 rfl rfl rfl rfl rfl rfl rfl rfl rfl ?_
                        refine D.gs 33 rfl rfl rfl rfl rfl rfl rfl rfl rfl ?_
                        refine D.gs 34 rfl rfl rfl rfl rfl rfl rfl rfl rfl ?_
                        refine D.gs 35 rfl rfl rfl rfl rfl rfl rfl rfl rfl ?_
                        refine D.gs 36 rfl rfl rfl rfl rfl rfl rfl rfl rfl ?_
                        refine D.gs 37 rfl rfl rfl rfl rfl rfl rfl rfl rfl ?_
                        refine D.gs 38 rfl rfl rfl rfl rfl rfl rfl rfl rfl ?_
                        refine D.gs 39 rfl rfl rfl rfl rfl rfl rfl rfl rfl ?_
                        refine D.gs 40 rfl rfl rfl rfl rfl rfl rfl rfl rfl ?_
                        refine D.p 41 rfl rfl rfl rfl rfl rfl (Pu.pickF rfl rfl rfl) ?_
                        refine D.done hwf rfl ?_
                        refine X.next ?_
                        refine V.condF rfl ?_
                        refine V.skip ?_
                        refine X.blockNormal ?_
                        refine X.next ?_
                        refine V.region ?_
                        refine O.p rfl rfl rfl (Pu.move rfl rfl) ?_
                        refine O.p rfl rfl rfl (Pu.add64 (r := ((k + 1 : Nat) : Int)) rfl (by omega) rfl rfl rfl) ?_
                        refine O.p rfl rfl rfl (Pu.assign rfl rfl) ?_
                        refine O.nil ?_
                        exact X.back3 (blocksA, blocksc, blocks, k + 1) (by (try dsimp only); exact ⟨by omega, (by first | exact hgb | exact good_snoc hgb (hg _ (List.getElem_mem _))), (by first | omega | (simp only [List.length_append, List.length_singleton]; omega))⟩) (by first | omega | (dsimp only; omega)) (Ent.cons rfl (Ent.cons rfl (Ent.nil _))) (Ent.cons (t := 3) rfl (Ent.cons (t := 4) rfl (Ent.cons (t := 5) rfl (Ent.cons (t := 6) rfl (Ent.cons (t := 7) rfl (Ent.cons (t := 8) rfl (Ent.cons (t := 14) rfl (Ent.nil _)))))))) (Sub.keep 0 rfl (Sub.keep 0 rfl (Sub.keep 0 rfl (Sub.keep 0 rfl (Sub.keep 0 rfl (Sub.keep 0 rfl (Sub.keep 0 rfl (Sub.refl _))))))))
                    · skip
                      refine D.gs 10 rfl rfl rfl rfl rfl rfl rfl rfl rfl ?_
                      refine D.gs 11 rfl rfl rfl rfl rfl rfl rfl rfl rfl ?_
                      refine D.gs 12 rfl rfl rfl rfl rfl rfl rfl rfl rfl ?_
                      refine D.gs 13 rfl rfl rfl rfl rfl rfl rfl rfl rfl ?_
                      refine D.gs 14 rfl rfl rfl rfl rfl rfl rfl rfl rfl ?_
                      refine D.gs 15 rfl rfl rfl rfl rfl rfl rfl rfl rfl ?_
                      refine D.gs 16 rfl rfl rfl rfl rfl rfl rfl rfl rfl ?_
                      refine D.gs 17 rfl rfl rfl rfl rfl rfl rfl rfl rfl ?_
                      refine D.gs 18 rfl rfl rfl rfl rfl rfl rfl rfl rfl ?_
                      refine D.p 19 rfl rfl rfl rfl rfl rfl (Pu.pickF rfl rfl rfl) ?_
                      refine D.p 20 rfl rfl rfl rfl rfl rfl (Pu.move rfl rfl) ?_
                      refine D.gs 21 rfl rfl rfl rfl rfl rfl rfl rfl rfl ?_
                      refine D.gs 22 rfl rfl rfl rfl rfl rfl rfl rfl rfl ?_
                      refine D.gs 23 rfl rfl rfl rfl rfl rfl rfl rfl rfl ?_
                      refine D.gs 24 rfl rfl rfl rfl rfl rfl rfl rfl rfl ?_
                      refine D.gs 25 rfl rfl rfl rfl rfl rfl rfl rfl rfl ?_
                      refine D.gs 26 rfl rfl rfl rfl rfl rfl rfl rfl rfl ?_
                      refine D.gs 27 rfl rfl rfl rfl rfl rfl rfl rfl rfl ?_
                      refine D.gs 28 rfl rfl rfl rfl rfl rfl rfl rfl rfl ?_
                      refine D.gs 29 rfl rfl rfl rfl rfl rfl rfl rfl rfl ?_
                      refine D.p 30 rfl rfl rfl rfl rfl rfl (Pu.pickF rfl rfl rfl) ?_
                      refine D.p 31 rfl rfl rfl rfl rfl rfl (Pu.move rfl rfl) ?_
                      refine D.gs 32 rfl rfl rfl rfl rfl rfl rfl rfl rfl ?_
                      refine D.gs 33 rfl rfl rfl rfl rfl rfl rfl rfl rfl ?_
                      refine D.gs 34 rfl rfl rfl rfl rfl rfl rfl rfl rfl ?_
                      refine D.gs 35 rfl rfl rfl rfl rfl rfl rfl rfl rfl ?_
                      refine D.gs 36 rfl rfl rfl rfl rfl rfl rfl rfl rfl ?_
                      refine D.gs 37 rfl rfl rfl rfl rfl rfl rfl rfl rfl ?_
                      refine D.gs 38 rfl rfl rfl rfl rfl rfl rfl rfl rfl ?_
                      refine D.gs 39 rfl rfl rfl rfl rfl rfl rfl rfl rfl ?_
                      refine D.gs 40 rfl rfl rfl rfl rfl rfl rfl rfl rfl ?_
                      refine D.p 41 rfl rfl rfl rfl rfl rfl (Pu.pickF rfl rfl rfl) ?_
                      refine D.done hwf rfl ?_
                      refine X.next ?_
                      refine V.condF rfl ?_
                      refine V.skip ?_
                      refine X.blockNormal ?_
                      refine X.next ?_
                      refine V.region ?_
                      refine O.p rfl rfl rfl (Pu.move rfl rfl) ?_
                      refine O.p rfl rfl rfl (Pu.add64 (r := ((k + 1 : Nat) : Int)) rfl (by omega) rfl rfl rfl) ?_
                      refine O.p rfl rfl rfl (Pu.assign rfl rfl) ?_
                      refine O.nil ?_
                      exact X.back3 (blocksA, blocksc, blocks, k + 1) (by (try dsimp only); exact ⟨by omega, (by first | exact hgb | exact good_snoc hgb (hg _ (List.getElem_mem _))), (by first | omega | (simp only [List.length_append, List.length_singleton]; omega))⟩) (by first | omega | (dsimp only; omega)) (Ent.cons rfl (Ent.cons rfl (Ent.nil _))) (Ent.cons (t := 3) rfl (Ent.cons (t := 4) rfl (Ent.cons (t := 5) rfl (Ent.cons (t := 6) rfl (Ent.cons (t := 7) rfl (Ent.cons (t := 8) rfl (Ent.cons (t := 14) rfl (Ent.nil _)))))))) (Sub.keep 0 rfl (Sub.keep 0 rfl (Sub.keep 0 rfl (Sub.keep 0 rfl (Sub.keep 0 rfl (Sub.keep 0 rfl (Sub.keep 0 rfl (Sub.refl _))))))))
                  · skip
                    refine V.exit ?_
                    refine X.thenExit ?_
                    refine X.thenExit ?_
                    refine X.blockHit ?_
                    refine X.next ?_
                    refine V.seq ?_
                    refine V.region ?_
                    refine O.p rfl rfl rfl (Pu.fieldAddr 0 rfl Tryz.underlying26 rfl sz2 rfl rfl) ?_
                    refine O.p rfl rfl rfl (Pu.load rfl pl2 rfl (Ld.blk 5 rfl rfl)) ?_
                    refine O.p rfl rfl rfl (Pu.move rfl rfl) ?_
                    refine O.e rfl rfl rfl (Ef.call1 call199 rfl rfl (fun w hw => l01Made_ok  v blocks _ _ w ((Ld.own 0 (by exact rfl)) w hw) (by first | omega | (simp only [List.length_append, List.length_cons, List.length_nil, List.length_take, List.length_drop]; omega)) (by first | omega | (simp only [List.length_append, List.length_cons, List.length_nil, List.length_take, List.length_drop]; omega)))) ?_
                    rintro _ _ rfl
                    refine O.exi (fun r2A => ?_)
                    refine O.exi (fun r2c => ?_)
                    refine O.exi (fun r2 => ?_)
                    refine O.sep ?_
                    refine O.pur ?_
                    rintro ⟨rfl, hr2_1, hr2_2⟩
                    refine O.s rfl rfl (Ef.storeAll 5 rfl sz26 rfl rfl rfl rfl (by simp [Value.oneCell']) rfl) ?_
                    rintro _ _ rfl
                    refine O.nil ?_
                    refine X.next ?_
                    refine V.ret ?_
                    refine X.blockRet ?_
                    refine X.thenRet ?_
                    refine X.thenRet ?_
                    refine X.blockRet ?_
                    refine X.thenRet ?_
                    refine X.retCell rfl ag26 sz26 rfl rfl (Ld.whole 5 rfl) ?_
                    exact fun w hw => St.mkExi r2A (St.mkExi r2c (St.mkExi r2 (St.unsep (St.addPur ⟨rfl, DrS.perm ⟨hv, hgb, by omega⟩ hr2_1⟩ (St.unsep (hw.sub (Sub.keep 0 rfl (Sub.keep 3 rfl (Sub.drop (Sub.drop (Sub.drop (Sub.drop (Sub.drop (Sub.drop (Sub.refl _)))))))))))))))
  · skip
    refine V.exit ?_
    refine X.thenExit ?_
    refine X.thenExit ?_
    refine X.blockHit ?_
    refine X.next ?_
    refine V.seq ?_
    refine V.region ?_
    refine O.p rfl rfl rfl (Pu.loadAgg rfl ag26 sz26 rfl rfl (Ld.whole 3 rfl)) ?_
    refine O.s rfl rfl (Ef.storeAll 2 rfl sz26 rfl rfl rfl rfl (by simp [Value.oneCell']) rfl) ?_
    rintro _ _ rfl
    refine O.nil ?_
    refine X.next ?_
    refine V.ret ?_
    refine X.retCell rfl ag26 sz26 rfl rfl (Ld.whole 2 rfl) ?_
    exact fun w hw => St.mkExi A (St.mkExi c (St.mkExi bs (St.unsep (St.addPur ⟨rfl, hD.mono (by omega)⟩ (St.unsep (hw.sub (Sub.keep 4 rfl (Sub.keep 1 rfl (Sub.drop (Sub.drop (Sub.drop (Sub.refl _))))))))))))
set_option maxRecDepth 100000 in
set_option maxHeartbeats 1000000 in
theorem l01DrawFull_ok (cA : Option Addr) (cc : Nat) (code : List UInt8) (s : Nat) (w0 : World) (H : List Assn) (hc : Rd U8C w0 cA code) (lc : code.length ≤ 1048576) : Does Tryz.prog 184 [.pointer (some ⟨s, 0, none⟩)] w0 (SrcK 132 cA cc code s :: H) (fun rv_ => [.exi fun (pv : Int) => .exi fun (rA : Option Addr) => .exi fun (rc : Nat) => .exi fun (r : List B3) => .sep (.pur (rv_ = .agg #[.int .i64 pv, .slice rA r.length rc] ∧ DrS 4100 pv r)) (.sep (Own 51 B3C rA rc r) (SrcK 132 cA cc code s))] ++ H) := by
  refine Does.enter Tryz.func184 rfl rfl [(0, .pointer (some ⟨s, 0, none⟩))] rfl ?_
  refine V.seq ?_
  refine V.region ?_
  refine O.e rfl rfl rfl (Ef.alloc rfl zr26 rfl) ?_
  rintro _ _ ⟨b1, rfl, rfl⟩
  refine O.nil ?_
  refine X.next ?_
  refine V.seq ?_
  refine V.region ?_
  refine O.e rfl rfl rfl (Ef.call1 call192 rfl rfl (fun w hw => l01Names_ok   w   )) ?_
  rintro _ _ rfl
  refine O.exi (fun r1A => ?_)
  refine O.exi (fun r1c => ?_)
  refine O.exi (fun r1 => ?_)
  refine O.sep ?_
  refine O.pur ?_
  rintro ⟨rfl, hr1_1⟩
  have hnl : r1.length = 6 := by rw [hr1_1]; rfl
  refine O.p rfl rfl rfl (Pu.assign rfl rfl) ?_
  refine O.nil ?_
  refine X.next ?_
  refine V.seq ?_
  refine V.region ?_
  refine O.p rfl rfl rfl (Pu.move rfl rfl) ?_
  refine O.p rfl rfl rfl (Pu.move rfl rfl) ?_
  refine O.p rfl rfl rfl (Pu.move rfl rfl) ?_
  refine O.e rfl rfl rfl (Ef.build I64 ([(3 : Int), (6 : Int)] : List Int) rfl Tryz.underlying34 inf2 rfl rfl rfl (by first | decide | (simp; done)) (by kernel_rfl)) ?_
  rintro _ _ ⟨A1, hA1, rfl, rfl⟩
  refine O.e rfl rfl rfl (Ef.call call93 rfl rfl (Does.pre (fun w hw => hw.sub (Sub.keep 3 rfl (Sub.keep 0 rfl (Sub.keep 0 rfl (Sub.keep 0 rfl (Sub.refl _)))))) (l01Pick_ok _ _ _ s ([(3 : Int), (6 : Int)] : List Int) _ _ w0 _ (Ld.own 0 (by exact rfl)) (by first | omega | (simp only [tops_len, conts_len, bl, List.length_append, List.length_cons, List.length_nil] at *; omega)) (by first | assumption | omega | (try dsimp only at *; omega)) (by first | assumption | omega | (try dsimp only at *; omega)) (by first | (simp; done) | omega)))) ?_
  rintro _ _ rfl
  refine O.exi (fun r2 => ?_)
  refine O.sep ?_
  refine O.pur ?_
  rintro ⟨rfl, hr2_1⟩
  have hpk : r2 = 3 ∨ r2 = 6 := by simpa using hr2_1
  refine O.e rfl rfl rfl (Ef.call call92 rfl rfl (Does.pre (fun w hw => hw.sub (Sub.keep 0 rfl (Sub.keep 0 rfl (Sub.keep 0 rfl (Sub.keep 0 rfl (Sub.refl _)))))) (l01Next_ok _ _ _ s r2 w0 _   (by first | assumption | omega | (try dsimp only at *; omega)) (by first | assumption | omega | (try dsimp only at *; omega))))) ?_
  rintro _ _ rfl
  refine O.exi (fun r3 => ?_)
  refine O.sep ?_
  refine O.pur ?_
  rintro ⟨rfl, hr3_1, hr3_2, hr3_3⟩
  refine O.p rfl rfl rfl (Pu.indexAddrS ((r3).toNat) rfl Tryz.underlying110 sz9 rfl rfl (by omega) (by omega) (fun w hw => Own.some hw (i := 2) (by exact rfl) (by omega))) ?_
  have e1 : (r3).toNat < r1.length := by omega
  refine O.p rfl rfl rfl (Pu.load rfl pl9 rfl (Ld.rd (Ld.own 2 (by exact rfl)) (k := (r3).toNat) e1 rfl rfl)) ?_
  refine O.e rfl rfl rfl (Ef.call1 call125 rfl rfl (fun w hw => l01NamedAny_ok  (r1[(r3).toNat]'e1) w   (by rw [← hr1_1]; exact List.getElem_mem _))) ?_
  rintro _ _ rfl
  refine O.exi (fun pv1 => ?_)
  refine O.exi (fun r4A => ?_)
  refine O.exi (fun r4c => ?_)
  refine O.exi (fun r4 => ?_)
  refine O.sep ?_
  refine O.pur ?_
  rintro ⟨rfl, hpv1_1⟩
  have hDn := hpv1_1
  have hvn := hDn.1
  have hln := hDn.2.2
  refine O.p rfl rfl rfl (Pu.move rfl rfl) ?_
  refine O.p rfl rfl rfl (Pu.extract rfl rfl rfl) ?_
  refine O.p rfl rfl rfl (Pu.extract rfl rfl rfl) ?_
  refine O.e rfl rfl rfl (Ef.alloc rfl zr26 rfl) ?_
  rintro _ _ ⟨b2, rfl, rfl⟩
  refine O.s rfl rfl (Ef.storeAll 0 rfl sz26 rfl rfl rfl rfl (by simp [Value.oneCell']) rfl) ?_
  rintro _ _ rfl
  refine O.p rfl rfl rfl (Pu.assign rfl rfl) ?_
  refine O.nil ?_
  refine X.next ?_
  refine V.seq ?_
  refine V.drawS mo (by kernel_rfl) (Sub.keep 0 rfl (Sub.keep 0 rfl (Sub.keep 1 rfl (Sub.keep 1 rfl (Sub.keep 1 rfl (Sub.drop (Sub.refl _))))))) (fun hwf => ?_)
  refine D.p 0 rfl rfl rfl rfl rfl rfl (Pu.loadAgg rfl ag26 sz26 rfl rfl (Ld.whole 0 rfl)) ?_
  refine D.p 1 rfl rfl rfl rfl rfl rfl (Pu.move rfl rfl) ?_
  refine D.p 2 rfl rfl rfl rfl rfl rfl (Pu.fieldAddr 0 rfl Tryz.underlying26 rfl sz2 rfl rfl) ?_
  refine D.p 3 rfl rfl rfl rfl rfl rfl (Pu.load rfl pl2 rfl (Ld.blk 0 rfl rfl)) ?_
  refine D.eff hwf (e := 4) rfl rfl rfl rfl (Ef.call call90 rfl rfl (Does.pre (fun w hw => hw.sub (Sub.keep 2 rfl (Sub.keep 0 rfl (Sub.keep 0 rfl (Sub.keep 0 rfl (Sub.keep 0 rfl (Sub.keep 0 rfl (Sub.refl _)))))))) (l01DrawOrder_ok _ _ _ s pv1 w0 _   (by first | assumption | omega | (try dsimp only at *; omega)) (by first | assumption | omega | (try dsimp only at *; omega)) (by omega)))) rfl rfl rfl ?_
  rintro _ _ rfl hs
  refine ⟨fun w hw => hw.tail.sub (Sub.keep 0 rfl (Sub.keep 0 rfl (Sub.keep 0 rfl (Sub.keep 0 rfl (Sub.keep 0 rfl (Sub.refl _)))))), ?_⟩
  refine D.exi (fun r5A => ?_)
  refine D.exi (fun r5c => ?_)
  refine D.exi (fun r5 => ?_)
  refine D.sep ?_
  refine D.pur1 ?_
  rintro ⟨rfl, hr5_1⟩
  refine D.sep ?_
  have hol := hr5_1.1
  refine D.eff hwf (e := 5) rfl rfl rfl rfl (Ef.call1 call126 rfl rfl (fun w hw => l01RenamedD_ok  pv1 r4 r5 _ _ _ _ w ((Ld.own 3 (by exact rfl)) w hw) ((Ld.own 0 (by exact rfl)) w hw) (by first | omega | (simp only [tops_len, conts_len, bl, List.length_append, List.length_cons, List.length_nil] at *; omega)) (by first | omega | (simp only [tops_len, conts_len, bl, List.length_append, List.length_cons, List.length_nil] at *; omega)) (by rw [hr5_1.1]; exact hDn.2.1) (by have := hDn.2.2; omega) (fun q hq => by have := hr5_1.2.2 q hq; have := hDn.1; omega))) rfl rfl rfl ?_
  rintro _ _ rfl hs
  refine ⟨fun w hw => hs w hw.tail, ?_⟩
  refine D.exi (fun r6A => ?_)
  refine D.exi (fun r6c => ?_)
  refine D.exi (fun r6 => ?_)
  refine D.sep ?_
  refine D.pur1 ?_
  rintro ⟨rfl, hr6_1, hr6_2⟩
  have hDr := hDn.ren hr5_1 hr6_1
  refine D.effX (Hs' := []) hwf (e := 6) rfl rfl rfl rfl (Ef.storeAll 3 rfl sz26 rfl rfl rfl rfl (by simp [Value.oneCell']) rfl) rfl [] rfl (List.forall_mem_nil _) ?_
  rintro _ _ rfl
  refine ⟨fun w hw => hw.sub (Sub.nil _), ?_⟩
  refine D.done hwf rfl ?_
  refine X.next ?_
  refine V.seq ?_
  refine V.seq ?_
  refine V.region ?_
  refine O.p rfl rfl rfl (Pu.move rfl rfl) ?_
  refine O.e rfl rfl rfl (Ef.call call92 rfl rfl (Does.pre (fun w hw => hw.sub (Sub.keep 2 rfl (Sub.keep 0 rfl (Sub.keep 0 rfl (Sub.keep 0 rfl (Sub.keep 0 rfl (Sub.keep 0 rfl (Sub.keep 0 rfl (Sub.keep 0 rfl (Sub.refl _)))))))))) (l01Next_ok _ _ _ s (3 : Int) w0 _   (by first | assumption | omega | (try dsimp only at *; omega)) (by first | assumption | omega | (try dsimp only at *; omega))))) ?_
  rintro _ _ rfl
  refine O.exi (fun r7 => ?_)
  refine O.sep ?_
  refine O.pur ?_
  rintro ⟨rfl, hr7_1, hr7_2, hr7_3⟩
  refine O.p rfl rfl rfl (Pu.assign rfl rfl) ?_
  refine O.nil ?_
  refine X.next ?_
  refine V.block ?_
  refine V.loop3 (β := Int × (Option Addr) × Nat × (List B3)) (fun x => [(6, .int .i64 (x.1 : Int))]) _ (fun x => [Blk b2 [.int .i64 pv1, .slice x.2.1 x.2.2.2.length x.2.2.1] 26, Own 51 B3C x.2.1 x.2.2.1 x.2.2.2]) _ (fun x => x.1 ≤ 2 ∧ DrS (4008 - 4 * x.1.toNat) pv1 x.2.2.2) (fun x => x.1.toNat) (r7, r6A, r6c, r6) (by (try dsimp only); exact ⟨by omega, hDr.mono (by omega)⟩) (Ent.cons rfl (Ent.nil _)) (Ent.cons (t := 0) rfl (Ent.cons (t := 2) rfl (Ent.cons (t := 4) rfl (Ent.nil _)))) (Sub.keep 3 rfl (Sub.keep 1 rfl (Sub.keep 0 rfl (Sub.keep 0 rfl (Sub.keep 0 rfl (Sub.keep 0 rfl (Sub.keep 0 rfl (Sub.keep 0 rfl (Sub.refl _))))))))) ?_
  rintro ⟨k, xsA, xsc, xs⟩ ⟨hk, hDx⟩
  dsimp only at hk hDx ⊢
  refine V.seq ?_
  refine V.seq ?_
  refine V.region ?_
  refine O.p rfl rfl rfl (Pu.move rfl rfl) ?_
  refine O.p rfl rfl rfl (Pu.gtr rfl rfl rfl) ?_
  refine O.nil ?_
  refine X.next ?_
  refine V.condD rfl (fun c1 => ?_) (fun c1 => ?_)
  · skip
    refine V.skip ?_
    refine X.next ?_
    refine V.seq ?_
    refine V.block ?_
    refine V.region ?_
    refine O.p rfl rfl rfl (Pu.move rfl rfl) ?_
    refine O.p rfl rfl rfl (Pu.loadAgg rfl ag26 sz26 rfl rfl (Ld.whole 0 rfl)) ?_
    refine O.e rfl rfl rfl (Ef.call call226 rfl rfl (Does.pre (fun w hw => hw.sub (Sub.keep 2 rfl (Sub.keep 1 rfl (Sub.keep 0 rfl (Sub.keep 0 rfl (Sub.keep 0 rfl (Sub.keep 0 rfl (Sub.keep 0 rfl (Sub.keep 0 rfl (Sub.refl _)))))))))) (l01Switched_ok _ _ _ (4008 - 4 * k.toNat) s pv1 xs _ _ w0 _   (by first | assumption | omega | (try dsimp only at *; omega)) (by first | assumption | omega | (try dsimp only at *; omega)) hDx (by omega)))) ?_
    rintro _ _ rfl
    refine O.exi (fun r8A => ?_)
    refine O.exi (fun r8c => ?_)
    refine O.exi (fun r8 => ?_)
    refine O.sep ?_
    refine O.pur ?_
    rintro ⟨rfl, hr8_1⟩
    refine O.sep ?_
    refine O.s rfl rfl (Ef.storeAll 2 rfl sz26 rfl rfl rfl rfl (by simp [Value.oneCell']) rfl) ?_
    rintro _ _ rfl
    refine O.nil ?_
    refine X.blockNormal ?_
    refine X.next ?_
    refine V.region ?_
    refine O.p rfl rfl rfl (Pu.move rfl rfl) ?_
    refine O.p rfl rfl rfl (Pu.sub64 rfl (by omega) rfl rfl rfl) ?_
    refine O.p rfl rfl rfl (Pu.assign rfl rfl) ?_
    refine O.nil ?_
    exact X.back3 ((k - (1 : Int)), r8A, r8c, r8) (by (try dsimp only); exact ⟨by omega, hr8_1.mono (by omega)⟩) (by first | omega | (dsimp only; omega)) (Ent.cons rfl (Ent.nil _)) (Ent.cons (t := 0) rfl (Ent.cons (t := 2) rfl (Ent.cons (t := 4) rfl (Ent.nil _)))) (Sub.keep 2 rfl (Sub.keep 0 rfl (Sub.keep 0 rfl (Sub.keep 0 rfl (Sub.keep 0 rfl (Sub.keep 0 rfl (Sub.keep 0 rfl (Sub.keep 0 rfl (Sub.refl _)))))))))
  · skip
    refine V.exit ?_
    refine X.thenExit ?_
    refine X.thenExit ?_
    refine X.blockHit ?_
    refine X.next ?_
    refine V.seq ?_
    refine V.region ?_
    refine O.p rfl rfl rfl (Pu.loadAgg rfl ag26 sz26 rfl rfl (Ld.whole 0 rfl)) ?_
    refine O.s rfl rfl (Ef.storeAll 7 rfl sz26 rfl rfl rfl rfl (by simp [Value.oneCell']) rfl) ?_
    rintro _ _ rfl
    refine O.nil ?_
    refine X.next ?_
    refine V.ret ?_
    refine X.retCell rfl ag26 sz26 rfl rfl (Ld.whole 7 rfl) ?_
    exact fun w hw => St.mkExi pv1 (St.mkExi xsA (St.mkExi xsc (St.mkExi xs (St.unsep (St.addPur ⟨rfl, hDx.mono (by omega)⟩ (St.unsep (hw.sub (Sub.keep 1 rfl (Sub.keep 1 rfl (Sub.drop (Sub.drop (Sub.drop (Sub.drop (Sub.drop (Sub.drop (Sub.refl _))))))))))))))))
set_option maxRecDepth 100000 in
set_option maxHeartbeats 1000000 in
theorem l01Without_ok (v : Int) (bs : List B3) (i : Int) (A : Option Addr) (c : Nat) (w0 : World) (H : List Assn) (hi : 0 ≤ i ∧ i < bs.length) (lb : bs.length ≤ 100000) : Does Tryz.prog 185 [.agg #[.int .i64 v, .slice A bs.length c], .int .i64 i] w0 (Own 51 B3C A c bs :: H) (fun rv_ => [.exi fun (rA : Option Addr) => .exi fun (rc : Nat) => .exi fun (r : List B3) => .sep (.pur (rv_ = .agg #[.int .i64 v, .slice rA r.length rc] ∧ r = bs.take i.toNat ++ bs.drop (i.toNat + 1))) (Own 51 B3C rA rc r)] ++ H) := by
  refine Does.enter Tryz.func185 rfl rfl [(0, .agg #[.int .i64 v, .slice A bs.length c]), (1, .int .i64 i)] rfl ?_
  refine V.seq ?_
  refine V.region ?_
  refine O.e rfl rfl rfl (Ef.box rfl rfl rfl) ?_
  rintro _ _ ⟨b1, rfl, rfl⟩
  refine O.e rfl rfl rfl (Ef.alloc rfl zr26 rfl) ?_
  rintro _ _ ⟨b2, rfl, rfl⟩
  refine O.nil ?_
  refine X.next ?_
  refine V.seq ?_
  refine V.fact (fun w hw => Own.some hw (i := 2) rfl (by omega)) (fun hAS => ?_)
  refine V.fact (fun w hw => Own.cap hw (i := 2) rfl) (fun hcap => ?_)
  have htl : (bs.take i.toNat).length = i.toNat := by rw [List.length_take]; omega
  have hdl : (bs.drop (i + (1 : Int)).toNat).length = bs.length - (i.toNat + 1) := by rw [List.length_drop]; omega
  refine V.draw mo (by kernel_rfl) (fun hwf => ?_)
  refine D.p 0 rfl rfl rfl rfl rfl rfl (Pu.fieldAddr 0 rfl Tryz.underlying26 rfl sz2 rfl rfl) ?_
  refine D.p 1 rfl rfl rfl rfl rfl rfl (Pu.load rfl pl2 rfl (Ld.blk 1 rfl rfl)) ?_
  refine D.p 3 rfl rfl rfl rfl rfl rfl (Pu.fieldAddr 1 rfl Tryz.underlying26 rfl sz24 rfl rfl) ?_
  refine D.p 4 rfl rfl rfl rfl rfl rfl (Pu.load rfl pl24 rfl (Ld.blk 1 rfl rfl)) ?_
  refine D.p 5 rfl rfl rfl rfl rfl rfl (Pu.move rfl rfl) ?_
  refine D.p 6 rfl rfl rfl rfl rfl rfl (Pu.sliceH ((i).toNat) rfl Tryz.underlying24 sz51 rfl rfl (by omega) (by omega)) ?_
  refine D.p 8 rfl rfl rfl rfl rfl rfl (Pu.fieldAddr 1 rfl Tryz.underlying26 rfl sz24 rfl rfl) ?_
  refine D.p 9 rfl rfl rfl rfl rfl rfl (Pu.load rfl pl24 rfl (Ld.blk 1 rfl rfl)) ?_
  refine D.p 10 rfl rfl rfl rfl rfl rfl (Pu.move rfl rfl) ?_
  refine D.p 11 rfl rfl rfl rfl rfl rfl (Pu.add64 rfl (by omega) rfl rfl rfl) ?_
  refine D.p 12 rfl rfl rfl rfl rfl rfl (Pu.sliceL (((i + (1 : Int))).toNat) rfl Tryz.underlying24 sz51 rfl rfl (by omega) (by omega)) ?_
  refine D.eff hwf (e := 2) rfl rfl rfl rfl (Ef.build B3C ([] : List B3) rfl Tryz.underlying24 inf51 rfl rfl rfl (by first | decide | (simp; done)) (by kernel_rfl)) rfl rfl rfl ?_
  rintro _ _ ⟨A1, hA1, rfl, rfl⟩ hs
  refine ⟨fun w hw => hw.sub (Sub.keep 1 rfl (Sub.keep 1 rfl (Sub.keep 1 rfl (Sub.drop (Sub.refl _))))), ?_⟩
  refine D.eff hwf (e := 7) rfl rfl rfl rfl (Ef.append (xs := ([] : List B3)) (ys := (bs.take ((i).toNat))) 0 rfl Tryz.underlying24 inf51 rfl rfl rfl rfl rfl (by first | (simp only [List.length_take, List.length_drop]; done) | (simp only [List.length_take, List.length_drop]; omega)) hAS (fun w hw => ((Ld.own 3 (by exact rfl)) w hw).take ((i).toNat)) (by simp only [List.length_append, List.length_cons, List.length_nil] at *; omega) (by decide)) rfl rfl rfl ?_
  rintro _ _ ⟨A2, k1, rfl, rfl, hA2⟩ hs
  replace hA2 := hA2 (.inl hA1)
  refine ⟨fun w hw => hw.sub (Sub.keep 1 rfl (Sub.keep 1 rfl (Sub.keep 1 rfl (Sub.drop (Sub.refl _))))), ?_⟩
  refine D.eff hwf (e := 13) rfl rfl rfl rfl (Ef.append (xs := (([] : List B3) ++ (bs.take ((i).toNat)))) (ys := (bs.drop (((i + (1 : Int))).toNat))) 0 rfl Tryz.underlying24 inf51 rfl rfl rfl rfl rfl (by first | (simp only [List.length_take, List.length_drop]; done) | (simp only [List.length_take, List.length_drop]; omega)) (by split <;> simp [hAS]) (fun w hw => ((Ld.own 3 (by exact rfl)) w hw).drop rfl (Own.cap hw (i := 3) (by exact rfl))) (by simp only [List.length_append, List.length_cons, List.length_nil] at *; omega) (by decide)) rfl rfl rfl ?_
  rintro _ _ ⟨A3, k2, rfl, rfl, hA3⟩ hs
  replace hA3 := hA3 (.inl hA2)
  refine ⟨fun w hw => hw.sub (Sub.keep 1 rfl (Sub.keep 1 rfl (Sub.keep 1 rfl (Sub.drop (Sub.refl _))))), ?_⟩
  refine D.p 14 rfl rfl rfl rfl rfl rfl (Pu.buildS (cs := [.int .i64 v, .slice A3 (((([] : List B3) ++ (bs.take ((i).toNat))) ++ (bs.drop (((i + (1 : Int))).toNat))).length) k2]) rfl rfl Tryz.underlying26 zr26 (by kernel_rfl) rfl (by kernel_rfl)) ?_
  refine D.effX (Hs' := []) hwf (e := 15) rfl rfl rfl rfl (Ef.storeAll 1 rfl sz26 rfl rfl rfl rfl (by simp [Value.oneCell']) rfl) rfl [] rfl (List.forall_mem_nil _) ?_
  rintro _ _ rfl
  refine ⟨fun w hw => hw.sub (Sub.nil _), ?_⟩
  refine D.done hwf rfl ?_
  refine X.next ?_
  refine V.ret ?_
  refine X.retCell rfl ag26 sz26 rfl rfl (Ld.whole 1 rfl) ?_
  exact fun w hw => St.mkExi A3 (St.mkExi k2 (St.mkExi ((([] : List B3) ++ (bs.take ((i).toNat))) ++ (bs.drop (((i + (1 : Int))).toNat))) (St.unsep (St.addPur ⟨rfl, by rw [show (i + (1 : Int)).toNat = i.toNat + 1 by omega]; rfl⟩ (hw.sub (Sub.keep 0 rfl (Sub.drop (Sub.drop (Sub.drop (Sub.refl _))))))))))
end Go.Proofs.YtgjfcepnkllklaaGreat
