/-
  Contracts, part 11.
-/
import Derived.Test.YtgjfcepnkllklaaGreatKb10
set_option linter.unusedVariables false
set_option linter.unusedSimpArgs false
namespace Go.Proofs.YtgjfcepnkllklaaGreat
open Go Go.RowKit Go.Vc Go.Proofs
set_option maxRecDepth 100000 in
set_option maxHeartbeats 1000000 in
theorem fillSystem_ok (v : Int) (bs : List B3) (A : Option Addr) (c : Nat) (w0 : World) (H : List Assn) (lb : bs.length ≤ 100000) : Does Tryz.prog 133 [.agg #[.int .i64 v, .slice A bs.length c]] w0 (Own 51 B3C A c bs :: H) (fun rv_ => [.exi fun (rA : Option Addr) => .exi fun (rc : Nat) => .exi fun (r : List B3) => .sep (.pur (rv_ = .tuple #[.agg #[.int .i64 (if STS v bs then v else 0), .slice rA r.length rc], .int .i64 (if STS v bs then 0 else 1)] ∧ r.length ≤ 4200)) (.sep (Own 51 B3C rA rc r) (Own 51 B3C A c bs))] ++ H) := by
  refine Does.enter Tryz.func133 rfl rfl [(0, .agg #[.int .i64 v, .slice A bs.length c])] rfl ?_
  refine V.seq ?_
  refine V.region ?_
  refine O.e rfl rfl rfl (Ef.box rfl rfl rfl) ?_
  rintro _ _ ⟨b1, rfl, rfl⟩
  refine O.e rfl rfl rfl (Ef.alloc rfl zr26 rfl) ?_
  rintro _ _ ⟨b2, rfl, rfl⟩
  refine O.p rfl rfl rfl (Pu.assign rfl rfl) ?_
  refine O.nil ?_
  refine X.next ?_
  refine V.seq ?_
  refine V.seq ?_
  refine V.region ?_
  refine O.p rfl rfl rfl (Pu.loadAgg rfl ag26 sz26 rfl rfl (Ld.whole 1 rfl)) ?_
  refine O.e rfl rfl rfl (Ef.callP call79 rfl rfl (fun w hw => l01Is_ok _ bs _ _ w ((Ld.own 2 (by exact rfl)) w hw) (by omega))) ?_
  rintro _ _ ⟨rfl, rfl⟩
  refine O.p rfl rfl rfl (Pu.not rfl rfl) ?_
  refine O.nil ?_
  refine X.next ?_
  refine V.condNot rfl (fun c1 => ?_) (fun c1 => ?_)
  · skip
    refine V.seq ?_
    refine V.region ?_
    refine O.p rfl rfl rfl (Pu.buildS (cs := [.int .i64 (0 : Int), .slice none 0 0]) rfl rfl Tryz.underlying26 zr26 (by kernel_rfl) rfl (by kernel_rfl)) ?_
    refine O.s rfl rfl (Ef.storeAll 0 rfl sz26 rfl rfl rfl rfl (by simp [Value.oneCell']) rfl) ?_
    rintro _ _ rfl
    refine O.p rfl rfl rfl (Pu.assign rfl rfl) ?_
    refine O.nil ?_
    refine X.next ?_
    refine V.ret ?_
    refine X.thenRet ?_
    refine X.retCell2 rfl ag26 sz26 rfl rfl rfl (Ld.whole 0 rfl) ?_
    exact fun w hw => St.mkExi none (St.mkExi 0 (St.mkExi [] (St.unsep (St.addPur ⟨(by rw [if_neg c1, if_neg c1]; try rfl), by simp⟩ (St.unsep (St.addNil (T := 51) (C := B3C) (hw.sub (Sub.keep 2 rfl (Sub.drop (Sub.drop (Sub.refl _)))))))))))
  · skip
    have hS := c1
    have hlo := hS.lo
    have hhi := hS.hi
    have hfw := hS.few
    refine V.skip ?_
    refine X.next ?_
    refine V.seq ?_
    refine V.drawS mo (by kernel_rfl) (Sub.keep 0 rfl (Sub.keep 0 rfl (Sub.drop (Sub.refl _)))) (fun hwf => ?_)
    refine D.p 0 rfl rfl rfl rfl rfl rfl (Pu.loadAgg rfl ag26 sz26 rfl rfl (Ld.whole 1 rfl)) ?_
    refine D.p 2 rfl rfl rfl rfl rfl rfl (Pu.loadAgg rfl ag26 sz26 rfl rfl (Ld.whole 1 rfl)) ?_
    refine D.either hwf (e1 := 1) (e2 := 4) rfl ?_ ?_
    · skip
      refine ⟨_, _, rfl, rfl, fun _ _ => wanted_none rfl _, Ef.call1 call135 rfl rfl (fun w hw => l01Rest_ok  v bs _ _ w ((Ld.own 2 (by exact rfl)) w hw) (by first | omega | (simp only [tops_len, conts_len, bl, List.length_append, List.length_cons, List.length_nil] at *; omega)) (by omega)), rfl, rfl, ?_⟩
      rintro _ _ rfl hs
      refine ⟨fun w hw => hs w hw.tail, ?_⟩
      refine D.exi (fun r1A => ?_)
      refine D.exi (fun r1c => ?_)
      refine D.exi (fun r1 => ?_)
      refine D.sep ?_
      refine D.pur1 ?_
      rintro ⟨rfl, hr1_1, hr1_2⟩
      refine D.either hwf (e1 := 3) (e2 := 4) rfl ?_ ?_
      · skip
        refine ⟨_, _, rfl, rfl, fun _ _ => wanted_none rfl _, Ef.call call212 rfl rfl (Does.pre (fun w hw => hw.sub (Sub.keep 3 rfl (Sub.keep 0 rfl (Sub.keep 0 rfl (Sub.keep 0 rfl (Sub.refl _)))))) (l01Copy_ok  v bs _ _ w0 _   (by omega))), rfl, rfl, ?_⟩
        rintro _ _ rfl hs
        refine ⟨fun w hw => hw.tail.sub (Sub.keep 1 rfl (Sub.keep 1 rfl (Sub.drop (Sub.refl _)))), ?_⟩
        refine D.exi (fun r2A => ?_)
        refine D.exi (fun r2c => ?_)
        refine D.exi (fun r2 => ?_)
        refine D.sep ?_
        refine D.pur1 ?_
        rintro ⟨rfl, hr2_1⟩
        refine D.sep ?_
        have hrlr2 : r2.length = bs.length := by rw [hr2_1]
        refine D.eff hwf (e := 4) rfl rfl rfl rfl (Ef.alloc rfl zr26 rfl) rfl rfl rfl ?_
        rintro _ _ ⟨b3, rfl, rfl⟩ hs
        refine ⟨fun w hw => hw.sub (Sub.keep 4 rfl (Sub.keep 4 rfl (Sub.drop (Sub.drop (Sub.drop (Sub.drop (Sub.refl _))))))), ?_⟩
        refine D.p 5 rfl rfl rfl rfl rfl rfl (Pu.assign rfl rfl) ?_
        refine D.eff hwf (e := 6) rfl rfl rfl rfl (Ef.storeAll 0 rfl sz26 rfl rfl rfl rfl (by simp [Value.oneCell']) rfl) rfl rfl rfl ?_
        rintro _ _ rfl hs
        refine ⟨fun w hw => hw.sub (Sub.keep 4 rfl (Sub.keep 4 rfl (Sub.drop (Sub.drop (Sub.drop (Sub.drop (Sub.refl _))))))), ?_⟩
        refine D.done hwf rfl ?_
        refine X.next ?_
        refine V.seq ?_
        refine V.seq ?_
        refine V.region ?_
        refine O.p rfl rfl rfl (Pu.assign rfl rfl) ?_
        refine O.nil ?_
        refine X.next ?_
        refine V.block ?_
        refine V.loop3 (β := Nat × (Option Addr) × Nat × (List B3)) (fun x => [(6, .int .i64 (x.1 : Int))]) _ (fun x => [Blk b3 [.int .i64 v, .slice x.2.1 x.2.2.2.length x.2.2.1] 26, Own 51 B3C x.2.1 x.2.2.1 x.2.2.2]) _ (fun x => x.1 ≤ r1.length ∧ x.2.2.2.length ≤ 35 + x.1) (fun x => r1.length - x.1) (0, r2A, r2c, r2) (by (try dsimp only); exact ⟨by omega, by omega⟩) (Ent.cons rfl (Ent.nil _)) (Ent.cons (t := 1) rfl (Ent.cons (t := 2) rfl (Ent.cons (t := 4) rfl (Ent.cons (t := 5) rfl (Ent.nil _))))) (Sub.keep 0 rfl (Sub.keep 0 rfl (Sub.keep 0 rfl (Sub.keep 0 rfl (Sub.keep 0 rfl (Sub.keep 0 rfl (Sub.refl _))))))) ?_
        rintro ⟨i, xsA, xsc, xs⟩ ⟨hi, hl⟩
        dsimp only at hi hl ⊢
        refine V.seq ?_
        refine V.seq ?_
        refine V.region ?_
        refine O.p rfl rfl rfl (Pu.move rfl rfl) ?_
        refine O.p rfl rfl rfl (Pu.move rfl rfl) ?_
        refine O.p rfl rfl rfl (Pu.len rfl Tryz.underlying24 rfl) ?_
        refine O.p rfl rfl rfl (Pu.lss rfl rfl rfl) ?_
        refine O.nil ?_
        refine X.next ?_
        refine V.condD rfl (fun c2 => ?_) (fun c2 => ?_)
        · skip
          refine V.skip ?_
          refine X.next ?_
          refine V.seq ?_
          refine V.block ?_
          refine V.seq ?_
          have ei : i < r1.length := by omega
          refine V.drawS mo (by kernel_rfl) (Sub.keep 0 rfl (Sub.keep 0 rfl (Sub.keep 0 rfl (Sub.keep 0 rfl (Sub.keep 0 rfl (Sub.keep 0 rfl (Sub.refl _))))))) (fun hwf => ?_)
          refine D.p 0 rfl rfl rfl rfl rfl rfl (Pu.loadAgg rfl ag26 sz26 rfl rfl (Ld.whole 0 rfl)) ?_
          refine D.p 1 rfl rfl rfl rfl rfl rfl (Pu.move rfl rfl) ?_
          refine D.p 2 rfl rfl rfl rfl rfl rfl (Pu.move rfl rfl) ?_
          refine D.p 3 rfl rfl rfl rfl rfl rfl (Pu.indexAddrS (i) rfl Tryz.underlying24 sz51 rfl rfl (by omega) (by omega) (fun w hw => Own.some hw (i := 3) (by exact rfl) (by omega))) ?_
          refine D.p 4 rfl rfl rfl rfl rfl rfl (Pu.loadAgg' (v := B3.v (r1[i]'ei)) rfl rfl ag51 sz51 rfl rfl (Ld.rds (C := B3C) (Ld.own 3 (by exact rfl)) (k := i) ei rfl)) ?_
          refine D.eff hwf (e := 5) rfl rfl rfl rfl (Ef.callP call213 rfl rfl (fun w hw => l01Free_ok  v xs (r1[i]'ei) _ _ w ((Ld.own 1 (by exact rfl)) w hw) (by first | omega | (simp only [tops_len, conts_len, bl, List.length_append, List.length_cons, List.length_nil] at *; omega)) )) rfl rfl rfl ?_
          rintro _ _ ⟨rfl, rfl⟩ hs
          refine ⟨fun w hw => hw, ?_⟩
          refine D.done hwf rfl ?_
          refine X.next ?_
          refine V.condD rfl (fun c3 => ?_) (fun c3 => ?_)
          · skip
            have ei : i < r1.length := by omega
            refine V.drawS mo (by kernel_rfl) (Sub.keep 0 rfl (Sub.keep 0 rfl (Sub.keep 0 rfl (Sub.keep 0 rfl (Sub.keep 0 rfl (Sub.keep 0 rfl (Sub.refl _))))))) (fun hwf => ?_)
            refine D.p 0 rfl rfl rfl rfl rfl rfl (Pu.fieldAddr 0 rfl Tryz.underlying26 rfl sz2 rfl rfl) ?_
            refine D.p 1 rfl rfl rfl rfl rfl rfl (Pu.load rfl pl2 rfl (Ld.blk 5 rfl rfl)) ?_
            refine D.p 3 rfl rfl rfl rfl rfl rfl (Pu.fieldAddr 1 rfl Tryz.underlying26 rfl sz24 rfl rfl) ?_
            refine D.p 4 rfl rfl rfl rfl rfl rfl (Pu.load rfl pl24 rfl (Ld.blk 0 rfl rfl)) ?_
            refine D.p 6 rfl rfl rfl rfl rfl rfl (Pu.move rfl rfl) ?_
            refine D.p 7 rfl rfl rfl rfl rfl rfl (Pu.move rfl rfl) ?_
            refine D.p 8 rfl rfl rfl rfl rfl rfl (Pu.indexAddrS (i) rfl Tryz.underlying24 sz51 rfl rfl (by omega) (by omega) (fun w hw => Own.some hw (i := 3) (by exact rfl) (by omega))) ?_
            refine D.p 9 rfl rfl rfl rfl rfl rfl (Pu.loadAgg' (v := B3.v (r1[i]'ei)) rfl rfl ag51 sz51 rfl rfl (Ld.rds (C := B3C) (Ld.own 3 (by exact rfl)) (k := i) ei rfl)) ?_
            refine D.either hwf (e1 := 2) (e2 := 10) rfl ?_ ?_
            · skip
              refine ⟨_, _, rfl, rfl, fun _ _ => wanted_none rfl _, Ef.build B3C ([] : List B3) rfl Tryz.underlying24 inf51 rfl rfl rfl (by first | decide | (simp; done)) (by kernel_rfl), rfl, rfl, ?_⟩
              rintro _ _ ⟨A1, hA1, rfl, rfl⟩ hs
              refine ⟨fun w hw => hw.sub (Sub.keep 1 rfl (Sub.keep 1 rfl (Sub.keep 1 rfl (Sub.keep 1 rfl (Sub.keep 1 rfl (Sub.keep 1 rfl (Sub.drop (Sub.refl _)))))))), ?_⟩
              refine D.either hwf (e1 := 5) (e2 := 10) rfl ?_ ?_
              · skip
                refine ⟨_, _, rfl, rfl, fun _ _ => wanted_none rfl _, Ef.appendN (xs := ([] : List B3)) (ys := xs) 0 rfl Tryz.underlying24 inf51 rfl rfl rfl rfl rfl rfl (fun w hw h => Own.nilc hw (i := 2) (by exact rfl) h) (Ld.own 2 (by exact rfl)) (by simp only [List.length_append, List.length_cons, List.length_nil] at *; omega) (by decide), rfl, rfl, ?_⟩
                rintro _ _ ⟨A2, k1, rfl, rfl, hA2⟩ hs
                replace hA2 := hA2 (.inl hA1)
                refine ⟨fun w hw => hw.sub (Sub.keep 1 rfl (Sub.keep 1 rfl (Sub.keep 1 rfl (Sub.keep 1 rfl (Sub.keep 1 rfl (Sub.keep 1 rfl (Sub.drop (Sub.refl _)))))))), ?_⟩
                refine D.eff hwf (e := 10) rfl rfl rfl rfl (Ef.build B3C ([(r1[i]'ei)] : List B3) rfl Tryz.underlying24 inf51 rfl rfl rfl (by first | decide | (simp; done)) (by kernel_rfl)) rfl rfl rfl ?_
                rintro _ _ ⟨A3, hA3, rfl, rfl⟩ hs
                refine ⟨fun w hw => hw.sub (Sub.keep 2 rfl (Sub.keep 2 rfl (Sub.keep 2 rfl (Sub.keep 2 rfl (Sub.keep 2 rfl (Sub.keep 2 rfl (Sub.drop (Sub.drop (Sub.refl _))))))))), ?_⟩
                refine D.eff hwf (e := 11) rfl rfl rfl rfl (Ef.append (xs := (([] : List B3) ++ xs)) (ys := ([(r1[i]'ei)] : List B3)) 1 rfl Tryz.underlying24 inf51 rfl rfl rfl rfl rfl rfl hA3 (Ld.own 0 (by exact rfl)) (by simp only [List.length_append, List.length_cons, List.length_nil] at *; omega) (by decide)) rfl rfl rfl ?_
                rintro _ _ ⟨A4, k2, rfl, rfl, hA4⟩ hs
                replace hA4 := hA4 (.inr (by simp))
                refine ⟨fun w hw => hw.sub (Sub.keep 2 rfl (Sub.keep 2 rfl (Sub.keep 2 rfl (Sub.keep 2 rfl (Sub.keep 2 rfl (Sub.keep 2 rfl (Sub.drop (Sub.drop (Sub.refl _))))))))), ?_⟩
                refine D.eff hwf (e := 12) rfl rfl rfl rfl (Ef.call1 call199 rfl rfl (fun w hw => l01Made_ok  v ((([] : List B3) ++ xs) ++ ([(r1[i]'ei)] : List B3)) _ _ w ((Ld.own 1 (by exact rfl)) w hw) (by first | omega | (simp only [List.length_append, List.length_cons, List.length_nil, List.length_take, List.length_drop]; omega)) (by first | omega | (simp only [List.length_append, List.length_cons, List.length_nil, List.length_take, List.length_drop]; omega)))) rfl rfl rfl ?_
                rintro _ _ rfl hs
                refine ⟨fun w hw => hs w hw.tail, ?_⟩
                refine D.exi (fun r3A => ?_)
                refine D.exi (fun r3c => ?_)
                refine D.exi (fun r3 => ?_)
                refine D.sep ?_
                refine D.pur1 ?_
                rintro ⟨rfl, hr3_1, hr3_2⟩
                refine D.effX (Hs' := []) hwf (e := 13) rfl rfl rfl rfl (Ef.storeAll 3 rfl sz26 rfl rfl rfl rfl (by simp [Value.oneCell']) rfl) rfl [] rfl (List.forall_mem_nil _) ?_
                rintro _ _ rfl
                refine ⟨fun w hw => hw.sub (Sub.nil _), ?_⟩
                refine D.done hwf rfl ?_
                refine X.blockNormal ?_
                refine X.next ?_
                refine V.region ?_
                refine O.p rfl rfl rfl (Pu.move rfl rfl) ?_
                refine O.p rfl rfl rfl (Pu.add64 (r := ((i + 1 : Nat) : Int)) rfl (by omega) rfl rfl rfl) ?_
                refine O.p rfl rfl rfl (Pu.assign rfl rfl) ?_
                refine O.nil ?_
                exact X.back3 (i + 1, r3A, r3c, r3) (by (try dsimp only); exact ⟨by omega, by have h := hr3_1.length_eq; simp only [List.length_append, List.length_cons, List.length_nil] at h; omega⟩) (by first | omega | (dsimp only; omega)) (Ent.cons rfl (Ent.nil _)) (Ent.cons (t := 1) rfl (Ent.cons (t := 2) rfl (Ent.cons (t := 4) rfl (Ent.cons (t := 5) rfl (Ent.nil _))))) (Sub.keep 3 rfl (Sub.keep 0 rfl (Sub.keep 3 rfl (Sub.keep 3 rfl (Sub.keep 3 rfl (Sub.keep 3 rfl (Sub.drop (Sub.drop (Sub.drop (Sub.refl _))))))))))
              · skip
                refine ⟨_, _, rfl, rfl, fun _ _ => wanted_none rfl _, Ef.build B3C ([(r1[i]'ei)] : List B3) rfl Tryz.underlying24 inf51 rfl rfl rfl (by first | decide | (simp; done)) (by kernel_rfl), rfl, rfl, ?_⟩
                rintro _ _ ⟨A2, hA2, rfl, rfl⟩ hs
                refine ⟨fun w hw => hw.sub (Sub.keep 2 rfl (Sub.keep 2 rfl (Sub.keep 2 rfl (Sub.keep 2 rfl (Sub.keep 2 rfl (Sub.keep 2 rfl (Sub.drop (Sub.drop (Sub.refl _))))))))), ?_⟩
                refine D.eff hwf (e := 5) rfl rfl rfl rfl (Ef.appendN (xs := ([] : List B3)) (ys := xs) 1 rfl Tryz.underlying24 inf51 rfl rfl rfl rfl rfl rfl (fun w hw h => Own.nilc hw (i := 3) (by exact rfl) h) (Ld.own 3 (by exact rfl)) (by simp only [List.length_append, List.length_cons, List.length_nil] at *; omega) (by decide)) rfl rfl rfl ?_
                rintro _ _ ⟨A3, k1, rfl, rfl, hA3⟩ hs
                replace hA3 := hA3 (.inl hA1)
                refine ⟨fun w hw => hw.sub (Sub.keep 2 rfl (Sub.keep 2 rfl (Sub.keep 2 rfl (Sub.keep 2 rfl (Sub.keep 2 rfl (Sub.keep 2 rfl (Sub.drop (Sub.drop (Sub.refl _))))))))), ?_⟩
                refine D.eff hwf (e := 11) rfl rfl rfl rfl (Ef.append (xs := (([] : List B3) ++ xs)) (ys := ([(r1[i]'ei)] : List B3)) 1 rfl Tryz.underlying24 inf51 rfl rfl rfl rfl rfl rfl hA2 (Ld.own 0 (by exact rfl)) (by simp only [List.length_append, List.length_cons, List.length_nil] at *; omega) (by decide)) rfl rfl rfl ?_
                rintro _ _ ⟨A4, k2, rfl, rfl, hA4⟩ hs
                replace hA4 := hA4 (.inr (by simp))
                refine ⟨fun w hw => hw.sub (Sub.keep 2 rfl (Sub.keep 2 rfl (Sub.keep 2 rfl (Sub.keep 2 rfl (Sub.keep 2 rfl (Sub.keep 2 rfl (Sub.drop (Sub.drop (Sub.refl _))))))))), ?_⟩
                refine D.eff hwf (e := 12) rfl rfl rfl rfl (Ef.call1 call199 rfl rfl (fun w hw => l01Made_ok  v ((([] : List B3) ++ xs) ++ ([(r1[i]'ei)] : List B3)) _ _ w ((Ld.own 1 (by exact rfl)) w hw) (by first | omega | (simp only [List.length_append, List.length_cons, List.length_nil, List.length_take, List.length_drop]; omega)) (by first | omega | (simp only [List.length_append, List.length_cons, List.length_nil, List.length_take, List.length_drop]; omega)))) rfl rfl rfl ?_
                rintro _ _ rfl hs
                refine ⟨fun w hw => hs w hw.tail, ?_⟩
                refine D.exi (fun r3A => ?_)
                refine D.exi (fun r3c => ?_)
                refine D.exi (fun r3 => ?_)
                refine D.sep ?_
                refine D.pur1 ?_
                rintro ⟨rfl, hr3_1, hr3_2⟩
                refine D.effX (Hs' := []) hwf (e := 13) rfl rfl rfl rfl (Ef.storeAll 3 rfl sz26 rfl rfl rfl rfl (by simp [Value.oneCell']) rfl) rfl [] rfl (List.forall_mem_nil _) ?_
                rintro _ _ rfl
                refine ⟨fun w hw => hw.sub (Sub.nil _), ?_⟩
                refine D.done hwf rfl ?_
                refine X.blockNormal ?_
                refine X.next ?_
                refine V.region ?_
                refine O.p rfl rfl rfl (Pu.move rfl rfl) ?_
                refine O.p rfl rfl rfl (Pu.add64 (r := ((i + 1 : Nat) : Int)) rfl (by omega) rfl rfl rfl) ?_
                refine O.p rfl rfl rfl (Pu.assign rfl rfl) ?_
                refine O.nil ?_
                exact X.back3 (i + 1, r3A, r3c, r3) (by (try dsimp only); exact ⟨by omega, by have h := hr3_1.length_eq; simp only [List.length_append, List.length_cons, List.length_nil] at h; omega⟩) (by first | omega | (dsimp only; omega)) (Ent.cons rfl (Ent.nil _)) (Ent.cons (t := 1) rfl (Ent.cons (t := 2) rfl (Ent.cons (t := 4) rfl (Ent.cons (t := 5) rfl (Ent.nil _))))) (Sub.keep 3 rfl (Sub.keep 0 rfl (Sub.keep 3 rfl (Sub.keep 3 rfl (Sub.keep 3 rfl (Sub.keep 3 rfl (Sub.drop (Sub.drop (Sub.drop (Sub.refl _))))))))))
            · skip
              refine ⟨_, _, rfl, rfl, fun _ _ => wanted_none rfl _, Ef.build B3C ([(r1[i]'ei)] : List B3) rfl Tryz.underlying24 inf51 rfl rfl rfl (by first | decide | (simp; done)) (by kernel_rfl), rfl, rfl, ?_⟩
              rintro _ _ ⟨A1, hA1, rfl, rfl⟩ hs
              refine ⟨fun w hw => hw.sub (Sub.keep 1 rfl (Sub.keep 1 rfl (Sub.keep 1 rfl (Sub.keep 1 rfl (Sub.keep 1 rfl (Sub.keep 1 rfl (Sub.drop (Sub.refl _)))))))), ?_⟩
              refine D.eff hwf (e := 2) rfl rfl rfl rfl (Ef.build B3C ([] : List B3) rfl Tryz.underlying24 inf51 rfl rfl rfl (by first | decide | (simp; done)) (by kernel_rfl)) rfl rfl rfl ?_
              rintro _ _ ⟨A2, hA2, rfl, rfl⟩ hs
              refine ⟨fun w hw => hw.sub (Sub.keep 2 rfl (Sub.keep 2 rfl (Sub.keep 2 rfl (Sub.keep 2 rfl (Sub.keep 2 rfl (Sub.keep 2 rfl (Sub.drop (Sub.drop (Sub.refl _))))))))), ?_⟩
              refine D.eff hwf (e := 5) rfl rfl rfl rfl (Ef.appendN (xs := ([] : List B3)) (ys := xs) 0 rfl Tryz.underlying24 inf51 rfl rfl rfl rfl rfl rfl (fun w hw h => Own.nilc hw (i := 3) (by exact rfl) h) (Ld.own 3 (by exact rfl)) (by simp only [List.length_append, List.length_cons, List.length_nil] at *; omega) (by decide)) rfl rfl rfl ?_
              rintro _ _ ⟨A3, k1, rfl, rfl, hA3⟩ hs
              replace hA3 := hA3 (.inl hA2)
              refine ⟨fun w hw => hw.sub (Sub.keep 2 rfl (Sub.keep 2 rfl (Sub.keep 2 rfl (Sub.keep 2 rfl (Sub.keep 2 rfl (Sub.keep 2 rfl (Sub.drop (Sub.drop (Sub.refl _))))))))), ?_⟩
              refine D.eff hwf (e := 11) rfl rfl rfl rfl (Ef.append (xs := (([] : List B3) ++ xs)) (ys := ([(r1[i]'ei)] : List B3)) 0 rfl Tryz.underlying24 inf51 rfl rfl rfl rfl rfl rfl hA1 (Ld.own 1 (by exact rfl)) (by simp only [List.length_append, List.length_cons, List.length_nil] at *; omega) (by decide)) rfl rfl rfl ?_
              rintro _ _ ⟨A4, k2, rfl, rfl, hA4⟩ hs
              replace hA4 := hA4 (.inr (by simp))
              refine ⟨fun w hw => hw.sub (Sub.keep 2 rfl (Sub.keep 2 rfl (Sub.keep 2 rfl (Sub.keep 2 rfl (Sub.keep 2 rfl (Sub.keep 2 rfl (Sub.drop (Sub.drop (Sub.refl _))))))))), ?_⟩
              refine D.eff hwf (e := 12) rfl rfl rfl rfl (Ef.call1 call199 rfl rfl (fun w hw => l01Made_ok  v ((([] : List B3) ++ xs) ++ ([(r1[i]'ei)] : List B3)) _ _ w ((Ld.own 0 (by exact rfl)) w hw) (by first | omega | (simp only [List.length_append, List.length_cons, List.length_nil, List.length_take, List.length_drop]; omega)) (by first | omega | (simp only [List.length_append, List.length_cons, List.length_nil, List.length_take, List.length_drop]; omega)))) rfl rfl rfl ?_
              rintro _ _ rfl hs
              refine ⟨fun w hw => hs w hw.tail, ?_⟩
              refine D.exi (fun r3A => ?_)
              refine D.exi (fun r3c => ?_)
              refine D.exi (fun r3 => ?_)
              refine D.sep ?_
              refine D.pur1 ?_
              rintro ⟨rfl, hr3_1, hr3_2⟩
              refine D.effX (Hs' := []) hwf (e := 13) rfl rfl rfl rfl (Ef.storeAll 3 rfl sz26 rfl rfl rfl rfl (by simp [Value.oneCell']) rfl) rfl [] rfl (List.forall_mem_nil _) ?_
              rintro _ _ rfl
              refine ⟨fun w hw => hw.sub (Sub.nil _), ?_⟩
              refine D.done hwf rfl ?_
              refine X.blockNormal ?_
              refine X.next ?_
              refine V.region ?_
              refine O.p rfl rfl rfl (Pu.move rfl rfl) ?_
              refine O.p rfl rfl rfl (Pu.add64 (r := ((i + 1 : Nat) : Int)) rfl (by omega) rfl rfl rfl) ?_
              refine O.p rfl rfl rfl (Pu.assign rfl rfl) ?_
              refine O.nil ?_
              exact X.back3 (i + 1, r3A, r3c, r3) (by (try dsimp only); exact ⟨by omega, by have h := hr3_1.length_eq; simp only [List.length_append, List.length_cons, List.length_nil] at h; omega⟩) (by first | omega | (dsimp only; omega)) (Ent.cons rfl (Ent.nil _)) (Ent.cons (t := 1) rfl (Ent.cons (t := 2) rfl (Ent.cons (t := 4) rfl (Ent.cons (t := 5) rfl (Ent.nil _))))) (Sub.keep 3 rfl (Sub.keep 0 rfl (Sub.keep 3 rfl (Sub.keep 3 rfl (Sub.keep 3 rfl (Sub.keep 3 rfl (Sub.drop (Sub.drop (Sub.drop (Sub.refl _))))))))))
          · skip
            refine V.skip ?_
            refine X.blockNormal ?_
            refine X.next ?_
            refine V.region ?_
            refine O.p rfl rfl rfl (Pu.move rfl rfl) ?_
            refine O.p rfl rfl rfl (Pu.add64 (r := ((i + 1 : Nat) : Int)) rfl (by omega) rfl rfl rfl) ?_
            refine O.p rfl rfl rfl (Pu.assign rfl rfl) ?_
            refine O.nil ?_
            exact X.back3 (i + 1, xsA, xsc, xs) (by (try dsimp only); exact ⟨by omega, by omega⟩) (by first | omega | (dsimp only; omega)) (Ent.cons rfl (Ent.nil _)) (Ent.cons (t := 1) rfl (Ent.cons (t := 2) rfl (Ent.cons (t := 4) rfl (Ent.cons (t := 5) rfl (Ent.nil _))))) (Sub.keep 0 rfl (Sub.keep 0 rfl (Sub.keep 0 rfl (Sub.keep 0 rfl (Sub.keep 0 rfl (Sub.keep 0 rfl (Sub.refl _)))))))
        · skip
          refine V.exit ?_
          refine X.thenExit ?_
          refine X.thenExit ?_
          refine X.blockHit ?_
          refine X.next ?_
          refine V.seq ?_
          refine V.region ?_
          refine O.p rfl rfl rfl (Pu.loadAgg rfl ag26 sz26 rfl rfl (Ld.whole 0 rfl)) ?_
          refine O.s rfl rfl (Ef.storeAll 4 rfl sz26 rfl rfl rfl rfl (by simp [Value.oneCell']) rfl) ?_
          rintro _ _ rfl
          refine O.p rfl rfl rfl (Pu.assign rfl rfl) ?_
          refine O.nil ?_
          refine X.next ?_
          refine V.ret ?_
          refine X.retCell2 rfl ag26 sz26 rfl rfl rfl (Ld.whole 4 rfl) ?_
          exact fun w hw => St.mkExi xsA (St.mkExi xsc (St.mkExi xs (St.unsep (St.addPur ⟨(by rw [if_pos c1, if_pos c1]), by omega⟩ (St.unsep (hw.sub (Sub.keep 1 rfl (Sub.keep 1 rfl (Sub.drop (Sub.drop (Sub.drop (Sub.drop (Sub.refl _)))))))))))))
      · skip
        refine ⟨_, _, rfl, rfl, fun _ _ => wanted_none rfl _, Ef.alloc rfl zr26 rfl, rfl, rfl, ?_⟩
        rintro _ _ ⟨b3, rfl, rfl⟩ hs
        refine ⟨fun w hw => hw.sub (Sub.keep 2 rfl (Sub.keep 2 rfl (Sub.drop (Sub.drop (Sub.drop (Sub.refl _)))))), ?_⟩
        refine D.eff hwf (e := 3) rfl rfl rfl rfl (Ef.call call212 rfl rfl (Does.pre (fun w hw => hw.sub (Sub.keep 4 rfl (Sub.keep 0 rfl (Sub.keep 0 rfl (Sub.keep 0 rfl (Sub.keep 0 rfl (Sub.refl _))))))) (l01Copy_ok  v bs _ _ w0 _   (by omega)))) rfl rfl rfl ?_
        rintro _ _ rfl hs
        refine ⟨fun w hw => hw.tail.sub (Sub.keep 2 rfl (Sub.keep 2 rfl (Sub.drop (Sub.drop (Sub.refl _))))), ?_⟩
        refine D.exi (fun r2A => ?_)
        refine D.exi (fun r2c => ?_)
        refine D.exi (fun r2 => ?_)
        refine D.sep ?_
        refine D.pur1 ?_
        rintro ⟨rfl, hr2_1⟩
        refine D.sep ?_
        have hrlr2 : r2.length = bs.length := by rw [hr2_1]
        refine D.p 5 rfl rfl rfl rfl rfl rfl (Pu.assign rfl rfl) ?_
        refine D.eff hwf (e := 6) rfl rfl rfl rfl (Ef.storeAll 2 rfl sz26 rfl rfl rfl rfl (by simp [Value.oneCell']) rfl) rfl rfl rfl ?_
        rintro _ _ rfl hs
        refine ⟨fun w hw => hw.sub (Sub.keep 4 rfl (Sub.keep 4 rfl (Sub.drop (Sub.drop (Sub.drop (Sub.drop (Sub.refl _))))))), ?_⟩
        refine D.done hwf rfl ?_
        refine X.next ?_
        refine V.seq ?_
        refine V.seq ?_
        refine V.region ?_
        refine O.p rfl rfl rfl (Pu.assign rfl rfl) ?_
        refine O.nil ?_
        refine X.next ?_
        refine V.block ?_
        refine V.loop3 (β := Nat × (Option Addr) × Nat × (List B3)) (fun x => [(6, .int .i64 (x.1 : Int))]) _ (fun x => [Blk b3 [.int .i64 v, .slice x.2.1 x.2.2.2.length x.2.2.1] 26, Own 51 B3C x.2.1 x.2.2.1 x.2.2.2]) _ (fun x => x.1 ≤ r1.length ∧ x.2.2.2.length ≤ 35 + x.1) (fun x => r1.length - x.1) (0, r2A, r2c, r2) (by (try dsimp only); exact ⟨by omega, by omega⟩) (Ent.cons rfl (Ent.nil _)) (Ent.cons (t := 1) rfl (Ent.cons (t := 2) rfl (Ent.cons (t := 4) rfl (Ent.cons (t := 5) rfl (Ent.nil _))))) (Sub.keep 2 rfl (Sub.keep 0 rfl (Sub.keep 0 rfl (Sub.keep 0 rfl (Sub.keep 0 rfl (Sub.keep 0 rfl (Sub.refl _))))))) ?_
        rintro ⟨i, xsA, xsc, xs⟩ ⟨hi, hl⟩
        dsimp only at hi hl ⊢
        refine V.seq ?_
        refine V.seq ?_
        refine V.region ?_
        refine O.p rfl rfl rfl (Pu.move rfl rfl) ?_
        refine O.p rfl rfl rfl (Pu.move rfl rfl) ?_
        refine O.p rfl rfl rfl (Pu.len rfl Tryz.underlying24 rfl) ?_
        refine O.p rfl rfl rfl (Pu.lss rfl rfl rfl) ?_
        refine O.nil ?_
        refine X.next ?_
        refine V.condD rfl (fun c2 => ?_) (fun c2 => ?_)
        · skip
          refine V.skip ?_
          refine X.next ?_
          refine V.seq ?_
          refine V.block ?_
          refine V.seq ?_
          have ei : i < r1.length := by omega
          refine V.drawS mo (by kernel_rfl) (Sub.keep 0 rfl (Sub.keep 0 rfl (Sub.keep 0 rfl (Sub.keep 0 rfl (Sub.keep 0 rfl (Sub.keep 0 rfl (Sub.refl _))))))) (fun hwf => ?_)
          refine D.p 0 rfl rfl rfl rfl rfl rfl (Pu.loadAgg rfl ag26 sz26 rfl rfl (Ld.whole 0 rfl)) ?_
          refine D.p 1 rfl rfl rfl rfl rfl rfl (Pu.move rfl rfl) ?_
          refine D.p 2 rfl rfl rfl rfl rfl rfl (Pu.move rfl rfl) ?_
          refine D.p 3 rfl rfl rfl rfl rfl rfl (Pu.indexAddrS (i) rfl Tryz.underlying24 sz51 rfl rfl (by omega) (by omega) (fun w hw => Own.some hw (i := 3) (by exact rfl) (by omega))) ?_
          refine D.p 4 rfl rfl rfl rfl rfl rfl (Pu.loadAgg' (v := B3.v (r1[i]'ei)) rfl rfl ag51 sz51 rfl rfl (Ld.rds (C := B3C) (Ld.own 3 (by exact rfl)) (k := i) ei rfl)) ?_
          refine D.eff hwf (e := 5) rfl rfl rfl rfl (Ef.callP call213 rfl rfl (fun w hw => l01Free_ok  v xs (r1[i]'ei) _ _ w ((Ld.own 1 (by exact rfl)) w hw) (by first | omega | (simp only [tops_len, conts_len, bl, List.length_append, List.length_cons, List.length_nil] at *; omega)) )) rfl rfl rfl ?_
          rintro _ _ ⟨rfl, rfl⟩ hs
          refine ⟨fun w hw => hw, ?_⟩
          refine D.done hwf rfl ?_
          refine X.next ?_
          refine V.condD rfl (fun c3 => ?_) (fun c3 => ?_)
          · skip
            have ei : i < r1.length := by omega
            refine V.drawS mo (by kernel_rfl) (Sub.keep 0 rfl (Sub.keep 0 rfl (Sub.keep 0 rfl (Sub.keep 0 rfl (Sub.keep 0 rfl (Sub.keep 0 rfl (Sub.refl _))))))) (fun hwf => ?_)
            refine D.p 0 rfl rfl rfl rfl rfl rfl (Pu.fieldAddr 0 rfl Tryz.underlying26 rfl sz2 rfl rfl) ?_
            refine D.p 1 rfl rfl rfl rfl rfl rfl (Pu.load rfl pl2 rfl (Ld.blk 5 rfl rfl)) ?_
            refine D.p 3 rfl rfl rfl rfl rfl rfl (Pu.fieldAddr 1 rfl Tryz.underlying26 rfl sz24 rfl rfl) ?_
            refine D.p 4 rfl rfl rfl rfl rfl rfl (Pu.load rfl pl24 rfl (Ld.blk 0 rfl rfl)) ?_
            refine D.p 6 rfl rfl rfl rfl rfl rfl (Pu.move rfl rfl) ?_
            refine D.p 7 rfl rfl rfl rfl rfl rfl (Pu.move rfl rfl) ?_
            refine D.p 8 rfl rfl rfl rfl rfl rfl (Pu.indexAddrS (i) rfl Tryz.underlying24 sz51 rfl rfl (by omega) (by omega) (fun w hw => Own.some hw (i := 3) (by exact rfl) (by omega))) ?_
            refine D.p 9 rfl rfl rfl rfl rfl rfl (Pu.loadAgg' (v := B3.v (r1[i]'ei)) rfl rfl ag51 sz51 rfl rfl (Ld.rds (C := B3C) (Ld.own 3 (by exact rfl)) (k := i) ei rfl)) ?_
            refine D.either hwf (e1 := 2) (e2 := 10) rfl ?_ ?_
            · skip
              refine ⟨_, _, rfl, rfl, fun _ _ => wanted_none rfl _, Ef.build B3C ([] : List B3) rfl Tryz.underlying24 inf51 rfl rfl rfl (by first | decide | (simp; done)) (by kernel_rfl), rfl, rfl, ?_⟩
              rintro _ _ ⟨A1, hA1, rfl, rfl⟩ hs
              refine ⟨fun w hw => hw.sub (Sub.keep 1 rfl (Sub.keep 1 rfl (Sub.keep 1 rfl (Sub.keep 1 rfl (Sub.keep 1 rfl (Sub.keep 1 rfl (Sub.drop (Sub.refl _)))))))), ?_⟩
              refine D.either hwf (e1 := 5) (e2 := 10) rfl ?_ ?_
              · skip
                refine ⟨_, _, rfl, rfl, fun _ _ => wanted_none rfl _, Ef.appendN (xs := ([] : List B3)) (ys := xs) 0 rfl Tryz.underlying24 inf51 rfl rfl rfl rfl rfl rfl (fun w hw h => Own.nilc hw (i := 2) (by exact rfl) h) (Ld.own 2 (by exact rfl)) (by simp only [List.length_append, List.length_cons, List.length_nil] at *; omega) (by decide), rfl, rfl, ?_⟩
                rintro _ _ ⟨A2, k1, rfl, rfl, hA2⟩ hs
                replace hA2 := hA2 (.inl hA1)
                refine ⟨fun w hw => hw.sub (Sub.keep 1 rfl (Sub.keep 1 rfl (Sub.keep 1 rfl (Sub.keep 1 rfl (Sub.keep 1 rfl (Sub.keep 1 rfl (Sub.drop (Sub.refl _)))))))), ?_⟩
                refine D.eff hwf (e := 10) rfl rfl rfl rfl (Ef.build B3C ([(r1[i]'ei)] : List B3) rfl Tryz.underlying24 inf51 rfl rfl rfl (by first | decide | (simp; done)) (by kernel_rfl)) rfl rfl rfl ?_
                rintro _ _ ⟨A3, hA3, rfl, rfl⟩ hs
                refine ⟨fun w hw => hw.sub (Sub.keep 2 rfl (Sub.keep 2 rfl (Sub.keep 2 rfl (Sub.keep 2 rfl (Sub.keep 2 rfl (Sub.keep 2 rfl (Sub.drop (Sub.drop (Sub.refl _))))))))), ?_⟩
                refine D.eff hwf (e := 11) rfl rfl rfl rfl (Ef.append (xs := (([] : List B3) ++ xs)) (ys := ([(r1[i]'ei)] : List B3)) 1 rfl Tryz.underlying24 inf51 rfl rfl rfl rfl rfl rfl hA3 (Ld.own 0 (by exact rfl)) (by simp only [List.length_append, List.length_cons, List.length_nil] at *; omega) (by decide)) rfl rfl rfl ?_
                rintro _ _ ⟨A4, k2, rfl, rfl, hA4⟩ hs
                replace hA4 := hA4 (.inr (by simp))
                refine ⟨fun w hw => hw.sub (Sub.keep 2 rfl (Sub.keep 2 rfl (Sub.keep 2 rfl (Sub.keep 2 rfl (Sub.keep 2 rfl (Sub.keep 2 rfl (Sub.drop (Sub.drop (Sub.refl _))))))))), ?_⟩
                refine D.eff hwf (e := 12) rfl rfl rfl rfl (Ef.call1 call199 rfl rfl (fun w hw => l01Made_ok  v ((([] : List B3) ++ xs) ++ ([(r1[i]'ei)] : List B3)) _ _ w ((Ld.own 1 (by exact rfl)) w hw) (by first | omega | (simp only [List.length_append, List.length_cons, List.length_nil, List.length_take, List.length_drop]; omega)) (by first | omega | (simp only [List.length_append, List.length_cons, List.length_nil, List.length_take, List.length_drop]; omega)))) rfl rfl rfl ?_
                rintro _ _ rfl hs
                refine ⟨fun w hw => hs w hw.tail, ?_⟩
                refine D.exi (fun r3A => ?_)
                refine D.exi (fun r3c => ?_)
                refine D.exi (fun r3 => ?_)
                refine D.sep ?_
                refine D.pur1 ?_
                rintro ⟨rfl, hr3_1, hr3_2⟩
                refine D.effX (Hs' := []) hwf (e := 13) rfl rfl rfl rfl (Ef.storeAll 3 rfl sz26 rfl rfl rfl rfl (by simp [Value.oneCell']) rfl) rfl [] rfl (List.forall_mem_nil _) ?_
                rintro _ _ rfl
                refine ⟨fun w hw => hw.sub (Sub.nil _), ?_⟩
                refine D.done hwf rfl ?_
                refine X.blockNormal ?_
                refine X.next ?_
                refine V.region ?_
                refine O.p rfl rfl rfl (Pu.move rfl rfl) ?_
                refine O.p rfl rfl rfl (Pu.add64 (r := ((i + 1 : Nat) : Int)) rfl (by omega) rfl rfl rfl) ?_
                refine O.p rfl rfl rfl (Pu.assign rfl rfl) ?_
                refine O.nil ?_
                exact X.back3 (i + 1, r3A, r3c, r3) (by (try dsimp only); exact ⟨by omega, by have h := hr3_1.length_eq; simp only [List.length_append, List.length_cons, List.length_nil] at h; omega⟩) (by first | omega | (dsimp only; omega)) (Ent.cons rfl (Ent.nil _)) (Ent.cons (t := 1) rfl (Ent.cons (t := 2) rfl (Ent.cons (t := 4) rfl (Ent.cons (t := 5) rfl (Ent.nil _))))) (Sub.keep 3 rfl (Sub.keep 0 rfl (Sub.keep 3 rfl (Sub.keep 3 rfl (Sub.keep 3 rfl (Sub.keep 3 rfl (Sub.drop (Sub.drop (Sub.drop (Sub.refl _))))))))))
              · skip
                refine ⟨_, _, rfl, rfl, fun _ _ => wanted_none rfl _, Ef.build B3C ([(r1[i]'ei)] : List B3) rfl Tryz.underlying24 inf51 rfl rfl rfl (by first | decide | (simp; done)) (by kernel_rfl), rfl, rfl, ?_⟩
                rintro _ _ ⟨A2, hA2, rfl, rfl⟩ hs
                refine ⟨fun w hw => hw.sub (Sub.keep 2 rfl (Sub.keep 2 rfl (Sub.keep 2 rfl (Sub.keep 2 rfl (Sub.keep 2 rfl (Sub.keep 2 rfl (Sub.drop (Sub.drop (Sub.refl _))))))))), ?_⟩
                refine D.eff hwf (e := 5) rfl rfl rfl rfl (Ef.appendN (xs := ([] : List B3)) (ys := xs) 1 rfl Tryz.underlying24 inf51 rfl rfl rfl rfl rfl rfl (fun w hw h => Own.nilc hw (i := 3) (by exact rfl) h) (Ld.own 3 (by exact rfl)) (by simp only [List.length_append, List.length_cons, List.length_nil] at *; omega) (by decide)) rfl rfl rfl ?_
                rintro _ _ ⟨A3, k1, rfl, rfl, hA3⟩ hs
                replace hA3 := hA3 (.inl hA1)
                refine ⟨fun w hw => hw.sub (Sub.keep 2 rfl (Sub.keep 2 rfl (Sub.keep 2 rfl (Sub.keep 2 rfl (Sub.keep 2 rfl (Sub.keep 2 rfl (Sub.drop (Sub.drop (Sub.refl _))))))))), ?_⟩
                refine D.eff hwf (e := 11) rfl rfl rfl rfl (Ef.append (xs := (([] : List B3) ++ xs)) (ys := ([(r1[i]'ei)] : List B3)) 1 rfl Tryz.underlying24 inf51 rfl rfl rfl rfl rfl rfl hA2 (Ld.own 0 (by exact rfl)) (by simp only [List.length_append, List.length_cons, List.length_nil] at *; omega) (by decide)) rfl rfl rfl ?_
                rintro _ _ ⟨A4, k2, rfl, rfl, hA4⟩ hs
                replace hA4 := hA4 (.inr (by simp))
                refine ⟨fun w hw => hw.sub (Sub.keep 2 rfl (Sub.keep 2 rfl (Sub.keep 2 rfl (Sub.keep 2 rfl (Sub.keep 2 rfl (Sub.keep 2 rfl (Sub.drop (Sub.drop (Sub.refl _))))))))), ?_⟩
                refine D.eff hwf (e := 12) rfl rfl rfl rfl (Ef.call1 call199 rfl rfl (fun w hw => l01Made_ok  v ((([] : List B3) ++ xs) ++ ([(r1[i]'ei)] : List B3)) _ _ w ((Ld.own 1 (by exact rfl)) w hw) (by first | omega | (simp only [List.length_append, List.length_cons, List.length_nil, List.length_take, List.length_drop]; omega)) (by first | omega | (simp only [List.length_append, List.length_cons, List.length_nil, List.length_take, List.length_drop]; omega)))) rfl rfl rfl ?_
                rintro _ _ rfl hs
                refine ⟨fun w hw => hs w hw.tail, ?_⟩
                refine D.exi (fun r3A => ?_)
                refine D.exi (fun r3c => ?_)
                refine D.exi (fun r3 => ?_)
                refine D.sep ?_
                refine D.pur1 ?_
                rintro ⟨rfl, hr3_1, hr3_2⟩
                refine D.effX (Hs' := []) hwf (e := 13) rfl rfl rfl rfl (Ef.storeAll 3 rfl sz26 rfl rfl rfl rfl (by simp [Value.oneCell']) rfl) rfl [] rfl (List.forall_mem_nil _) ?_
                rintro _ _ rfl
                refine ⟨fun w hw => hw.sub (Sub.nil _), ?_⟩
                refine D.done hwf rfl ?_
                refine X.blockNormal ?_
                refine X.next ?_
                refine V.region ?_
                refine O.p rfl rfl rfl (Pu.move rfl rfl) ?_
                refine O.p rfl rfl rfl (Pu.add64 (r := ((i + 1 : Nat) : Int)) rfl (by omega) rfl rfl rfl) ?_
                refine O.p rfl rfl rfl (Pu.assign rfl rfl) ?_
                refine O.nil ?_
                exact X.back3 (i + 1, r3A, r3c, r3) (by (try dsimp only); exact ⟨by omega, by have h := hr3_1.length_eq; simp only [List.length_append, List.length_cons, List.length_nil] at h; omega⟩) (by first | omega | (dsimp only; omega)) (Ent.cons rfl (Ent.nil _)) (Ent.cons (t := 1) rfl (Ent.cons (t := 2) rfl (Ent.cons (t := 4) rfl (Ent.cons (t := 5) rfl (Ent.nil _))))) (Sub.keep 3 rfl (Sub.keep 0 rfl (Sub.keep 3 rfl (Sub.keep 3 rfl (Sub.keep 3 rfl (Sub.keep 3 rfl (Sub.drop (Sub.drop (Sub.drop (Sub.refl _))))))))))
            · skip
              refine ⟨_, _, rfl, rfl, fun _ _ => wanted_none rfl _, Ef.build B3C ([(r1[i]'ei)] : List B3) rfl Tryz.underlying24 inf51 rfl rfl rfl (by first | decide | (simp; done)) (by kernel_rfl), rfl, rfl, ?_⟩
              rintro _ _ ⟨A1, hA1, rfl, rfl⟩ hs
              refine ⟨fun w hw => hw.sub (Sub.keep 1 rfl (Sub.keep 1 rfl (Sub.keep 1 rfl (Sub.keep 1 rfl (Sub.keep 1 rfl (Sub.keep 1 rfl (Sub.drop (Sub.refl _)))))))), ?_⟩
              refine D.eff hwf (e := 2) rfl rfl rfl rfl (Ef.build B3C ([] : List B3) rfl Tryz.underlying24 inf51 rfl rfl rfl (by first | decide | (simp; done)) (by kernel_rfl)) rfl rfl rfl ?_
              rintro _ _ ⟨A2, hA2, rfl, rfl⟩ hs
              refine ⟨fun w hw => hw.sub (Sub.keep 2 rfl (Sub.keep 2 rfl (Sub.keep 2 rfl (Sub.keep 2 rfl (Sub.keep 2 rfl (Sub.keep 2 rfl (Sub.drop (Sub.drop (Sub.refl _))))))))), ?_⟩
              refine D.eff hwf (e := 5) rfl rfl rfl rfl (Ef.appendN (xs := ([] : List B3)) (ys := xs) 0 rfl Tryz.underlying24 inf51 rfl rfl rfl rfl rfl rfl (fun w hw h => Own.nilc hw (i := 3) (by exact rfl) h) (Ld.own 3 (by exact rfl)) (by simp only [List.length_append, List.length_cons, List.length_nil] at *; omega) (by decide)) rfl rfl rfl ?_
              rintro _ _ ⟨A3, k1, rfl, rfl, hA3⟩ hs
              replace hA3 := hA3 (.inl hA2)
              refine ⟨fun w hw => hw.sub (Sub.keep 2 rfl (Sub.keep 2 rfl (Sub.keep 2 rfl (Sub.keep 2 rfl (Sub.keep 2 rfl (Sub.keep 2 rfl (Sub.drop (Sub.drop (Sub.refl _))))))))), ?_⟩
              refine D.eff hwf (e := 11) rfl rfl rfl rfl (Ef.append (xs := (([] : List B3) ++ xs)) (ys := ([(r1[i]'ei)] : List B3)) 0 rfl Tryz.underlying24 inf51 rfl rfl rfl rfl rfl rfl hA1 (Ld.own 1 (by exact rfl)) (by simp only [List.length_append, List.length_cons, List.length_nil] at *; omega) (by decide)) rfl rfl rfl ?_
              rintro _ _ ⟨A4, k2, rfl, rfl, hA4⟩ hs
              replace hA4 := hA4 (.inr (by simp))
              refine ⟨fun w hw => hw.sub (Sub.keep 2 rfl (Sub.keep 2 rfl (Sub.keep 2 rfl (Sub.keep 2 rfl (Sub.keep 2 rfl (Sub.keep 2 rfl (Sub.drop (Sub.drop (Sub.refl _))))))))), ?_⟩
              refine D.eff hwf (e := 12) rfl rfl rfl rfl (Ef.call1 call199 rfl rfl (fun w hw => l01Made_ok  v ((([] : List B3) ++ xs) ++ ([(r1[i]'ei)] : List B3)) _ _ w ((Ld.own 0 (by exact rfl)) w hw) (by first | omega | (simp only [List.length_append, List.length_cons, List.length_nil, List.length_take, List.length_drop]; omega)) (by first | omega | (simp only [List.length_append, List.length_cons, List.length_nil, List.length_take, List.length_drop]; omega)))) rfl rfl rfl ?_
              rintro _ _ rfl hs
              refine ⟨fun w hw => hs w hw.tail, ?_⟩
              refine D.exi (fun r3A => ?_)
              refine D.exi (fun r3c => ?_)
              refine D.exi (fun r3 => ?_)
              refine D.sep ?_
              refine D.pur1 ?_
              rintro ⟨rfl, hr3_1, hr3_2⟩
              refine D.effX (Hs' := []) hwf (e := 13) rfl rfl rfl rfl (Ef.storeAll 3 rfl sz26 rfl rfl rfl rfl (by simp [Value.oneCell']) rfl) rfl [] rfl (List.forall_mem_nil _) ?_
              rintro _ _ rfl
              refine ⟨fun w hw => hw.sub (Sub.nil _), ?_⟩
              refine D.done hwf rfl ?_
              refine X.blockNormal ?_
              refine X.next ?_
              refine V.region ?_
              refine O.p rfl rfl rfl (Pu.move rfl rfl) ?_
              refine O.p rfl rfl rfl (Pu.add64 (r := ((i + 1 : Nat) : Int)) rfl (by omega) rfl rfl rfl) ?_
              refine O.p rfl rfl rfl (Pu.assign rfl rfl) ?_
              refine O.nil ?_
              exact X.back3 (i + 1, r3A, r3c, r3) (by (try dsimp only); exact ⟨by omega, by have h := hr3_1.length_eq; simp only [List.length_append, List.length_cons, List.length_nil] at h; omega⟩) (by first | omega | (dsimp only; omega)) (Ent.cons rfl (Ent.nil _)) (Ent.cons (t := 1) rfl (Ent.cons (t := 2) rfl (Ent.cons (t := 4) rfl (Ent.cons (t := 5) rfl (Ent.nil _))))) (Sub.keep 3 rfl (Sub.keep 0 rfl (Sub.keep 3 rfl (Sub.keep 3 rfl (Sub.keep 3 rfl (Sub.keep 3 rfl (Sub.drop (Sub.drop (Sub.drop (Sub.refl _))))))))))
          · skip
            refine V.skip ?_
            refine X.blockNormal ?_
            refine X.next ?_
            refine V.region ?_
            refine O.p rfl rfl rfl (Pu.move rfl rfl) ?_
            refine O.p rfl rfl rfl (Pu.add64 (r := ((i + 1 : Nat) : Int)) rfl (by omega) rfl rfl rfl) ?_
            refine O.p rfl rfl rfl (Pu.assign rfl rfl) ?_
            refine O.nil ?_
            exact X.back3 (i + 1, xsA, xsc, xs) (by (try dsimp only); exact ⟨by omega, by omega⟩) (by first | omega | (dsimp only; omega)) (Ent.cons rfl (Ent.nil _)) (Ent.cons (t := 1) rfl (Ent.cons (t := 2) rfl (Ent.cons (t := 4) rfl (Ent.cons (t := 5) rfl (Ent.nil _))))) (Sub.keep 0 rfl (Sub.keep 0 rfl (Sub.keep 0 rfl (Sub.keep 0 rfl (Sub.keep 0 rfl (Sub.keep 0 rfl (Sub.refl _)))))))
        · skip
          refine V.exit ?_
          refine X.thenExit ?_
          refine X.thenExit ?_
          refine X.blockHit ?_
          refine X.next ?_
          refine V.seq ?_
          refine V.region ?_
          refine O.p rfl rfl rfl (Pu.loadAgg rfl ag26 sz26 rfl rfl (Ld.whole 0 rfl)) ?_
          refine O.s rfl rfl (Ef.storeAll 4 rfl sz26 rfl rfl rfl rfl (by simp [Value.oneCell']) rfl) ?_
          rintro _ _ rfl
          refine O.p rfl rfl rfl (Pu.assign rfl rfl) ?_
          refine O.nil ?_
          refine X.next ?_
          refine V.ret ?_
          refine X.retCell2 rfl ag26 sz26 rfl rfl rfl (Ld.whole 4 rfl) ?_
          exact fun w hw => St.mkExi xsA (St.mkExi xsc (St.mkExi xs (St.unsep (St.addPur ⟨(by rw [if_pos c1, if_pos c1]), by omega⟩ (St.unsep (hw.sub (Sub.keep 1 rfl (Sub.keep 1 rfl (Sub.drop (Sub.drop (Sub.drop (Sub.drop (Sub.refl _)))))))))))))
    · skip
      refine ⟨_, _, rfl, rfl, fun _ _ => wanted_none rfl _, Ef.alloc rfl zr26 rfl, rfl, rfl, ?_⟩
      rintro _ _ ⟨b3, rfl, rfl⟩ hs
      refine ⟨fun w hw => hw.sub (Sub.keep 1 rfl (Sub.keep 1 rfl (Sub.drop (Sub.drop (Sub.refl _))))), ?_⟩
      refine D.eff hwf (e := 1) rfl rfl rfl rfl (Ef.call1 call135 rfl rfl (fun w hw => l01Rest_ok  v bs _ _ w ((Ld.own 3 (by exact rfl)) w hw) (by first | omega | (simp only [tops_len, conts_len, bl, List.length_append, List.length_cons, List.length_nil] at *; omega)) (by omega))) rfl rfl rfl ?_
      rintro _ _ rfl hs
      refine ⟨fun w hw => hs w hw.tail, ?_⟩
      refine D.exi (fun r1A => ?_)
      refine D.exi (fun r1c => ?_)
      refine D.exi (fun r1 => ?_)
      refine D.sep ?_
      refine D.pur1 ?_
      rintro ⟨rfl, hr1_1, hr1_2⟩
      refine D.eff hwf (e := 3) rfl rfl rfl rfl (Ef.call call212 rfl rfl (Does.pre (fun w hw => hw.sub (Sub.keep 4 rfl (Sub.keep 0 rfl (Sub.keep 0 rfl (Sub.keep 0 rfl (Sub.keep 0 rfl (Sub.refl _))))))) (l01Copy_ok  v bs _ _ w0 _   (by omega)))) rfl rfl rfl ?_
      rintro _ _ rfl hs
      refine ⟨fun w hw => hw.tail.sub (Sub.keep 2 rfl (Sub.keep 2 rfl (Sub.drop (Sub.drop (Sub.refl _))))), ?_⟩
      refine D.exi (fun r2A => ?_)
      refine D.exi (fun r2c => ?_)
      refine D.exi (fun r2 => ?_)
      refine D.sep ?_
      refine D.pur1 ?_
      rintro ⟨rfl, hr2_1⟩
      refine D.sep ?_
      have hrlr2 : r2.length = bs.length := by rw [hr2_1]
      refine D.p 5 rfl rfl rfl rfl rfl rfl (Pu.assign rfl rfl) ?_
      refine D.eff hwf (e := 6) rfl rfl rfl rfl (Ef.storeAll 3 rfl sz26 rfl rfl rfl rfl (by simp [Value.oneCell']) rfl) rfl rfl rfl ?_
      rintro _ _ rfl hs
      refine ⟨fun w hw => hw.sub (Sub.keep 4 rfl (Sub.keep 4 rfl (Sub.drop (Sub.drop (Sub.drop (Sub.drop (Sub.refl _))))))), ?_⟩
      refine D.done hwf rfl ?_
      refine X.next ?_
      refine V.seq ?_
      refine V.seq ?_
      refine V.region ?_
      refine O.p rfl rfl rfl (Pu.assign rfl rfl) ?_
      refine O.nil ?_
      refine X.next ?_
      refine V.block ?_
      refine V.loop3 (β := Nat × (Option Addr) × Nat × (List B3)) (fun x => [(6, .int .i64 (x.1 : Int))]) _ (fun x => [Blk b3 [.int .i64 v, .slice x.2.1 x.2.2.2.length x.2.2.1] 26, Own 51 B3C x.2.1 x.2.2.1 x.2.2.2]) _ (fun x => x.1 ≤ r1.length ∧ x.2.2.2.length ≤ 35 + x.1) (fun x => r1.length - x.1) (0, r2A, r2c, r2) (by (try dsimp only); exact ⟨by omega, by omega⟩) (Ent.cons rfl (Ent.nil _)) (Ent.cons (t := 1) rfl (Ent.cons (t := 2) rfl (Ent.cons (t := 4) rfl (Ent.cons (t := 5) rfl (Ent.nil _))))) (Sub.keep 3 rfl (Sub.keep 0 rfl (Sub.keep 0 rfl (Sub.keep 0 rfl (Sub.keep 0 rfl (Sub.keep 0 rfl (Sub.refl _))))))) ?_
      rintro ⟨i, xsA, xsc, xs⟩ ⟨hi, hl⟩
      dsimp only at hi hl ⊢
      refine V.seq ?_
      refine V.seq ?_
      refine V.region ?_
      refine O.p rfl rfl rfl (Pu.move rfl rfl) ?_
      refine O.p rfl rfl rfl (Pu.move rfl rfl) ?_
      refine O.p rfl rfl rfl (Pu.len rfl Tryz.underlying24 rfl) ?_
      refine O.p rfl rfl rfl (Pu.lss rfl rfl rfl) ?_
      refine O.nil ?_
      refine X.next ?_
      refine V.condD rfl (fun c2 => ?_) (fun c2 => ?_)
      · skip
        refine V.skip ?_
        refine X.next ?_
        refine V.seq ?_
        refine V.block ?_
        refine V.seq ?_
        have ei : i < r1.length := by omega
        refine V.drawS mo (by kernel_rfl) (Sub.keep 0 rfl (Sub.keep 0 rfl (Sub.keep 0 rfl (Sub.keep 0 rfl (Sub.keep 0 rfl (Sub.keep 0 rfl (Sub.refl _))))))) (fun hwf => ?_)
        refine D.p 0 rfl rfl rfl rfl rfl rfl (Pu.loadAgg rfl ag26 sz26 rfl rfl (Ld.whole 0 rfl)) ?_
        refine D.p 1 rfl rfl rfl rfl rfl rfl (Pu.move rfl rfl) ?_
        refine D.p 2 rfl rfl rfl rfl rfl rfl (Pu.move rfl rfl) ?_
        refine D.p 3 rfl rfl rfl rfl rfl rfl (Pu.indexAddrS (i) rfl Tryz.underlying24 sz51 rfl rfl (by omega) (by omega) (fun w hw => Own.some hw (i := 3) (by exact rfl) (by omega))) ?_
        refine D.p 4 rfl rfl rfl rfl rfl rfl (Pu.loadAgg' (v := B3.v (r1[i]'ei)) rfl rfl ag51 sz51 rfl rfl (Ld.rds (C := B3C) (Ld.own 3 (by exact rfl)) (k := i) ei rfl)) ?_
        refine D.eff hwf (e := 5) rfl rfl rfl rfl (Ef.callP call213 rfl rfl (fun w hw => l01Free_ok  v xs (r1[i]'ei) _ _ w ((Ld.own 1 (by exact rfl)) w hw) (by first | omega | (simp only [tops_len, conts_len, bl, List.length_append, List.length_cons, List.length_nil] at *; omega)) )) rfl rfl rfl ?_
        rintro _ _ ⟨rfl, rfl⟩ hs
        refine ⟨fun w hw => hw, ?_⟩
        refine D.done hwf rfl ?_
        refine X.next ?_
        refine V.condD rfl (fun c3 => ?_) (fun c3 => ?_)
        · skip
          have ei : i < r1.length := by omega
          refine V.drawS mo (by kernel_rfl) (Sub.keep 0 rfl (Sub.keep 0 rfl (Sub.keep 0 rfl (Sub.keep 0 rfl (Sub.keep 0 rfl (Sub.keep 0 rfl (Sub.refl _))))))) (fun hwf => ?_)
          refine D.p 0 rfl rfl rfl rfl rfl rfl (Pu.fieldAddr 0 rfl Tryz.underlying26 rfl sz2 rfl rfl) ?_
          refine D.p 1 rfl rfl rfl rfl rfl rfl (Pu.load rfl pl2 rfl (Ld.blk 5 rfl rfl)) ?_
          refine D.p 3 rfl rfl rfl rfl rfl rfl (Pu.fieldAddr 1 rfl Tryz.underlying26 rfl sz24 rfl rfl) ?_
          refine D.p 4 rfl rfl rfl rfl rfl rfl (Pu.load rfl pl24 rfl (Ld.blk 0 rfl rfl)) ?_
          refine D.p 6 rfl rfl rfl rfl rfl rfl (Pu.move rfl rfl) ?_
          refine D.p 7 rfl rfl rfl rfl rfl rfl (Pu.move rfl rfl) ?_
          refine D.p 8 rfl rfl rfl rfl rfl rfl (Pu.indexAddrS (i) rfl Tryz.underlying24 sz51 rfl rfl (by omega) (by omega) (fun w hw => Own.some hw (i := 3) (by exact rfl) (by omega))) ?_
          refine D.p 9 rfl rfl rfl rfl rfl rfl (Pu.loadAgg' (v := B3.v (r1[i]'ei)) rfl rfl ag51 sz51 rfl rfl (Ld.rds (C := B3C) (Ld.own 3 (by exact rfl)) (k := i) ei rfl)) ?_
          refine D.either hwf (e1 := 2) (e2 := 10) rfl ?_ ?_
          · skip
            refine ⟨_, _, rfl, rfl, fun _ _ => wanted_none rfl _, Ef.build B3C ([] : List B3) rfl Tryz.underlying24 inf51 rfl rfl rfl (by first | decide | (simp; done)) (by kernel_rfl), rfl, rfl, ?_⟩
            rintro _ _ ⟨A1, hA1, rfl, rfl⟩ hs
            refine ⟨fun w hw => hw.sub (Sub.keep 1 rfl (Sub.keep 1 rfl (Sub.keep 1 rfl (Sub.keep 1 rfl (Sub.keep 1 rfl (Sub.keep 1 rfl (Sub.drop (Sub.refl _)))))))), ?_⟩
            refine D.either hwf (e1 := 5) (e2 := 10) rfl ?_ ?_
            · skip
              refine ⟨_, _, rfl, rfl, fun _ _ => wanted_none rfl _, Ef.appendN (xs := ([] : List B3)) (ys := xs) 0 rfl Tryz.underlying24 inf51 rfl rfl rfl rfl rfl rfl (fun w hw h => Own.nilc hw (i := 2) (by exact rfl) h) (Ld.own 2 (by exact rfl)) (by simp only [List.length_append, List.length_cons, List.length_nil] at *; omega) (by decide), rfl, rfl, ?_⟩
              rintro _ _ ⟨A2, k1, rfl, rfl, hA2⟩ hs
              replace hA2 := hA2 (.inl hA1)
              refine ⟨fun w hw => hw.sub (Sub.keep 1 rfl (Sub.keep 1 rfl (Sub.keep 1 rfl (Sub.keep 1 rfl (Sub.keep 1 rfl (Sub.keep 1 rfl (Sub.drop (Sub.refl _)))))))), ?_⟩
              refine D.eff hwf (e := 10) rfl rfl rfl rfl (Ef.build B3C ([(r1[i]'ei)] : List B3) rfl Tryz.underlying24 inf51 rfl rfl rfl (by first | decide | (simp; done)) (by kernel_rfl)) rfl rfl rfl ?_
              rintro _ _ ⟨A3, hA3, rfl, rfl⟩ hs
              refine ⟨fun w hw => hw.sub (Sub.keep 2 rfl (Sub.keep 2 rfl (Sub.keep 2 rfl (Sub.keep 2 rfl (Sub.keep 2 rfl (Sub.keep 2 rfl (Sub.drop (Sub.drop (Sub.refl _))))))))), ?_⟩
              refine D.eff hwf (e := 11) rfl rfl rfl rfl (Ef.append (xs := (([] : List B3) ++ xs)) (ys := ([(r1[i]'ei)] : List B3)) 1 rfl Tryz.underlying24 inf51 rfl rfl rfl rfl rfl rfl hA3 (Ld.own 0 (by exact rfl)) (by simp only [List.length_append, List.length_cons, List.length_nil] at *; omega) (by decide)) rfl rfl rfl ?_
              rintro _ _ ⟨A4, k2, rfl, rfl, hA4⟩ hs
              replace hA4 := hA4 (.inr (by simp))
              refine ⟨fun w hw => hw.sub (Sub.keep 2 rfl (Sub.keep 2 rfl (Sub.keep 2 rfl (Sub.keep 2 rfl (Sub.keep 2 rfl (Sub.keep 2 rfl (Sub.drop (Sub.drop (Sub.refl _))))))))), ?_⟩
              refine D.eff hwf (e := 12) rfl rfl rfl rfl (Ef.call1 call199 rfl rfl (fun w hw => l01Made_ok  v ((([] : List B3) ++ xs) ++ ([(r1[i]'ei)] : List B3)) _ _ w ((Ld.own 1 (by exact rfl)) w hw) (by first | omega | (simp only [List.length_append, List.length_cons, List.length_nil, List.length_take, List.length_drop]; omega)) (by first | omega | (simp only [List.length_append, List.length_cons, List.length_nil, List.length_take, List.length_drop]; omega)))) rfl rfl rfl ?_
              rintro _ _ rfl hs
              refine ⟨fun w hw => hs w hw.tail, ?_⟩
              refine D.exi (fun r3A => ?_)
              refine D.exi (fun r3c => ?_)
              refine D.exi (fun r3 => ?_)
              refine D.sep ?_
              refine D.pur1 ?_
              rintro ⟨rfl, hr3_1, hr3_2⟩
              refine D.effX (Hs' := []) hwf (e := 13) rfl rfl rfl rfl (Ef.storeAll 3 rfl sz26 rfl rfl rfl rfl (by simp [Value.oneCell']) rfl) rfl [] rfl (List.forall_mem_nil _) ?_
              rintro _ _ rfl
              refine ⟨fun w hw => hw.sub (Sub.nil _), ?_⟩
              refine D.done hwf rfl ?_
              refine X.blockNormal ?_
              refine X.next ?_
              refine V.region ?_
              refine O.p rfl rfl rfl (Pu.move rfl rfl) ?_
              refine O.p rfl rfl rfl (Pu.add64 (r := ((i + 1 : Nat) : Int)) rfl (by omega) rfl rfl rfl) ?_
              refine O.p rfl rfl rfl (Pu.assign rfl rfl) ?_
              refine O.nil ?_
              exact X.back3 (i + 1, r3A, r3c, r3) (by (try dsimp only); exact ⟨by omega, by have h := hr3_1.length_eq; simp only [List.length_append, List.length_cons, List.length_nil] at h; omega⟩) (by first | omega | (dsimp only; omega)) (Ent.cons rfl (Ent.nil _)) (Ent.cons (t := 1) rfl (Ent.cons (t := 2) rfl (Ent.cons (t := 4) rfl (Ent.cons (t := 5) rfl (Ent.nil _))))) (Sub.keep 3 rfl (Sub.keep 0 rfl (Sub.keep 3 rfl (Sub.keep 3 rfl (Sub.keep 3 rfl (Sub.keep 3 rfl (Sub.drop (Sub.drop (Sub.drop (Sub.refl _))))))))))
            · skip
              refine ⟨_, _, rfl, rfl, fun _ _ => wanted_none rfl _, Ef.build B3C ([(r1[i]'ei)] : List B3) rfl Tryz.underlying24 inf51 rfl rfl rfl (by first | decide | (simp; done)) (by kernel_rfl), rfl, rfl, ?_⟩
              rintro _ _ ⟨A2, hA2, rfl, rfl⟩ hs
              refine ⟨fun w hw => hw.sub (Sub.keep 2 rfl (Sub.keep 2 rfl (Sub.keep 2 rfl (Sub.keep 2 rfl (Sub.keep 2 rfl (Sub.keep 2 rfl (Sub.drop (Sub.drop (Sub.refl _))))))))), ?_⟩
              refine D.eff hwf (e := 5) rfl rfl rfl rfl (Ef.appendN (xs := ([] : List B3)) (ys := xs) 1 rfl Tryz.underlying24 inf51 rfl rfl rfl rfl rfl rfl (fun w hw h => Own.nilc hw (i := 3) (by exact rfl) h) (Ld.own 3 (by exact rfl)) (by simp only [List.length_append, List.length_cons, List.length_nil] at *; omega) (by decide)) rfl rfl rfl ?_
              rintro _ _ ⟨A3, k1, rfl, rfl, hA3⟩ hs
              replace hA3 := hA3 (.inl hA1)
              refine ⟨fun w hw => hw.sub (Sub.keep 2 rfl (Sub.keep 2 rfl (Sub.keep 2 rfl (Sub.keep 2 rfl (Sub.keep 2 rfl (Sub.keep 2 rfl (Sub.drop (Sub.drop (Sub.refl _))))))))), ?_⟩
              refine D.eff hwf (e := 11) rfl rfl rfl rfl (Ef.append (xs := (([] : List B3) ++ xs)) (ys := ([(r1[i]'ei)] : List B3)) 1 rfl Tryz.underlying24 inf51 rfl rfl rfl rfl rfl rfl hA2 (Ld.own 0 (by exact rfl)) (by simp only [List.length_append, List.length_cons, List.length_nil] at *; omega) (by decide)) rfl rfl rfl ?_
              rintro _ _ ⟨A4, k2, rfl, rfl, hA4⟩ hs
              replace hA4 := hA4 (.inr (by simp))
              refine ⟨fun w hw => hw.sub (Sub.keep 2 rfl (Sub.keep 2 rfl (Sub.keep 2 rfl (Sub.keep 2 rfl (Sub.keep 2 rfl (Sub.keep 2 rfl (Sub.drop (Sub.drop (Sub.refl _))))))))), ?_⟩
              refine D.eff hwf (e := 12) rfl rfl rfl rfl (Ef.call1 call199 rfl rfl (fun w hw => l01Made_ok  v ((([] : List B3) ++ xs) ++ ([(r1[i]'ei)] : List B3)) _ _ w ((Ld.own 1 (by exact rfl)) w hw) (by first | omega | (simp only [List.length_append, List.length_cons, List.length_nil, List.length_take, List.length_drop]; omega)) (by first | omega | (simp only [List.length_append, List.length_cons, List.length_nil, List.length_take, List.length_drop]; omega)))) rfl rfl rfl ?_
              rintro _ _ rfl hs
              refine ⟨fun w hw => hs w hw.tail, ?_⟩
              refine D.exi (fun r3A => ?_)
              refine D.exi (fun r3c => ?_)
              refine D.exi (fun r3 => ?_)
              refine D.sep ?_
              refine D.pur1 ?_
              rintro ⟨rfl, hr3_1, hr3_2⟩
              refine D.effX (Hs' := []) hwf (e := 13) rfl rfl rfl rfl (Ef.storeAll 3 rfl sz26 rfl rfl rfl rfl (by simp [Value.oneCell']) rfl) rfl [] rfl (List.forall_mem_nil _) ?_
              rintro _ _ rfl
              refine ⟨fun w hw => hw.sub (Sub.nil _), ?_⟩
              refine D.done hwf rfl ?_
              refine X.blockNormal ?_
              refine X.next ?_
              refine V.region ?_
              refine O.p rfl rfl rfl (Pu.move rfl rfl) ?_
              refine O.p rfl rfl rfl (Pu.add64 (r := ((i + 1 : Nat) : Int)) rfl (by omega) rfl rfl rfl) ?_
              refine O.p rfl rfl rfl (Pu.assign rfl rfl) ?_
              refine O.nil ?_
              exact X.back3 (i + 1, r3A, r3c, r3) (by (try dsimp only); exact ⟨by omega, by have h := hr3_1.length_eq; simp only [List.length_append, List.length_cons, List.length_nil] at h; omega⟩) (by first | omega | (dsimp only; omega)) (Ent.cons rfl (Ent.nil _)) (Ent.cons (t := 1) rfl (Ent.cons (t := 2) rfl (Ent.cons (t := 4) rfl (Ent.cons (t := 5) rfl (Ent.nil _))))) (Sub.keep 3 rfl (Sub.keep 0 rfl (Sub.keep 3 rfl (Sub.keep 3 rfl (Sub.keep 3 rfl (Sub.keep 3 rfl (Sub.drop (Sub.drop (Sub.drop (Sub.refl _))))))))))
          · skip
            refine ⟨_, _, rfl, rfl, fun _ _ => wanted_none rfl _, Ef.build B3C ([(r1[i]'ei)] : List B3) rfl Tryz.underlying24 inf51 rfl rfl rfl (by first | decide | (simp; done)) (by kernel_rfl), rfl, rfl, ?_⟩
            rintro _ _ ⟨A1, hA1, rfl, rfl⟩ hs
            refine ⟨fun w hw => hw.sub (Sub.keep 1 rfl (Sub.keep 1 rfl (Sub.keep 1 rfl (Sub.keep 1 rfl (Sub.keep 1 rfl (Sub.keep 1 rfl (Sub.drop (Sub.refl _)))))))), ?_⟩
            refine D.eff hwf (e := 2) rfl rfl rfl rfl (Ef.build B3C ([] : List B3) rfl Tryz.underlying24 inf51 rfl rfl rfl (by first | decide | (simp; done)) (by kernel_rfl)) rfl rfl rfl ?_
            rintro _ _ ⟨A2, hA2, rfl, rfl⟩ hs
            refine ⟨fun w hw => hw.sub (Sub.keep 2 rfl (Sub.keep 2 rfl (Sub.keep 2 rfl (Sub.keep 2 rfl (Sub.keep 2 rfl (Sub.keep 2 rfl (Sub.drop (Sub.drop (Sub.refl _))))))))), ?_⟩
            refine D.eff hwf (e := 5) rfl rfl rfl rfl (Ef.appendN (xs := ([] : List B3)) (ys := xs) 0 rfl Tryz.underlying24 inf51 rfl rfl rfl rfl rfl rfl (fun w hw h => Own.nilc hw (i := 3) (by exact rfl) h) (Ld.own 3 (by exact rfl)) (by simp only [List.length_append, List.length_cons, List.length_nil] at *; omega) (by decide)) rfl rfl rfl ?_
            rintro _ _ ⟨A3, k1, rfl, rfl, hA3⟩ hs
            replace hA3 := hA3 (.inl hA2)
            refine ⟨fun w hw => hw.sub (Sub.keep 2 rfl (Sub.keep 2 rfl (Sub.keep 2 rfl (Sub.keep 2 rfl (Sub.keep 2 rfl (Sub.keep 2 rfl (Sub.drop (Sub.drop (Sub.refl _))))))))), ?_⟩
            refine D.eff hwf (e := 11) rfl rfl rfl rfl (Ef.append (xs := (([] : List B3) ++ xs)) (ys := ([(r1[i]'ei)] : List B3)) 0 rfl Tryz.underlying24 inf51 rfl rfl rfl rfl rfl rfl hA1 (Ld.own 1 (by exact rfl)) (by simp only [List.length_append, List.length_cons, List.length_nil] at *; omega) (by decide)) rfl rfl rfl ?_
            rintro _ _ ⟨A4, k2, rfl, rfl, hA4⟩ hs
            replace hA4 := hA4 (.inr (by simp))
            refine ⟨fun w hw => hw.sub (Sub.keep 2 rfl (Sub.keep 2 rfl (Sub.keep 2 rfl (Sub.keep 2 rfl (Sub.keep 2 rfl (Sub.keep 2 rfl (Sub.drop (Sub.drop (Sub.refl _))))))))), ?_⟩
            refine D.eff hwf (e := 12) rfl rfl rfl rfl (Ef.call1 call199 rfl rfl (fun w hw => l01Made_ok  v ((([] : List B3) ++ xs) ++ ([(r1[i]'ei)] : List B3)) _ _ w ((Ld.own 0 (by exact rfl)) w hw) (by first | omega | (simp only [List.length_append, List.length_cons, List.length_nil, List.length_take, List.length_drop]; omega)) (by first | omega | (simp only [List.length_append, List.length_cons, List.length_nil, List.length_take, List.length_drop]; omega)))) rfl rfl rfl ?_
            rintro _ _ rfl hs
            refine ⟨fun w hw => hs w hw.tail, ?_⟩
            refine D.exi (fun r3A => ?_)
            refine D.exi (fun r3c => ?_)
            refine D.exi (fun r3 => ?_)
            refine D.sep ?_
            refine D.pur1 ?_
            rintro ⟨rfl, hr3_1, hr3_2⟩
            refine D.effX (Hs' := []) hwf (e := 13) rfl rfl rfl rfl (Ef.storeAll 3 rfl sz26 rfl rfl rfl rfl (by simp [Value.oneCell']) rfl) rfl [] rfl (List.forall_mem_nil _) ?_
            rintro _ _ rfl
            refine ⟨fun w hw => hw.sub (Sub.nil _), ?_⟩
            refine D.done hwf rfl ?_
            refine X.blockNormal ?_
            refine X.next ?_
            refine V.region ?_
            refine O.p rfl rfl rfl (Pu.move rfl rfl) ?_
            refine O.p rfl rfl rfl (Pu.add64 (r := ((i + 1 : Nat) : Int)) rfl (by omega) rfl rfl rfl) ?_
            refine O.p rfl rfl rfl (Pu.assign rfl rfl) ?_
            refine O.nil ?_
            exact X.back3 (i + 1, r3A, r3c, r3) (by (try dsimp only); exact ⟨by omega, by have h := hr3_1.length_eq; simp only [List.length_append, List.length_cons, List.length_nil] at h; omega⟩) (by first | omega | (dsimp only; omega)) (Ent.cons rfl (Ent.nil _)) (Ent.cons (t := 1) rfl (Ent.cons (t := 2) rfl (Ent.cons (t := 4) rfl (Ent.cons (t := 5) rfl (Ent.nil _))))) (Sub.keep 3 rfl (Sub.keep 0 rfl (Sub.keep 3 rfl (Sub.keep 3 rfl (Sub.keep 3 rfl (Sub.keep 3 rfl (Sub.drop (Sub.drop (Sub.drop (Sub.refl _))))))))))
        · skip
          refine V.skip ?_
          refine X.blockNormal ?_
          refine X.next ?_
          refine V.region ?_
          refine O.p rfl rfl rfl (Pu.move rfl rfl) ?_
          refine O.p rfl rfl rfl (Pu.add64 (r := ((i + 1 : Nat) : Int)) rfl (by omega) rfl rfl rfl) ?_
          refine O.p rfl rfl rfl (Pu.assign rfl rfl) ?_
          refine O.nil ?_
          exact X.back3 (i + 1, xsA, xsc, xs) (by (try dsimp only); exact ⟨by omega, by omega⟩) (by first | omega | (dsimp only; omega)) (Ent.cons rfl (Ent.nil _)) (Ent.cons (t := 1) rfl (Ent.cons (t := 2) rfl (Ent.cons (t := 4) rfl (Ent.cons (t := 5) rfl (Ent.nil _))))) (Sub.keep 0 rfl (Sub.keep 0 rfl (Sub.keep 0 rfl (Sub.keep 0 rfl (Sub.keep 0 rfl (Sub.keep 0 rfl (Sub.refl _)))))))
      · skip
        refine V.exit ?_
        refine X.thenExit ?_
        refine X.thenExit ?_
        refine X.blockHit ?_
        refine X.next ?_
        refine V.seq ?_
        refine V.region ?_
        refine O.p rfl rfl rfl (Pu.loadAgg rfl ag26 sz26 rfl rfl (Ld.whole 0 rfl)) ?_
        refine O.s rfl rfl (Ef.storeAll 4 rfl sz26 rfl rfl rfl rfl (by simp [Value.oneCell']) rfl) ?_
        rintro _ _ rfl
        refine O.p rfl rfl rfl (Pu.assign rfl rfl) ?_
        refine O.nil ?_
        refine X.next ?_
        refine V.ret ?_
        refine X.retCell2 rfl ag26 sz26 rfl rfl rfl (Ld.whole 4 rfl) ?_
        exact fun w hw => St.mkExi xsA (St.mkExi xsc (St.mkExi xs (St.unsep (St.addPur ⟨(by rw [if_pos c1, if_pos c1]), by omega⟩ (St.unsep (hw.sub (Sub.keep 1 rfl (Sub.keep 1 rfl (Sub.drop (Sub.drop (Sub.drop (Sub.drop (Sub.refl _)))))))))))))
set_option maxRecDepth 100000 in
set_option maxHeartbeats 1000000 in
theorem l08Draw_ok (cA : Option Addr) (cc : Nat) (code : List UInt8) (s : Nat) (w0 : World) (H : List Assn) (hc : Rd U8C w0 cA code) (lc : code.length ≤ 1048576) : Does Tryz.prog 119 [.pointer (some ⟨s, 0, none⟩)] w0 (SrcK 132 cA cc code s :: H) (fun rv_ => [.exi fun (pv : Int) => .exi fun (rA : Option Addr) => .exi fun (rc : Nat) => .exi fun (r : List B3) => .sep (.pur (rv_ = .agg #[.int .i64 pv, .slice rA r.length rc] ∧ r.length ≤ 4200)) (.sep (Own 51 B3C rA rc r) (SrcK 132 cA cc code s))] ++ H) := by
  refine Does.enter Tryz.func119 rfl rfl [(0, .pointer (some ⟨s, 0, none⟩))] rfl ?_
  refine V.seq ?_
  refine V.region ?_
  refine O.e rfl rfl rfl (Ef.alloc rfl zr26 rfl) ?_
  rintro _ _ ⟨b1, rfl, rfl⟩
  refine O.nil ?_
  refine X.next ?_
  refine V.seq ?_
  refine V.seq ?_
  refine V.region ?_
  refine O.p rfl rfl rfl (Pu.move rfl rfl) ?_
  refine O.e rfl rfl rfl (Ef.call call92 rfl rfl (Does.pre (fun w hw => hw.sub (Sub.keep 1 rfl (Sub.keep 0 rfl (Sub.refl _)))) (l01Next_ok _ _ _ s (8 : Int) w0 _   (by first | assumption | omega | (try dsimp only at *; omega)) (by first | assumption | omega | (try dsimp only at *; omega))))) ?_
  rintro _ _ rfl
  refine O.exi (fun r1 => ?_)
  refine O.sep ?_
  refine O.pur ?_
  rintro ⟨rfl, hr1_1, hr1_2, hr1_3⟩
  refine O.p rfl rfl rfl (Pu.eql rfl rfl rfl) ?_
  refine O.nil ?_
  refine X.next ?_
  refine V.condD rfl (fun c1 => ?_) (fun c1 => ?_)
  · skip
    refine V.seq ?_
    refine V.region ?_
    refine O.p rfl rfl rfl (Pu.move rfl rfl) ?_
    refine O.e rfl rfl rfl (Ef.call call75 rfl rfl (Does.pre (fun w hw => hw.sub (Sub.keep 0 rfl (Sub.keep 0 rfl (Sub.refl _)))) (l01Spoil_ok _ _ _ s w0 _   (by first | assumption | omega | (try dsimp only at *; omega)) (by first | assumption | omega | (try dsimp only at *; omega))))) ?_
    rintro _ _ rfl
    refine O.exi (fun pv1 => ?_)
    refine O.exi (fun r2A => ?_)
    refine O.exi (fun r2c => ?_)
    refine O.exi (fun r2 => ?_)
    refine O.sep ?_
    refine O.pur ?_
    rintro ⟨rfl, hpv1_1, hpv1_2⟩
    refine O.sep ?_
    refine O.s rfl rfl (Ef.storeAll 2 rfl sz26 rfl rfl rfl rfl (by simp [Value.oneCell']) rfl) ?_
    rintro _ _ rfl
    refine O.nil ?_
    refine X.next ?_
    refine V.ret ?_
    refine X.thenRet ?_
    refine X.retCell rfl ag26 sz26 rfl rfl (Ld.whole 2 rfl) ?_
    exact fun w hw => St.mkExi pv1 (St.mkExi r2A (St.mkExi r2c (St.mkExi r2 (St.unsep (St.addPur ⟨rfl, by first | omega | (have h := hr2_1.length_eq; simp only [List.length_append, List.length_cons, List.length_nil] at h; omega)⟩ (St.unsep (hw.sub (Sub.keep 0 rfl (Sub.keep 0 rfl (Sub.drop (Sub.refl _)))))))))))
  · skip
    refine V.skip ?_
    refine X.next ?_
    refine V.seq ?_
    refine V.region ?_
    refine O.p rfl rfl rfl (Pu.move rfl rfl) ?_
    refine O.e rfl rfl rfl (Ef.call call184 rfl rfl (Does.pre (fun w hw => hw.sub (Sub.keep 0 rfl (Sub.keep 0 rfl (Sub.refl _)))) (l01DrawFull_ok _ _ _ s w0 _   (by first | assumption | omega | (try dsimp only at *; omega)) (by first | assumption | omega | (try dsimp only at *; omega))))) ?_
    rintro _ _ rfl
    refine O.exi (fun pv2 => ?_)
    refine O.exi (fun r3A => ?_)
    refine O.exi (fun r3c => ?_)
    refine O.exi (fun r3 => ?_)
    refine O.sep ?_
    refine O.pur ?_
    rintro ⟨rfl, hpv2_1⟩
    refine O.sep ?_
    refine O.e rfl rfl rfl (Ef.alloc rfl zr26 rfl) ?_
    rintro _ _ ⟨b2, rfl, rfl⟩
    refine O.s rfl rfl (Ef.storeAll 0 rfl sz26 rfl rfl rfl rfl (by simp [Value.oneCell']) rfl) ?_
    rintro _ _ rfl
    refine O.nil ?_
    refine X.next ?_
    refine V.seq ?_
    refine V.seq ?_
    refine V.region ?_
    refine O.p rfl rfl rfl (Pu.move rfl rfl) ?_
    refine O.p rfl rfl rfl (Pu.move rfl rfl) ?_
    refine O.e rfl rfl rfl (Ef.build I64 ([(4 : Int), (8 : Int), (13 : Int)] : List Int) rfl Tryz.underlying34 inf2 rfl rfl rfl (by first | decide | (simp; done)) (by kernel_rfl)) ?_
    rintro _ _ ⟨A1, hA1, rfl, rfl⟩
    refine O.e rfl rfl rfl (Ef.call call93 rfl rfl (Does.pre (fun w hw => hw.sub (Sub.keep 3 rfl (Sub.keep 0 rfl (Sub.keep 0 rfl (Sub.keep 0 rfl (Sub.keep 0 rfl (Sub.refl _))))))) (l01Pick_ok _ _ _ s ([(4 : Int), (8 : Int), (13 : Int)] : List Int) _ _ w0 _ (Ld.own 0 (by exact rfl)) (by first | omega | (simp only [tops_len, conts_len, bl, List.length_append, List.length_cons, List.length_nil] at *; omega)) (by first | assumption | omega | (try dsimp only at *; omega)) (by first | assumption | omega | (try dsimp only at *; omega)) (by first | (simp; done) | omega)))) ?_
    rintro _ _ rfl
    refine O.exi (fun r4 => ?_)
    refine O.sep ?_
    refine O.pur ?_
    rintro ⟨rfl, hr4_1⟩
    have hpk : 0 ≤ r4 ∧ r4 ≤ 13 := by simp only [List.mem_cons, List.not_mem_nil, or_false] at hr4_1; omega
    refine O.e rfl rfl rfl (Ef.call call92 rfl rfl (Does.pre (fun w hw => hw.sub (Sub.keep 0 rfl (Sub.keep 0 rfl (Sub.keep 0 rfl (Sub.keep 0 rfl (Sub.keep 0 rfl (Sub.refl _))))))) (l01Next_ok _ _ _ s r4 w0 _   (by first | assumption | omega | (try dsimp only at *; omega)) (by first | assumption | omega | (try dsimp only at *; omega))))) ?_
    rintro _ _ rfl
    refine O.exi (fun r5 => ?_)
    refine O.sep ?_
    refine O.pur ?_
    rintro ⟨rfl, hr5_1, hr5_2, hr5_3⟩
    refine O.p rfl rfl rfl (Pu.assign rfl rfl) ?_
    refine O.nil ?_
    refine X.next ?_
    refine V.block ?_
    refine V.loop3 (β := Int × (Option Addr) × Nat × (List B3)) (fun x => [(4, .int .i64 (x.1 : Int))]) _ (fun x => [Blk b2 [.int .i64 pv2, .slice x.2.1 x.2.2.2.length x.2.2.1] 26, Own 51 B3C x.2.1 x.2.2.1 x.2.2.2]) _ (fun x => x.1 ≤ 13 ∧ DrS 4100 pv2 x.2.2.2) (fun x => x.1.toNat) (r5, r3A, r3c, r3) (by (try dsimp only); exact ⟨by omega, hpv2_1⟩) (Ent.cons rfl (Ent.nil _)) (Ent.cons (t := 0) rfl (Ent.cons (t := 2) rfl (Ent.cons (t := 3) rfl (Ent.nil _)))) (Sub.keep 2 rfl (Sub.keep 2 rfl (Sub.keep 0 rfl (Sub.keep 0 rfl (Sub.keep 0 rfl (Sub.refl _)))))) ?_
    rintro ⟨k, xsA, xsc, xs⟩ ⟨hk, hDx⟩
    dsimp only at hk hDx ⊢
    refine V.seq ?_
    refine V.seq ?_
    refine V.region ?_
    refine O.p rfl rfl rfl (Pu.move rfl rfl) ?_
    refine O.p rfl rfl rfl (Pu.gtr rfl rfl rfl) ?_
    refine O.p rfl rfl rfl (Pu.move rfl rfl) ?_
    refine O.splitD 20 rfl (fun c2 => ?_) (fun c2 => ?_)
    · skip
      refine O.gp rfl rfl rfl rfl rfl (Pu.fieldAddr 1 rfl Tryz.underlying26 rfl sz24 rfl rfl) ?_
      refine O.gp rfl rfl rfl rfl rfl (Pu.load rfl pl24 rfl (Ld.blk 0 rfl rfl)) ?_
      refine O.gp rfl rfl rfl rfl rfl (Pu.len rfl Tryz.underlying24 rfl) ?_
      refine O.gp rfl rfl rfl rfl rfl (Pu.gtr rfl rfl rfl) ?_
      refine O.p rfl rfl rfl (Pu.pickT rfl rfl rfl) ?_
      refine O.nil ?_
      refine X.next ?_
      refine V.condD rfl (fun c3 => ?_) (fun c3 => ?_)
      · skip
        refine V.skip ?_
        refine X.next ?_
        refine V.seq ?_
        refine V.block ?_
        have hlx := hDx.2.2
        refine V.drawS mo (by kernel_rfl) (Sub.keep 0 rfl (Sub.keep 2 rfl (Sub.keep 2 rfl (Sub.drop (Sub.drop (Sub.refl _)))))) (fun hwf => ?_)
        refine D.p 0 rfl rfl rfl rfl rfl rfl (Pu.loadAgg rfl ag26 sz26 rfl rfl (Ld.whole 0 rfl)) ?_
        refine D.p 1 rfl rfl rfl rfl rfl rfl (Pu.move rfl rfl) ?_
        refine D.p 2 rfl rfl rfl rfl rfl rfl (Pu.fieldAddr 1 rfl Tryz.underlying26 rfl sz24 rfl rfl) ?_
        refine D.p 3 rfl rfl rfl rfl rfl rfl (Pu.load rfl pl24 rfl (Ld.blk 0 rfl rfl)) ?_
        refine D.p 4 rfl rfl rfl rfl rfl rfl (Pu.len rfl Tryz.underlying24 rfl) ?_
        refine D.eff hwf (e := 5) rfl rfl rfl rfl (Ef.call call92 rfl rfl (Does.pre (fun w hw => hw.sub (Sub.keep 2 rfl (Sub.keep 0 rfl (Sub.keep 0 rfl (Sub.keep 0 rfl (Sub.keep 0 rfl (Sub.refl _))))))) (l01Next_ok _ _ _ s (↑xs.length : Int) w0 _   (by first | assumption | omega | (try dsimp only at *; omega)) (by first | assumption | omega | (try dsimp only at *; omega))))) rfl rfl rfl ?_
        rintro _ _ rfl hs
        refine ⟨fun w hw => hw.tail.sub (Sub.keep 0 rfl (Sub.keep 1 rfl (Sub.keep 1 rfl (Sub.drop (Sub.refl _))))), ?_⟩
        refine D.exi (fun r6 => ?_)
        refine D.sep ?_
        refine D.pur1 ?_
        rintro ⟨rfl, hr6_1, hr6_2, hr6_3⟩
        refine D.eff hwf (e := 6) rfl rfl rfl rfl (Ef.call call185 rfl rfl (Does.pre (fun w hw => hw.sub (Sub.keep 2 rfl (Sub.keep 0 rfl (Sub.keep 0 rfl (Sub.keep 0 rfl (Sub.keep 0 rfl (Sub.refl _))))))) (l01Without_ok  pv2 xs r6 _ _ w0 _   (by omega) (by omega)))) rfl rfl rfl ?_
        rintro _ _ rfl hs
        refine ⟨fun w hw => hw.tail.sub (Sub.keep 1 rfl (Sub.keep 1 rfl (Sub.keep 1 rfl (Sub.drop (Sub.refl _))))), ?_⟩
        refine D.exi (fun r7A => ?_)
        refine D.exi (fun r7c => ?_)
        refine D.exi (fun r7 => ?_)
        refine D.sep ?_
        refine D.pur1 ?_
        rintro ⟨rfl, hr7_1⟩
        refine D.effX (Hs' := []) hwf (e := 7) rfl rfl rfl rfl (Ef.storeAll 2 rfl sz26 rfl rfl rfl rfl (by simp [Value.oneCell']) rfl) rfl [] rfl (List.forall_mem_nil _) ?_
        rintro _ _ rfl
        refine ⟨fun w hw => hw.sub (Sub.nil _), ?_⟩
        refine D.done hwf rfl ?_
        refine X.blockNormal ?_
        refine X.next ?_
        refine V.region ?_
        refine O.p rfl rfl rfl (Pu.move rfl rfl) ?_
        refine O.p rfl rfl rfl (Pu.sub64 rfl (by omega) rfl rfl rfl) ?_
        refine O.p rfl rfl rfl (Pu.assign rfl rfl) ?_
        refine O.nil ?_
        exact X.back3 ((k - (1 : Int)), r7A, r7c, r7) (by (try dsimp only); exact ⟨by omega, hDx.cut hr7_1⟩) (by first | omega | (dsimp only; omega)) (Ent.cons rfl (Ent.nil _)) (Ent.cons (t := 0) rfl (Ent.cons (t := 2) rfl (Ent.cons (t := 3) rfl (Ent.nil _)))) (Sub.keep 2 rfl (Sub.keep 0 rfl (Sub.keep 0 rfl (Sub.keep 0 rfl (Sub.keep 0 rfl (Sub.refl _))))))
      · skip
        refine V.exit ?_
        refine X.thenExit ?_
        refine X.thenExit ?_
        refine X.blockHit ?_
        refine X.next ?_
        refine V.seq ?_
        refine V.seq ?_
        refine V.region ?_
        refine O.p rfl rfl rfl (Pu.move rfl rfl) ?_
        refine O.e rfl rfl rfl (Ef.call call92 rfl rfl (Does.pre (fun w hw => hw.sub (Sub.keep 2 rfl (Sub.keep 0 rfl (Sub.keep 0 rfl (Sub.keep 0 rfl (Sub.keep 0 rfl (Sub.refl _))))))) (l01Next_ok _ _ _ s (4 : Int) w0 _   (by first | assumption | omega | (try dsimp only at *; omega)) (by first | assumption | omega | (try dsimp only at *; omega))))) ?_
        rintro _ _ rfl
        refine O.exi (fun r8 => ?_)
        refine O.sep ?_
        refine O.pur ?_
        rintro ⟨rfl, hr8_1, hr8_2, hr8_3⟩
        refine O.p rfl rfl rfl (Pu.eql rfl rfl rfl) ?_
        refine O.nil ?_
        refine X.next ?_
        refine V.condD rfl (fun c4 => ?_) (fun c4 => ?_)
        · skip
          have hlx := hDx.2.2
          refine V.seq ?_
          refine V.region ?_
          refine O.p rfl rfl rfl (Pu.loadAgg rfl ag26 sz26 rfl rfl (Ld.whole 1 rfl)) ?_
          refine O.e rfl rfl rfl (Ef.call1 call135 rfl rfl (fun w hw => l01Rest_ok  pv2 xs _ _ w ((Ld.own 2 (by exact rfl)) w hw) (by first | omega | (simp only [tops_len, conts_len, bl, List.length_append, List.length_cons, List.length_nil] at *; omega)) (by have := hDx.1; omega))) ?_
          rintro _ _ rfl
          refine O.exi (fun r9A => ?_)
          refine O.exi (fun r9c => ?_)
          refine O.exi (fun r9 => ?_)
          refine O.sep ?_
          refine O.pur ?_
          rintro ⟨rfl, hr9_1, hr9_2⟩
          refine O.p rfl rfl rfl (Pu.assign rfl rfl) ?_
          refine O.nil ?_
          refine X.next ?_
          refine V.seq ?_
          refine V.region ?_
          refine O.p rfl rfl rfl (Pu.move rfl rfl) ?_
          refine O.p rfl rfl rfl (Pu.len rfl Tryz.underlying24 rfl) ?_
          refine O.p rfl rfl rfl (Pu.gtr rfl rfl rfl) ?_
          refine O.nil ?_
          refine X.next ?_
          refine V.condD rfl (fun c5 => ?_) (fun c5 => ?_)
          · skip
            refine V.drawS mo (by kernel_rfl) (Sub.keep 0 rfl (Sub.keep 1 rfl (Sub.keep 1 rfl (Sub.keep 1 rfl (Sub.keep 1 rfl (Sub.drop (Sub.refl _))))))) (fun hwf => ?_)
            refine D.p 0 rfl rfl rfl rfl rfl rfl (Pu.fieldAddr 0 rfl Tryz.underlying26 rfl sz2 rfl rfl) ?_
            refine D.p 1 rfl rfl rfl rfl rfl rfl (Pu.load rfl pl2 rfl (Ld.blk 1 rfl rfl)) ?_
            refine D.p 3 rfl rfl rfl rfl rfl rfl (Pu.fieldAddr 1 rfl Tryz.underlying26 rfl sz24 rfl rfl) ?_
            refine D.p 4 rfl rfl rfl rfl rfl rfl (Pu.load rfl pl24 rfl (Ld.blk 1 rfl rfl)) ?_
            refine D.p 6 rfl rfl rfl rfl rfl rfl (Pu.move rfl rfl) ?_
            refine D.p 7 rfl rfl rfl rfl rfl rfl (Pu.move rfl rfl) ?_
            refine D.p 8 rfl rfl rfl rfl rfl rfl (Pu.move rfl rfl) ?_
            refine D.p 9 rfl rfl rfl rfl rfl rfl (Pu.len rfl Tryz.underlying24 rfl) ?_
            refine D.eff hwf (e := 2) rfl rfl rfl rfl (Ef.build B3C ([] : List B3) rfl Tryz.underlying24 inf51 rfl rfl rfl (by first | decide | (simp; done)) (by kernel_rfl)) rfl rfl rfl ?_
            rintro _ _ ⟨A2, hA2, rfl, rfl⟩ hs
            refine ⟨fun w hw => hw.sub (Sub.keep 1 rfl (Sub.keep 2 rfl (Sub.keep 2 rfl (Sub.keep 2 rfl (Sub.keep 2 rfl (Sub.drop (Sub.drop (Sub.refl _)))))))), ?_⟩
            refine D.eff hwf (e := 5) rfl rfl rfl rfl (Ef.appendN (xs := ([] : List B3)) (ys := xs) 0 rfl Tryz.underlying24 inf51 rfl rfl rfl rfl rfl rfl (fun w hw h => Own.nilc hw (i := 4) (by exact rfl) h) (Ld.own 4 (by exact rfl)) (by simp only [List.length_append, List.length_cons, List.length_nil] at *; omega) (by decide)) rfl rfl rfl ?_
            rintro _ _ ⟨A3, k1, rfl, rfl, hA3⟩ hs
            replace hA3 := hA3 (.inl hA2)
            refine ⟨fun w hw => hw.sub (Sub.keep 1 rfl (Sub.keep 2 rfl (Sub.keep 2 rfl (Sub.keep 2 rfl (Sub.keep 2 rfl (Sub.drop (Sub.drop (Sub.refl _)))))))), ?_⟩
            refine D.eff hwf (e := 10) rfl rfl rfl rfl (Ef.call call92 rfl rfl (Does.pre (fun w hw => hw.sub (Sub.keep 2 rfl (Sub.keep 0 rfl (Sub.keep 0 rfl (Sub.keep 0 rfl (Sub.keep 0 rfl (Sub.keep 0 rfl (Sub.keep 0 rfl (Sub.refl _))))))))) (l01Next_ok _ _ _ s (↑r9.length : Int) w0 _   (by first | assumption | omega | (try dsimp only at *; omega)) (by first | assumption | omega | (try dsimp only at *; omega))))) rfl rfl rfl ?_
            rintro _ _ rfl hs
            refine ⟨fun w hw => hw.tail.sub (Sub.keep 1 rfl (Sub.keep 1 rfl (Sub.keep 1 rfl (Sub.keep 1 rfl (Sub.keep 1 rfl (Sub.drop (Sub.refl _))))))), ?_⟩
            refine D.exi (fun r10 => ?_)
            refine D.sep ?_
            refine D.pur1 ?_
            rintro ⟨rfl, hr10_1, hr10_2, hr10_3⟩
            refine D.p 11 rfl rfl rfl rfl rfl rfl (Pu.indexAddrS ((r10).toNat) rfl Tryz.underlying24 sz51 rfl rfl (by omega) (by omega) (fun w hw => Own.some hw (i := 0) (by exact rfl) (by omega))) ?_
            have e1 : (r10).toNat < r9.length := by omega
            refine D.p 12 rfl rfl rfl rfl rfl rfl (Pu.loadAgg' (v := B3.v (r9[(r10).toNat]'e1)) rfl rfl ag51 sz51 rfl rfl (Ld.rds (C := B3C) (Ld.own 0 (by exact rfl)) (k := (r10).toNat) e1 rfl)) ?_
            refine D.eff hwf (e := 13) rfl rfl rfl rfl (Ef.build B3C ([(r9[(r10).toNat]'e1)] : List B3) rfl Tryz.underlying24 inf51 rfl rfl rfl (by first | decide | (simp; done)) (by kernel_rfl)) rfl rfl rfl ?_
            rintro _ _ ⟨A4, hA4, rfl, rfl⟩ hs
            refine ⟨fun w hw => hw.sub (Sub.keep 3 rfl (Sub.keep 3 rfl (Sub.keep 3 rfl (Sub.keep 3 rfl (Sub.keep 3 rfl (Sub.drop (Sub.drop (Sub.drop (Sub.refl _))))))))), ?_⟩
            refine D.eff hwf (e := 14) rfl rfl rfl rfl (Ef.append (xs := (([] : List B3) ++ xs)) (ys := ([(r9[(r10).toNat]'e1)] : List B3)) 2 rfl Tryz.underlying24 inf51 rfl rfl rfl rfl rfl rfl hA4 (Ld.own 0 (by exact rfl)) (by simp only [List.length_append, List.length_cons, List.length_nil] at *; omega) (by decide)) rfl rfl rfl ?_
            rintro _ _ ⟨A5, k2, rfl, rfl, hA5⟩ hs
            replace hA5 := hA5 (.inr (by simp))
            refine ⟨fun w hw => hw.sub (Sub.keep 3 rfl (Sub.keep 3 rfl (Sub.keep 3 rfl (Sub.keep 3 rfl (Sub.keep 3 rfl (Sub.drop (Sub.drop (Sub.drop (Sub.refl _))))))))), ?_⟩
            refine D.eff hwf (e := 15) rfl rfl rfl rfl (Ef.call1 call199 rfl rfl (fun w hw => l01Made_ok  pv2 ((([] : List B3) ++ xs) ++ ([(r9[(r10).toNat]'e1)] : List B3)) _ _ w ((Ld.own 2 (by exact rfl)) w hw) (by first | omega | (simp only [List.length_append, List.length_cons, List.length_nil, List.length_take, List.length_drop]; omega)) (by first | omega | (simp only [List.length_append, List.length_cons, List.length_nil, List.length_take, List.length_drop]; omega)))) rfl rfl rfl ?_
            rintro _ _ rfl hs
            refine ⟨fun w hw => hs w hw.tail, ?_⟩
            refine D.exi (fun r11A => ?_)
            refine D.exi (fun r11c => ?_)
            refine D.exi (fun r11 => ?_)
            refine D.sep ?_
            refine D.pur1 ?_
            rintro ⟨rfl, hr11_1, hr11_2⟩
            refine D.effX (Hs' := []) hwf (e := 16) rfl rfl rfl rfl (Ef.storeAll 5 rfl sz26 rfl rfl rfl rfl (by simp [Value.oneCell']) rfl) rfl [] rfl (List.forall_mem_nil _) ?_
            rintro _ _ rfl
            refine ⟨fun w hw => hw.sub (Sub.nil _), ?_⟩
            refine D.done hwf rfl ?_
            refine X.next ?_
            refine V.seq ?_
            refine V.region ?_
            refine O.p rfl rfl rfl (Pu.loadAgg rfl ag26 sz26 rfl rfl (Ld.whole 5 rfl)) ?_
            refine O.s rfl rfl (Ef.storeAll 8 rfl sz26 rfl rfl rfl rfl (by simp [Value.oneCell']) rfl) ?_
            rintro _ _ rfl
            refine O.nil ?_
            refine X.next ?_
            refine V.ret ?_
            refine X.retCell rfl ag26 sz26 rfl rfl (Ld.whole 8 rfl) ?_
            exact fun w hw => St.mkExi pv2 (St.mkExi r11A (St.mkExi r11c (St.mkExi r11 (St.unsep (St.addPur ⟨rfl, by first | omega | (have h := hr11_1.length_eq; simp only [List.length_append, List.length_cons, List.length_nil] at h; omega)⟩ (St.unsep (hw.sub (Sub.keep 0 rfl (Sub.keep 1 rfl (Sub.drop (Sub.drop (Sub.drop (Sub.drop (Sub.drop (Sub.drop (Sub.drop (Sub.refl _)))))))))))))))))
          · skip
            refine V.skip ?_
            refine X.next ?_
            refine V.seq ?_
            refine V.region ?_
            refine O.p rfl rfl rfl (Pu.loadAgg rfl ag26 sz26 rfl rfl (Ld.whole 2 rfl)) ?_
            refine O.s rfl rfl (Ef.storeAll 5 rfl sz26 rfl rfl rfl rfl (by simp [Value.oneCell']) rfl) ?_
            rintro _ _ rfl
            refine O.nil ?_
            refine X.next ?_
            refine V.ret ?_
            refine X.retCell rfl ag26 sz26 rfl rfl (Ld.whole 5 rfl) ?_
            exact fun w hw => St.mkExi pv2 (St.mkExi xsA (St.mkExi xsc (St.mkExi xs (St.unsep (St.addPur ⟨rfl, by first | omega | (have h := hxs_1.length_eq; simp only [List.length_append, List.length_cons, List.length_nil] at h; omega)⟩ (St.unsep (hw.sub (Sub.keep 3 rfl (Sub.keep 1 rfl (Sub.drop (Sub.drop (Sub.drop (Sub.drop (Sub.refl _))))))))))))))
        · skip
          have hlx := hDx.2.2
          refine V.skip ?_
          refine X.next ?_
          refine V.seq ?_
          refine V.region ?_
          refine O.p rfl rfl rfl (Pu.loadAgg rfl ag26 sz26 rfl rfl (Ld.whole 1 rfl)) ?_
          refine O.s rfl rfl (Ef.storeAll 4 rfl sz26 rfl rfl rfl rfl (by simp [Value.oneCell']) rfl) ?_
          rintro _ _ rfl
          refine O.nil ?_
          refine X.next ?_
          refine V.ret ?_
          refine X.retCell rfl ag26 sz26 rfl rfl (Ld.whole 4 rfl) ?_
          exact fun w hw => St.mkExi pv2 (St.mkExi xsA (St.mkExi xsc (St.mkExi xs (St.unsep (St.addPur ⟨rfl, by first | omega | (have h := hxs_1.length_eq; simp only [List.length_append, List.length_cons, List.length_nil] at h; omega)⟩ (St.unsep (hw.sub (Sub.keep 2 rfl (Sub.keep 0 rfl (Sub.drop (Sub.drop (Sub.drop (Sub.refl _)))))))))))))
    · skip
      refine O.gs rfl rfl rfl rfl rfl rfl ?_
      refine O.gs rfl rfl rfl rfl rfl rfl ?_
      refine O.gs rfl rfl rfl rfl rfl rfl ?_
      refine O.gs rfl rfl rfl rfl rfl rfl ?_
      refine O.p rfl rfl rfl (Pu.pickF rfl rfl rfl) ?_
      refine O.nil ?_
      refine X.next ?_
      refine V.condF rfl ?_
      refine V.exit ?_
      refine X.thenExit ?_
      refine X.thenExit ?_
      refine X.blockHit ?_
      refine X.next ?_
      refine V.seq ?_
      refine V.seq ?_
      refine V.region ?_
      refine O.p rfl rfl rfl (Pu.move rfl rfl) ?_
      refine O.e rfl rfl rfl (Ef.call call92 rfl rfl (Does.pre (fun w hw => hw.sub (Sub.keep 2 rfl (Sub.keep 0 rfl (Sub.keep 0 rfl (Sub.keep 0 rfl (Sub.keep 0 rfl (Sub.refl _))))))) (l01Next_ok _ _ _ s (4 : Int) w0 _   (by first | assumption | omega | (try dsimp only at *; omega)) (by first | assumption | omega | (try dsimp only at *; omega))))) ?_
      rintro _ _ rfl
      refine O.exi (fun r12 => ?_)
      refine O.sep ?_
      refine O.pur ?_
      rintro ⟨rfl, hr12_1, hr12_2, hr12_3⟩
      refine O.p rfl rfl rfl (Pu.eql rfl rfl rfl) ?_
      refine O.nil ?_
      refine X.next ?_
      refine V.condD rfl (fun c6 => ?_) (fun c6 => ?_)
      · skip
        have hlx := hDx.2.2
        refine V.seq ?_
        refine V.region ?_
        refine O.p rfl rfl rfl (Pu.loadAgg rfl ag26 sz26 rfl rfl (Ld.whole 1 rfl)) ?_
        refine O.e rfl rfl rfl (Ef.call1 call135 rfl rfl (fun w hw => l01Rest_ok  pv2 xs _ _ w ((Ld.own 2 (by exact rfl)) w hw) (by first | omega | (simp only [tops_len, conts_len, bl, List.length_append, List.length_cons, List.length_nil] at *; omega)) (by have := hDx.1; omega))) ?_
        rintro _ _ rfl
        refine O.exi (fun r13A => ?_)
        refine O.exi (fun r13c => ?_)
        refine O.exi (fun r13 => ?_)
        refine O.sep ?_
        refine O.pur ?_
        rintro ⟨rfl, hr13_1, hr13_2⟩
        refine O.p rfl rfl rfl (Pu.assign rfl rfl) ?_
        refine O.nil ?_
        refine X.next ?_
        refine V.seq ?_
        refine V.region ?_
        refine O.p rfl rfl rfl (Pu.move rfl rfl) ?_
        refine O.p rfl rfl rfl (Pu.len rfl Tryz.underlying24 rfl) ?_
        refine O.p rfl rfl rfl (Pu.gtr rfl rfl rfl) ?_
        refine O.nil ?_
        refine X.next ?_
        refine V.condD rfl (fun c7 => ?_) (fun c7 => ?_)
        · skip
          refine V.drawS mo (by kernel_rfl) (Sub.keep 0 rfl (Sub.keep 1 rfl (Sub.keep 1 rfl (Sub.keep 1 rfl (Sub.keep 1 rfl (Sub.drop (Sub.refl _))))))) (fun hwf => ?_)
          refine D.p 0 rfl rfl rfl rfl rfl rfl (Pu.fieldAddr 0 rfl Tryz.underlying26 rfl sz2 rfl rfl) ?_
          refine D.p 1 rfl rfl rfl rfl rfl rfl (Pu.load rfl pl2 rfl (Ld.blk 1 rfl rfl)) ?_
          refine D.p 3 rfl rfl rfl rfl rfl rfl (Pu.fieldAddr 1 rfl Tryz.underlying26 rfl sz24 rfl rfl) ?_
          refine D.p 4 rfl rfl rfl rfl rfl rfl (Pu.load rfl pl24 rfl (Ld.blk 1 rfl rfl)) ?_
          refine D.p 6 rfl rfl rfl rfl rfl rfl (Pu.move rfl rfl) ?_
          refine D.p 7 rfl rfl rfl rfl rfl rfl (Pu.move rfl rfl) ?_
          refine D.p 8 rfl rfl rfl rfl rfl rfl (Pu.move rfl rfl) ?_
          refine D.p 9 rfl rfl rfl rfl rfl rfl (Pu.len rfl Tryz.underlying24 rfl) ?_
          refine D.eff hwf (e := 2) rfl rfl rfl rfl (Ef.build B3C ([] : List B3) rfl Tryz.underlying24 inf51 rfl rfl rfl (by first | decide | (simp; done)) (by kernel_rfl)) rfl rfl rfl ?_
          rintro _ _ ⟨A6, hA6, rfl, rfl⟩ hs
          refine ⟨fun w hw => hw.sub (Sub.keep 1 rfl (Sub.keep 2 rfl (Sub.keep 2 rfl (Sub.keep 2 rfl (Sub.keep 2 rfl (Sub.drop (Sub.drop (Sub.refl _)))))))), ?_⟩
          refine D.eff hwf (e := 5) rfl rfl rfl rfl (Ef.appendN (xs := ([] : List B3)) (ys := xs) 0 rfl Tryz.underlying24 inf51 rfl rfl rfl rfl rfl rfl (fun w hw h => Own.nilc hw (i := 4) (by exact rfl) h) (Ld.own 4 (by exact rfl)) (by simp only [List.length_append, List.length_cons, List.length_nil] at *; omega) (by decide)) rfl rfl rfl ?_
          rintro _ _ ⟨A7, k3, rfl, rfl, hA7⟩ hs
          replace hA7 := hA7 (.inl hA6)
          refine ⟨fun w hw => hw.sub (Sub.keep 1 rfl (Sub.keep 2 rfl (Sub.keep 2 rfl (Sub.keep 2 rfl (Sub.keep 2 rfl (Sub.drop (Sub.drop (Sub.refl _)))))))), ?_⟩
          refine D.eff hwf (e := 10) rfl rfl rfl rfl (Ef.call call92 rfl rfl (Does.pre (fun w hw => hw.sub (Sub.keep 2 rfl (Sub.keep 0 rfl (Sub.keep 0 rfl (Sub.keep 0 rfl (Sub.keep 0 rfl (Sub.keep 0 rfl (Sub.keep 0 rfl (Sub.refl _))))))))) (l01Next_ok _ _ _ s (↑r13.length : Int) w0 _   (by first | assumption | omega | (try dsimp only at *; omega)) (by first | assumption | omega | (try dsimp only at *; omega))))) rfl rfl rfl ?_
          rintro _ _ rfl hs
          refine ⟨fun w hw => hw.tail.sub (Sub.keep 1 rfl (Sub.keep 1 rfl (Sub.keep 1 rfl (Sub.keep 1 rfl (Sub.keep 1 rfl (Sub.drop (Sub.refl _))))))), ?_⟩
          refine D.exi (fun r14 => ?_)
          refine D.sep ?_
          refine D.pur1 ?_
          rintro ⟨rfl, hr14_1, hr14_2, hr14_3⟩
          refine D.p 11 rfl rfl rfl rfl rfl rfl (Pu.indexAddrS ((r14).toNat) rfl Tryz.underlying24 sz51 rfl rfl (by omega) (by omega) (fun w hw => Own.some hw (i := 0) (by exact rfl) (by omega))) ?_
          have e2 : (r14).toNat < r13.length := by omega
          refine D.p 12 rfl rfl rfl rfl rfl rfl (Pu.loadAgg' (v := B3.v (r13[(r14).toNat]'e2)) rfl rfl ag51 sz51 rfl rfl (Ld.rds (C := B3C) (Ld.own 0 (by exact rfl)) (k := (r14).toNat) e2 rfl)) ?_
          refine D.eff hwf (e := 13) rfl rfl rfl rfl (Ef.build B3C ([(r13[(r14).toNat]'e2)] : List B3) rfl Tryz.underlying24 inf51 rfl rfl rfl (by first | decide | (simp; done)) (by kernel_rfl)) rfl rfl rfl ?_
          rintro _ _ ⟨A8, hA8, rfl, rfl⟩ hs
          refine ⟨fun w hw => hw.sub (Sub.keep 3 rfl (Sub.keep 3 rfl (Sub.keep 3 rfl (Sub.keep 3 rfl (Sub.keep 3 rfl (Sub.drop (Sub.drop (Sub.drop (Sub.refl _))))))))), ?_⟩
          refine D.eff hwf (e := 14) rfl rfl rfl rfl (Ef.append (xs := (([] : List B3) ++ xs)) (ys := ([(r13[(r14).toNat]'e2)] : List B3)) 2 rfl Tryz.underlying24 inf51 rfl rfl rfl rfl rfl rfl hA8 (Ld.own 0 (by exact rfl)) (by simp only [List.length_append, List.length_cons, List.length_nil] at *; omega) (by decide)) rfl rfl rfl ?_
          rintro _ _ ⟨A9, k4, rfl, rfl, hA9⟩ hs
          replace hA9 := hA9 (.inr (by simp))
          refine ⟨fun w hw => hw.sub (Sub.keep 3 rfl (Sub.keep 3 rfl (Sub.keep 3 rfl (Sub.keep 3 rfl (Sub.keep 3 rfl (Sub.drop (Sub.drop (Sub.drop (Sub.refl _))))))))), ?_⟩
          refine D.eff hwf (e := 15) rfl rfl rfl rfl (Ef.call1 call199 rfl rfl (fun w hw => l01Made_ok  pv2 ((([] : List B3) ++ xs) ++ ([(r13[(r14).toNat]'e2)] : List B3)) _ _ w ((Ld.own 2 (by exact rfl)) w hw) (by first | omega | (simp only [List.length_append, List.length_cons, List.length_nil, List.length_take, List.length_drop]; omega)) (by first | omega | (simp only [List.length_append, List.length_cons, List.length_nil, List.length_take, List.length_drop]; omega)))) rfl rfl rfl ?_
          rintro _ _ rfl hs
          refine ⟨fun w hw => hs w hw.tail, ?_⟩
          refine D.exi (fun r15A => ?_)
          refine D.exi (fun r15c => ?_)
          refine D.exi (fun r15 => ?_)
          refine D.sep ?_
          refine D.pur1 ?_
          rintro ⟨rfl, hr15_1, hr15_2⟩
          refine D.effX (Hs' := []) hwf (e := 16) rfl rfl rfl rfl (Ef.storeAll 5 rfl sz26 rfl rfl rfl rfl (by simp [Value.oneCell']) rfl) rfl [] rfl (List.forall_mem_nil _) ?_
          rintro _ _ rfl
          refine ⟨fun w hw => hw.sub (Sub.nil _), ?_⟩
          refine D.done hwf rfl ?_
          refine X.next ?_
          refine V.seq ?_
          refine V.region ?_
          refine O.p rfl rfl rfl (Pu.loadAgg rfl ag26 sz26 rfl rfl (Ld.whole 5 rfl)) ?_
          refine O.s rfl rfl (Ef.storeAll 8 rfl sz26 rfl rfl rfl rfl (by simp [Value.oneCell']) rfl) ?_
          rintro _ _ rfl
          refine O.nil ?_
          refine X.next ?_
          refine V.ret ?_
          refine X.retCell rfl ag26 sz26 rfl rfl (Ld.whole 8 rfl) ?_
          exact fun w hw => St.mkExi pv2 (St.mkExi r15A (St.mkExi r15c (St.mkExi r15 (St.unsep (St.addPur ⟨rfl, by first | omega | (have h := hr15_1.length_eq; simp only [List.length_append, List.length_cons, List.length_nil] at h; omega)⟩ (St.unsep (hw.sub (Sub.keep 0 rfl (Sub.keep 1 rfl (Sub.drop (Sub.drop (Sub.drop (Sub.drop (Sub.drop (Sub.drop (Sub.drop (Sub.refl _)))))))))))))))))
        · skip
          refine V.skip ?_
          refine X.next ?_
          refine V.seq ?_
          refine V.region ?_
          refine O.p rfl rfl rfl (Pu.loadAgg rfl ag26 sz26 rfl rfl (Ld.whole 2 rfl)) ?_
          refine O.s rfl rfl (Ef.storeAll 5 rfl sz26 rfl rfl rfl rfl (by simp [Value.oneCell']) rfl) ?_
          rintro _ _ rfl
          refine O.nil ?_
          refine X.next ?_
          refine V.ret ?_
          refine X.retCell rfl ag26 sz26 rfl rfl (Ld.whole 5 rfl) ?_
          exact fun w hw => St.mkExi pv2 (St.mkExi xsA (St.mkExi xsc (St.mkExi xs (St.unsep (St.addPur ⟨rfl, by first | omega | (have h := hxs_1.length_eq; simp only [List.length_append, List.length_cons, List.length_nil] at h; omega)⟩ (St.unsep (hw.sub (Sub.keep 3 rfl (Sub.keep 1 rfl (Sub.drop (Sub.drop (Sub.drop (Sub.drop (Sub.refl _))))))))))))))
      · skip
        have hlx := hDx.2.2
        refine V.skip ?_
        refine X.next ?_
        refine V.seq ?_
        refine V.region ?_
        refine O.p rfl rfl rfl (Pu.loadAgg rfl ag26 sz26 rfl rfl (Ld.whole 1 rfl)) ?_
        refine O.s rfl rfl (Ef.storeAll 4 rfl sz26 rfl rfl rfl rfl (by simp [Value.oneCell']) rfl) ?_
        rintro _ _ rfl
        refine O.nil ?_
        refine X.next ?_
        refine V.ret ?_
        refine X.retCell rfl ag26 sz26 rfl rfl (Ld.whole 4 rfl) ?_
        exact fun w hw => St.mkExi pv2 (St.mkExi xsA (St.mkExi xsc (St.mkExi xs (St.unsep (St.addPur ⟨rfl, by first | omega | (have h := hxs_1.length_eq; simp only [List.length_append, List.length_cons, List.length_nil] at h; omega)⟩ (St.unsep (hw.sub (Sub.keep 2 rfl (Sub.keep 0 rfl (Sub.drop (Sub.drop (Sub.drop (Sub.refl _)))))))))))))
set_option maxRecDepth 100000 in
set_option maxHeartbeats 1000000 in
theorem DrawFixes_ok (code : List UInt8) (codeA : Option Addr) (codec : Nat) (w : World) (hcode : Rd U8C w codeA code) (lcode : code.length ≤ 1099511627776) (lc : code.length ≤ 1048576) : Does Tryz.prog 40 [.slice codeA code.length codec] w [] (fun rv_ => [.exi fun (pv : Int) => .exi fun (rA : Option Addr) => .exi fun (rc : Nat) => .exi fun (r : List B3) => .sep (.pur (rv_ = .agg #[.int .i64 pv, .slice rA r.length rc] ∧ r.length ≤ 4200)) (Own 51 B3C rA rc r)]) := by
  refine Does.enter Tryz.func40 rfl rfl [(0, .slice codeA code.length codec)] rfl ?_
  refine V.seq ?_
  refine V.region ?_
  refine O.e rfl rfl rfl (Ef.alloc rfl zr26 rfl) ?_
  rintro _ _ ⟨b1, rfl, rfl⟩
  refine O.nil ?_
  refine X.next ?_
  refine V.seq ?_
  refine V.region ?_
  refine O.p rfl rfl rfl (Pu.move rfl rfl) ?_
  refine O.e rfl rfl rfl (Ef.call1 call76 rfl rfl (fun w hw => l01From_ok  code _ _ w ((Ld.old hcode) w hw) (by first | omega | (simp only [tops_len, conts_len, bl, List.length_append, List.length_cons, List.length_nil] at *; omega)) (by first | assumption | omega | (try dsimp only at *; omega)))) ?_
  rintro _ _ rfl
  refine O.exi (fun s1 => ?_)
  refine O.sep ?_
  refine O.pur ?_
  rintro rfl
  refine O.e rfl rfl rfl (Ef.call call119 rfl rfl (Does.pre (fun w hw => hw.sub (Sub.keep 0 rfl (Sub.keep 0 rfl (Sub.nil _)))) (l08Draw_ok _ _ _ s1 w _   (by first | assumption | omega | (try dsimp only at *; omega)) (by first | assumption | omega | (try dsimp only at *; omega))))) ?_
  rintro _ _ rfl
  refine O.exi (fun pv1 => ?_)
  refine O.exi (fun r1A => ?_)
  refine O.exi (fun r1c => ?_)
  refine O.exi (fun r1 => ?_)
  refine O.sep ?_
  refine O.pur ?_
  rintro ⟨rfl, hpv1_1⟩
  refine O.sep ?_
  refine O.s rfl rfl (Ef.storeAll 2 rfl sz26 rfl rfl rfl rfl (by simp [Value.oneCell']) rfl) ?_
  rintro _ _ rfl
  refine O.nil ?_
  refine X.next ?_
  refine V.ret ?_
  refine X.retCell rfl ag26 sz26 rfl rfl (Ld.whole 2 rfl) ?_
  exact fun w hw => St.mkExi pv1 (St.mkExi r1A (St.mkExi r1c (St.mkExi r1 (St.unsep (St.addPur ⟨rfl, hpv1_1⟩ (hw.sub (Sub.keep 0 rfl (Sub.nil _))))))))
set_option maxRecDepth 100000 in
set_option maxHeartbeats 1000000 in
theorem DrawIsStuck_ok (code : List UInt8) (codeA : Option Addr) (codec : Nat) (w : World) (hcode : Rd U8C w codeA code) (lcode : code.length ≤ 1099511627776) (lc : code.length ≤ 1048576) : Does Tryz.prog 48 [.slice codeA code.length codec] w [] (fun rv_ => [.exi fun (pv : Int) => .exi fun (rA : Option Addr) => .exi fun (rc : Nat) => .exi fun (r : List B3) => .sep (.pur (rv_ = .agg #[.int .i64 pv, .slice rA r.length rc] ∧ r.length ≤ 4200)) (Own 51 B3C rA rc r)]) := by
  refine Does.enter Tryz.func48 rfl rfl [(0, .slice codeA code.length codec)] rfl ?_
  refine V.seq ?_
  refine V.region ?_
  refine O.e rfl rfl rfl (Ef.alloc rfl zr26 rfl) ?_
  rintro _ _ ⟨b1, rfl, rfl⟩
  refine O.nil ?_
  refine X.next ?_
  refine V.seq ?_
  refine V.region ?_
  refine O.p rfl rfl rfl (Pu.move rfl rfl) ?_
  refine O.e rfl rfl rfl (Ef.call1 call76 rfl rfl (fun w hw => l01From_ok  code _ _ w ((Ld.old hcode) w hw) (by first | omega | (simp only [tops_len, conts_len, bl, List.length_append, List.length_cons, List.length_nil] at *; omega)) (by first | assumption | omega | (try dsimp only at *; omega)))) ?_
  rintro _ _ rfl
  refine O.exi (fun s1 => ?_)
  refine O.sep ?_
  refine O.pur ?_
  rintro rfl
  refine O.p rfl rfl rfl (Pu.assign rfl rfl) ?_
  refine O.nil ?_
  refine X.next ?_
  refine V.seq ?_
  refine V.region ?_
  refine O.p rfl rfl rfl (Pu.move rfl rfl) ?_
  refine O.e rfl rfl rfl (Ef.call call75 rfl rfl (Does.pre (fun w hw => hw.sub (Sub.keep 0 rfl (Sub.keep 0 rfl (Sub.nil _)))) (l01Spoil_ok _ _ _ s1 w _   (by first | assumption | omega | (try dsimp only at *; omega)) (by first | assumption | omega | (try dsimp only at *; omega))))) ?_
  rintro _ _ rfl
  refine O.exi (fun pv1 => ?_)
  refine O.exi (fun r1A => ?_)
  refine O.exi (fun r1c => ?_)
  refine O.exi (fun r1 => ?_)
  refine O.sep ?_
  refine O.pur ?_
  rintro ⟨rfl, hpv1_1, hpv1_2⟩
  refine O.sep ?_
  refine O.e rfl rfl rfl (Ef.alloc rfl zr26 rfl) ?_
  rintro _ _ ⟨b2, rfl, rfl⟩
  refine O.s rfl rfl (Ef.storeAll 0 rfl sz26 rfl rfl rfl rfl (by simp [Value.oneCell']) rfl) ?_
  rintro _ _ rfl
  refine O.nil ?_
  refine X.next ?_
  refine V.seq ?_
  refine V.seq ?_
  refine V.region ?_
  refine O.p rfl rfl rfl (Pu.loadAgg rfl ag26 sz26 rfl rfl (Ld.whole 0 rfl)) ?_
  refine O.e rfl rfl rfl (Ef.call call133 rfl rfl (Does.pre (fun w hw => hw.sub (Sub.keep 1 rfl (Sub.keep 0 rfl (Sub.keep 0 rfl (Sub.keep 0 rfl (Sub.nil _)))))) (fillSystem_ok  pv1 r1 _ _ w _   (by first | assumption | omega | (try dsimp only at *; omega))))) ?_
  rintro _ _ rfl
  refine O.exi (fun r2A => ?_)
  refine O.exi (fun r2c => ?_)
  refine O.exi (fun r2 => ?_)
  refine O.sep ?_
  refine O.pur ?_
  rintro ⟨rfl, hr2_1⟩
  refine O.sep ?_
  refine O.p rfl rfl rfl (Pu.move rfl rfl) ?_
  refine O.p rfl rfl rfl (Pu.extract rfl rfl rfl) ?_
  refine O.p rfl rfl rfl (Pu.extract rfl rfl rfl) ?_
  refine O.e rfl rfl rfl (Ef.alloc rfl zr26 rfl) ?_
  rintro _ _ ⟨b3, rfl, rfl⟩
  refine O.s rfl rfl (Ef.storeAll 0 rfl sz26 rfl rfl rfl rfl (by simp [Value.oneCell']) rfl) ?_
  rintro _ _ rfl
  refine O.p rfl rfl rfl (Pu.assign rfl rfl) ?_
  refine O.nil ?_
  refine X.next ?_
  refine V.seq ?_
  refine V.region ?_
  refine O.p rfl rfl rfl (Pu.move rfl rfl) ?_
  refine O.p rfl rfl rfl (Pu.eql rfl rfl rfl) ?_
  refine O.p rfl rfl rfl (Pu.move rfl rfl) ?_
  refine O.splitD 18 rfl (fun c1 => ?_) (fun c1 => ?_)
  · skip
    refine O.gp rfl rfl rfl rfl rfl (Pu.move rfl rfl) ?_
    refine O.ge rfl rfl rfl rfl rfl (Ef.call call92 rfl rfl (Does.pre (fun w hw => hw.sub (Sub.keep 4 rfl (Sub.keep 0 rfl (Sub.keep 0 rfl (Sub.keep 0 rfl (Sub.keep 0 rfl (Sub.keep 0 rfl (Sub.nil _)))))))) (l01Next_ok _ _ _ s1 (2 : Int) w _   (by first | assumption | omega | (try dsimp only at *; omega)) (by first | assumption | omega | (try dsimp only at *; omega))))) ?_
    rintro _ _ rfl
    refine O.exi (fun r3 => ?_)
    refine O.sep ?_
    refine O.pur ?_
    rintro ⟨rfl, hr3_1, hr3_2, hr3_3⟩
    refine O.gp rfl rfl rfl rfl rfl (Pu.eql rfl rfl rfl) ?_
    refine O.p rfl rfl rfl (Pu.pickT rfl rfl rfl) ?_
    refine O.nil ?_
    refine X.next ?_
    refine V.condD rfl (fun c2 => ?_) (fun c2 => ?_)
    · skip
      refine V.seq ?_
      refine V.region ?_
      refine O.p rfl rfl rfl (Pu.loadAgg rfl ag26 sz26 rfl rfl (Ld.whole 1 rfl)) ?_
      refine O.s rfl rfl (Ef.storeAll 5 rfl sz26 rfl rfl rfl rfl (by simp [Value.oneCell']) rfl) ?_
      rintro _ _ rfl
      refine O.nil ?_
      refine X.next ?_
      refine V.ret ?_
      refine X.thenRet ?_
      refine X.retCell rfl ag26 sz26 rfl rfl (Ld.whole 5 rfl) ?_
      exact fun w hw => St.mkExi (if STS pv1 r1 then pv1 else 0) (St.mkExi r2A (St.mkExi r2c (St.mkExi r2 (St.unsep (St.addPur ⟨rfl, by omega⟩ (hw.sub (Sub.keep 2 rfl (Sub.nil _))))))))
    · skip
      refine V.skip ?_
      refine X.next ?_
      refine V.seq ?_
      refine V.region ?_
      refine O.p rfl rfl rfl (Pu.loadAgg rfl ag26 sz26 rfl rfl (Ld.whole 4 rfl)) ?_
      refine O.s rfl rfl (Ef.storeAll 5 rfl sz26 rfl rfl rfl rfl (by simp [Value.oneCell']) rfl) ?_
      rintro _ _ rfl
      refine O.nil ?_
      refine X.next ?_
      refine V.ret ?_
      refine X.retCell rfl ag26 sz26 rfl rfl (Ld.whole 5 rfl) ?_
      exact fun w hw => St.mkExi pv1 (St.mkExi r1A (St.mkExi r1c (St.mkExi r1 (St.unsep (St.addPur ⟨rfl, by omega⟩ (hw.sub (Sub.keep 3 rfl (Sub.nil _))))))))
  · skip
    refine O.gs rfl rfl rfl rfl rfl rfl ?_
    refine O.gs rfl rfl rfl rfl rfl rfl ?_
    refine O.gs rfl rfl rfl rfl rfl rfl ?_
    refine O.p rfl rfl rfl (Pu.pickF rfl rfl rfl) ?_
    refine O.nil ?_
    refine X.next ?_
    refine V.condF rfl ?_
    refine V.skip ?_
    refine X.next ?_
    refine V.seq ?_
    refine V.region ?_
    refine O.p rfl rfl rfl (Pu.loadAgg rfl ag26 sz26 rfl rfl (Ld.whole 3 rfl)) ?_
    refine O.s rfl rfl (Ef.storeAll 5 rfl sz26 rfl rfl rfl rfl (by simp [Value.oneCell']) rfl) ?_
    rintro _ _ rfl
    refine O.nil ?_
    refine X.next ?_
    refine V.ret ?_
    refine X.retCell rfl ag26 sz26 rfl rfl (Ld.whole 5 rfl) ?_
    exact fun w hw => St.mkExi pv1 (St.mkExi r1A (St.mkExi r1c (St.mkExi r1 (St.unsep (St.addPur ⟨rfl, by omega⟩ (hw.sub (Sub.keep 2 rfl (Sub.nil _))))))))
set_option maxRecDepth 100000 in
set_option maxHeartbeats 1000000 in
theorem DrawLeastFixing_ok (code : List UInt8) (codeA : Option Addr) (codec : Nat) (w : World) (hcode : Rd U8C w codeA code) (lcode : code.length ≤ 1099511627776) (lc : code.length ≤ 1048576) : Does Tryz.prog 45 [.slice codeA code.length codec] w [] (fun rv_ => [.exi fun (pv : Int) => .exi fun (rA : Option Addr) => .exi fun (rc : Nat) => .exi fun (r : List B3) => .sep (.pur (rv_ = .agg #[.int .i64 pv, .slice rA r.length rc] ∧ r.length ≤ 4200)) (Own 51 B3C rA rc r)]) := by
  refine Does.enter Tryz.func45 rfl rfl [(0, .slice codeA code.length codec)] rfl ?_
  refine V.seq ?_
  refine V.region ?_
  refine O.e rfl rfl rfl (Ef.alloc rfl zr26 rfl) ?_
  rintro _ _ ⟨b1, rfl, rfl⟩
  refine O.nil ?_
  refine X.next ?_
  refine V.seq ?_
  refine V.region ?_
  refine O.p rfl rfl rfl (Pu.move rfl rfl) ?_
  refine O.e rfl rfl rfl (Ef.call1 call76 rfl rfl (fun w hw => l01From_ok  code _ _ w ((Ld.old hcode) w hw) (by first | omega | (simp only [tops_len, conts_len, bl, List.length_append, List.length_cons, List.length_nil] at *; omega)) (by first | assumption | omega | (try dsimp only at *; omega)))) ?_
  rintro _ _ rfl
  refine O.exi (fun s1 => ?_)
  refine O.sep ?_
  refine O.pur ?_
  rintro rfl
  refine O.p rfl rfl rfl (Pu.assign rfl rfl) ?_
  refine O.nil ?_
  refine X.next ?_
  refine V.seq ?_
  refine V.region ?_
  refine O.e rfl rfl rfl (Ef.build StrC ([(ByteArray.mk #[115, 105, 110, 103, 108, 101]), (ByteArray.mk #[102, 97, 110, 111]), (ByteArray.mk #[102, 97, 110, 111]), (ByteArray.mk #[97, 102, 102, 105, 110, 101])] : List ByteArray) rfl Tryz.underlying110 inf9 rfl rfl rfl (by first | decide | (simp; done)) (by kernel_rfl)) ?_
  rintro _ _ ⟨A1, hA1, rfl, rfl⟩
  refine O.p rfl rfl rfl (Pu.move rfl rfl) ?_
  refine O.e rfl rfl rfl (Ef.call call92 rfl rfl (Does.pre (fun w hw => hw.sub (Sub.keep 1 rfl (Sub.keep 0 rfl (Sub.keep 0 rfl (Sub.nil _))))) (l01Next_ok _ _ _ s1 (4 : Int) w _   (by first | assumption | omega | (try dsimp only at *; omega)) (by first | assumption | omega | (try dsimp only at *; omega))))) ?_
  rintro _ _ rfl
  refine O.exi (fun r1 => ?_)
  refine O.sep ?_
  refine O.pur ?_
  rintro ⟨rfl, hr1_1, hr1_2, hr1_3⟩
  refine O.p rfl rfl rfl (Pu.indexAddr ((r1).toNat) rfl Tryz.underlying110 sz9 rfl rfl (by omega) (by simp only [List.length_cons, List.length_nil]; omega) hA1) ?_
  have e1 : (r1).toNat < ([(ByteArray.mk #[115, 105, 110, 103, 108, 101]), (ByteArray.mk #[102, 97, 110, 111]), (ByteArray.mk #[102, 97, 110, 111]), (ByteArray.mk #[97, 102, 102, 105, 110, 101])] : List ByteArray).length := by simp only [List.length_cons, List.length_nil]; omega
  refine O.p rfl rfl rfl (Pu.load rfl pl9 rfl (Ld.rd (Ld.own 1 (by exact rfl)) (k := (r1).toNat) e1 rfl rfl)) ?_
  refine O.e rfl rfl rfl (Ef.call1 call125 rfl rfl (fun w hw => l01NamedAny_ok  (([(ByteArray.mk #[115, 105, 110, 103, 108, 101]), (ByteArray.mk #[102, 97, 110, 111]), (ByteArray.mk #[102, 97, 110, 111]), (ByteArray.mk #[97, 102, 102, 105, 110, 101])] : List ByteArray)[(r1).toNat]'e1) w   (nm4 _ (List.getElem_mem _)))) ?_
  rintro _ _ rfl
  refine O.exi (fun pv1 => ?_)
  refine O.exi (fun r2A => ?_)
  refine O.exi (fun r2c => ?_)
  refine O.exi (fun r2 => ?_)
  refine O.sep ?_
  refine O.pur ?_
  rintro ⟨rfl, hpv1_1⟩
  have hDn := hpv1_1
  have hvn := hDn.1
  have hln := hDn.2.2
  refine O.p rfl rfl rfl (Pu.move rfl rfl) ?_
  refine O.p rfl rfl rfl (Pu.extract rfl rfl rfl) ?_
  refine O.p rfl rfl rfl (Pu.extract rfl rfl rfl) ?_
  refine O.e rfl rfl rfl (Ef.alloc rfl zr26 rfl) ?_
  rintro _ _ ⟨b2, rfl, rfl⟩
  refine O.s rfl rfl (Ef.storeAll 0 rfl sz26 rfl rfl rfl rfl (by simp [Value.oneCell']) rfl) ?_
  rintro _ _ rfl
  refine O.p rfl rfl rfl (Pu.assign rfl rfl) ?_
  refine O.nil ?_
  refine X.next ?_
  refine V.seq ?_
  refine V.seq ?_
  refine V.region ?_
  refine O.p rfl rfl rfl (Pu.move rfl rfl) ?_
  refine O.e rfl rfl rfl (Ef.call call92 rfl rfl (Does.pre (fun w hw => hw.sub (Sub.keep 2 rfl (Sub.keep 0 rfl (Sub.keep 0 rfl (Sub.keep 0 rfl (Sub.keep 0 rfl (Sub.nil _))))))) (l01Next_ok _ _ _ s1 (12 : Int) w _   (by first | assumption | omega | (try dsimp only at *; omega)) (by first | assumption | omega | (try dsimp only at *; omega))))) ?_
  rintro _ _ rfl
  refine O.exi (fun r3 => ?_)
  refine O.sep ?_
  refine O.pur ?_
  rintro ⟨rfl, hr3_1, hr3_2, hr3_3⟩
  refine O.p rfl rfl rfl (Pu.eql rfl rfl rfl) ?_
  refine O.nil ?_
  refine X.next ?_
  refine V.condD rfl (fun c1 => ?_) (fun c1 => ?_)
  · skip
    refine V.seq ?_
    refine V.region ?_
    refine O.p rfl rfl rfl (Pu.move rfl rfl) ?_
    refine O.e rfl rfl rfl (Ef.call call75 rfl rfl (Does.pre (fun w hw => hw.sub (Sub.keep 0 rfl (Sub.keep 0 rfl (Sub.keep 0 rfl (Sub.keep 0 rfl (Sub.keep 0 rfl (Sub.nil _))))))) (l01Spoil_ok _ _ _ s1 w _   (by first | assumption | omega | (try dsimp only at *; omega)) (by first | assumption | omega | (try dsimp only at *; omega))))) ?_
    rintro _ _ rfl
    refine O.exi (fun pv2 => ?_)
    refine O.exi (fun r4A => ?_)
    refine O.exi (fun r4c => ?_)
    refine O.exi (fun r4 => ?_)
    refine O.sep ?_
    refine O.pur ?_
    rintro ⟨rfl, hpv2_1, hpv2_2⟩
    refine O.sep ?_
    refine O.s rfl rfl (Ef.storeAll 5 rfl sz26 rfl rfl rfl rfl (by simp [Value.oneCell']) rfl) ?_
    rintro _ _ rfl
    refine O.nil ?_
    refine X.next ?_
    refine V.ret ?_
    refine X.thenRet ?_
    refine X.retCell rfl ag26 sz26 rfl rfl (Ld.whole 5 rfl) ?_
    exact fun w hw => St.mkExi pv2 (St.mkExi r4A (St.mkExi r4c (St.mkExi r4 (St.unsep (St.addPur ⟨rfl, by first | omega | (have := hDr.2.2; omega)⟩ (hw.sub (Sub.keep 0 rfl (Sub.nil _))))))))
  · skip
    refine V.skip ?_
    refine X.next ?_
    refine V.seq ?_
    refine V.drawS mo (by kernel_rfl) (Sub.keep 1 rfl (Sub.keep 1 rfl (Sub.keep 1 rfl (Sub.keep 1 rfl (Sub.nil _))))) (fun hwf => ?_)
    refine D.p 0 rfl rfl rfl rfl rfl rfl (Pu.loadAgg rfl ag26 sz26 rfl rfl (Ld.whole 0 rfl)) ?_
    refine D.p 1 rfl rfl rfl rfl rfl rfl (Pu.move rfl rfl) ?_
    refine D.p 2 rfl rfl rfl rfl rfl rfl (Pu.fieldAddr 0 rfl Tryz.underlying26 rfl sz2 rfl rfl) ?_
    refine D.p 3 rfl rfl rfl rfl rfl rfl (Pu.load rfl pl2 rfl (Ld.blk 0 rfl rfl)) ?_
    refine D.eff hwf (e := 4) rfl rfl rfl rfl (Ef.call call90 rfl rfl (Does.pre (fun w hw => hw.sub (Sub.keep 0 rfl (Sub.keep 0 rfl (Sub.keep 0 rfl (Sub.keep 0 rfl (Sub.keep 0 rfl (Sub.nil _))))))) (l01DrawOrder_ok _ _ _ s1 pv1 w _   (by first | assumption | omega | (try dsimp only at *; omega)) (by first | assumption | omega | (try dsimp only at *; omega)) (by omega)))) rfl rfl rfl ?_
    rintro _ _ rfl hs
    refine ⟨fun w hw => hw.tail.sub (Sub.keep 0 rfl (Sub.keep 0 rfl (Sub.keep 0 rfl (Sub.keep 0 rfl (Sub.nil _))))), ?_⟩
    refine D.exi (fun r5A => ?_)
    refine D.exi (fun r5c => ?_)
    refine D.exi (fun r5 => ?_)
    refine D.sep ?_
    refine D.pur1 ?_
    rintro ⟨rfl, hr5_1⟩
    refine D.sep ?_
    have hol := hr5_1.1
    refine D.eff hwf (e := 5) rfl rfl rfl rfl (Ef.call1 call126 rfl rfl (fun w hw => l01RenamedD_ok  pv1 r2 r5 _ _ _ _ w ((Ld.own 3 (by exact rfl)) w hw) ((Ld.own 0 (by exact rfl)) w hw) (by first | omega | (simp only [tops_len, conts_len, bl, List.length_append, List.length_cons, List.length_nil] at *; omega)) (by first | omega | (simp only [tops_len, conts_len, bl, List.length_append, List.length_cons, List.length_nil] at *; omega)) (by rw [hr5_1.1]; exact hDn.2.1) (by omega) (fun q hq => by have := hr5_1.2.2 q hq; omega))) rfl rfl rfl ?_
    rintro _ _ rfl hs
    refine ⟨fun w hw => hs w hw.tail, ?_⟩
    refine D.exi (fun r6A => ?_)
    refine D.exi (fun r6c => ?_)
    refine D.exi (fun r6 => ?_)
    refine D.sep ?_
    refine D.pur1 ?_
    rintro ⟨rfl, hr6_1, hr6_2⟩
    have hDr := hDn.ren hr5_1 hr6_1
    refine D.effX (Hs' := []) hwf (e := 6) rfl rfl rfl rfl (Ef.storeAll 6 rfl sz26 rfl rfl rfl rfl (by simp [Value.oneCell']) rfl) rfl [] rfl (List.forall_mem_nil _) ?_
    rintro _ _ rfl
    refine ⟨fun w hw => hw.sub (Sub.nil _), ?_⟩
    refine D.done hwf rfl ?_
    refine X.next ?_
    refine V.ret ?_
    refine X.retCell rfl ag26 sz26 rfl rfl (Ld.whole 6 rfl) ?_
    exact fun w hw => St.mkExi pv1 (St.mkExi r6A (St.mkExi r6c (St.mkExi r6 (St.unsep (St.addPur ⟨rfl, by first | omega | (have := hDr.2.2; omega)⟩ (hw.sub (Sub.keep 0 rfl (Sub.nil _))))))))
end Go.Proofs.YtgjfcepnkllklaaGreat
