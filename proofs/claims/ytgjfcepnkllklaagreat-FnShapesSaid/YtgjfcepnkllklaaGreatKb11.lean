/-
  Contracts, part 11.
-/
import Derived.Test.YtgjfcepnkllklaaGreatKb10
set_option linter.unusedVariables false
set_option linter.unusedSimpArgs false
namespace Go.Proofs.YtgjfcepnkllklaaGreat
open Go Go.RowKit Go.Vc Go.Proofs
set_option maxRecDepth 100000 in
set_option maxHeartbeats 1000000 in
theorem FnShapes_ok (code : List UInt8) (codeA : Option Addr) (codec : Nat) (w : World) (hcode : Rd U8C w codeA code) (lcode : code.length ≤ 9223372036854775807) : Does Tryz.prog 3 [.slice codeA code.length codec] w [] (fun r => [.pur (r = .bool true)]) := by
  refine Does.enter Tryz.func3 rfl rfl [(0, .slice codeA code.length codec)] rfl ?_
  refine V.seq ?_
  refine V.region ?_
  refine O.p rfl rfl rfl (Pu.assign rfl rfl) ?_
  refine O.nil ?_
  refine X.next ?_
  refine V.seq ?_
  refine V.seq ?_
  refine V.region ?_
  refine O.p rfl rfl rfl (Pu.move rfl rfl) ?_
  refine O.e rfl rfl rfl (Ef.callP call7 rfl rfl (fun w hw => big_ok  code _ _ w ((Ld.old hcode) w hw) (by first | omega | (simp only [tops_len, conts_len, bl, List.length_append, List.length_cons, List.length_nil] at *; omega)) )) ?_
  rintro _ _ ⟨rfl, rfl⟩
  refine O.nil ?_
  refine X.next ?_
  refine V.condD rfl (fun c1 => ?_) (fun c1 => ?_)
  · skip
    refine V.seq ?_
    refine V.region ?_
    refine O.p rfl rfl rfl (Pu.assign rfl rfl) ?_
    refine O.nil ?_
    refine X.next ?_
    refine V.ret ?_
    refine X.thenRet ?_
    refine X.ret1 rfl rfl ?_
    exact fun w hw => St.retP rfl hw
  · skip
    have lc : code.length ≤ 1048576 := by omega
    refine V.skip ?_
    refine X.next ?_
    refine V.seq ?_
    refine V.region ?_
    refine O.p rfl rfl rfl (Pu.move rfl rfl) ?_
    refine O.e rfl rfl rfl (Ef.call1 call8 rfl rfl (fun w hw => DrawPaschList_ok  code _ _ w ((Ld.old hcode) w hw) (by first | omega | (simp only [tops_len, conts_len, bl, List.length_append, List.length_cons, List.length_nil] at *; omega)) (by first | assumption | omega | (try dsimp only at *; omega)))) ?_
    rintro _ _ rfl
    refine O.exi (fun pv1 => ?_)
    refine O.exi (fun r1A => ?_)
    refine O.exi (fun r1c => ?_)
    refine O.exi (fun r1 => ?_)
    refine O.sep ?_
    refine O.pur ?_
    rintro ⟨rfl, hpv1_1⟩
    refine O.e rfl rfl rfl (Ef.alloc rfl zr26 rfl) ?_
    rintro _ _ ⟨b1, rfl, rfl⟩
    refine O.s rfl rfl (Ef.storeAll 0 rfl sz26 rfl rfl rfl rfl (by simp [Value.oneCell']) rfl) ?_
    rintro _ _ rfl
    refine O.nil ?_
    refine X.next ?_
    refine V.seq ?_
    refine V.region ?_
    refine O.p rfl rfl rfl (Pu.loadAgg rfl ag26 sz26 rfl rfl (Ld.whole 0 rfl)) ?_
    refine O.e rfl rfl rfl (Ef.call1 call9 rfl rfl (fun w hw => implPaschList_ok  pv1 r1 _ _ w ((Ld.own 1 (by exact rfl)) w hw) (by first | omega | (simp only [tops_len, conts_len, bl, List.length_append, List.length_cons, List.length_nil] at *; omega)) )) ?_
    rintro _ _ rfl
    refine O.exi (fun p1A => ?_)
    refine O.exi (fun p1c => ?_)
    refine O.exi (fun p1 => ?_)
    refine O.sep ?_
    refine O.pur ?_
    rintro ⟨rfl, hp1_1, hp1_2⟩
    refine O.sep ?_
    refine O.fact (RowsA.len 1 rfl) (fun hn_p1 => ?_)
    have htl_p1 := tops_len p1
    refine O.p rfl rfl rfl (Pu.move rfl rfl) ?_
    refine O.p rfl rfl rfl (Pu.extract rfl rfl rfl) ?_
    refine O.p rfl rfl rfl (Pu.extract rfl rfl rfl) ?_
    refine O.p rfl rfl rfl (Pu.assign rfl rfl) ?_
    refine O.p rfl rfl rfl (Pu.assign rfl rfl) ?_
    refine O.nil ?_
    refine X.next ?_
    refine V.seq ?_
    refine V.region ?_
    refine O.p rfl rfl rfl (Pu.loadAgg rfl ag26 sz26 rfl rfl (Ld.whole 2 rfl)) ?_
    refine O.e rfl rfl rfl (Ef.call1 call10 rfl rfl (fun w hw => specPaschList_ok  pv1 r1 _ _ w ((Ld.own 3 (by exact rfl)) w hw) (by first | omega | (simp only [tops_len, conts_len, bl, List.length_append, List.length_cons, List.length_nil] at *; omega)) )) ?_
    rintro _ _ rfl
    refine O.exi (fun p2A => ?_)
    refine O.exi (fun p2c => ?_)
    refine O.exi (fun p2 => ?_)
    refine O.sep ?_
    refine O.pur ?_
    rintro ⟨rfl, hp2_1, hp2_2⟩
    refine O.sep ?_
    refine O.fact (RowsA.len 1 rfl) (fun hn_p2 => ?_)
    have htl_p2 := tops_len p2
    have hupl := hp1_1.unique hp2_1
    refine O.p rfl rfl rfl (Pu.move rfl rfl) ?_
    refine O.p rfl rfl rfl (Pu.extract rfl rfl rfl) ?_
    refine O.p rfl rfl rfl (Pu.extract rfl rfl rfl) ?_
    refine O.p rfl rfl rfl (Pu.assign rfl rfl) ?_
    refine O.p rfl rfl rfl (Pu.assign rfl rfl) ?_
    refine O.nil ?_
    refine X.next ?_
    refine V.seq ?_
    refine V.region ?_
    refine O.p rfl rfl rfl (Pu.loadAgg rfl ag26 sz26 rfl rfl (Ld.whole 4 rfl)) ?_
    refine O.e rfl rfl rfl (Ef.call1 call11 rfl rfl (fun w hw => implMitreList_ok  pv1 r1 _ _ w ((Ld.own 5 (by exact rfl)) w hw) (by first | omega | (simp only [tops_len, conts_len, bl, List.length_append, List.length_cons, List.length_nil] at *; omega)) )) ?_
    rintro _ _ rfl
    refine O.exi (fun p3A => ?_)
    refine O.exi (fun p3c => ?_)
    refine O.exi (fun p3 => ?_)
    refine O.sep ?_
    refine O.pur ?_
    rintro ⟨rfl, hp3_1, hp3_2⟩
    refine O.sep ?_
    refine O.fact (RowsA.len 1 rfl) (fun hn_p3 => ?_)
    have htl_p3 := tops_len p3
    refine O.p rfl rfl rfl (Pu.move rfl rfl) ?_
    refine O.p rfl rfl rfl (Pu.extract rfl rfl rfl) ?_
    refine O.p rfl rfl rfl (Pu.extract rfl rfl rfl) ?_
    refine O.p rfl rfl rfl (Pu.assign rfl rfl) ?_
    refine O.p rfl rfl rfl (Pu.assign rfl rfl) ?_
    refine O.nil ?_
    refine X.next ?_
    refine V.seq ?_
    refine V.region ?_
    refine O.p rfl rfl rfl (Pu.loadAgg rfl ag26 sz26 rfl rfl (Ld.whole 6 rfl)) ?_
    refine O.e rfl rfl rfl (Ef.call1 call12 rfl rfl (fun w hw => specMitreList_ok  pv1 r1 _ _ w ((Ld.own 7 (by exact rfl)) w hw) (by first | omega | (simp only [tops_len, conts_len, bl, List.length_append, List.length_cons, List.length_nil] at *; omega)) )) ?_
    rintro _ _ rfl
    refine O.exi (fun p4A => ?_)
    refine O.exi (fun p4c => ?_)
    refine O.exi (fun p4 => ?_)
    refine O.sep ?_
    refine O.pur ?_
    rintro ⟨rfl, hp4_1, hp4_2⟩
    refine O.sep ?_
    refine O.fact (RowsA.len 1 rfl) (fun hn_p4 => ?_)
    have htl_p4 := tops_len p4
    have huml := hp3_1.unique hp4_1
    refine O.p rfl rfl rfl (Pu.move rfl rfl) ?_
    refine O.p rfl rfl rfl (Pu.extract rfl rfl rfl) ?_
    refine O.p rfl rfl rfl (Pu.extract rfl rfl rfl) ?_
    refine O.p rfl rfl rfl (Pu.assign rfl rfl) ?_
    refine O.p rfl rfl rfl (Pu.assign rfl rfl) ?_
    refine O.nil ?_
    refine X.next ?_
    refine V.seq ?_
    refine V.seq ?_
    refine V.region ?_
    refine O.p rfl rfl rfl (Pu.move rfl rfl) ?_
    refine O.p rfl rfl rfl (Pu.move rfl rfl) ?_
    refine O.p rfl rfl rfl (Pu.neq rfl rfl rfl) ?_
    refine O.p rfl rfl rfl (Pu.move rfl rfl) ?_
    refine O.splitN 67 rfl (fun c2 => ?_) (fun c2 => ?_)
    · skip
      refine O.gs rfl rfl rfl rfl rfl rfl ?_
      refine O.gs rfl rfl rfl rfl rfl rfl ?_
      refine O.gs rfl rfl rfl rfl rfl rfl ?_
      refine O.gs rfl rfl rfl rfl rfl rfl ?_
      refine O.p rfl rfl rfl (Pu.pickT rfl rfl rfl) ?_
      refine O.p rfl rfl rfl (Pu.move rfl rfl) ?_
      refine O.gs rfl rfl rfl rfl rfl rfl ?_
      refine O.gs rfl rfl rfl rfl rfl rfl ?_
      refine O.gs rfl rfl rfl rfl rfl rfl ?_
      refine O.p rfl rfl rfl (Pu.pickT rfl rfl rfl) ?_
      refine O.p rfl rfl rfl (Pu.move rfl rfl) ?_
      refine O.gs rfl rfl rfl rfl rfl rfl ?_
      refine O.gs rfl rfl rfl rfl rfl rfl ?_
      refine O.gs rfl rfl rfl rfl rfl rfl ?_
      refine O.gs rfl rfl rfl rfl rfl rfl ?_
      refine O.p rfl rfl rfl (Pu.pickT rfl rfl rfl) ?_
      refine O.nil ?_
      refine X.next ?_
      refine V.condT rfl ?_
      refine V.seq ?_
      refine V.region ?_
      refine O.p rfl rfl rfl (Pu.assign rfl rfl) ?_
      refine O.nil ?_
      refine X.next ?_
      refine V.ret ?_
      refine X.thenRet ?_
      refine X.ret1 rfl rfl ?_
      exact absurd (by first | assumption | rfl | exact ⟨rfl, rfl⟩ | exact ⟨rfl, by assumption⟩ | exact ⟨⟨rfl, by assumption⟩, rfl, by assumption⟩ | omega | (simp only [*]; done) | (rw [rfl])) c2
    · skip
      refine O.gp rfl rfl rfl rfl rfl (Pu.move rfl rfl) ?_
      refine O.gp rfl rfl rfl rfl rfl (Pu.move rfl rfl) ?_
      refine O.ge rfl rfl rfl rfl rfl (Ef.callP call13 rfl rfl (fun w hw => rows5_ok  p1 p2 _ _ _ _ w ((Ld.ll 6 7 (by exact rfl) (by exact rfl)) w hw) ((Ld.ll 4 5 (by exact rfl) (by exact rfl)) w hw) (by first | omega | (simp only [tops_len, conts_len, bl, List.length_append, List.length_cons, List.length_nil] at *; omega)) (by first | omega | (simp only [tops_len, conts_len, bl, List.length_append, List.length_cons, List.length_nil] at *; omega)) )) ?_
      rintro _ _ ⟨rfl, rfl⟩
      refine O.gp rfl rfl rfl rfl rfl (Pu.not rfl rfl) ?_
      refine O.p rfl rfl rfl (Pu.pickF rfl rfl rfl) ?_
      refine O.p rfl rfl rfl (Pu.move rfl rfl) ?_
      refine O.splitN 73 rfl (fun c3 => ?_) (fun c3 => ?_)
      · skip
        refine O.gs rfl rfl rfl rfl rfl rfl ?_
        refine O.gs rfl rfl rfl rfl rfl rfl ?_
        refine O.gs rfl rfl rfl rfl rfl rfl ?_
        refine O.p rfl rfl rfl (Pu.pickT rfl rfl rfl) ?_
        refine O.p rfl rfl rfl (Pu.move rfl rfl) ?_
        refine O.gs rfl rfl rfl rfl rfl rfl ?_
        refine O.gs rfl rfl rfl rfl rfl rfl ?_
        refine O.gs rfl rfl rfl rfl rfl rfl ?_
        refine O.gs rfl rfl rfl rfl rfl rfl ?_
        refine O.p rfl rfl rfl (Pu.pickT rfl rfl rfl) ?_
        refine O.nil ?_
        refine X.next ?_
        refine V.condT rfl ?_
        refine V.seq ?_
        refine V.region ?_
        refine O.p rfl rfl rfl (Pu.assign rfl rfl) ?_
        refine O.nil ?_
        refine X.next ?_
        refine V.ret ?_
        refine X.thenRet ?_
        refine X.ret1 rfl rfl ?_
        exact absurd (by first | assumption | rfl | exact ⟨rfl, rfl⟩ | exact ⟨rfl, by assumption⟩ | exact ⟨⟨rfl, by assumption⟩, rfl, by assumption⟩ | omega | (simp only [*]; done) | (rw [rfl])) c3
      · skip
        refine O.gp rfl rfl rfl rfl rfl (Pu.move rfl rfl) ?_
        refine O.gp rfl rfl rfl rfl rfl (Pu.move rfl rfl) ?_
        refine O.gp rfl rfl rfl rfl rfl (Pu.neq rfl rfl rfl) ?_
        refine O.p rfl rfl rfl (Pu.pickF rfl rfl rfl) ?_
        refine O.p rfl rfl rfl (Pu.move rfl rfl) ?_
        refine O.splitN 78 rfl (fun c4 => ?_) (fun c4 => ?_)
        · skip
          refine O.gs rfl rfl rfl rfl rfl rfl ?_
          refine O.gs rfl rfl rfl rfl rfl rfl ?_
          refine O.gs rfl rfl rfl rfl rfl rfl ?_
          refine O.gs rfl rfl rfl rfl rfl rfl ?_
          refine O.p rfl rfl rfl (Pu.pickT rfl rfl rfl) ?_
          refine O.nil ?_
          refine X.next ?_
          refine V.condT rfl ?_
          refine V.seq ?_
          refine V.region ?_
          refine O.p rfl rfl rfl (Pu.assign rfl rfl) ?_
          refine O.nil ?_
          refine X.next ?_
          refine V.ret ?_
          refine X.thenRet ?_
          refine X.ret1 rfl rfl ?_
          exact absurd (by first | assumption | rfl | exact ⟨rfl, rfl⟩ | exact ⟨rfl, by assumption⟩ | exact ⟨⟨rfl, by assumption⟩, rfl, by assumption⟩ | omega | (simp only [*]; done) | (rw [rfl])) c4
        · skip
          refine O.gp rfl rfl rfl rfl rfl (Pu.move rfl rfl) ?_
          refine O.gp rfl rfl rfl rfl rfl (Pu.move rfl rfl) ?_
          refine O.ge rfl rfl rfl rfl rfl (Ef.callP call13 rfl rfl (fun w hw => rows5_ok  p3 p4 _ _ _ _ w ((Ld.ll 2 3 (by exact rfl) (by exact rfl)) w hw) ((Ld.ll 0 1 (by exact rfl) (by exact rfl)) w hw) (by first | omega | (simp only [tops_len, conts_len, bl, List.length_append, List.length_cons, List.length_nil] at *; omega)) (by first | omega | (simp only [tops_len, conts_len, bl, List.length_append, List.length_cons, List.length_nil] at *; omega)) )) ?_
          rintro _ _ ⟨rfl, rfl⟩
          refine O.gp rfl rfl rfl rfl rfl (Pu.not rfl rfl) ?_
          refine O.p rfl rfl rfl (Pu.pickF rfl rfl rfl) ?_
          refine O.nil ?_
          refine X.next ?_
          refine V.condNot rfl (fun c5 => ?_) (fun c5 => ?_)
          · skip
            refine V.seq ?_
            refine V.region ?_
            refine O.p rfl rfl rfl (Pu.assign rfl rfl) ?_
            refine O.nil ?_
            refine X.next ?_
            refine V.ret ?_
            refine X.thenRet ?_
            refine X.ret1 rfl rfl ?_
            exact absurd (by first | assumption | rfl | exact ⟨rfl, rfl⟩ | exact ⟨rfl, by assumption⟩ | exact ⟨⟨rfl, by assumption⟩, rfl, by assumption⟩ | omega | (simp only [*]; done) | (rw [rfl])) c5
          · skip
            refine V.skip ?_
            refine X.next ?_
            refine V.seq ?_
            refine V.seq ?_
            refine V.region ?_
            refine O.p rfl rfl rfl (Pu.move rfl rfl) ?_
            refine O.p rfl rfl rfl (Pu.eql rfl rfl rfl) ?_
            refine O.nil ?_
            refine X.next ?_
            refine V.cut2 [] (Ent.cons (t := 0) rfl (Ent.nil _)) (Sub.keep 0 rfl (Sub.keep 0 rfl (Sub.keep 0 rfl (Sub.keep 0 rfl (Sub.keep 0 rfl (Sub.keep 0 rfl (Sub.keep 0 rfl (Sub.keep 0 rfl (Sub.keep 0 rfl (Sub.keep 0 rfl (Sub.nil _))))))))))) ?_ ?_
            · skip
              refine V.condD rfl (fun c6 => ?_) (fun c6 => ?_)
              · skip
                have hS := Decidable.byContradiction (fun h => absurd (if_neg h ▸ c6) (by decide))
                refine V.seq ?_
                refine V.region ?_
                refine O.p rfl rfl rfl (Pu.loadAgg rfl ag26 sz26 rfl rfl (Ld.whole 8 rfl)) ?_
                refine O.e rfl rfl rfl (Ef.call1 call14 rfl rfl (fun w hw => implCountPasch_ok  pv1 r1 _ _ w ((Ld.own 9 (by exact rfl)) w hw) (by first | omega | (simp only [tops_len, conts_len, bl, List.length_append, List.length_cons, List.length_nil] at *; omega)) )) ?_
                rintro _ _ rfl
                refine O.exi (fun n1 => ?_)
                refine O.pur ?_
                rintro ⟨rfl, hn1_1⟩
                have hA := cntP_of hS hn1_1 (hp1_1.1 hS)
                have hA2 := conts_len p1
                have hA3 := tops_len p1
                refine O.p rfl rfl rfl (Pu.move rfl rfl) ?_
                refine O.p rfl rfl rfl (Pu.extract rfl rfl rfl) ?_
                refine O.p rfl rfl rfl (Pu.extract rfl rfl rfl) ?_
                refine O.p rfl rfl rfl (Pu.assign rfl rfl) ?_
                refine O.p rfl rfl rfl (Pu.assign rfl rfl) ?_
                refine O.nil ?_
                refine X.next ?_
                refine V.seq ?_
                refine V.region ?_
                refine O.p rfl rfl rfl (Pu.loadAgg rfl ag26 sz26 rfl rfl (Ld.whole 8 rfl)) ?_
                refine O.e rfl rfl rfl (Ef.call1 call15 rfl rfl (fun w hw => implCountMitres_ok  pv1 r1 _ _ w ((Ld.own 9 (by exact rfl)) w hw) (by first | omega | (simp only [tops_len, conts_len, bl, List.length_append, List.length_cons, List.length_nil] at *; omega)) )) ?_
                rintro _ _ rfl
                refine O.exi (fun n2 => ?_)
                refine O.pur ?_
                rintro ⟨rfl, hn2_1⟩
                have hB := cntM_of hS hn2_1 (hp3_1.1 hS)
                have hB2 := conts_len p3
                have hB3 := tops_len p3
                refine O.p rfl rfl rfl (Pu.move rfl rfl) ?_
                refine O.p rfl rfl rfl (Pu.extract rfl rfl rfl) ?_
                refine O.p rfl rfl rfl (Pu.extract rfl rfl rfl) ?_
                refine O.p rfl rfl rfl (Pu.assign rfl rfl) ?_
                refine O.p rfl rfl rfl (Pu.assign rfl rfl) ?_
                refine O.nil ?_
                refine X.next ?_
                refine V.seq ?_
                refine V.region ?_
                refine O.p rfl rfl rfl (Pu.loadAgg rfl ag26 sz26 rfl rfl (Ld.whole 8 rfl)) ?_
                refine O.e rfl rfl rfl (Ef.call1 call16 rfl rfl (fun w hw => implPaschAtPoints_ok  pv1 r1 _ _ w ((Ld.own 9 (by exact rfl)) w hw) (by first | omega | (simp only [tops_len, conts_len, bl, List.length_append, List.length_cons, List.length_nil] at *; omega)) )) ?_
                rintro _ _ rfl
                refine O.exi (fun o1A => ?_)
                refine O.exi (fun o1c => ?_)
                refine O.exi (fun o1 => ?_)
                refine O.sep ?_
                refine O.pur ?_
                rintro ⟨rfl, ho1_1, ho1_2⟩
                have hC := par_sum hS ho1_1 (hp1_1.1 hS)
                have hC2 := (par_bd hS ho1_1).2 _ (hp1_1.1 hS)
                have hC3 := (par_bd hS ho1_1).1
                have hC4 := hp1_2
                refine O.p rfl rfl rfl (Pu.move rfl rfl) ?_
                refine O.p rfl rfl rfl (Pu.extract rfl rfl rfl) ?_
                refine O.p rfl rfl rfl (Pu.extract rfl rfl rfl) ?_
                refine O.p rfl rfl rfl (Pu.assign rfl rfl) ?_
                refine O.p rfl rfl rfl (Pu.assign rfl rfl) ?_
                refine O.nil ?_
                refine X.next ?_
                refine V.seq ?_
                refine V.region ?_
                refine O.p rfl rfl rfl (Pu.loadAgg rfl ag26 sz26 rfl rfl (Ld.whole 9 rfl)) ?_
                refine O.e rfl rfl rfl (Ef.call1 call17 rfl rfl (fun w hw => implMitreCentres_ok  pv1 r1 _ _ w ((Ld.own 10 (by exact rfl)) w hw) (by first | omega | (simp only [tops_len, conts_len, bl, List.length_append, List.length_cons, List.length_nil] at *; omega)) )) ?_
                rintro _ _ rfl
                refine O.exi (fun o2A => ?_)
                refine O.exi (fun o2c => ?_)
                refine O.exi (fun o2 => ?_)
                refine O.sep ?_
                refine O.pur ?_
                rintro ⟨rfl, ho2_1⟩
                have hD := mit_sum hS ho2_1 (hp3_1.1 hS)
                have hD2 := mcr_bd hS ho2_1 (hp3_1.1 hS)
                have hD3 := ho2_1.len
                have hD4 := hp3_2
                refine O.p rfl rfl rfl (Pu.move rfl rfl) ?_
                refine O.p rfl rfl rfl (Pu.extract rfl rfl rfl) ?_
                refine O.p rfl rfl rfl (Pu.extract rfl rfl rfl) ?_
                refine O.p rfl rfl rfl (Pu.assign rfl rfl) ?_
                refine O.p rfl rfl rfl (Pu.assign rfl rfl) ?_
                refine O.nil ?_
                refine X.next ?_
                refine V.seq ?_
                refine V.region ?_
                refine O.p rfl rfl rfl (Pu.move rfl rfl) ?_
                refine O.p rfl rfl rfl (Pu.neq rfl rfl rfl) ?_
                refine O.p rfl rfl rfl (Pu.move rfl rfl) ?_
                refine O.splitN 108 rfl (fun c7 => ?_) (fun c7 => ?_)
                · skip
                  refine O.gs rfl rfl rfl rfl rfl rfl ?_
                  refine O.gs rfl rfl rfl rfl rfl rfl ?_
                  refine O.p rfl rfl rfl (Pu.pickT rfl rfl rfl) ?_
                  refine O.p rfl rfl rfl (Pu.move rfl rfl) ?_
                  refine O.gs rfl rfl rfl rfl rfl rfl ?_
                  refine O.gs rfl rfl rfl rfl rfl rfl ?_
                  refine O.p rfl rfl rfl (Pu.pickT rfl rfl rfl) ?_
                  refine O.p rfl rfl rfl (Pu.move rfl rfl) ?_
                  refine O.gs rfl rfl rfl rfl rfl rfl ?_
                  refine O.gs rfl rfl rfl rfl rfl rfl ?_
                  refine O.p rfl rfl rfl (Pu.pickT rfl rfl rfl) ?_
                  refine O.p rfl rfl rfl (Pu.move rfl rfl) ?_
                  refine O.gs rfl rfl rfl rfl rfl rfl ?_
                  refine O.gs rfl rfl rfl rfl rfl rfl ?_
                  refine O.gs rfl rfl rfl rfl rfl rfl ?_
                  refine O.gs rfl rfl rfl rfl rfl rfl ?_
                  refine O.p rfl rfl rfl (Pu.pickT rfl rfl rfl) ?_
                  refine O.p rfl rfl rfl (Pu.move rfl rfl) ?_
                  refine O.gs rfl rfl rfl rfl rfl rfl ?_
                  refine O.gs rfl rfl rfl rfl rfl rfl ?_
                  refine O.gs rfl rfl rfl rfl rfl rfl ?_
                  refine O.gs rfl rfl rfl rfl rfl rfl ?_
                  refine O.p rfl rfl rfl (Pu.pickT rfl rfl rfl) ?_
                  refine O.p rfl rfl rfl (Pu.move rfl rfl) ?_
                  refine O.gs rfl rfl rfl rfl rfl rfl ?_
                  refine O.gs rfl rfl rfl rfl rfl rfl ?_
                  refine O.gs rfl rfl rfl rfl rfl rfl ?_
                  refine O.gs rfl rfl rfl rfl rfl rfl ?_
                  refine O.gs rfl rfl rfl rfl rfl rfl ?_
                  refine O.p rfl rfl rfl (Pu.pickT rfl rfl rfl) ?_
                  refine O.p rfl rfl rfl (Pu.move rfl rfl) ?_
                  refine O.gs rfl rfl rfl rfl rfl rfl ?_
                  refine O.gs rfl rfl rfl rfl rfl rfl ?_
                  refine O.gs rfl rfl rfl rfl rfl rfl ?_
                  refine O.gs rfl rfl rfl rfl rfl rfl ?_
                  refine O.p rfl rfl rfl (Pu.pickT rfl rfl rfl) ?_
                  refine O.nil ?_
                  refine X.next ?_
                  refine V.condT rfl ?_
                  refine V.seq ?_
                  refine V.region ?_
                  refine O.p rfl rfl rfl (Pu.assign rfl rfl) ?_
                  refine O.nil ?_
                  refine X.next ?_
                  refine V.ret ?_
                  refine X.thenRet ?_
                  refine X.thenRet ?_
                  refine X.ret1 rfl rfl ?_
                  exact absurd (by first | assumption | rfl | exact ⟨rfl, rfl⟩ | exact ⟨rfl, by assumption⟩ | exact ⟨⟨rfl, by assumption⟩, rfl, by assumption⟩ | omega | (simp only [*]; done) | (rw [rfl])) c7
                · skip
                  refine O.gp rfl rfl rfl rfl rfl (Pu.move rfl rfl) ?_
                  refine O.gp rfl rfl rfl rfl rfl (Pu.neq rfl rfl rfl) ?_
                  refine O.p rfl rfl rfl (Pu.pickF rfl rfl rfl) ?_
                  refine O.p rfl rfl rfl (Pu.move rfl rfl) ?_
                  refine O.splitN 112 rfl (fun c8 => ?_) (fun c8 => ?_)
                  · skip
                    refine O.gs rfl rfl rfl rfl rfl rfl ?_
                    refine O.gs rfl rfl rfl rfl rfl rfl ?_
                    refine O.p rfl rfl rfl (Pu.pickT rfl rfl rfl) ?_
                    refine O.p rfl rfl rfl (Pu.move rfl rfl) ?_
                    refine O.gs rfl rfl rfl rfl rfl rfl ?_
                    refine O.gs rfl rfl rfl rfl rfl rfl ?_
                    refine O.p rfl rfl rfl (Pu.pickT rfl rfl rfl) ?_
                    refine O.p rfl rfl rfl (Pu.move rfl rfl) ?_
                    refine O.gs rfl rfl rfl rfl rfl rfl ?_
                    refine O.gs rfl rfl rfl rfl rfl rfl ?_
                    refine O.gs rfl rfl rfl rfl rfl rfl ?_
                    refine O.gs rfl rfl rfl rfl rfl rfl ?_
                    refine O.p rfl rfl rfl (Pu.pickT rfl rfl rfl) ?_
                    refine O.p rfl rfl rfl (Pu.move rfl rfl) ?_
                    refine O.gs rfl rfl rfl rfl rfl rfl ?_
                    refine O.gs rfl rfl rfl rfl rfl rfl ?_
                    refine O.gs rfl rfl rfl rfl rfl rfl ?_
                    refine O.gs rfl rfl rfl rfl rfl rfl ?_
                    refine O.p rfl rfl rfl (Pu.pickT rfl rfl rfl) ?_
                    refine O.p rfl rfl rfl (Pu.move rfl rfl) ?_
                    refine O.gs rfl rfl rfl rfl rfl rfl ?_
                    refine O.gs rfl rfl rfl rfl rfl rfl ?_
                    refine O.gs rfl rfl rfl rfl rfl rfl ?_
                    refine O.gs rfl rfl rfl rfl rfl rfl ?_
                    refine O.gs rfl rfl rfl rfl rfl rfl ?_
                    refine O.p rfl rfl rfl (Pu.pickT rfl rfl rfl) ?_
                    refine O.p rfl rfl rfl (Pu.move rfl rfl) ?_
                    refine O.gs rfl rfl rfl rfl rfl rfl ?_
                    refine O.gs rfl rfl rfl rfl rfl rfl ?_
                    refine O.gs rfl rfl rfl rfl rfl rfl ?_
                    refine O.gs rfl rfl rfl rfl rfl rfl ?_
                    refine O.p rfl rfl rfl (Pu.pickT rfl rfl rfl) ?_
                    refine O.nil ?_
                    refine X.next ?_
                    refine V.condT rfl ?_
                    refine V.seq ?_
                    refine V.region ?_
                    refine O.p rfl rfl rfl (Pu.assign rfl rfl) ?_
                    refine O.nil ?_
                    refine X.next ?_
                    refine V.ret ?_
                    refine X.thenRet ?_
                    refine X.thenRet ?_
                    refine X.ret1 rfl rfl ?_
                    exact absurd (by first | assumption | rfl | exact ⟨rfl, rfl⟩ | exact ⟨rfl, by assumption⟩ | exact ⟨⟨rfl, by assumption⟩, rfl, by assumption⟩ | omega | (simp only [*]; done) | (rw [rfl])) c8
                  · skip
                    refine O.gp rfl rfl rfl rfl rfl (Pu.move rfl rfl) ?_
                    refine O.gp rfl rfl rfl rfl rfl (Pu.neq rfl rfl rfl) ?_
                    refine O.p rfl rfl rfl (Pu.pickF rfl rfl rfl) ?_
                    refine O.p rfl rfl rfl (Pu.move rfl rfl) ?_
                    refine O.splitN 116 rfl (fun c9 => ?_) (fun c9 => ?_)
                    · skip
                      refine O.gs rfl rfl rfl rfl rfl rfl ?_
                      refine O.gs rfl rfl rfl rfl rfl rfl ?_
                      refine O.p rfl rfl rfl (Pu.pickT rfl rfl rfl) ?_
                      refine O.p rfl rfl rfl (Pu.move rfl rfl) ?_
                      refine O.gs rfl rfl rfl rfl rfl rfl ?_
                      refine O.gs rfl rfl rfl rfl rfl rfl ?_
                      refine O.gs rfl rfl rfl rfl rfl rfl ?_
                      refine O.gs rfl rfl rfl rfl rfl rfl ?_
                      refine O.p rfl rfl rfl (Pu.pickT rfl rfl rfl) ?_
                      refine O.p rfl rfl rfl (Pu.move rfl rfl) ?_
                      refine O.gs rfl rfl rfl rfl rfl rfl ?_
                      refine O.gs rfl rfl rfl rfl rfl rfl ?_
                      refine O.gs rfl rfl rfl rfl rfl rfl ?_
                      refine O.gs rfl rfl rfl rfl rfl rfl ?_
                      refine O.p rfl rfl rfl (Pu.pickT rfl rfl rfl) ?_
                      refine O.p rfl rfl rfl (Pu.move rfl rfl) ?_
                      refine O.gs rfl rfl rfl rfl rfl rfl ?_
                      refine O.gs rfl rfl rfl rfl rfl rfl ?_
                      refine O.gs rfl rfl rfl rfl rfl rfl ?_
                      refine O.gs rfl rfl rfl rfl rfl rfl ?_
                      refine O.gs rfl rfl rfl rfl rfl rfl ?_
                      refine O.p rfl rfl rfl (Pu.pickT rfl rfl rfl) ?_
                      refine O.p rfl rfl rfl (Pu.move rfl rfl) ?_
                      refine O.gs rfl rfl rfl rfl rfl rfl ?_
                      refine O.gs rfl rfl rfl rfl rfl rfl ?_
                      refine O.gs rfl rfl rfl rfl rfl rfl ?_
                      refine O.gs rfl rfl rfl rfl rfl rfl ?_
                      refine O.p rfl rfl rfl (Pu.pickT rfl rfl rfl) ?_
                      refine O.nil ?_
                      refine X.next ?_
                      refine V.condT rfl ?_
                      refine V.seq ?_
                      refine V.region ?_
                      refine O.p rfl rfl rfl (Pu.assign rfl rfl) ?_
                      refine O.nil ?_
                      refine X.next ?_
                      refine V.ret ?_
                      refine X.thenRet ?_
                      refine X.thenRet ?_
                      refine X.ret1 rfl rfl ?_
                      exact absurd (by first | assumption | rfl | exact ⟨rfl, rfl⟩ | exact ⟨rfl, by assumption⟩ | exact ⟨⟨rfl, by assumption⟩, rfl, by assumption⟩ | omega | (simp only [*]; done) | (rw [rfl])) c9
                    · skip
                      refine O.gp rfl rfl rfl rfl rfl (Pu.move rfl rfl) ?_
                      refine O.gp rfl rfl rfl rfl rfl (Pu.neq rfl rfl rfl) ?_
                      refine O.p rfl rfl rfl (Pu.pickF rfl rfl rfl) ?_
                      refine O.p rfl rfl rfl (Pu.move rfl rfl) ?_
                      refine O.splitN 120 rfl (fun c10 => ?_) (fun c10 => ?_)
                      · skip
                        refine O.gs rfl rfl rfl rfl rfl rfl ?_
                        refine O.gs rfl rfl rfl rfl rfl rfl ?_
                        refine O.gs rfl rfl rfl rfl rfl rfl ?_
                        refine O.gs rfl rfl rfl rfl rfl rfl ?_
                        refine O.p rfl rfl rfl (Pu.pickT rfl rfl rfl) ?_
                        refine O.p rfl rfl rfl (Pu.move rfl rfl) ?_
                        refine O.gs rfl rfl rfl rfl rfl rfl ?_
                        refine O.gs rfl rfl rfl rfl rfl rfl ?_
                        refine O.gs rfl rfl rfl rfl rfl rfl ?_
                        refine O.gs rfl rfl rfl rfl rfl rfl ?_
                        refine O.p rfl rfl rfl (Pu.pickT rfl rfl rfl) ?_
                        refine O.p rfl rfl rfl (Pu.move rfl rfl) ?_
                        refine O.gs rfl rfl rfl rfl rfl rfl ?_
                        refine O.gs rfl rfl rfl rfl rfl rfl ?_
                        refine O.gs rfl rfl rfl rfl rfl rfl ?_
                        refine O.gs rfl rfl rfl rfl rfl rfl ?_
                        refine O.gs rfl rfl rfl rfl rfl rfl ?_
                        refine O.p rfl rfl rfl (Pu.pickT rfl rfl rfl) ?_
                        refine O.p rfl rfl rfl (Pu.move rfl rfl) ?_
                        refine O.gs rfl rfl rfl rfl rfl rfl ?_
                        refine O.gs rfl rfl rfl rfl rfl rfl ?_
                        refine O.gs rfl rfl rfl rfl rfl rfl ?_
                        refine O.gs rfl rfl rfl rfl rfl rfl ?_
                        refine O.p rfl rfl rfl (Pu.pickT rfl rfl rfl) ?_
                        refine O.nil ?_
                        refine X.next ?_
                        refine V.condT rfl ?_
                        refine V.seq ?_
                        refine V.region ?_
                        refine O.p rfl rfl rfl (Pu.assign rfl rfl) ?_
                        refine O.nil ?_
                        refine X.next ?_
                        refine V.ret ?_
                        refine X.thenRet ?_
                        refine X.thenRet ?_
                        refine X.ret1 rfl rfl ?_
                        exact absurd (by first | assumption | rfl | exact ⟨rfl, rfl⟩ | exact ⟨rfl, by assumption⟩ | exact ⟨⟨rfl, by assumption⟩, rfl, by assumption⟩ | omega | (simp only [*]; done) | (rw [rfl])) c10
                      · skip
                        refine O.gp rfl rfl rfl rfl rfl (Pu.move rfl rfl) ?_
                        refine O.gp rfl rfl rfl rfl rfl (Pu.move rfl rfl) ?_
                        refine O.gp rfl rfl rfl rfl rfl (Pu.len rfl Tryz.underlying28 rfl) ?_
                        refine O.gp rfl rfl rfl rfl rfl (Pu.neq rfl rfl rfl) ?_
                        refine O.p rfl rfl rfl (Pu.pickF rfl rfl rfl) ?_
                        refine O.p rfl rfl rfl (Pu.move rfl rfl) ?_
                        refine O.splitN 126 rfl (fun c11 => ?_) (fun c11 => ?_)
                        · skip
                          refine O.gs rfl rfl rfl rfl rfl rfl ?_
                          refine O.gs rfl rfl rfl rfl rfl rfl ?_
                          refine O.gs rfl rfl rfl rfl rfl rfl ?_
                          refine O.gs rfl rfl rfl rfl rfl rfl ?_
                          refine O.p rfl rfl rfl (Pu.pickT rfl rfl rfl) ?_
                          refine O.p rfl rfl rfl (Pu.move rfl rfl) ?_
                          refine O.gs rfl rfl rfl rfl rfl rfl ?_
                          refine O.gs rfl rfl rfl rfl rfl rfl ?_
                          refine O.gs rfl rfl rfl rfl rfl rfl ?_
                          refine O.gs rfl rfl rfl rfl rfl rfl ?_
                          refine O.gs rfl rfl rfl rfl rfl rfl ?_
                          refine O.p rfl rfl rfl (Pu.pickT rfl rfl rfl) ?_
                          refine O.p rfl rfl rfl (Pu.move rfl rfl) ?_
                          refine O.gs rfl rfl rfl rfl rfl rfl ?_
                          refine O.gs rfl rfl rfl rfl rfl rfl ?_
                          refine O.gs rfl rfl rfl rfl rfl rfl ?_
                          refine O.gs rfl rfl rfl rfl rfl rfl ?_
                          refine O.p rfl rfl rfl (Pu.pickT rfl rfl rfl) ?_
                          refine O.nil ?_
                          refine X.next ?_
                          refine V.condT rfl ?_
                          refine V.seq ?_
                          refine V.region ?_
                          refine O.p rfl rfl rfl (Pu.assign rfl rfl) ?_
                          refine O.nil ?_
                          refine X.next ?_
                          refine V.ret ?_
                          refine X.thenRet ?_
                          refine X.thenRet ?_
                          refine X.ret1 rfl rfl ?_
                          exact absurd (by first | assumption | rfl | exact ⟨rfl, rfl⟩ | exact ⟨rfl, by assumption⟩ | exact ⟨⟨rfl, by assumption⟩, rfl, by assumption⟩ | omega | (simp only [*]; done) | (rw [rfl])) c11
                        · skip
                          refine O.gp rfl rfl rfl rfl rfl (Pu.move rfl rfl) ?_
                          refine O.gp rfl rfl rfl rfl rfl (Pu.move rfl rfl) ?_
                          refine O.gp rfl rfl rfl rfl rfl (Pu.len rfl Tryz.underlying28 rfl) ?_
                          refine O.gp rfl rfl rfl rfl rfl (Pu.neq rfl rfl rfl) ?_
                          refine O.p rfl rfl rfl (Pu.pickF rfl rfl rfl) ?_
                          refine O.p rfl rfl rfl (Pu.move rfl rfl) ?_
                          refine O.splitN 132 rfl (fun c12 => ?_) (fun c12 => ?_)
                          · skip
                            refine O.gs rfl rfl rfl rfl rfl rfl ?_
                            refine O.gs rfl rfl rfl rfl rfl rfl ?_
                            refine O.gs rfl rfl rfl rfl rfl rfl ?_
                            refine O.gs rfl rfl rfl rfl rfl rfl ?_
                            refine O.gs rfl rfl rfl rfl rfl rfl ?_
                            refine O.p rfl rfl rfl (Pu.pickT rfl rfl rfl) ?_
                            refine O.p rfl rfl rfl (Pu.move rfl rfl) ?_
                            refine O.gs rfl rfl rfl rfl rfl rfl ?_
                            refine O.gs rfl rfl rfl rfl rfl rfl ?_
                            refine O.gs rfl rfl rfl rfl rfl rfl ?_
                            refine O.gs rfl rfl rfl rfl rfl rfl ?_
                            refine O.p rfl rfl rfl (Pu.pickT rfl rfl rfl) ?_
                            refine O.nil ?_
                            refine X.next ?_
                            refine V.condT rfl ?_
                            refine V.seq ?_
                            refine V.region ?_
                            refine O.p rfl rfl rfl (Pu.assign rfl rfl) ?_
                            refine O.nil ?_
                            refine X.next ?_
                            refine V.ret ?_
                            refine X.thenRet ?_
                            refine X.thenRet ?_
                            refine X.ret1 rfl rfl ?_
                            exact absurd (by first | assumption | rfl | exact ⟨rfl, rfl⟩ | exact ⟨rfl, by assumption⟩ | exact ⟨⟨rfl, by assumption⟩, rfl, by assumption⟩ | omega | (simp only [*]; done) | (rw [rfl])) c12
                          · skip
                            refine O.gp rfl rfl rfl rfl rfl (Pu.move rfl rfl) ?_
                            refine O.ge rfl rfl rfl rfl rfl (Ef.callP call18 rfl rfl (fun w hw => sum_ok  o1 _ _ w ((Ld.own 1 (by exact rfl)) w hw) (by first | omega | (simp only [tops_len, conts_len, bl, List.length_append, List.length_cons, List.length_nil] at *; omega)) (fun x hx => by have := hC2 x hx; omega) (by omega))) ?_
                            rintro _ _ ⟨rfl, rfl⟩
                            refine O.gp rfl rfl rfl rfl rfl (Pu.move rfl rfl) ?_
                            refine O.gp rfl rfl rfl rfl rfl (Pu.mul64 rfl (by omega) rfl rfl rfl) ?_
                            refine O.gp rfl rfl rfl rfl rfl (Pu.neq rfl rfl rfl) ?_
                            refine O.p rfl rfl rfl (Pu.pickF rfl rfl rfl) ?_
                            refine O.p rfl rfl rfl (Pu.move rfl rfl) ?_
                            refine O.splitN 139 rfl (fun c13 => ?_) (fun c13 => ?_)
                            · skip
                              refine O.gs rfl rfl rfl rfl rfl rfl ?_
                              refine O.gs rfl rfl rfl rfl rfl rfl ?_
                              refine O.gs rfl rfl rfl rfl rfl rfl ?_
                              refine O.gs rfl rfl rfl rfl rfl rfl ?_
                              refine O.p rfl rfl rfl (Pu.pickT rfl rfl rfl) ?_
                              refine O.nil ?_
                              refine X.next ?_
                              refine V.condT rfl ?_
                              refine V.seq ?_
                              refine V.region ?_
                              refine O.p rfl rfl rfl (Pu.assign rfl rfl) ?_
                              refine O.nil ?_
                              refine X.next ?_
                              refine V.ret ?_
                              refine X.thenRet ?_
                              refine X.thenRet ?_
                              refine X.ret1 rfl rfl ?_
                              exact absurd (by first | assumption | rfl | exact ⟨rfl, rfl⟩ | exact ⟨rfl, by assumption⟩ | exact ⟨⟨rfl, by assumption⟩, rfl, by assumption⟩ | omega | (simp only [*]; done) | (rw [rfl])) c13
                            · skip
                              refine O.gp rfl rfl rfl rfl rfl (Pu.move rfl rfl) ?_
                              refine O.ge rfl rfl rfl rfl rfl (Ef.callP call18 rfl rfl (fun w hw => sum_ok  o2 _ _ w ((Ld.own 0 (by exact rfl)) w hw) (by first | omega | (simp only [tops_len, conts_len, bl, List.length_append, List.length_cons, List.length_nil] at *; omega)) (fun x hx => by have := hD2 x hx; omega) (by omega))) ?_
                              rintro _ _ ⟨rfl, rfl⟩
                              refine O.gp rfl rfl rfl rfl rfl (Pu.move rfl rfl) ?_
                              refine O.gp rfl rfl rfl rfl rfl (Pu.neq rfl rfl rfl) ?_
                              refine O.p rfl rfl rfl (Pu.pickF rfl rfl rfl) ?_
                              refine O.nil ?_
                              refine X.next ?_
                              refine V.condNot rfl (fun c14 => ?_) (fun c14 => ?_)
                              · skip
                                refine V.seq ?_
                                refine V.region ?_
                                refine O.p rfl rfl rfl (Pu.assign rfl rfl) ?_
                                refine O.nil ?_
                                refine X.next ?_
                                refine V.ret ?_
                                refine X.thenRet ?_
                                refine X.thenRet ?_
                                refine X.ret1 rfl rfl ?_
                                exact absurd (by first | assumption | rfl | exact ⟨rfl, rfl⟩ | exact ⟨rfl, by assumption⟩ | exact ⟨⟨rfl, by assumption⟩, rfl, by assumption⟩ | omega | (simp only [*]; done) | (rw [rfl])) c14
                              · skip
                                refine V.skip ?_
                                exact X.cut (Ent.nil _) (Ent.cons (t := 0) rfl (Ent.nil _)) (Sub.keep 2 rfl (Sub.keep 2 rfl (Sub.keep 2 rfl (Sub.keep 2 rfl (Sub.keep 2 rfl (Sub.keep 2 rfl (Sub.keep 2 rfl (Sub.keep 2 rfl (Sub.keep 2 rfl (Sub.keep 2 rfl (Sub.nil _)))))))))))
              · skip
                refine V.skip ?_
                exact X.cut (Ent.nil _) (Ent.cons (t := 0) rfl (Ent.nil _)) (Sub.keep 0 rfl (Sub.keep 0 rfl (Sub.keep 0 rfl (Sub.keep 0 rfl (Sub.keep 0 rfl (Sub.keep 0 rfl (Sub.keep 0 rfl (Sub.keep 0 rfl (Sub.keep 0 rfl (Sub.keep 0 rfl (Sub.nil _)))))))))))
            · skip
              refine X.next ?_
              refine V.seq ?_
              refine V.region ?_
              refine O.p rfl rfl rfl (Pu.move rfl rfl) ?_
              refine O.e rfl rfl rfl (Ef.call1 call19 rfl rfl (fun w hw => DrawCountPasch_ok  code _ _ w ((Ld.old hcode) w hw) (by first | omega | (simp only [tops_len, conts_len, bl, List.length_append, List.length_cons, List.length_nil] at *; omega)) (by first | assumption | omega | (try dsimp only at *; omega)))) ?_
              rintro _ _ rfl
              refine O.exi (fun pv2 => ?_)
              refine O.exi (fun r2A => ?_)
              refine O.exi (fun r2c => ?_)
              refine O.exi (fun r2 => ?_)
              refine O.sep ?_
              refine O.pur ?_
              rintro ⟨rfl, hpv2_1⟩
              refine O.e rfl rfl rfl (Ef.alloc rfl zr26 rfl) ?_
              rintro _ _ ⟨b2, rfl, rfl⟩
              refine O.s rfl rfl (Ef.storeAll 0 rfl sz26 rfl rfl rfl rfl (by simp [Value.oneCell']) rfl) ?_
              rintro _ _ rfl
              refine O.nil ?_
              refine X.next ?_
              refine V.seq ?_
              refine V.region ?_
              refine O.p rfl rfl rfl (Pu.loadAgg rfl ag26 sz26 rfl rfl (Ld.whole 0 rfl)) ?_
              refine O.e rfl rfl rfl (Ef.call1 call14 rfl rfl (fun w hw => implCountPasch_ok  pv2 r2 _ _ w ((Ld.own 1 (by exact rfl)) w hw) (by first | omega | (simp only [tops_len, conts_len, bl, List.length_append, List.length_cons, List.length_nil] at *; omega)) )) ?_
              rintro _ _ rfl
              refine O.exi (fun n3 => ?_)
              refine O.pur ?_
              rintro ⟨rfl, hn3_1⟩
              refine O.p rfl rfl rfl (Pu.move rfl rfl) ?_
              refine O.p rfl rfl rfl (Pu.extract rfl rfl rfl) ?_
              refine O.p rfl rfl rfl (Pu.extract rfl rfl rfl) ?_
              refine O.p rfl rfl rfl (Pu.assign rfl rfl) ?_
              refine O.p rfl rfl rfl (Pu.assign rfl rfl) ?_
              refine O.nil ?_
              refine X.next ?_
              refine V.seq ?_
              refine V.region ?_
              refine O.p rfl rfl rfl (Pu.loadAgg rfl ag26 sz26 rfl rfl (Ld.whole 0 rfl)) ?_
              refine O.e rfl rfl rfl (Ef.call1 call20 rfl rfl (fun w hw => specCountPasch_ok  pv2 r2 _ _ w ((Ld.own 1 (by exact rfl)) w hw) (by first | omega | (simp only [tops_len, conts_len, bl, List.length_append, List.length_cons, List.length_nil] at *; omega)) )) ?_
              rintro _ _ rfl
              refine O.exi (fun n4 => ?_)
              refine O.pur ?_
              rintro ⟨rfl, hn4_1⟩
              have hucp := hn3_1.unique hn4_1
              refine O.p rfl rfl rfl (Pu.move rfl rfl) ?_
              refine O.p rfl rfl rfl (Pu.extract rfl rfl rfl) ?_
              refine O.p rfl rfl rfl (Pu.extract rfl rfl rfl) ?_
              refine O.p rfl rfl rfl (Pu.assign rfl rfl) ?_
              refine O.p rfl rfl rfl (Pu.assign rfl rfl) ?_
              refine O.nil ?_
              refine X.next ?_
              refine V.seq ?_
              refine V.region ?_
              refine O.p rfl rfl rfl (Pu.move rfl rfl) ?_
              refine O.e rfl rfl rfl (Ef.call1 call21 rfl rfl (fun w hw => DrawCountMitres_ok  code _ _ w ((Ld.old hcode) w hw) (by first | omega | (simp only [tops_len, conts_len, bl, List.length_append, List.length_cons, List.length_nil] at *; omega)) (by first | assumption | omega | (try dsimp only at *; omega)))) ?_
              rintro _ _ rfl
              refine O.exi (fun pv3 => ?_)
              refine O.exi (fun r3A => ?_)
              refine O.exi (fun r3c => ?_)
              refine O.exi (fun r3 => ?_)
              refine O.sep ?_
              refine O.pur ?_
              rintro ⟨rfl, hpv3_1⟩
              refine O.e rfl rfl rfl (Ef.alloc rfl zr26 rfl) ?_
              rintro _ _ ⟨b3, rfl, rfl⟩
              refine O.s rfl rfl (Ef.storeAll 0 rfl sz26 rfl rfl rfl rfl (by simp [Value.oneCell']) rfl) ?_
              rintro _ _ rfl
              refine O.nil ?_
              refine X.next ?_
              refine V.seq ?_
              refine V.region ?_
              refine O.p rfl rfl rfl (Pu.loadAgg rfl ag26 sz26 rfl rfl (Ld.whole 0 rfl)) ?_
              refine O.e rfl rfl rfl (Ef.call1 call15 rfl rfl (fun w hw => implCountMitres_ok  pv3 r3 _ _ w ((Ld.own 1 (by exact rfl)) w hw) (by first | omega | (simp only [tops_len, conts_len, bl, List.length_append, List.length_cons, List.length_nil] at *; omega)) )) ?_
              rintro _ _ rfl
              refine O.exi (fun n5 => ?_)
              refine O.pur ?_
              rintro ⟨rfl, hn5_1⟩
              refine O.p rfl rfl rfl (Pu.move rfl rfl) ?_
              refine O.p rfl rfl rfl (Pu.extract rfl rfl rfl) ?_
              refine O.p rfl rfl rfl (Pu.extract rfl rfl rfl) ?_
              refine O.p rfl rfl rfl (Pu.assign rfl rfl) ?_
              refine O.p rfl rfl rfl (Pu.assign rfl rfl) ?_
              refine O.nil ?_
              refine X.next ?_
              refine V.seq ?_
              refine V.region ?_
              refine O.p rfl rfl rfl (Pu.loadAgg rfl ag26 sz26 rfl rfl (Ld.whole 0 rfl)) ?_
              refine O.e rfl rfl rfl (Ef.call1 call22 rfl rfl (fun w hw => specCountMitres_ok  pv3 r3 _ _ w ((Ld.own 1 (by exact rfl)) w hw) (by first | omega | (simp only [tops_len, conts_len, bl, List.length_append, List.length_cons, List.length_nil] at *; omega)) )) ?_
              rintro _ _ rfl
              refine O.exi (fun n6 => ?_)
              refine O.pur ?_
              rintro ⟨rfl, hn6_1⟩
              have hucm := hn5_1.unique hn6_1
              refine O.p rfl rfl rfl (Pu.move rfl rfl) ?_
              refine O.p rfl rfl rfl (Pu.extract rfl rfl rfl) ?_
              refine O.p rfl rfl rfl (Pu.extract rfl rfl rfl) ?_
              refine O.p rfl rfl rfl (Pu.assign rfl rfl) ?_
              refine O.p rfl rfl rfl (Pu.assign rfl rfl) ?_
              refine O.nil ?_
              refine X.next ?_
              refine V.seq ?_
              refine V.region ?_
              refine O.p rfl rfl rfl (Pu.move rfl rfl) ?_
              refine O.e rfl rfl rfl (Ef.call1 call23 rfl rfl (fun w hw => DrawMitreCentres_ok  code _ _ w ((Ld.old hcode) w hw) (by first | omega | (simp only [tops_len, conts_len, bl, List.length_append, List.length_cons, List.length_nil] at *; omega)) (by first | assumption | omega | (try dsimp only at *; omega)))) ?_
              rintro _ _ rfl
              refine O.exi (fun pv4 => ?_)
              refine O.exi (fun r4A => ?_)
              refine O.exi (fun r4c => ?_)
              refine O.exi (fun r4 => ?_)
              refine O.sep ?_
              refine O.pur ?_
              rintro ⟨rfl, hpv4_1⟩
              refine O.e rfl rfl rfl (Ef.alloc rfl zr26 rfl) ?_
              rintro _ _ ⟨b4, rfl, rfl⟩
              refine O.s rfl rfl (Ef.storeAll 0 rfl sz26 rfl rfl rfl rfl (by simp [Value.oneCell']) rfl) ?_
              rintro _ _ rfl
              refine O.nil ?_
              refine X.next ?_
              refine V.seq ?_
              refine V.region ?_
              refine O.p rfl rfl rfl (Pu.loadAgg rfl ag26 sz26 rfl rfl (Ld.whole 0 rfl)) ?_
              refine O.e rfl rfl rfl (Ef.call1 call17 rfl rfl (fun w hw => implMitreCentres_ok  pv4 r4 _ _ w ((Ld.own 1 (by exact rfl)) w hw) (by first | omega | (simp only [tops_len, conts_len, bl, List.length_append, List.length_cons, List.length_nil] at *; omega)) )) ?_
              rintro _ _ rfl
              refine O.exi (fun o3A => ?_)
              refine O.exi (fun o3c => ?_)
              refine O.exi (fun o3 => ?_)
              refine O.sep ?_
              refine O.pur ?_
              rintro ⟨rfl, ho3_1⟩
              have hlo3 := ho3_1.len
              refine O.p rfl rfl rfl (Pu.move rfl rfl) ?_
              refine O.p rfl rfl rfl (Pu.extract rfl rfl rfl) ?_
              refine O.p rfl rfl rfl (Pu.extract rfl rfl rfl) ?_
              refine O.p rfl rfl rfl (Pu.assign rfl rfl) ?_
              refine O.p rfl rfl rfl (Pu.assign rfl rfl) ?_
              refine O.nil ?_
              refine X.next ?_
              refine V.seq ?_
              refine V.region ?_
              refine O.p rfl rfl rfl (Pu.loadAgg rfl ag26 sz26 rfl rfl (Ld.whole 1 rfl)) ?_
              refine O.e rfl rfl rfl (Ef.call1 call24 rfl rfl (fun w hw => specMitreCentres_ok  pv4 r4 _ _ w ((Ld.own 2 (by exact rfl)) w hw) (by first | omega | (simp only [tops_len, conts_len, bl, List.length_append, List.length_cons, List.length_nil] at *; omega)) )) ?_
              rintro _ _ rfl
              refine O.exi (fun o4A => ?_)
              refine O.exi (fun o4c => ?_)
              refine O.exi (fun o4 => ?_)
              refine O.sep ?_
              refine O.pur ?_
              rintro ⟨rfl, ho4_1⟩
              have humc := ho3_1.unique ho4_1
              have hlo4 := ho4_1.len
              refine O.p rfl rfl rfl (Pu.move rfl rfl) ?_
              refine O.p rfl rfl rfl (Pu.extract rfl rfl rfl) ?_
              refine O.p rfl rfl rfl (Pu.extract rfl rfl rfl) ?_
              refine O.p rfl rfl rfl (Pu.assign rfl rfl) ?_
              refine O.p rfl rfl rfl (Pu.assign rfl rfl) ?_
              refine O.nil ?_
              refine X.next ?_
              refine V.seq ?_
              refine V.region ?_
              refine O.p rfl rfl rfl (Pu.move rfl rfl) ?_
              refine O.e rfl rfl rfl (Ef.call1 call25 rfl rfl (fun w hw => DrawPaschAtPoints_ok  code _ _ w ((Ld.old hcode) w hw) (by first | omega | (simp only [tops_len, conts_len, bl, List.length_append, List.length_cons, List.length_nil] at *; omega)) (by first | assumption | omega | (try dsimp only at *; omega)))) ?_
              rintro _ _ rfl
              refine O.exi (fun pv5 => ?_)
              refine O.exi (fun r5A => ?_)
              refine O.exi (fun r5c => ?_)
              refine O.exi (fun r5 => ?_)
              refine O.sep ?_
              refine O.pur ?_
              rintro ⟨rfl, hpv5_1⟩
              refine O.e rfl rfl rfl (Ef.alloc rfl zr26 rfl) ?_
              rintro _ _ ⟨b5, rfl, rfl⟩
              refine O.s rfl rfl (Ef.storeAll 0 rfl sz26 rfl rfl rfl rfl (by simp [Value.oneCell']) rfl) ?_
              rintro _ _ rfl
              refine O.nil ?_
              refine X.next ?_
              refine V.seq ?_
              refine V.region ?_
              refine O.p rfl rfl rfl (Pu.loadAgg rfl ag26 sz26 rfl rfl (Ld.whole 0 rfl)) ?_
              refine O.e rfl rfl rfl (Ef.call1 call16 rfl rfl (fun w hw => implPaschAtPoints_ok  pv5 r5 _ _ w ((Ld.own 1 (by exact rfl)) w hw) (by first | omega | (simp only [tops_len, conts_len, bl, List.length_append, List.length_cons, List.length_nil] at *; omega)) )) ?_
              rintro _ _ rfl
              refine O.exi (fun o5A => ?_)
              refine O.exi (fun o5c => ?_)
              refine O.exi (fun o5 => ?_)
              refine O.sep ?_
              refine O.pur ?_
              rintro ⟨rfl, ho5_1, ho5_2⟩
              refine O.p rfl rfl rfl (Pu.move rfl rfl) ?_
              refine O.p rfl rfl rfl (Pu.extract rfl rfl rfl) ?_
              refine O.p rfl rfl rfl (Pu.extract rfl rfl rfl) ?_
              refine O.p rfl rfl rfl (Pu.assign rfl rfl) ?_
              refine O.p rfl rfl rfl (Pu.assign rfl rfl) ?_
              refine O.nil ?_
              refine X.next ?_
              refine V.seq ?_
              refine V.region ?_
              refine O.p rfl rfl rfl (Pu.loadAgg rfl ag26 sz26 rfl rfl (Ld.whole 1 rfl)) ?_
              refine O.e rfl rfl rfl (Ef.call1 call26 rfl rfl (fun w hw => specPaschAtPoints_ok  pv5 r5 _ _ w ((Ld.own 2 (by exact rfl)) w hw) (by first | omega | (simp only [tops_len, conts_len, bl, List.length_append, List.length_cons, List.length_nil] at *; omega)) )) ?_
              rintro _ _ rfl
              refine O.exi (fun o6A => ?_)
              refine O.exi (fun o6c => ?_)
              refine O.exi (fun o6 => ?_)
              refine O.sep ?_
              refine O.pur ?_
              rintro ⟨rfl, ho6_1, ho6_2⟩
              have hupa := ho5_1.unique ho6_1
              refine O.p rfl rfl rfl (Pu.move rfl rfl) ?_
              refine O.p rfl rfl rfl (Pu.extract rfl rfl rfl) ?_
              refine O.p rfl rfl rfl (Pu.extract rfl rfl rfl) ?_
              refine O.p rfl rfl rfl (Pu.assign rfl rfl) ?_
              refine O.p rfl rfl rfl (Pu.assign rfl rfl) ?_
              refine O.nil ?_
              refine X.next ?_
              refine V.seq ?_
              refine V.region ?_
              refine O.p rfl rfl rfl (Pu.move rfl rfl) ?_
              refine O.p rfl rfl rfl (Pu.move rfl rfl) ?_
              refine O.p rfl rfl rfl (Pu.eql rfl rfl rfl) ?_
              refine O.p rfl rfl rfl (Pu.move rfl rfl) ?_
              refine O.splitD 196 rfl (fun c15 => ?_) (fun c15 => ?_)
              · skip
                refine O.gp rfl rfl rfl rfl rfl (Pu.move rfl rfl) ?_
                refine O.gp rfl rfl rfl rfl rfl (Pu.move rfl rfl) ?_
                refine O.gp rfl rfl rfl rfl rfl (Pu.eql rfl rfl rfl) ?_
                refine O.p rfl rfl rfl (Pu.pickT rfl rfl rfl) ?_
                refine O.p rfl rfl rfl (Pu.move rfl rfl) ?_
                refine O.splitD 201 rfl (fun c16 => ?_) (fun c16 => ?_)
                · skip
                  refine O.gp rfl rfl rfl rfl rfl (Pu.move rfl rfl) ?_
                  refine O.gp rfl rfl rfl rfl rfl (Pu.move rfl rfl) ?_
                  refine O.gp rfl rfl rfl rfl rfl (Pu.eql rfl rfl rfl) ?_
                  refine O.p rfl rfl rfl (Pu.pickT rfl rfl rfl) ?_
                  refine O.p rfl rfl rfl (Pu.move rfl rfl) ?_
                  refine O.splitD 206 rfl (fun c17 => ?_) (fun c17 => ?_)
                  · skip
                    refine O.gp rfl rfl rfl rfl rfl (Pu.move rfl rfl) ?_
                    refine O.gp rfl rfl rfl rfl rfl (Pu.move rfl rfl) ?_
                    refine O.gp rfl rfl rfl rfl rfl (Pu.eql rfl rfl rfl) ?_
                    refine O.p rfl rfl rfl (Pu.pickT rfl rfl rfl) ?_
                    refine O.p rfl rfl rfl (Pu.move rfl rfl) ?_
                    refine O.splitD 211 rfl (fun c18 => ?_) (fun c18 => ?_)
                    · skip
                      refine O.gp rfl rfl rfl rfl rfl (Pu.move rfl rfl) ?_
                      refine O.gp rfl rfl rfl rfl rfl (Pu.move rfl rfl) ?_
                      refine O.gp rfl rfl rfl rfl rfl (Pu.eql rfl rfl rfl) ?_
                      refine O.p rfl rfl rfl (Pu.pickT rfl rfl rfl) ?_
                      refine O.p rfl rfl rfl (Pu.move rfl rfl) ?_
                      refine O.splitD 216 rfl (fun c19 => ?_) (fun c19 => ?_)
                      · skip
                        refine O.gp rfl rfl rfl rfl rfl (Pu.move rfl rfl) ?_
                        refine O.gp rfl rfl rfl rfl rfl (Pu.move rfl rfl) ?_
                        refine O.ge rfl rfl rfl rfl rfl (Ef.callP call27 rfl rfl (fun w hw => likeInts_ok  o3 o4 _ _ _ _ w ((Ld.own 5 (by exact rfl)) w hw) ((Ld.own 4 (by exact rfl)) w hw) (by first | omega | (simp only [tops_len, conts_len, bl, List.length_append, List.length_cons, List.length_nil] at *; omega)) (by first | omega | (simp only [tops_len, conts_len, bl, List.length_append, List.length_cons, List.length_nil] at *; omega)) )) ?_
                        rintro _ _ ⟨rfl, rfl⟩
                        refine O.p rfl rfl rfl (Pu.pickT rfl rfl rfl) ?_
                        refine O.p rfl rfl rfl (Pu.move rfl rfl) ?_
                        refine O.splitD 221 rfl (fun c20 => ?_) (fun c20 => ?_)
                        · skip
                          refine O.gp rfl rfl rfl rfl rfl (Pu.move rfl rfl) ?_
                          refine O.gp rfl rfl rfl rfl rfl (Pu.move rfl rfl) ?_
                          refine O.gp rfl rfl rfl rfl rfl (Pu.eql rfl rfl rfl) ?_
                          refine O.p rfl rfl rfl (Pu.pickT rfl rfl rfl) ?_
                          refine O.p rfl rfl rfl (Pu.move rfl rfl) ?_
                          refine O.splitD 226 rfl (fun c21 => ?_) (fun c21 => ?_)
                          · skip
                            refine O.gp rfl rfl rfl rfl rfl (Pu.move rfl rfl) ?_
                            refine O.gp rfl rfl rfl rfl rfl (Pu.move rfl rfl) ?_
                            refine O.ge rfl rfl rfl rfl rfl (Ef.callP call27 rfl rfl (fun w hw => likeInts_ok  o5 o6 _ _ _ _ w ((Ld.own 1 (by exact rfl)) w hw) ((Ld.own 0 (by exact rfl)) w hw) (by first | omega | (simp only [tops_len, conts_len, bl, List.length_append, List.length_cons, List.length_nil] at *; omega)) (by first | omega | (simp only [tops_len, conts_len, bl, List.length_append, List.length_cons, List.length_nil] at *; omega)) )) ?_
                            rintro _ _ ⟨rfl, rfl⟩
                            refine O.p rfl rfl rfl (Pu.pickT rfl rfl rfl) ?_
                            refine O.p rfl rfl rfl (Pu.assign rfl rfl) ?_
                            refine O.nil ?_
                            refine X.next ?_
                            refine V.ret ?_
                            refine X.ret1 rfl rfl ?_
                            exact fun w hw => St.retP (by rw [decide_eq_true hupa]) hw
                          · skip
                            refine O.gs rfl rfl rfl rfl rfl rfl ?_
                            refine O.gs rfl rfl rfl rfl rfl rfl ?_
                            refine O.gs rfl rfl rfl rfl rfl rfl ?_
                            refine O.p rfl rfl rfl (Pu.pickF rfl rfl rfl) ?_
                            refine O.p rfl rfl rfl (Pu.assign rfl rfl) ?_
                            refine O.nil ?_
                            refine X.next ?_
                            refine V.ret ?_
                            refine X.ret1 rfl rfl ?_
                            exact absurd (by first | assumption | rfl | exact ⟨rfl, rfl⟩ | exact ⟨rfl, by assumption⟩ | exact ⟨⟨rfl, by assumption⟩, rfl, by assumption⟩ | omega | (simp only [*]; done) | (rw [rfl])) c21
                        · skip
                          refine O.gs rfl rfl rfl rfl rfl rfl ?_
                          refine O.gs rfl rfl rfl rfl rfl rfl ?_
                          refine O.gs rfl rfl rfl rfl rfl rfl ?_
                          refine O.p rfl rfl rfl (Pu.pickF rfl rfl rfl) ?_
                          refine O.p rfl rfl rfl (Pu.move rfl rfl) ?_
                          refine O.gs rfl rfl rfl rfl rfl rfl ?_
                          refine O.gs rfl rfl rfl rfl rfl rfl ?_
                          refine O.gs rfl rfl rfl rfl rfl rfl ?_
                          refine O.p rfl rfl rfl (Pu.pickF rfl rfl rfl) ?_
                          refine O.p rfl rfl rfl (Pu.assign rfl rfl) ?_
                          refine O.nil ?_
                          refine X.next ?_
                          refine V.ret ?_
                          refine X.ret1 rfl rfl ?_
                          exact absurd (by first | assumption | rfl | exact ⟨rfl, rfl⟩ | exact ⟨rfl, by assumption⟩ | exact ⟨⟨rfl, by assumption⟩, rfl, by assumption⟩ | omega | (simp only [*]; done) | (rw [rfl])) c20
                      · skip
                        refine O.gs rfl rfl rfl rfl rfl rfl ?_
                        refine O.gs rfl rfl rfl rfl rfl rfl ?_
                        refine O.gs rfl rfl rfl rfl rfl rfl ?_
                        refine O.p rfl rfl rfl (Pu.pickF rfl rfl rfl) ?_
                        refine O.p rfl rfl rfl (Pu.move rfl rfl) ?_
                        refine O.gs rfl rfl rfl rfl rfl rfl ?_
                        refine O.gs rfl rfl rfl rfl rfl rfl ?_
                        refine O.gs rfl rfl rfl rfl rfl rfl ?_
                        refine O.p rfl rfl rfl (Pu.pickF rfl rfl rfl) ?_
                        refine O.p rfl rfl rfl (Pu.move rfl rfl) ?_
                        refine O.gs rfl rfl rfl rfl rfl rfl ?_
                        refine O.gs rfl rfl rfl rfl rfl rfl ?_
                        refine O.gs rfl rfl rfl rfl rfl rfl ?_
                        refine O.p rfl rfl rfl (Pu.pickF rfl rfl rfl) ?_
                        refine O.p rfl rfl rfl (Pu.assign rfl rfl) ?_
                        refine O.nil ?_
                        refine X.next ?_
                        refine V.ret ?_
                        refine X.ret1 rfl rfl ?_
                        exact absurd (by first | assumption | rfl | exact ⟨rfl, rfl⟩ | exact ⟨rfl, by assumption⟩ | exact ⟨⟨rfl, by assumption⟩, rfl, by assumption⟩ | omega | (simp only [*]; done) | (rw [rfl])) c19
                    · skip
                      refine O.gs rfl rfl rfl rfl rfl rfl ?_
                      refine O.gs rfl rfl rfl rfl rfl rfl ?_
                      refine O.gs rfl rfl rfl rfl rfl rfl ?_
                      refine O.p rfl rfl rfl (Pu.pickF rfl rfl rfl) ?_
                      refine O.p rfl rfl rfl (Pu.move rfl rfl) ?_
                      refine O.gs rfl rfl rfl rfl rfl rfl ?_
                      refine O.gs rfl rfl rfl rfl rfl rfl ?_
                      refine O.gs rfl rfl rfl rfl rfl rfl ?_
                      refine O.p rfl rfl rfl (Pu.pickF rfl rfl rfl) ?_
                      refine O.p rfl rfl rfl (Pu.move rfl rfl) ?_
                      refine O.gs rfl rfl rfl rfl rfl rfl ?_
                      refine O.gs rfl rfl rfl rfl rfl rfl ?_
                      refine O.gs rfl rfl rfl rfl rfl rfl ?_
                      refine O.p rfl rfl rfl (Pu.pickF rfl rfl rfl) ?_
                      refine O.p rfl rfl rfl (Pu.move rfl rfl) ?_
                      refine O.gs rfl rfl rfl rfl rfl rfl ?_
                      refine O.gs rfl rfl rfl rfl rfl rfl ?_
                      refine O.gs rfl rfl rfl rfl rfl rfl ?_
                      refine O.p rfl rfl rfl (Pu.pickF rfl rfl rfl) ?_
                      refine O.p rfl rfl rfl (Pu.assign rfl rfl) ?_
                      refine O.nil ?_
                      refine X.next ?_
                      refine V.ret ?_
                      refine X.ret1 rfl rfl ?_
                      exact absurd (by first | assumption | rfl | exact ⟨rfl, rfl⟩ | exact ⟨rfl, by assumption⟩ | exact ⟨⟨rfl, by assumption⟩, rfl, by assumption⟩ | omega | (simp only [*]; done) | (rw [rfl])) c18
                  · skip
                    refine O.gs rfl rfl rfl rfl rfl rfl ?_
                    refine O.gs rfl rfl rfl rfl rfl rfl ?_
                    refine O.gs rfl rfl rfl rfl rfl rfl ?_
                    refine O.p rfl rfl rfl (Pu.pickF rfl rfl rfl) ?_
                    refine O.p rfl rfl rfl (Pu.move rfl rfl) ?_
                    refine O.gs rfl rfl rfl rfl rfl rfl ?_
                    refine O.gs rfl rfl rfl rfl rfl rfl ?_
                    refine O.gs rfl rfl rfl rfl rfl rfl ?_
                    refine O.p rfl rfl rfl (Pu.pickF rfl rfl rfl) ?_
                    refine O.p rfl rfl rfl (Pu.move rfl rfl) ?_
                    refine O.gs rfl rfl rfl rfl rfl rfl ?_
                    refine O.gs rfl rfl rfl rfl rfl rfl ?_
                    refine O.gs rfl rfl rfl rfl rfl rfl ?_
                    refine O.p rfl rfl rfl (Pu.pickF rfl rfl rfl) ?_
                    refine O.p rfl rfl rfl (Pu.move rfl rfl) ?_
                    refine O.gs rfl rfl rfl rfl rfl rfl ?_
                    refine O.gs rfl rfl rfl rfl rfl rfl ?_
                    refine O.gs rfl rfl rfl rfl rfl rfl ?_
                    refine O.p rfl rfl rfl (Pu.pickF rfl rfl rfl) ?_
                    refine O.p rfl rfl rfl (Pu.move rfl rfl) ?_
                    refine O.gs rfl rfl rfl rfl rfl rfl ?_
                    refine O.gs rfl rfl rfl rfl rfl rfl ?_
                    refine O.gs rfl rfl rfl rfl rfl rfl ?_
                    refine O.p rfl rfl rfl (Pu.pickF rfl rfl rfl) ?_
                    refine O.p rfl rfl rfl (Pu.assign rfl rfl) ?_
                    refine O.nil ?_
                    refine X.next ?_
                    refine V.ret ?_
                    refine X.ret1 rfl rfl ?_
                    exact absurd (by first | assumption | rfl | exact ⟨rfl, rfl⟩ | exact ⟨rfl, by assumption⟩ | exact ⟨⟨rfl, by assumption⟩, rfl, by assumption⟩ | omega | (simp only [*]; done) | (rw [rfl])) c17
                · skip
                  refine O.gs rfl rfl rfl rfl rfl rfl ?_
                  refine O.gs rfl rfl rfl rfl rfl rfl ?_
                  refine O.gs rfl rfl rfl rfl rfl rfl ?_
                  refine O.p rfl rfl rfl (Pu.pickF rfl rfl rfl) ?_
                  refine O.p rfl rfl rfl (Pu.move rfl rfl) ?_
                  refine O.gs rfl rfl rfl rfl rfl rfl ?_
                  refine O.gs rfl rfl rfl rfl rfl rfl ?_
                  refine O.gs rfl rfl rfl rfl rfl rfl ?_
                  refine O.p rfl rfl rfl (Pu.pickF rfl rfl rfl) ?_
                  refine O.p rfl rfl rfl (Pu.move rfl rfl) ?_
                  refine O.gs rfl rfl rfl rfl rfl rfl ?_
                  refine O.gs rfl rfl rfl rfl rfl rfl ?_
                  refine O.gs rfl rfl rfl rfl rfl rfl ?_
                  refine O.p rfl rfl rfl (Pu.pickF rfl rfl rfl) ?_
                  refine O.p rfl rfl rfl (Pu.move rfl rfl) ?_
                  refine O.gs rfl rfl rfl rfl rfl rfl ?_
                  refine O.gs rfl rfl rfl rfl rfl rfl ?_
                  refine O.gs rfl rfl rfl rfl rfl rfl ?_
                  refine O.p rfl rfl rfl (Pu.pickF rfl rfl rfl) ?_
                  refine O.p rfl rfl rfl (Pu.move rfl rfl) ?_
                  refine O.gs rfl rfl rfl rfl rfl rfl ?_
                  refine O.gs rfl rfl rfl rfl rfl rfl ?_
                  refine O.gs rfl rfl rfl rfl rfl rfl ?_
                  refine O.p rfl rfl rfl (Pu.pickF rfl rfl rfl) ?_
                  refine O.p rfl rfl rfl (Pu.move rfl rfl) ?_
                  refine O.gs rfl rfl rfl rfl rfl rfl ?_
                  refine O.gs rfl rfl rfl rfl rfl rfl ?_
                  refine O.gs rfl rfl rfl rfl rfl rfl ?_
                  refine O.p rfl rfl rfl (Pu.pickF rfl rfl rfl) ?_
                  refine O.p rfl rfl rfl (Pu.assign rfl rfl) ?_
                  refine O.nil ?_
                  refine X.next ?_
                  refine V.ret ?_
                  refine X.ret1 rfl rfl ?_
                  exact absurd (by first | assumption | rfl | exact ⟨rfl, rfl⟩ | exact ⟨rfl, by assumption⟩ | exact ⟨⟨rfl, by assumption⟩, rfl, by assumption⟩ | omega | (simp only [*]; done) | (rw [rfl])) c16
              · skip
                refine O.gs rfl rfl rfl rfl rfl rfl ?_
                refine O.gs rfl rfl rfl rfl rfl rfl ?_
                refine O.gs rfl rfl rfl rfl rfl rfl ?_
                refine O.p rfl rfl rfl (Pu.pickF rfl rfl rfl) ?_
                refine O.p rfl rfl rfl (Pu.move rfl rfl) ?_
                refine O.gs rfl rfl rfl rfl rfl rfl ?_
                refine O.gs rfl rfl rfl rfl rfl rfl ?_
                refine O.gs rfl rfl rfl rfl rfl rfl ?_
                refine O.p rfl rfl rfl (Pu.pickF rfl rfl rfl) ?_
                refine O.p rfl rfl rfl (Pu.move rfl rfl) ?_
                refine O.gs rfl rfl rfl rfl rfl rfl ?_
                refine O.gs rfl rfl rfl rfl rfl rfl ?_
                refine O.gs rfl rfl rfl rfl rfl rfl ?_
                refine O.p rfl rfl rfl (Pu.pickF rfl rfl rfl) ?_
                refine O.p rfl rfl rfl (Pu.move rfl rfl) ?_
                refine O.gs rfl rfl rfl rfl rfl rfl ?_
                refine O.gs rfl rfl rfl rfl rfl rfl ?_
                refine O.gs rfl rfl rfl rfl rfl rfl ?_
                refine O.p rfl rfl rfl (Pu.pickF rfl rfl rfl) ?_
                refine O.p rfl rfl rfl (Pu.move rfl rfl) ?_
                refine O.gs rfl rfl rfl rfl rfl rfl ?_
                refine O.gs rfl rfl rfl rfl rfl rfl ?_
                refine O.gs rfl rfl rfl rfl rfl rfl ?_
                refine O.p rfl rfl rfl (Pu.pickF rfl rfl rfl) ?_
                refine O.p rfl rfl rfl (Pu.move rfl rfl) ?_
                refine O.gs rfl rfl rfl rfl rfl rfl ?_
                refine O.gs rfl rfl rfl rfl rfl rfl ?_
                refine O.gs rfl rfl rfl rfl rfl rfl ?_
                refine O.p rfl rfl rfl (Pu.pickF rfl rfl rfl) ?_
                refine O.p rfl rfl rfl (Pu.move rfl rfl) ?_
                refine O.gs rfl rfl rfl rfl rfl rfl ?_
                refine O.gs rfl rfl rfl rfl rfl rfl ?_
                refine O.gs rfl rfl rfl rfl rfl rfl ?_
                refine O.p rfl rfl rfl (Pu.pickF rfl rfl rfl) ?_
                refine O.p rfl rfl rfl (Pu.assign rfl rfl) ?_
                refine O.nil ?_
                refine X.next ?_
                refine V.ret ?_
                refine X.ret1 rfl rfl ?_
                exact absurd (by first | assumption | rfl | exact ⟨rfl, rfl⟩ | exact ⟨rfl, by assumption⟩ | exact ⟨⟨rfl, by assumption⟩, rfl, by assumption⟩ | omega | (simp only [*]; done) | (rw [rfl])) c15
end Go.Proofs.YtgjfcepnkllklaaGreat
