/-
  Contracts, part 12.
-/
import Derived.Test.YtgjfcepnkllklaaGreatKb11
set_option linter.unusedVariables false
set_option linter.unusedSimpArgs false
namespace Go.Proofs.YtgjfcepnkllklaaGreat
open Go Go.RowKit Go.Vc Go.Proofs
set_option maxRecDepth 100000 in
set_option maxHeartbeats 1000000 in
theorem FnFixing_ok (code : List UInt8) (codeA : Option Addr) (codec : Nat) (w : World) (hcode : Rd U8C w codeA code) (lcode : code.length ≤ 9223372036854775807) : Does Tryz.prog 5 [.slice codeA code.length codec] w [] (fun r => [.pur (r = .bool true)]) := by
  refine Does.enter Tryz.func5 rfl rfl [(0, .slice codeA code.length codec)] rfl ?_
  refine V.seq ?_
  refine V.region ?_
  refine O.p rfl rfl rfl (Pu.assign rfl rfl) ?_
  refine O.nil ?_
  refine X.next ?_
  refine V.seq ?_
  refine V.seq ?_
  refine V.region ?_
  refine O.p rfl rfl rfl (Pu.move rfl rfl) ?_
  refine O.e rfl rfl rfl (Ef.callP call7 rfl rfl (fun w hw => big_ok  code _ _ w ((Ld.old hcode) w hw) (by first | omega | (simp only [tops_len, conts_len, bl, List.length_append, List.length_cons, List.length_nil] at *; omega)) )) ?_
  rintro _ _ ⟨rfl, rfl⟩
  refine O.nil ?_
  refine X.next ?_
  refine V.condD rfl (fun c1 => ?_) (fun c1 => ?_)
  · skip
    refine V.seq ?_
    refine V.region ?_
    refine O.p rfl rfl rfl (Pu.assign rfl rfl) ?_
    refine O.nil ?_
    refine X.next ?_
    refine V.ret ?_
    refine X.thenRet ?_
    refine X.ret1 rfl rfl ?_
    exact fun w hw => St.retP rfl hw
  · skip
    have lc : code.length ≤ 1048576 := by omega
    refine V.skip ?_
    refine X.next ?_
    refine V.seq ?_
    refine V.region ?_
    refine O.p rfl rfl rfl (Pu.move rfl rfl) ?_
    refine O.e rfl rfl rfl (Ef.call1 call40 rfl rfl (fun w hw => DrawFixes_ok  code _ _ w ((Ld.old hcode) w hw) (by first | omega | (simp only [tops_len, conts_len, bl, List.length_append, List.length_cons, List.length_nil] at *; omega)) (by first | assumption | omega | (try dsimp only at *; omega)))) ?_
    rintro _ _ rfl
    refine O.exi (fun pv1 => ?_)
    refine O.exi (fun r1A => ?_)
    refine O.exi (fun r1c => ?_)
    refine O.exi (fun r1 => ?_)
    refine O.sep ?_
    refine O.pur ?_
    rintro ⟨rfl, hpv1_1⟩
    refine O.e rfl rfl rfl (Ef.alloc rfl zr26 rfl) ?_
    rintro _ _ ⟨b1, rfl, rfl⟩
    refine O.s rfl rfl (Ef.storeAll 0 rfl sz26 rfl rfl rfl rfl (by simp [Value.oneCell']) rfl) ?_
    rintro _ _ rfl
    refine O.nil ?_
    refine X.next ?_
    refine V.seq ?_
    refine V.region ?_
    refine O.p rfl rfl rfl (Pu.loadAgg rfl ag26 sz26 rfl rfl (Ld.whole 0 rfl)) ?_
    refine O.e rfl rfl rfl (Ef.callP call41 rfl rfl (fun w hw => implFixes_ok  pv1 r1 _ _ w ((Ld.own 1 (by exact rfl)) w hw) (by first | omega | (simp only [tops_len, conts_len, bl, List.length_append, List.length_cons, List.length_nil] at *; omega)) )) ?_
    rintro _ _ ⟨rfl, rfl⟩
    refine O.p rfl rfl rfl (Pu.move rfl rfl) ?_
    refine O.p rfl rfl rfl (Pu.extract rfl rfl rfl) ?_
    refine O.p rfl rfl rfl (Pu.extract rfl rfl rfl) ?_
    refine O.p rfl rfl rfl (Pu.assign rfl rfl) ?_
    refine O.p rfl rfl rfl (Pu.assign rfl rfl) ?_
    refine O.nil ?_
    refine X.next ?_
    refine V.seq ?_
    refine V.seq ?_
    refine V.region ?_
    refine O.p rfl rfl rfl (Pu.loadAgg rfl ag26 sz26 rfl rfl (Ld.whole 0 rfl)) ?_
    refine O.e rfl rfl rfl (Ef.callP call42 rfl rfl (fun w hw => specFixes_ok  pv1 r1 _ _ w ((Ld.own 1 (by exact rfl)) w hw) (by first | omega | (simp only [tops_len, conts_len, bl, List.length_append, List.length_cons, List.length_nil] at *; omega)) )) ?_
    rintro _ _ ⟨rfl, rfl⟩
    refine O.p rfl rfl rfl (Pu.move rfl rfl) ?_
    refine O.p rfl rfl rfl (Pu.extract rfl rfl rfl) ?_
    refine O.p rfl rfl rfl (Pu.extract rfl rfl rfl) ?_
    refine O.p rfl rfl rfl (Pu.assign rfl rfl) ?_
    refine O.p rfl rfl rfl (Pu.assign rfl rfl) ?_
    refine O.nil ?_
    refine X.next ?_
    refine V.seq ?_
    refine V.region ?_
    refine O.p rfl rfl rfl (Pu.move rfl rfl) ?_
    refine O.p rfl rfl rfl (Pu.move rfl rfl) ?_
    refine O.p rfl rfl rfl (Pu.neq rfl rfl rfl) ?_
    refine O.p rfl rfl rfl (Pu.move rfl rfl) ?_
    refine O.splitN 49 rfl (fun c2 => ?_) (fun c2 => ?_)
    · skip
      refine O.gs rfl rfl rfl rfl rfl rfl ?_
      refine O.gs rfl rfl rfl rfl rfl rfl ?_
      refine O.gs rfl rfl rfl rfl rfl rfl ?_
      refine O.p rfl rfl rfl (Pu.pickT rfl rfl rfl) ?_
      refine O.nil ?_
      refine X.next ?_
      refine V.condT rfl ?_
      refine V.seq ?_
      refine V.region ?_
      refine O.p rfl rfl rfl (Pu.assign rfl rfl) ?_
      refine O.nil ?_
      refine X.next ?_
      refine V.ret ?_
      refine X.thenRet ?_
      refine X.ret1 rfl rfl ?_
      exact absurd (by first | assumption | rfl | exact ⟨rfl, rfl⟩ | exact ⟨rfl, by assumption⟩ | exact ⟨⟨rfl, by assumption⟩, rfl, by assumption⟩ | omega | (simp only [*]; done) | (rw [rfl])) c2
    · skip
      refine O.gp rfl rfl rfl rfl rfl (Pu.move rfl rfl) ?_
      refine O.gp rfl rfl rfl rfl rfl (Pu.move rfl rfl) ?_
      refine O.gp rfl rfl rfl rfl rfl (Pu.boolNeq Tryz.underlying4 rfl rfl rfl) ?_
      refine O.p rfl rfl rfl (Pu.pickF rfl rfl rfl) ?_
      refine O.nil ?_
      refine X.next ?_
      refine V.cond rfl (fun c3 => ?_) (fun c3 => ?_)
      · skip
        refine V.seq ?_
        refine V.region ?_
        refine O.p rfl rfl rfl (Pu.assign rfl rfl) ?_
        refine O.nil ?_
        refine X.next ?_
        refine V.ret ?_
        refine X.thenRet ?_
        refine X.ret1 rfl rfl ?_
        exact absurd c3 (by simp)
      · skip
        refine V.skip ?_
        refine X.next ?_
        refine V.seq ?_
        refine V.region ?_
        refine O.p rfl rfl rfl (Pu.loadAgg rfl ag26 sz26 rfl rfl (Ld.whole 0 rfl)) ?_
        refine O.e rfl rfl rfl (Ef.callP call43 rfl rfl (fun w hw => implMissing_ok  pv1 r1 _ _ w ((Ld.own 1 (by exact rfl)) w hw) (by first | omega | (simp only [tops_len, conts_len, bl, List.length_append, List.length_cons, List.length_nil] at *; omega)) )) ?_
        rintro _ _ ⟨rfl, rfl⟩
        refine O.p rfl rfl rfl (Pu.move rfl rfl) ?_
        refine O.p rfl rfl rfl (Pu.extract rfl rfl rfl) ?_
        refine O.p rfl rfl rfl (Pu.extract rfl rfl rfl) ?_
        refine O.p rfl rfl rfl (Pu.assign rfl rfl) ?_
        refine O.p rfl rfl rfl (Pu.assign rfl rfl) ?_
        refine O.nil ?_
        refine X.next ?_
        refine V.seq ?_
        refine V.seq ?_
        refine V.region ?_
        refine O.p rfl rfl rfl (Pu.loadAgg rfl ag26 sz26 rfl rfl (Ld.whole 0 rfl)) ?_
        refine O.e rfl rfl rfl (Ef.callP call44 rfl rfl (fun w hw => specMissing_ok  pv1 r1 _ _ w ((Ld.own 1 (by exact rfl)) w hw) (by first | omega | (simp only [tops_len, conts_len, bl, List.length_append, List.length_cons, List.length_nil] at *; omega)) )) ?_
        rintro _ _ ⟨rfl, rfl⟩
        refine O.p rfl rfl rfl (Pu.move rfl rfl) ?_
        refine O.p rfl rfl rfl (Pu.extract rfl rfl rfl) ?_
        refine O.p rfl rfl rfl (Pu.extract rfl rfl rfl) ?_
        refine O.p rfl rfl rfl (Pu.assign rfl rfl) ?_
        refine O.p rfl rfl rfl (Pu.assign rfl rfl) ?_
        refine O.nil ?_
        refine X.next ?_
        refine V.seq ?_
        refine V.region ?_
        refine O.p rfl rfl rfl (Pu.move rfl rfl) ?_
        refine O.p rfl rfl rfl (Pu.move rfl rfl) ?_
        refine O.p rfl rfl rfl (Pu.neq rfl rfl rfl) ?_
        refine O.p rfl rfl rfl (Pu.move rfl rfl) ?_
        refine O.splitN 67 rfl (fun c4 => ?_) (fun c4 => ?_)
        · skip
          refine O.gs rfl rfl rfl rfl rfl rfl ?_
          refine O.gs rfl rfl rfl rfl rfl rfl ?_
          refine O.gs rfl rfl rfl rfl rfl rfl ?_
          refine O.p rfl rfl rfl (Pu.pickT rfl rfl rfl) ?_
          refine O.nil ?_
          refine X.next ?_
          refine V.condT rfl ?_
          refine V.seq ?_
          refine V.region ?_
          refine O.p rfl rfl rfl (Pu.assign rfl rfl) ?_
          refine O.nil ?_
          refine X.next ?_
          refine V.ret ?_
          refine X.thenRet ?_
          refine X.ret1 rfl rfl ?_
          exact absurd (by first | assumption | rfl | exact ⟨rfl, rfl⟩ | exact ⟨rfl, by assumption⟩ | exact ⟨⟨rfl, by assumption⟩, rfl, by assumption⟩ | omega | (simp only [*]; done) | (rw [rfl])) c4
        · skip
          refine O.gp rfl rfl rfl rfl rfl (Pu.move rfl rfl) ?_
          refine O.gp rfl rfl rfl rfl rfl (Pu.move rfl rfl) ?_
          refine O.gp rfl rfl rfl rfl rfl (Pu.neq rfl rfl rfl) ?_
          refine O.p rfl rfl rfl (Pu.pickF rfl rfl rfl) ?_
          refine O.nil ?_
          refine X.next ?_
          refine V.condNot rfl (fun c5 => ?_) (fun c5 => ?_)
          · skip
            refine V.seq ?_
            refine V.region ?_
            refine O.p rfl rfl rfl (Pu.assign rfl rfl) ?_
            refine O.nil ?_
            refine X.next ?_
            refine V.ret ?_
            refine X.thenRet ?_
            refine X.ret1 rfl rfl ?_
            exact absurd (by first | assumption | rfl | exact ⟨rfl, rfl⟩ | exact ⟨rfl, by assumption⟩ | exact ⟨⟨rfl, by assumption⟩, rfl, by assumption⟩ | omega | (simp only [*]; done) | (rw [rfl])) c5
          · skip
            refine V.skip ?_
            refine X.next ?_
            refine V.seq ?_
            refine V.region ?_
            refine O.p rfl rfl rfl (Pu.move rfl rfl) ?_
            refine O.e rfl rfl rfl (Ef.call1 call45 rfl rfl (fun w hw => DrawLeastFixing_ok  code _ _ w ((Ld.old hcode) w hw) (by first | omega | (simp only [tops_len, conts_len, bl, List.length_append, List.length_cons, List.length_nil] at *; omega)) (by first | assumption | omega | (try dsimp only at *; omega)))) ?_
            rintro _ _ rfl
            refine O.exi (fun pv2 => ?_)
            refine O.exi (fun r2A => ?_)
            refine O.exi (fun r2c => ?_)
            refine O.exi (fun r2 => ?_)
            refine O.sep ?_
            refine O.pur ?_
            rintro ⟨rfl, hpv2_1⟩
            refine O.e rfl rfl rfl (Ef.alloc rfl zr26 rfl) ?_
            rintro _ _ ⟨b2, rfl, rfl⟩
            refine O.s rfl rfl (Ef.storeAll 0 rfl sz26 rfl rfl rfl rfl (by simp [Value.oneCell']) rfl) ?_
            rintro _ _ rfl
            refine O.nil ?_
            refine X.next ?_
            refine V.seq ?_
            refine V.region ?_
            refine O.p rfl rfl rfl (Pu.loadAgg rfl ag26 sz26 rfl rfl (Ld.whole 0 rfl)) ?_
            refine O.e rfl rfl rfl (Ef.call1 call46 rfl rfl (fun w hw => implLeastFixing_ok  pv2 r2 _ _ w ((Ld.own 1 (by exact rfl)) w hw) (by first | omega | (simp only [tops_len, conts_len, bl, List.length_append, List.length_cons, List.length_nil] at *; omega)) )) ?_
            rintro _ _ rfl
            refine O.exi (fun o1A => ?_)
            refine O.exi (fun o1c => ?_)
            refine O.exi (fun o1 => ?_)
            refine O.sep ?_
            refine O.pur ?_
            rintro ⟨rfl, ho1_1⟩
            have hlo1 := ho1_1.len
            refine O.p rfl rfl rfl (Pu.move rfl rfl) ?_
            refine O.p rfl rfl rfl (Pu.extract rfl rfl rfl) ?_
            refine O.p rfl rfl rfl (Pu.extract rfl rfl rfl) ?_
            refine O.p rfl rfl rfl (Pu.assign rfl rfl) ?_
            refine O.p rfl rfl rfl (Pu.assign rfl rfl) ?_
            refine O.nil ?_
            refine X.next ?_
            refine V.seq ?_
            refine V.seq ?_
            refine V.region ?_
            refine O.p rfl rfl rfl (Pu.loadAgg rfl ag26 sz26 rfl rfl (Ld.whole 1 rfl)) ?_
            refine O.e rfl rfl rfl (Ef.call1 call47 rfl rfl (fun w hw => specLeastFixing_ok  pv2 r2 _ _ w ((Ld.own 2 (by exact rfl)) w hw) (by first | omega | (simp only [tops_len, conts_len, bl, List.length_append, List.length_cons, List.length_nil] at *; omega)) )) ?_
            rintro _ _ rfl
            refine O.exi (fun o2A => ?_)
            refine O.exi (fun o2c => ?_)
            refine O.exi (fun o2 => ?_)
            refine O.sep ?_
            refine O.pur ?_
            rintro ⟨rfl, ho2_1⟩
            have hlo2 := ho2_1.len
            have heqo := ho1_1.unique ho2_1
            refine O.p rfl rfl rfl (Pu.move rfl rfl) ?_
            refine O.p rfl rfl rfl (Pu.extract rfl rfl rfl) ?_
            refine O.p rfl rfl rfl (Pu.extract rfl rfl rfl) ?_
            refine O.p rfl rfl rfl (Pu.assign rfl rfl) ?_
            refine O.p rfl rfl rfl (Pu.assign rfl rfl) ?_
            refine O.nil ?_
            refine X.next ?_
            refine V.seq ?_
            refine V.region ?_
            refine O.p rfl rfl rfl (Pu.move rfl rfl) ?_
            refine O.p rfl rfl rfl (Pu.move rfl rfl) ?_
            refine O.p rfl rfl rfl (Pu.neq rfl rfl rfl) ?_
            refine O.p rfl rfl rfl (Pu.move rfl rfl) ?_
            refine O.splitN 87 rfl (fun c6 => ?_) (fun c6 => ?_)
            · skip
              refine O.gs rfl rfl rfl rfl rfl rfl ?_
              refine O.gs rfl rfl rfl rfl rfl rfl ?_
              refine O.gs rfl rfl rfl rfl rfl rfl ?_
              refine O.gs rfl rfl rfl rfl rfl rfl ?_
              refine O.p rfl rfl rfl (Pu.pickT rfl rfl rfl) ?_
              refine O.nil ?_
              refine X.next ?_
              refine V.condT rfl ?_
              refine V.seq ?_
              refine V.region ?_
              refine O.p rfl rfl rfl (Pu.assign rfl rfl) ?_
              refine O.nil ?_
              refine X.next ?_
              refine V.ret ?_
              refine X.thenRet ?_
              refine X.ret1 rfl rfl ?_
              exact absurd (by first | assumption | rfl | exact ⟨rfl, rfl⟩ | exact ⟨rfl, by assumption⟩ | exact ⟨⟨rfl, by assumption⟩, rfl, by assumption⟩ | omega | (simp only [*]; done) | (rw [rfl])) c6
            · skip
              refine O.gp rfl rfl rfl rfl rfl (Pu.move rfl rfl) ?_
              refine O.gp rfl rfl rfl rfl rfl (Pu.move rfl rfl) ?_
              refine O.ge rfl rfl rfl rfl rfl (Ef.callP call27 rfl rfl (fun w hw => likeInts_ok  o1 o2 _ _ _ _ w ((Ld.own 1 (by exact rfl)) w hw) ((Ld.own 0 (by exact rfl)) w hw) (by first | omega | (simp only [tops_len, conts_len, bl, List.length_append, List.length_cons, List.length_nil] at *; omega)) (by first | omega | (simp only [tops_len, conts_len, bl, List.length_append, List.length_cons, List.length_nil] at *; omega)) )) ?_
              rintro _ _ ⟨rfl, rfl⟩
              refine O.gp rfl rfl rfl rfl rfl (Pu.not rfl rfl) ?_
              refine O.p rfl rfl rfl (Pu.pickF rfl rfl rfl) ?_
              refine O.nil ?_
              refine X.next ?_
              refine V.condNot rfl (fun c7 => ?_) (fun c7 => ?_)
              · skip
                refine V.seq ?_
                refine V.region ?_
                refine O.p rfl rfl rfl (Pu.assign rfl rfl) ?_
                refine O.nil ?_
                refine X.next ?_
                refine V.ret ?_
                refine X.thenRet ?_
                refine X.ret1 rfl rfl ?_
                exact absurd (by first | assumption | rfl | exact ⟨rfl, rfl⟩ | exact ⟨rfl, by assumption⟩ | exact ⟨⟨rfl, by assumption⟩, rfl, by assumption⟩ | omega | (simp only [*]; done) | (rw [rfl])) c7
              · skip
                refine V.skip ?_
                refine X.next ?_
                refine V.seq ?_
                refine V.region ?_
                refine O.p rfl rfl rfl (Pu.move rfl rfl) ?_
                refine O.e rfl rfl rfl (Ef.call1 call48 rfl rfl (fun w hw => DrawIsStuck_ok  code _ _ w ((Ld.old hcode) w hw) (by first | omega | (simp only [tops_len, conts_len, bl, List.length_append, List.length_cons, List.length_nil] at *; omega)) (by first | assumption | omega | (try dsimp only at *; omega)))) ?_
                rintro _ _ rfl
                refine O.exi (fun pv3 => ?_)
                refine O.exi (fun r3A => ?_)
                refine O.exi (fun r3c => ?_)
                refine O.exi (fun r3 => ?_)
                refine O.sep ?_
                refine O.pur ?_
                rintro ⟨rfl, hpv3_1⟩
                refine O.e rfl rfl rfl (Ef.alloc rfl zr26 rfl) ?_
                rintro _ _ ⟨b3, rfl, rfl⟩
                refine O.s rfl rfl (Ef.storeAll 0 rfl sz26 rfl rfl rfl rfl (by simp [Value.oneCell']) rfl) ?_
                rintro _ _ rfl
                refine O.nil ?_
                refine X.next ?_
                refine V.seq ?_
                refine V.region ?_
                refine O.p rfl rfl rfl (Pu.loadAgg rfl ag26 sz26 rfl rfl (Ld.whole 0 rfl)) ?_
                refine O.e rfl rfl rfl (Ef.callP call49 rfl rfl (fun w hw => implStuck_ok  pv3 r3 _ _ w ((Ld.own 1 (by exact rfl)) w hw) (by first | omega | (simp only [tops_len, conts_len, bl, List.length_append, List.length_cons, List.length_nil] at *; omega)) )) ?_
                rintro _ _ ⟨rfl, rfl⟩
                refine O.p rfl rfl rfl (Pu.move rfl rfl) ?_
                refine O.p rfl rfl rfl (Pu.extract rfl rfl rfl) ?_
                refine O.p rfl rfl rfl (Pu.extract rfl rfl rfl) ?_
                refine O.p rfl rfl rfl (Pu.assign rfl rfl) ?_
                refine O.p rfl rfl rfl (Pu.assign rfl rfl) ?_
                refine O.nil ?_
                refine X.next ?_
                refine V.seq ?_
                refine V.seq ?_
                refine V.region ?_
                refine O.p rfl rfl rfl (Pu.loadAgg rfl ag26 sz26 rfl rfl (Ld.whole 0 rfl)) ?_
                refine O.e rfl rfl rfl (Ef.callP call50 rfl rfl (fun w hw => specStuck_ok  pv3 r3 _ _ w ((Ld.own 1 (by exact rfl)) w hw) (by first | omega | (simp only [tops_len, conts_len, bl, List.length_append, List.length_cons, List.length_nil] at *; omega)) )) ?_
                rintro _ _ ⟨rfl, rfl⟩
                refine O.p rfl rfl rfl (Pu.move rfl rfl) ?_
                refine O.p rfl rfl rfl (Pu.extract rfl rfl rfl) ?_
                refine O.p rfl rfl rfl (Pu.extract rfl rfl rfl) ?_
                refine O.p rfl rfl rfl (Pu.assign rfl rfl) ?_
                refine O.p rfl rfl rfl (Pu.assign rfl rfl) ?_
                refine O.nil ?_
                refine X.next ?_
                refine V.seq ?_
                refine V.region ?_
                refine O.p rfl rfl rfl (Pu.move rfl rfl) ?_
                refine O.p rfl rfl rfl (Pu.move rfl rfl) ?_
                refine O.p rfl rfl rfl (Pu.neq rfl rfl rfl) ?_
                refine O.p rfl rfl rfl (Pu.move rfl rfl) ?_
                refine O.splitN 108 rfl (fun c8 => ?_) (fun c8 => ?_)
                · skip
                  refine O.gs rfl rfl rfl rfl rfl rfl ?_
                  refine O.gs rfl rfl rfl rfl rfl rfl ?_
                  refine O.gs rfl rfl rfl rfl rfl rfl ?_
                  refine O.p rfl rfl rfl (Pu.pickT rfl rfl rfl) ?_
                  refine O.nil ?_
                  refine X.next ?_
                  refine V.condT rfl ?_
                  refine V.seq ?_
                  refine V.region ?_
                  refine O.p rfl rfl rfl (Pu.assign rfl rfl) ?_
                  refine O.nil ?_
                  refine X.next ?_
                  refine V.ret ?_
                  refine X.thenRet ?_
                  refine X.ret1 rfl rfl ?_
                  exact absurd (by first | assumption | rfl | exact ⟨rfl, rfl⟩ | exact ⟨rfl, by assumption⟩ | exact ⟨⟨rfl, by assumption⟩, rfl, by assumption⟩ | omega | (simp only [*]; done) | (rw [rfl])) c8
                · skip
                  refine O.gp rfl rfl rfl rfl rfl (Pu.move rfl rfl) ?_
                  refine O.gp rfl rfl rfl rfl rfl (Pu.move rfl rfl) ?_
                  refine O.gp rfl rfl rfl rfl rfl (Pu.boolNeq Tryz.underlying4 rfl rfl rfl) ?_
                  refine O.p rfl rfl rfl (Pu.pickF rfl rfl rfl) ?_
                  refine O.nil ?_
                  refine X.next ?_
                  refine V.cond rfl (fun c9 => ?_) (fun c9 => ?_)
                  · skip
                    refine V.seq ?_
                    refine V.region ?_
                    refine O.p rfl rfl rfl (Pu.assign rfl rfl) ?_
                    refine O.nil ?_
                    refine X.next ?_
                    refine V.ret ?_
                    refine X.thenRet ?_
                    refine X.ret1 rfl rfl ?_
                    exact absurd c9 (by simp)
                  · skip
                    refine V.skip ?_
                    refine X.next ?_
                    refine V.seq ?_
                    refine V.seq ?_
                    refine V.region ?_
                    refine O.p rfl rfl rfl (Pu.move rfl rfl) ?_
                    refine O.p rfl rfl rfl (Pu.eql rfl rfl rfl) ?_
                    refine O.nil ?_
                    refine X.next ?_
                    refine V.cut2 [] (Ent.cons (t := 3) rfl (Ent.cons (t := 4) rfl (Ent.cons (t := 5) rfl (Ent.cons (t := 8) rfl (Ent.cons (t := 9) rfl (Ent.cons (t := 12) rfl (Ent.cons (t := 13) rfl (Ent.cons (t := 14) rfl (Ent.nil _))))))))) (Sub.keep 0 rfl (Sub.keep 0 rfl (Sub.keep 0 rfl (Sub.keep 0 rfl (Sub.keep 0 rfl (Sub.keep 0 rfl (Sub.keep 0 rfl (Sub.keep 0 rfl (Sub.nil _))))))))) ?_ ?_
                    · skip
                      refine V.condD rfl (fun c10 => ?_) (fun c10 => ?_)
                      · skip
                        have hSz : STS pv3 r3 := Decidable.byContradiction (fun h => absurd (if_neg h ▸ c10) (by decide))
                        refine V.seq ?_
                        refine V.region ?_
                        refine O.p rfl rfl rfl (Pu.loadAgg rfl ag26 sz26 rfl rfl (Ld.whole 0 rfl)) ?_
                        refine O.e rfl rfl rfl (Ef.call1 call51 rfl rfl (fun w hw => freeBlocks_ok  pv3 r3 _ _ w ((Ld.own 1 (by exact rfl)) w hw) (by first | omega | (simp only [tops_len, conts_len, bl, List.length_append, List.length_cons, List.length_nil] at *; omega)) )) ?_
                        rintro _ _ rfl
                        refine O.exi (fun r4A => ?_)
                        refine O.exi (fun r4c => ?_)
                        refine O.exi (fun r4 => ?_)
                        refine O.sep ?_
                        refine O.pur ?_
                        rintro ⟨rfl, hr4_1, hr4_2⟩
                        have hst : (STS pv3 r3 ∧ freeL pv3 r3 = []) ↔ ((r4.length : Nat) : Int) = 0 := by rw [hr4_1 hSz]; simp [hSz]
                        refine O.p rfl rfl rfl (Pu.move rfl rfl) ?_
                        refine O.p rfl rfl rfl (Pu.extract rfl rfl rfl) ?_
                        refine O.p rfl rfl rfl (Pu.extract rfl rfl rfl) ?_
                        refine O.p rfl rfl rfl (Pu.assign rfl rfl) ?_
                        refine O.p rfl rfl rfl (Pu.assign rfl rfl) ?_
                        refine O.nil ?_
                        refine X.next ?_
                        refine V.seq ?_
                        refine V.region ?_
                        refine O.p rfl rfl rfl (Pu.move rfl rfl) ?_
                        refine O.p rfl rfl rfl (Pu.neq rfl rfl rfl) ?_
                        refine O.p rfl rfl rfl (Pu.move rfl rfl) ?_
                        refine O.splitN 122 rfl (fun c11 => ?_) (fun c11 => ?_)
                        · skip
                          refine O.gs rfl rfl rfl rfl rfl rfl ?_
                          refine O.gs rfl rfl rfl rfl rfl rfl ?_
                          refine O.gs rfl rfl rfl rfl rfl rfl ?_
                          refine O.gs rfl rfl rfl rfl rfl rfl ?_
                          refine O.gs rfl rfl rfl rfl rfl rfl ?_
                          refine O.p rfl rfl rfl (Pu.pickT rfl rfl rfl) ?_
                          refine O.nil ?_
                          refine X.next ?_
                          refine V.condT rfl ?_
                          refine V.seq ?_
                          refine V.region ?_
                          refine O.p rfl rfl rfl (Pu.assign rfl rfl) ?_
                          refine O.nil ?_
                          refine X.next ?_
                          refine V.ret ?_
                          refine X.thenRet ?_
                          refine X.thenRet ?_
                          refine X.ret1 rfl rfl ?_
                          exact absurd (by first | assumption | rfl | exact ⟨rfl, rfl⟩ | exact ⟨rfl, by assumption⟩ | exact ⟨⟨rfl, by assumption⟩, rfl, by assumption⟩ | omega | (simp only [*]; done) | (rw [rfl])) c11
                        · skip
                          refine O.gp rfl rfl rfl rfl rfl (Pu.move rfl rfl) ?_
                          refine O.gp rfl rfl rfl rfl rfl (Pu.move rfl rfl) ?_
                          refine O.gp rfl rfl rfl rfl rfl (Pu.len rfl Tryz.underlying24 rfl) ?_
                          refine O.gp rfl rfl rfl rfl rfl (Pu.eql rfl rfl rfl) ?_
                          refine O.gp rfl rfl rfl rfl rfl (Pu.boolNeq Tryz.underlying4 rfl rfl rfl) ?_
                          refine O.p rfl rfl rfl (Pu.pickF rfl rfl rfl) ?_
                          refine O.nil ?_
                          refine X.next ?_
                          refine V.cond rfl (fun c12 => ?_) (fun c12 => ?_)
                          · skip
                            exact (dec_ne hst c12).elim
                          · skip
                            refine V.skip ?_
                            exact X.cut (Ent.nil _) (Ent.cons (t := 3) rfl (Ent.cons (t := 4) rfl (Ent.cons (t := 5) rfl (Ent.cons (t := 8) rfl (Ent.cons (t := 9) rfl (Ent.cons (t := 12) rfl (Ent.cons (t := 13) rfl (Ent.cons (t := 14) rfl (Ent.nil _))))))))) (Sub.keep 1 rfl (Sub.keep 1 rfl (Sub.keep 1 rfl (Sub.keep 1 rfl (Sub.keep 1 rfl (Sub.keep 1 rfl (Sub.keep 1 rfl (Sub.keep 1 rfl (Sub.nil _)))))))))
                      · skip
                        refine V.skip ?_
                        exact X.cut (Ent.nil _) (Ent.cons (t := 3) rfl (Ent.cons (t := 4) rfl (Ent.cons (t := 5) rfl (Ent.cons (t := 8) rfl (Ent.cons (t := 9) rfl (Ent.cons (t := 12) rfl (Ent.cons (t := 13) rfl (Ent.cons (t := 14) rfl (Ent.nil _))))))))) (Sub.keep 0 rfl (Sub.keep 0 rfl (Sub.keep 0 rfl (Sub.keep 0 rfl (Sub.keep 0 rfl (Sub.keep 0 rfl (Sub.keep 0 rfl (Sub.keep 0 rfl (Sub.nil _)))))))))
                    · skip
                      refine X.next ?_
                      refine V.seq ?_
                      refine V.seq ?_
                      refine V.region ?_
                      refine O.p rfl rfl rfl (Pu.move rfl rfl) ?_
                      refine O.p rfl rfl rfl (Pu.eql rfl rfl rfl) ?_
                      refine O.nil ?_
                      refine X.next ?_
                      refine V.cut2 [] (Ent.cons (t := 3) rfl (Ent.cons (t := 4) rfl (Ent.cons (t := 5) rfl (Ent.cons (t := 8) rfl (Ent.cons (t := 9) rfl (Ent.nil _)))))) (Sub.keep 0 rfl (Sub.keep 0 rfl (Sub.keep 0 rfl (Sub.keep 0 rfl (Sub.keep 0 rfl (Sub.keep 0 rfl (Sub.keep 0 rfl (Sub.keep 0 rfl (Sub.nil _))))))))) ?_ ?_
                      · skip
                        refine V.condD rfl (fun c13 => ?_) (fun c13 => ?_)
                        · skip
                          obtain ⟨hSy, hFy, h9y⟩ := lf_ok c13
                          have hP := least_part hSy hFy h9y ho1_1
                          have hfy := hSy.few
                          refine V.seq ?_
                          refine V.region ?_
                          refine O.p rfl rfl rfl (Pu.fieldAddr 0 rfl Tryz.underlying26 rfl sz2 rfl rfl) ?_
                          refine O.p rfl rfl rfl (Pu.load rfl pl2 rfl (Ld.blk 4 rfl rfl)) ?_
                          refine O.e rfl rfl rfl (Ef.build B3C ([] : List B3) rfl Tryz.underlying24 inf51 rfl rfl rfl (by first | decide | (simp; done)) (by kernel_rfl)) ?_
                          rintro _ _ ⟨A1, hA1, rfl, rfl⟩
                          refine O.p rfl rfl rfl (Pu.buildS (cs := [.int .i64 pv2, .slice A1 0 0]) rfl rfl Tryz.underlying26 zr26 (by kernel_rfl) rfl (by kernel_rfl)) ?_
                          refine O.e rfl rfl rfl (Ef.alloc rfl zr26 rfl) ?_
                          rintro _ _ ⟨b4, rfl, rfl⟩
                          refine O.s rfl rfl (Ef.storeAll 0 rfl sz26 rfl rfl rfl rfl (by simp [Value.oneCell']) rfl) ?_
                          rintro _ _ rfl
                          refine O.nil ?_
                          refine X.next ?_
                          refine V.seq ?_
                          refine V.seq ?_
                          refine V.region ?_
                          refine O.p rfl rfl rfl (Pu.assign rfl rfl) ?_
                          refine O.nil ?_
                          refine X.next ?_
                          refine V.block ?_
                          refine V.loop3 (β := Nat × (Option Addr) × Nat × (List B3)) (fun x => [(25, .int .i64 (x.1 : Int))]) _ (fun x => [Blk b4 [.int .i64 pv2, .slice x.2.1 x.2.2.2.length x.2.2.1] 26, Own 51 B3C x.2.1 x.2.2.1 x.2.2.2]) _ (fun x => x.1 ≤ o1.length ∧ x.2.2.2 = (o1.take x.1).map (blk r2)) (fun x => o1.length - x.1) (0, A1, 0, ([] : List B3)) (by (try dsimp only); exact ⟨by omega, rfl⟩) (Ent.cons rfl (Ent.nil _)) (Ent.cons (t := 3) rfl (Ent.cons (t := 4) rfl (Ent.cons (t := 5) rfl (Ent.cons (t := 8) rfl (Ent.cons (t := 9) rfl (Ent.cons (t := 12) rfl (Ent.cons (t := 13) rfl (Ent.cons (t := 24) rfl (Ent.nil _))))))))) (Sub.keep 0 rfl (Sub.keep 0 rfl (Sub.keep 0 rfl (Sub.keep 0 rfl (Sub.keep 0 rfl (Sub.keep 0 rfl (Sub.keep 0 rfl (Sub.keep 0 rfl (Sub.keep 0 rfl (Sub.keep 0 rfl (Sub.nil _))))))))))) ?_
                          rintro ⟨i, xsA, xsc, xs⟩ ⟨hi, hx⟩
                          dsimp only at hi hx ⊢
                          refine V.seq ?_
                          refine V.seq ?_
                          refine V.region ?_
                          refine O.p rfl rfl rfl (Pu.move rfl rfl) ?_
                          refine O.p rfl rfl rfl (Pu.move rfl rfl) ?_
                          refine O.p rfl rfl rfl (Pu.len rfl Tryz.underlying34 rfl) ?_
                          refine O.p rfl rfl rfl (Pu.lss rfl rfl rfl) ?_
                          refine O.nil ?_
                          refine X.next ?_
                          refine V.condD rfl (fun c14 => ?_) (fun c14 => ?_)
                          · skip
                            refine V.skip ?_
                            refine X.next ?_
                            refine V.seq ?_
                            refine V.block ?_
                            have ek : i < o1.length := by omega
                            have hix : okIx r2 (o1[i]'ek) := hP.ix _ (List.getElem_mem ek)
                            have hix2 := hix
                            unfold okIx at hix2
                            have hxl : xs.length ≤ i := by rw [hx, List.length_map, List.length_take]; omega
                            refine V.drawS mo (by kernel_rfl) (Sub.keep 0 rfl (Sub.keep 1 rfl (Sub.keep 1 rfl (Sub.keep 1 rfl (Sub.keep 1 rfl (Sub.keep 1 rfl (Sub.keep 1 rfl (Sub.keep 1 rfl (Sub.keep 1 rfl (Sub.nil _)))))))))) (fun hwf => ?_)
                            refine D.p 0 rfl rfl rfl rfl rfl rfl (Pu.fieldAddr 1 rfl Tryz.underlying26 rfl sz24 rfl rfl) ?_
                            refine D.p 1 rfl rfl rfl rfl rfl rfl (Pu.load rfl pl24 rfl (Ld.blk 0 rfl rfl)) ?_
                            refine D.p 2 rfl rfl rfl rfl rfl rfl (Pu.fieldAddr 1 rfl Tryz.underlying26 rfl sz24 rfl rfl) ?_
                            refine D.p 3 rfl rfl rfl rfl rfl rfl (Pu.load rfl pl24 rfl (Ld.blk 5 rfl rfl)) ?_
                            refine D.p 4 rfl rfl rfl rfl rfl rfl (Pu.move rfl rfl) ?_
                            refine D.p 5 rfl rfl rfl rfl rfl rfl (Pu.move rfl rfl) ?_
                            refine D.p 6 rfl rfl rfl rfl rfl rfl (Pu.indexAddrS (i) rfl Tryz.underlying34 sz2 rfl rfl (by omega) (by omega) (fun w hw => Own.some hw (i := 4) (by exact rfl) (by omega))) ?_
                            refine D.p 7 rfl rfl rfl rfl rfl rfl (Pu.load rfl pl2 rfl (Ld.rd (Ld.own 4 (by exact rfl)) (k := i) ek rfl rfl)) ?_
                            refine D.p 8 rfl rfl rfl rfl rfl rfl (Pu.indexAddrS (((o1[i]'ek)).toNat) rfl Tryz.underlying24 sz51 rfl rfl (by omega) (by omega) (fun w hw => Own.some hw (i := 6) (by exact rfl) (by omega))) ?_
                            have e1 : ((o1[i]'ek)).toNat < r2.length := by omega
                            refine D.p 9 rfl rfl rfl rfl rfl rfl (Pu.loadAgg' (v := B3.v (r2[((o1[i]'ek)).toNat]'e1)) rfl rfl ag51 sz51 rfl rfl (Ld.rds (C := B3C) (Ld.own 6 (by exact rfl)) (k := ((o1[i]'ek)).toNat) e1 rfl)) ?_
                            refine D.p 12 rfl rfl rfl rfl rfl rfl (Pu.fieldAddr 1 rfl Tryz.underlying26 rfl sz24 rfl rfl) ?_
                            refine D.eff hwf (e := 10) rfl rfl rfl rfl (Ef.build B3C ([(r2[((o1[i]'ek)).toNat]'e1)] : List B3) rfl Tryz.underlying24 inf51 rfl rfl rfl (by first | decide | (simp; done)) (by kernel_rfl)) rfl rfl rfl ?_
                            rintro _ _ ⟨A2, hA2, rfl, rfl⟩ hs
                            refine ⟨fun w hw => hw.sub (Sub.keep 1 rfl (Sub.keep 2 rfl (Sub.keep 2 rfl (Sub.keep 2 rfl (Sub.keep 2 rfl (Sub.keep 2 rfl (Sub.keep 2 rfl (Sub.keep 2 rfl (Sub.keep 2 rfl (Sub.nil _)))))))))), ?_⟩
                            refine D.eff hwf (e := 11) rfl rfl rfl rfl (Ef.append (xs := xs) (ys := ([(r2[((o1[i]'ek)).toNat]'e1)] : List B3)) 2 rfl Tryz.underlying24 inf51 rfl rfl rfl rfl rfl rfl hA2 (Ld.own 0 (by exact rfl)) (by simp only [List.length_append, List.length_cons, List.length_nil] at *; omega) (by decide)) rfl rfl rfl ?_
                            rintro _ _ ⟨A3, k1, rfl, rfl, hA3⟩ hs
                            replace hA3 := hA3 (.inr (by simp))
                            refine ⟨fun w hw => hw.sub (Sub.keep 1 rfl (Sub.keep 2 rfl (Sub.keep 2 rfl (Sub.keep 2 rfl (Sub.keep 2 rfl (Sub.keep 2 rfl (Sub.keep 2 rfl (Sub.keep 2 rfl (Sub.keep 2 rfl (Sub.nil _)))))))))), ?_⟩
                            refine D.effX (Hs' := []) hwf (e := 13) rfl rfl rfl rfl (Ef.store1 (cs' := [_, _]) 1 rfl sz24 rfl rfl rfl rfl rfl (ltb rfl) rfl) rfl [] rfl (List.forall_mem_nil _) ?_
                            rintro _ _ rfl
                            refine ⟨fun w hw => hw.sub (Sub.nil _), ?_⟩
                            refine D.done hwf rfl ?_
                            refine X.blockNormal ?_
                            refine X.next ?_
                            refine V.region ?_
                            refine O.p rfl rfl rfl (Pu.move rfl rfl) ?_
                            refine O.p rfl rfl rfl (Pu.add64 (r := ((i + 1 : Nat) : Int)) rfl (by omega) rfl rfl rfl) ?_
                            refine O.p rfl rfl rfl (Pu.assign rfl rfl) ?_
                            refine O.nil ?_
                            exact X.back3 (i + 1, A3, k1, (xs ++ ([(r2[((o1[i]'ek)).toNat]'e1)] : List B3))) (by (try dsimp only); exact ⟨by omega, by rw [hx, take_snoc (by omega), List.map_append]; simp only [List.map_cons, List.map_nil]; rw [blk_ix hix]⟩) (by first | omega | (dsimp only; omega)) (Ent.cons rfl (Ent.nil _)) (Ent.cons (t := 3) rfl (Ent.cons (t := 4) rfl (Ent.cons (t := 5) rfl (Ent.cons (t := 8) rfl (Ent.cons (t := 9) rfl (Ent.cons (t := 12) rfl (Ent.cons (t := 13) rfl (Ent.cons (t := 24) rfl (Ent.nil _))))))))) (Sub.keep 1 rfl (Sub.keep 1 rfl (Sub.keep 1 rfl (Sub.keep 1 rfl (Sub.keep 1 rfl (Sub.keep 1 rfl (Sub.keep 1 rfl (Sub.keep 1 rfl (Sub.keep 1 rfl (Sub.keep 1 rfl (Sub.nil _)))))))))))
                          · skip
                            refine V.exit ?_
                            refine X.thenExit ?_
                            refine X.thenExit ?_
                            refine X.blockHit ?_
                            refine X.next ?_
                            refine V.seq ?_
                            have hxs : xs = o1.map (blk r2) := by rw [hx, List.take_of_length_le (by omega)]
                            obtain ⟨hcP, hoP⟩ := hP.fix
                            have hfP := hP.fst
                            have hwP := hP.own
                            rw [← hxs] at hcP hoP hfP hwP
                            have hxl : xs.length ≤ 15 := by rw [hxs, List.length_map]; omega
                            refine V.region ?_
                            refine O.p rfl rfl rfl (Pu.loadAgg rfl ag26 sz26 rfl rfl (Ld.whole 0 rfl)) ?_
                            refine O.e rfl rfl rfl (Ef.call1 call52 rfl rfl (fun w hw => firstCompletion_ok  pv2 xs _ _ w ((Ld.own 1 (by exact rfl)) w hw) (by first | omega | (simp only [tops_len, conts_len, bl, List.length_append, List.length_cons, List.length_nil] at *; omega)) )) ?_
                            rintro _ _ rfl
                            refine O.exi (fun r5A => ?_)
                            refine O.exi (fun r5c => ?_)
                            refine O.exi (fun r5 => ?_)
                            refine O.sep ?_
                            refine O.pur ?_
                            rintro ⟨rfl, hr5_1⟩
                            have hown : r5 = r2 := hwP _ (hr5_1 hfP)
                            have howl := congrArg List.length hown
                            refine O.p rfl rfl rfl (Pu.move rfl rfl) ?_
                            refine O.p rfl rfl rfl (Pu.extract rfl rfl rfl) ?_
                            refine O.p rfl rfl rfl (Pu.extract rfl rfl rfl) ?_
                            refine O.e rfl rfl rfl (Ef.alloc rfl zr26 rfl) ?_
                            rintro _ _ ⟨b5, rfl, rfl⟩
                            refine O.s rfl rfl (Ef.storeAll 0 rfl sz26 rfl rfl rfl rfl (by simp [Value.oneCell']) rfl) ?_
                            rintro _ _ rfl
                            refine O.p rfl rfl rfl (Pu.assign rfl rfl) ?_
                            refine O.nil ?_
                            refine X.next ?_
                            refine V.seq ?_
                            refine V.region ?_
                            refine O.p rfl rfl rfl (Pu.loadAgg rfl ag26 sz26 rfl rfl (Ld.whole 2 rfl)) ?_
                            refine O.e rfl rfl rfl (Ef.callP call41 rfl rfl (fun w hw => implFixes_ok  pv2 xs _ _ w ((Ld.own 3 (by exact rfl)) w hw) (by first | omega | (simp only [tops_len, conts_len, bl, List.length_append, List.length_cons, List.length_nil] at *; omega)) )) ?_
                            rintro _ _ ⟨rfl, rfl⟩
                            refine O.p rfl rfl rfl (Pu.move rfl rfl) ?_
                            refine O.p rfl rfl rfl (Pu.extract rfl rfl rfl) ?_
                            refine O.p rfl rfl rfl (Pu.extract rfl rfl rfl) ?_
                            refine O.p rfl rfl rfl (Pu.assign rfl rfl) ?_
                            refine O.p rfl rfl rfl (Pu.assign rfl rfl) ?_
                            refine O.nil ?_
                            refine X.next ?_
                            refine V.seq ?_
                            refine V.region ?_
                            refine O.p rfl rfl rfl (Pu.move rfl rfl) ?_
                            refine O.p rfl rfl rfl (Pu.neq rfl rfl rfl) ?_
                            refine O.p rfl rfl rfl (Pu.move rfl rfl) ?_
                            refine O.splitN 166 rfl (fun c15 => ?_) (fun c15 => ?_)
                            · skip
                              exact absurd hfP c15
                            · skip
                              refine O.gp rfl rfl rfl rfl rfl (Pu.loadAgg rfl ag26 sz26 rfl rfl (Ld.whole 0 rfl)) ?_
                              refine O.gp rfl rfl rfl rfl rfl (Pu.loadAgg rfl ag26 sz26 rfl rfl (Ld.whole 8 rfl)) ?_
                              refine O.ge rfl rfl rfl rfl rfl (Ef.callP call53 rfl rfl (fun w hw => system9_ok  (if fcC pv2 xs = 0 then pv2 else 0) r5 pv2 r2 _ _ _ _ w ((Ld.own 1 (by exact rfl)) w hw) ((Ld.own 9 (by exact rfl)) w hw) (by first | omega | (simp only [tops_len, conts_len, bl, List.length_append, List.length_cons, List.length_nil] at *; omega)) (by first | omega | (simp only [tops_len, conts_len, bl, List.length_append, List.length_cons, List.length_nil] at *; omega)) )) ?_
                              rintro _ _ ⟨rfl, rfl⟩
                              refine O.gp rfl rfl rfl rfl rfl (Pu.not rfl rfl) ?_
                              refine O.p rfl rfl rfl (Pu.pickF rfl rfl rfl) ?_
                              refine O.p rfl rfl rfl (Pu.move rfl rfl) ?_
                              refine O.splitN 172 rfl (fun c16 => ?_) (fun c16 => ?_)
                              · skip
                                exact absurd ⟨by rw [if_pos hfP], hown⟩ c16
                              · skip
                                refine O.gp rfl rfl rfl rfl rfl (Pu.move rfl rfl) ?_
                                refine O.gp rfl rfl rfl rfl rfl (Pu.neq rfl rfl rfl) ?_
                                refine O.p rfl rfl rfl (Pu.pickF rfl rfl rfl) ?_
                                refine O.p rfl rfl rfl (Pu.move rfl rfl) ?_
                                refine O.splitN 176 rfl (fun c17 => ?_) (fun c17 => ?_)
                                · skip
                                  exact absurd hcP c17
                                · skip
                                  refine O.gp rfl rfl rfl rfl rfl (Pu.move rfl rfl) ?_
                                  refine O.gp rfl rfl rfl rfl rfl (Pu.not rfl rfl) ?_
                                  refine O.p rfl rfl rfl (Pu.pickF rfl rfl rfl) ?_
                                  refine O.nil ?_
                                  refine X.next ?_
                                  refine V.condNot rfl (fun c18 => ?_) (fun c18 => ?_)
                                  · skip
                                    exact absurd ⟨hcP, hoP⟩ c18
                                  · skip
                                    refine V.skip ?_
                                    exact X.cut (Ent.nil _) (Ent.cons (t := 3) rfl (Ent.cons (t := 4) rfl (Ent.cons (t := 5) rfl (Ent.cons (t := 8) rfl (Ent.cons (t := 9) rfl (Ent.nil _)))))) (Sub.keep 4 rfl (Sub.keep 4 rfl (Sub.keep 4 rfl (Sub.keep 4 rfl (Sub.keep 4 rfl (Sub.keep 4 rfl (Sub.keep 4 rfl (Sub.keep 4 rfl (Sub.nil _)))))))))
                        · skip
                          refine V.skip ?_
                          exact X.cut (Ent.nil _) (Ent.cons (t := 3) rfl (Ent.cons (t := 4) rfl (Ent.cons (t := 5) rfl (Ent.cons (t := 8) rfl (Ent.cons (t := 9) rfl (Ent.nil _)))))) (Sub.keep 0 rfl (Sub.keep 0 rfl (Sub.keep 0 rfl (Sub.keep 0 rfl (Sub.keep 0 rfl (Sub.keep 0 rfl (Sub.keep 0 rfl (Sub.keep 0 rfl (Sub.nil _)))))))))
                      · skip
                        refine X.next ?_
                        refine V.seq ?_
                        refine V.seq ?_
                        refine V.region ?_
                        refine O.p rfl rfl rfl (Pu.move rfl rfl) ?_
                        refine O.p rfl rfl rfl (Pu.neq rfl rfl rfl) ?_
                        refine O.nil ?_
                        refine X.next ?_
                        refine V.condNot rfl (fun c19 => ?_) (fun c19 => ?_)
                        · skip
                          refine V.seq ?_
                          refine V.region ?_
                          refine O.p rfl rfl rfl (Pu.move rfl rfl) ?_
                          refine O.p rfl rfl rfl (Pu.not rfl rfl) ?_
                          refine O.p rfl rfl rfl (Pu.assign rfl rfl) ?_
                          refine O.nil ?_
                          refine X.next ?_
                          refine V.ret ?_
                          refine X.thenRet ?_
                          refine X.ret1 rfl rfl ?_
                          exact fun w hw => St.retP (by simp [c19]) hw
                        · skip
                          have hc1 : cpC pv1 r1 = 0 := by omega
                          have hmn := mn_0 (cp_ok hc1).1 (cp_ok hc1).2.1
                          have hms := (miss_left (cp_ok hc1).1 (cp_ok hc1).2.1).2
                          refine V.skip ?_
                          refine X.next ?_
                          refine V.seq ?_
                          refine V.region ?_
                          refine O.p rfl rfl rfl (Pu.loadAgg rfl ag26 sz26 rfl rfl (Ld.whole 6 rfl)) ?_
                          refine O.e rfl rfl rfl (Ef.call1 call54 rfl rfl (fun w hw => countCompletions_ok  pv1 r1 _ _ w ((Ld.own 7 (by exact rfl)) w hw) (by first | omega | (simp only [tops_len, conts_len, bl, List.length_append, List.length_cons, List.length_nil] at *; omega)) )) ?_
                          rintro _ _ rfl
                          refine O.exi (fun n1 => ?_)
                          refine O.pur ?_
                          rintro ⟨rfl, hn1_1⟩
                          refine O.p rfl rfl rfl (Pu.move rfl rfl) ?_
                          refine O.p rfl rfl rfl (Pu.extract rfl rfl rfl) ?_
                          refine O.p rfl rfl rfl (Pu.extract rfl rfl rfl) ?_
                          refine O.p rfl rfl rfl (Pu.assign rfl rfl) ?_
                          refine O.p rfl rfl rfl (Pu.assign rfl rfl) ?_
                          refine O.nil ?_
                          refine X.next ?_
                          refine V.seq ?_
                          refine V.region ?_
                          refine O.p rfl rfl rfl (Pu.move rfl rfl) ?_
                          refine O.p rfl rfl rfl (Pu.eql rfl rfl rfl) ?_
                          refine O.p rfl rfl rfl (Pu.move rfl rfl) ?_
                          refine O.splitD 191 rfl (fun c20 => ?_) (fun c20 => ?_)
                          · skip
                            refine O.gp rfl rfl rfl rfl rfl (Pu.move rfl rfl) ?_
                            refine O.gp rfl rfl rfl rfl rfl (Pu.geq rfl rfl rfl) ?_
                            refine O.p rfl rfl rfl (Pu.pickT rfl rfl rfl) ?_
                            refine O.p rfl rfl rfl (Pu.move rfl rfl) ?_
                            refine O.splitD 195 rfl (fun c21 => ?_) (fun c21 => ?_)
                            · skip
                              refine O.gp rfl rfl rfl rfl rfl (Pu.move rfl rfl) ?_
                              refine O.gp rfl rfl rfl rfl rfl (Pu.eql rfl rfl rfl) ?_
                              refine O.p rfl rfl rfl (Pu.pickT rfl rfl rfl) ?_
                              refine O.p rfl rfl rfl (Pu.move rfl rfl) ?_
                              refine O.splitD 199 rfl (fun c22 => ?_) (fun c22 => ?_)
                              · skip
                                refine O.gp rfl rfl rfl rfl rfl (Pu.move rfl rfl) ?_
                                refine O.gp rfl rfl rfl rfl rfl (Pu.move rfl rfl) ?_
                                refine O.gp rfl rfl rfl rfl rfl (Pu.eql rfl rfl rfl) ?_
                                refine O.gp rfl rfl rfl rfl rfl (Pu.boolEql Tryz.underlying4 rfl rfl rfl) ?_
                                refine O.p rfl rfl rfl (Pu.pickT rfl rfl rfl) ?_
                                refine O.p rfl rfl rfl (Pu.assign rfl rfl) ?_
                                refine O.nil ?_
                                refine X.next ?_
                                refine V.ret ?_
                                refine X.ret1 rfl rfl ?_
                                exact fun w hw => St.retP (by have hn := hn1_1 hc1; simp [hc1]; omega) hw
                              · skip
                                exact absurd hc1 c22
                            · skip
                              exact absurd (by rw [if_pos hmn]; exact hms) c21
                          · skip
                            exact absurd hmn c20
end Go.Proofs.YtgjfcepnkllklaaGreat
