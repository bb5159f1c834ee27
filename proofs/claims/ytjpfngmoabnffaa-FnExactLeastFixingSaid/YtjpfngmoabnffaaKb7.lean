/-
  Contracts, part 7.
-/
import Derived.Test.YtjpfngmoabnffaaKb6
set_option linter.unusedVariables false
set_option linter.unusedSimpArgs false
namespace Go.Proofs.Ytjpfngmoabnffaa
open Go Go.RowKit Go.Vc Go.Proofs
set_option maxRecDepth 100000 in
set_option maxHeartbeats 1000000 in
theorem FnExactLeastFixing_ok (v : Int) (bs : List B3) (A : Option Addr) (c : Nat) (w : World) (hx : Rd B3C w A bs) (lx : bs.length ≤ 9223372036854775807) : Does Try.prog 8 [.agg #[.int .i64 v, .slice A bs.length c]] w [] (fun r => [.pur (r = .bool true)]) := by
  refine Does.enter Try.func8 rfl rfl [(0, .agg #[.int .i64 v, .slice A bs.length c])] rfl ?_
  refine V.seq ?_
  refine V.region ?_
  refine O.e rfl rfl rfl (Ef.box rfl rfl rfl) ?_
  rintro _ _ ⟨b1, rfl, rfl⟩
  refine O.p rfl rfl rfl (Pu.assign rfl rfl) ?_
  refine O.nil ?_
  refine X.next ?_
  refine V.seq ?_
  refine V.region ?_
  refine O.p rfl rfl rfl (Pu.assign rfl rfl) ?_
  refine O.nil ?_
  refine X.next ?_
  refine V.seq ?_
  refine V.region ?_
  refine O.p rfl rfl rfl (Pu.loadAgg rfl ag24 sz24 rfl rfl (Ld.whole 0 rfl)) ?_
  refine O.p rfl rfl rfl (Pu.move rfl rfl) ?_
  refine O.e rfl rfl rfl (Ef.callP call15 rfl rfl (fun w hw => szSystem_ok _ _ bs _ _ w (by first | omega | (unfold roomLeft at *; split at * <;> omega)) (by omega))) ?_
  rintro _ _ ⟨rfl, rfl⟩
  refine O.p rfl rfl rfl (Pu.assign rfl rfl) ?_
  refine O.nil ?_
  refine X.next ?_
  refine V.seq ?_
  refine V.seq ?_
  refine V.region ?_
  refine O.p rfl rfl rfl (Pu.move rfl rfl) ?_
  refine O.p rfl rfl rfl (Pu.lss rfl rfl rfl) ?_
  refine O.nil ?_
  refine X.next ?_
  refine V.condD rfl (fun c1 => ?_) (fun c1 => ?_)
  · skip
    refine V.seq ?_
    refine V.region ?_
    refine O.p rfl rfl rfl (Pu.assign rfl rfl) ?_
    refine O.nil ?_
    refine X.next ?_
    refine V.ret ?_
    refine X.thenRet ?_
    refine X.ret1 rfl rfl ?_
    exact fun w hw => St.retP rfl hw
  · skip
    have hk : bs.length ≤ 1048576 := by unfold roomLeft at c1; split at c1 <;> omega
    refine V.skip ?_
    refine X.next ?_
    refine V.seq ?_
    refine V.region ?_
    refine O.p rfl rfl rfl (Pu.loadAgg rfl ag24 sz24 rfl rfl (Ld.whole 0 rfl)) ?_
    refine O.e rfl rfl rfl (Ef.call1 call17 rfl rfl (fun w hw => toSystem_ok _ bs _ _ w ((Ld.old hx) w hw) (by omega))) ?_
    rintro _ _ rfl
    refine O.exi (fun A1 => ?_)
    refine O.sep ?_
    refine O.pur ?_
    rintro ⟨hA1, rfl⟩
    refine O.e rfl rfl rfl (Ef.call1 call36 rfl rfl (fun w hw => specLeastFixing_ok  v bs _ _ w ((Ld.own 0 (by exact rfl)) w hw) (by first | omega | (simp only [tops_len, conts_len, bl, List.length_append, List.length_cons, List.length_nil] at *; omega)) )) ?_
    rintro _ _ rfl
    refine O.exi (fun o1A => ?_)
    refine O.exi (fun o1c => ?_)
    refine O.exi (fun o1 => ?_)
    refine O.sep ?_
    refine O.pur ?_
    rintro ⟨rfl, ho1_1⟩
    refine O.p rfl rfl rfl (Pu.move rfl rfl) ?_
    refine O.p rfl rfl rfl (Pu.extract rfl rfl rfl) ?_
    refine O.p rfl rfl rfl (Pu.extract rfl rfl rfl) ?_
    refine O.p rfl rfl rfl (Pu.assign rfl rfl) ?_
    refine O.p rfl rfl rfl (Pu.assign rfl rfl) ?_
    refine O.nil ?_
    refine X.next ?_
    refine V.seq ?_
    refine V.region ?_
    refine O.p rfl rfl rfl (Pu.loadAgg rfl ag24 sz24 rfl rfl (Ld.whole 2 rfl)) ?_
    refine O.e rfl rfl rfl (Ef.call1 call17 rfl rfl (fun w hw => toSystem_ok _ bs _ _ w ((Ld.old hx) w hw) (by omega))) ?_
    rintro _ _ rfl
    refine O.exi (fun A2 => ?_)
    refine O.sep ?_
    refine O.pur ?_
    rintro ⟨hA2, rfl⟩
    refine O.e rfl rfl rfl (Ef.alloc rfl zr30 rfl) ?_
    rintro _ _ ⟨b2, rfl, rfl⟩
    refine O.s rfl rfl (Ef.storeAll 0 rfl sz30 rfl rfl rfl rfl (by simp [Value.oneCell']) rfl) ?_
    rintro _ _ rfl
    refine O.nil ?_
    refine X.next ?_
    refine V.seq ?_
    refine V.region ?_
    refine O.p rfl rfl rfl (Pu.loadAgg rfl ag30 sz30 rfl rfl (Ld.whole 0 rfl)) ?_
    refine O.e rfl rfl rfl (Ef.call1 call37 rfl rfl (fun w hw => implLeastFixing_ok  v bs _ _ w ((Ld.own 1 (by exact rfl)) w hw) (by first | omega | (simp only [tops_len, conts_len, bl, List.length_append, List.length_cons, List.length_nil] at *; omega)) )) ?_
    rintro _ _ rfl
    refine O.exi (fun o2A => ?_)
    refine O.exi (fun o2c => ?_)
    refine O.exi (fun o2 => ?_)
    refine O.sep ?_
    refine O.pur ?_
    rintro ⟨rfl, ho2_1⟩
    have heq := ho2_1.unique ho1_1
    have hlo1 := ho1_1.len
    have hlo2 := ho2_1.len
    refine O.p rfl rfl rfl (Pu.move rfl rfl) ?_
    refine O.p rfl rfl rfl (Pu.extract rfl rfl rfl) ?_
    refine O.p rfl rfl rfl (Pu.extract rfl rfl rfl) ?_
    refine O.p rfl rfl rfl (Pu.assign rfl rfl) ?_
    refine O.p rfl rfl rfl (Pu.assign rfl rfl) ?_
    refine O.nil ?_
    refine X.next ?_
    refine V.seq ?_
    refine V.seq ?_
    refine V.region ?_
    refine O.p rfl rfl rfl (Pu.move rfl rfl) ?_
    refine O.p rfl rfl rfl (Pu.move rfl rfl) ?_
    refine O.e rfl rfl rfl (Ef.callP call33 rfl rfl (fun w hw => eqInt64S_ok o2 o1 _ _ _ _ w ((Ld.own 0 (by exact rfl)) w hw) ((Ld.own 3 (by exact rfl)) w hw) (by omega) (by omega))) ?_
    rintro _ _ ⟨rfl, rfl⟩
    refine O.p rfl rfl rfl (Pu.not rfl rfl) ?_
    refine O.p rfl rfl rfl (Pu.move rfl rfl) ?_
    refine O.splitN 36 rfl (fun c2 => ?_) (fun c2 => ?_)
    · skip
      refine O.gs rfl rfl rfl rfl rfl rfl ?_
      refine O.gs rfl rfl rfl rfl rfl rfl ?_
      refine O.gs rfl rfl rfl rfl rfl rfl ?_
      refine O.p rfl rfl rfl (Pu.pickT rfl rfl rfl) ?_
      refine O.nil ?_
      refine X.next ?_
      refine V.condT rfl ?_
      refine V.seq ?_
      refine V.region ?_
      refine O.p rfl rfl rfl (Pu.assign rfl rfl) ?_
      refine O.nil ?_
      refine X.next ?_
      refine V.ret ?_
      refine X.thenRet ?_
      refine X.ret1 rfl rfl ?_
      exact absurd (by first | assumption | rfl | exact ⟨rfl, rfl⟩ | exact ⟨rfl, by assumption⟩ | omega | (simp only [*]; done) | (rw [rfl])) c2
    · skip
      refine O.gp rfl rfl rfl rfl rfl (Pu.move rfl rfl) ?_
      refine O.gp rfl rfl rfl rfl rfl (Pu.move rfl rfl) ?_
      refine O.gp rfl rfl rfl rfl rfl (Pu.neq rfl rfl rfl) ?_
      refine O.p rfl rfl rfl (Pu.pickF rfl rfl rfl) ?_
      refine O.nil ?_
      refine X.next ?_
      refine V.condNot rfl (fun c3 => ?_) (fun c3 => ?_)
      · skip
        refine V.seq ?_
        refine V.region ?_
        refine O.p rfl rfl rfl (Pu.assign rfl rfl) ?_
        refine O.nil ?_
        refine X.next ?_
        refine V.ret ?_
        refine X.thenRet ?_
        refine X.ret1 rfl rfl ?_
        exact absurd (by first | assumption | rfl | exact ⟨rfl, rfl⟩ | exact ⟨rfl, by assumption⟩ | omega | (simp only [*]; done) | (rw [rfl])) c3
      · skip
        refine V.skip ?_
        refine X.next ?_
        refine V.seq ?_
        refine V.seq ?_
        refine V.draw mo (by kernel_rfl) (fun hwf => ?_)
        refine D.p 0 rfl rfl rfl rfl rfl rfl (Pu.loadAgg rfl ag30 sz30 rfl rfl (Ld.whole 1 rfl)) ?_
        refine D.p 1 rfl rfl rfl rfl rfl rfl (Pu.loadAgg rfl ag24 sz24 rfl rfl (Ld.whole 5 rfl)) ?_
        refine D.eff hwf (e := 2) rfl rfl rfl rfl (Ef.call1 call17 rfl rfl (fun w hw => toSystem_ok _ bs _ _ w ((Ld.old hx) w hw) (by omega))) rfl rfl rfl ?_
        rintro _ _ rfl hs
        refine ⟨fun w hw => hs w hw.tail, ?_⟩
        refine D.exi (fun A3 => ?_)
        refine D.sep ?_
        refine D.pur1 ?_
        rintro ⟨hA3, rfl⟩
        refine D.eff hwf (e := 3) rfl rfl rfl rfl (Ef.callP call19 rfl rfl (fun w hw => eqSystem_ok _ _ bs bs _ _ _ _ w ((Ld.own 3 (by exact rfl)) w hw) ((Ld.own 0 (by exact rfl)) w hw) (by omega) (by omega))) rfl rfl rfl ?_
        rintro _ _ ⟨rfl, rfl⟩ hs
        refine ⟨fun w hw => hw.sub (Sub.keep 1 rfl (Sub.keep 1 rfl (Sub.keep 1 rfl (Sub.keep 1 rfl (Sub.keep 1 rfl (Sub.keep 1 rfl (Sub.nil _))))))), ?_⟩
        refine D.p 4 rfl rfl rfl rfl rfl rfl (Pu.not rfl rfl) ?_
        refine D.done hwf rfl ?_
        refine X.next ?_
        refine V.condNot rfl (fun c4 => ?_) (fun c4 => ?_)
        · skip
          refine V.seq ?_
          refine V.region ?_
          refine O.p rfl rfl rfl (Pu.assign rfl rfl) ?_
          refine O.nil ?_
          refine X.next ?_
          refine V.ret ?_
          refine X.thenRet ?_
          refine X.ret1 rfl rfl ?_
          exact absurd (by first | assumption | rfl | exact ⟨rfl, rfl⟩ | exact ⟨rfl, by assumption⟩ | omega | (simp only [*]; done) | (rw [rfl])) c4
        · skip
          refine V.skip ?_
          refine X.next ?_
          refine V.seq ?_
          refine V.region ?_
          refine O.p rfl rfl rfl (Pu.assign rfl rfl) ?_
          refine O.nil ?_
          refine X.next ?_
          refine V.seq ?_
          refine V.region ?_
          refine O.p rfl rfl rfl (Pu.loadAgg rfl ag30 sz30 rfl rfl (Ld.whole 2 rfl)) ?_
          refine O.p rfl rfl rfl (Pu.move rfl rfl) ?_
          refine O.e rfl rfl rfl (Ef.callM 3 call25 rfl rfl rfl (fun H _ => markSystemX_ok _ _ _ _ _ _ H (by omega) (by omega))) ?_
          rintro _ _ ⟨rfl, rfl⟩
          refine O.p rfl rfl rfl (Pu.assign rfl rfl) ?_
          refine O.nil ?_
          refine X.next ?_
          refine V.seq ?_
          refine V.seq ?_
          refine V.region ?_
          refine O.p rfl rfl rfl (Pu.move rfl rfl) ?_
          refine O.p rfl rfl rfl (Pu.lss rfl rfl rfl) ?_
          refine O.p rfl rfl rfl (Pu.move rfl rfl) ?_
          refine O.splitD 51 rfl (fun c5 => ?_) (fun c5 => ?_)
          · skip
            refine O.gs rfl rfl rfl rfl rfl rfl ?_
            refine O.gs rfl rfl rfl rfl rfl rfl ?_
            refine O.gs rfl rfl rfl rfl rfl rfl ?_
            refine O.gs rfl rfl rfl rfl rfl rfl ?_
            refine O.p rfl rfl rfl (Pu.pickT rfl rfl rfl) ?_
            refine O.p rfl rfl rfl (Pu.move rfl rfl) ?_
            refine O.gs rfl rfl rfl rfl rfl rfl ?_
            refine O.gs rfl rfl rfl rfl rfl rfl ?_
            refine O.gs rfl rfl rfl rfl rfl rfl ?_
            refine O.p rfl rfl rfl (Pu.pickT rfl rfl rfl) ?_
            refine O.nil ?_
            refine X.next ?_
            refine V.condT rfl ?_
            refine V.seq ?_
            refine V.region ?_
            refine O.p rfl rfl rfl (Pu.assign rfl rfl) ?_
            refine O.nil ?_
            refine X.next ?_
            refine V.ret ?_
            refine X.thenRet ?_
            refine X.ret1 rfl rfl ?_
            exact absurd c5 (by first | omega | assumption)
          · skip
            refine O.gp rfl rfl rfl rfl rfl (Pu.move rfl rfl) ?_
            refine O.gp rfl rfl rfl rfl rfl (Pu.move rfl rfl) ?_
            refine O.ge rfl rfl rfl rfl rfl (Ef.callP call33 rfl rfl (fun w hw => eqInt64S_ok o2 o1 _ _ _ _ w ((Ld.own 1 (by exact rfl)) w hw) ((Ld.own 4 (by exact rfl)) w hw) (by omega) (by omega))) ?_
            rintro _ _ ⟨rfl, rfl⟩
            refine O.gp rfl rfl rfl rfl rfl (Pu.not rfl rfl) ?_
            refine O.p rfl rfl rfl (Pu.pickF rfl rfl rfl) ?_
            refine O.p rfl rfl rfl (Pu.move rfl rfl) ?_
            refine O.splitN 57 rfl (fun c6 => ?_) (fun c6 => ?_)
            · skip
              refine O.gs rfl rfl rfl rfl rfl rfl ?_
              refine O.gs rfl rfl rfl rfl rfl rfl ?_
              refine O.gs rfl rfl rfl rfl rfl rfl ?_
              refine O.p rfl rfl rfl (Pu.pickT rfl rfl rfl) ?_
              refine O.nil ?_
              refine X.next ?_
              refine V.condT rfl ?_
              refine V.seq ?_
              refine V.region ?_
              refine O.p rfl rfl rfl (Pu.assign rfl rfl) ?_
              refine O.nil ?_
              refine X.next ?_
              refine V.ret ?_
              refine X.thenRet ?_
              refine X.ret1 rfl rfl ?_
              exact absurd (by first | assumption | rfl | exact ⟨rfl, rfl⟩ | exact ⟨rfl, by assumption⟩ | omega | (simp only [*]; done) | (rw [rfl])) c6
            · skip
              refine O.gp rfl rfl rfl rfl rfl (Pu.move rfl rfl) ?_
              refine O.gp rfl rfl rfl rfl rfl (Pu.move rfl rfl) ?_
              refine O.gp rfl rfl rfl rfl rfl (Pu.neq rfl rfl rfl) ?_
              refine O.p rfl rfl rfl (Pu.pickF rfl rfl rfl) ?_
              refine O.nil ?_
              refine X.next ?_
              refine V.condNot rfl (fun c7 => ?_) (fun c7 => ?_)
              · skip
                refine V.seq ?_
                refine V.region ?_
                refine O.p rfl rfl rfl (Pu.assign rfl rfl) ?_
                refine O.nil ?_
                refine X.next ?_
                refine V.ret ?_
                refine X.thenRet ?_
                refine X.ret1 rfl rfl ?_
                exact absurd (by first | assumption | rfl | exact ⟨rfl, rfl⟩ | exact ⟨rfl, by assumption⟩ | omega | (simp only [*]; done) | (rw [rfl])) c7
              · skip
                refine V.skip ?_
                refine X.next ?_
                refine V.seq ?_
                refine V.region ?_
                refine O.p rfl rfl rfl (Pu.assign rfl rfl) ?_
                refine O.nil ?_
                refine X.next ?_
                refine V.seq ?_
                refine V.region ?_
                refine O.p rfl rfl rfl (Pu.move rfl rfl) ?_
                refine O.p rfl rfl rfl (Pu.move rfl rfl) ?_
                refine O.e rfl rfl rfl (Ef.callM 1 call34 rfl rfl rfl (fun H _ => markInt64S_ok _ _ _ _ _ H (by omega))) ?_
                rintro _ _ ⟨rfl, rfl⟩
                refine O.p rfl rfl rfl (Pu.assign rfl rfl) ?_
                refine O.nil ?_
                refine X.next ?_
                refine V.seq ?_
                refine V.region ?_
                refine O.p rfl rfl rfl (Pu.assign rfl rfl) ?_
                refine O.nil ?_
                refine X.next ?_
                refine V.seq ?_
                refine V.region ?_
                refine O.p rfl rfl rfl (Pu.move rfl rfl) ?_
                refine O.p rfl rfl rfl (Pu.move rfl rfl) ?_
                refine O.e rfl rfl rfl (Ef.callP call35 rfl rfl (fun w hw => heldM_ok o2.length _ _ _ w ((Ld.own 1 (by exact rfl)) w hw) (by omega))) ?_
                rintro _ _ ⟨rfl, rfl⟩
                refine O.p rfl rfl rfl (Pu.assign rfl rfl) ?_
                refine O.nil ?_
                refine X.next ?_
                refine V.seq ?_
                refine V.seq ?_
                refine V.region ?_
                refine O.p rfl rfl rfl (Pu.move rfl rfl) ?_
                refine O.p rfl rfl rfl (Pu.lss rfl rfl rfl) ?_
                refine O.nil ?_
                refine X.next ?_
                refine V.condD rfl (fun c8 => ?_) (fun c8 => ?_)
                · skip
                  refine V.seq ?_
                  refine V.region ?_
                  refine O.p rfl rfl rfl (Pu.assign rfl rfl) ?_
                  refine O.nil ?_
                  refine X.next ?_
                  refine V.ret ?_
                  refine X.thenRet ?_
                  refine X.ret1 rfl rfl ?_
                  exact absurd c8 (by first | omega | assumption)
                · skip
                  refine V.skip ?_
                  refine X.next ?_
                  refine V.seq ?_
                  refine V.seq ?_
                  refine V.region ?_
                  refine O.p rfl rfl rfl (Pu.move rfl rfl) ?_
                  refine O.p rfl rfl rfl (Pu.move rfl rfl) ?_
                  refine O.p rfl rfl rfl (Pu.neq rfl rfl rfl) ?_
                  refine O.nil ?_
                  refine X.next ?_
                  refine V.condNot rfl (fun c9 => ?_) (fun c9 => ?_)
                  · skip
                    refine V.seq ?_
                    refine V.region ?_
                    refine O.p rfl rfl rfl (Pu.assign rfl rfl) ?_
                    refine O.nil ?_
                    refine X.next ?_
                    refine V.ret ?_
                    refine X.thenRet ?_
                    refine X.ret1 rfl rfl ?_
                    exact absurd (by first | assumption | rfl | exact ⟨rfl, rfl⟩ | exact ⟨rfl, by assumption⟩ | omega | (simp only [*]; done) | (rw [rfl])) c9
                  · skip
                    refine V.skip ?_
                    refine X.next ?_
                    refine V.seq ?_
                    refine V.region ?_
                    refine O.p rfl rfl rfl (Pu.loadAgg rfl ag24 sz24 rfl rfl (Ld.whole 6 rfl)) ?_
                    refine O.e rfl rfl rfl (Ef.call1 call17 rfl rfl (fun w hw => toSystem_ok _ bs _ _ w ((Ld.old hx) w hw) (by omega))) ?_
                    rintro _ _ rfl
                    refine O.exi (fun A4 => ?_)
                    refine O.sep ?_
                    refine O.pur ?_
                    rintro ⟨hA4, rfl⟩
                    refine O.e rfl rfl rfl (Ef.call1 call37 rfl rfl (fun w hw => implLeastFixing_ok  v bs _ _ w ((Ld.own 0 (by exact rfl)) w hw) (by first | omega | (simp only [tops_len, conts_len, bl, List.length_append, List.length_cons, List.length_nil] at *; omega)) )) ?_
                    rintro _ _ rfl
                    refine O.exi (fun o3A => ?_)
                    refine O.exi (fun o3c => ?_)
                    refine O.exi (fun o3 => ?_)
                    refine O.sep ?_
                    refine O.pur ?_
                    rintro ⟨rfl, ho3_1⟩
                    have heq := ho3_1.unique ho1_1
                    have hlo1 := ho1_1.len
                    have hlo3 := ho3_1.len
                    refine O.p rfl rfl rfl (Pu.move rfl rfl) ?_
                    refine O.p rfl rfl rfl (Pu.extract rfl rfl rfl) ?_
                    refine O.p rfl rfl rfl (Pu.extract rfl rfl rfl) ?_
                    refine O.p rfl rfl rfl (Pu.assign rfl rfl) ?_
                    refine O.p rfl rfl rfl (Pu.assign rfl rfl) ?_
                    refine O.nil ?_
                    refine X.next ?_
                    refine V.seq ?_
                    refine V.seq ?_
                    refine V.region ?_
                    refine O.p rfl rfl rfl (Pu.move rfl rfl) ?_
                    refine O.p rfl rfl rfl (Pu.move rfl rfl) ?_
                    refine O.e rfl rfl rfl (Ef.callP call33 rfl rfl (fun w hw => eqInt64S_ok o3 o1 _ _ _ _ w ((Ld.own 0 (by exact rfl)) w hw) ((Ld.own 6 (by exact rfl)) w hw) (by omega) (by omega))) ?_
                    rintro _ _ ⟨rfl, rfl⟩
                    refine O.p rfl rfl rfl (Pu.not rfl rfl) ?_
                    refine O.p rfl rfl rfl (Pu.move rfl rfl) ?_
                    refine O.splitN 83 rfl (fun c10 => ?_) (fun c10 => ?_)
                    · skip
                      refine O.gs rfl rfl rfl rfl rfl rfl ?_
                      refine O.gs rfl rfl rfl rfl rfl rfl ?_
                      refine O.gs rfl rfl rfl rfl rfl rfl ?_
                      refine O.p rfl rfl rfl (Pu.pickT rfl rfl rfl) ?_
                      refine O.nil ?_
                      refine X.next ?_
                      refine V.condT rfl ?_
                      refine V.seq ?_
                      refine V.region ?_
                      refine O.p rfl rfl rfl (Pu.assign rfl rfl) ?_
                      refine O.nil ?_
                      refine X.next ?_
                      refine V.ret ?_
                      refine X.thenRet ?_
                      refine X.ret1 rfl rfl ?_
                      exact absurd (by first | assumption | rfl | exact ⟨rfl, rfl⟩ | exact ⟨rfl, by assumption⟩ | omega | (simp only [*]; done) | (rw [rfl])) c10
                    · skip
                      refine O.gp rfl rfl rfl rfl rfl (Pu.move rfl rfl) ?_
                      refine O.gp rfl rfl rfl rfl rfl (Pu.move rfl rfl) ?_
                      refine O.gp rfl rfl rfl rfl rfl (Pu.neq rfl rfl rfl) ?_
                      refine O.p rfl rfl rfl (Pu.pickF rfl rfl rfl) ?_
                      refine O.nil ?_
                      refine X.next ?_
                      refine V.condNot rfl (fun c11 => ?_) (fun c11 => ?_)
                      · skip
                        refine V.seq ?_
                        refine V.region ?_
                        refine O.p rfl rfl rfl (Pu.assign rfl rfl) ?_
                        refine O.nil ?_
                        refine X.next ?_
                        refine V.ret ?_
                        refine X.thenRet ?_
                        refine X.ret1 rfl rfl ?_
                        exact absurd (by first | assumption | rfl | exact ⟨rfl, rfl⟩ | exact ⟨rfl, by assumption⟩ | omega | (simp only [*]; done) | (rw [rfl])) c11
                      · skip
                        refine V.skip ?_
                        refine X.next ?_
                        refine V.seq ?_
                        refine V.region ?_
                        refine O.p rfl rfl rfl (Pu.assign rfl rfl) ?_
                        refine O.nil ?_
                        refine X.next ?_
                        refine V.seq ?_
                        refine V.region ?_
                        refine O.p rfl rfl rfl (Pu.move rfl rfl) ?_
                        refine O.p rfl rfl rfl (Pu.move rfl rfl) ?_
                        refine O.e rfl rfl rfl (Ef.callP call35 rfl rfl (fun w hw => heldM_ok o2.length _ _ _ w ((Ld.own 3 (by exact rfl)) w hw) (by omega))) ?_
                        rintro _ _ ⟨rfl, rfl⟩
                        refine O.p rfl rfl rfl (Pu.assign rfl rfl) ?_
                        refine O.nil ?_
                        refine X.next ?_
                        refine V.seq ?_
                        refine V.seq ?_
                        refine V.region ?_
                        refine O.p rfl rfl rfl (Pu.move rfl rfl) ?_
                        refine O.p rfl rfl rfl (Pu.lss rfl rfl rfl) ?_
                        refine O.nil ?_
                        refine X.next ?_
                        refine V.condD rfl (fun c12 => ?_) (fun c12 => ?_)
                        · skip
                          refine V.seq ?_
                          refine V.region ?_
                          refine O.p rfl rfl rfl (Pu.assign rfl rfl) ?_
                          refine O.nil ?_
                          refine X.next ?_
                          refine V.ret ?_
                          refine X.thenRet ?_
                          refine X.ret1 rfl rfl ?_
                          exact absurd c12 (by first | omega | assumption)
                        · skip
                          refine V.skip ?_
                          refine X.next ?_
                          refine V.seq ?_
                          refine V.seq ?_
                          refine V.region ?_
                          refine O.p rfl rfl rfl (Pu.move rfl rfl) ?_
                          refine O.p rfl rfl rfl (Pu.move rfl rfl) ?_
                          refine O.p rfl rfl rfl (Pu.neq rfl rfl rfl) ?_
                          refine O.nil ?_
                          refine X.next ?_
                          refine V.condNot rfl (fun c13 => ?_) (fun c13 => ?_)
                          · skip
                            refine V.seq ?_
                            refine V.region ?_
                            refine O.p rfl rfl rfl (Pu.assign rfl rfl) ?_
                            refine O.nil ?_
                            refine X.next ?_
                            refine V.ret ?_
                            refine X.thenRet ?_
                            refine X.ret1 rfl rfl ?_
                            exact absurd (by first | assumption | rfl | exact ⟨rfl, rfl⟩ | exact ⟨rfl, by assumption⟩ | omega | (simp only [*]; done) | (rw [rfl])) c13
                          · skip
                            refine V.skip ?_
                            refine X.next ?_
                            refine V.seq ?_
                            refine V.region ?_
                            refine O.p rfl rfl rfl (Pu.assign rfl rfl) ?_
                            refine O.nil ?_
                            refine X.next ?_
                            refine V.ret ?_
                            refine X.ret1 rfl rfl ?_
                            exact fun w hw => St.retP rfl hw
end Go.Proofs.Ytjpfngmoabnffaa
