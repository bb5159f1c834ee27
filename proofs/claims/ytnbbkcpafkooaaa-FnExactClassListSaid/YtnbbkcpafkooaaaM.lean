/-
  The law of the list of classes.
-/
import Derived.Test.YtnbbkcpafkooaaaTy
import Derived.Test.YtnbbkcpafkooaaaF
import Derived.Test.YtnbbkcpafkooaaaG
import Derived.Test.YtnbbkcpafkooaaaI
import Derived.Test.YtnbbkcpafkooaaaJ
import Derived.Test.YtnbbkcpafkooaaaK
import Derived.Test.YtnbbkcpafkooaaaL
set_option linter.unusedVariables false
set_option linter.unusedSimpArgs false
namespace Go.Proofs.Ytnbbkcpafkooaaa
open Go Go.RowKit Go.Vc Go.Proofs
theorem cls_small {v : Int} {bs : List B3} {l : List (List Int)} (h : ResL (STS v bs) (Cls v bs) l) : ∀ q ∈ l, q.length ≤ 5 := by
  intro q hq
  by_cases hS : STS v bs
  · have h1 := ((h.1 hS).2 q).1 hq
    have h2 := (cls_count hS.good (by have := hS.lo; omega) q).1 h1
    have := hS.hi
    omega
  · rw [h.2 hS] at hq
    simp at hq

set_option maxRecDepth 100000 in
theorem FnExactClassList_ok (v : Int) (bs : List B3) (A : Option Addr) (c : Nat) (w : World) (hx : Rd B3C w A bs) (lx : bs.length ≤ 9223372036854775807) : Does Try.prog 4 [.agg #[.int .i64 v, .slice A bs.length c]] w [] (fun r => [.pur (r = .bool true)]) := by
  refine Does.enter Try.func4 rfl rfl [(0, .agg #[.int .i64 v, .slice A bs.length c])] rfl ?_
  refine V.seq ?_
  refine V.region ?_
  refine O.e rfl rfl rfl (Ef.box rfl rfl rfl) ?_
  rintro _ _ ⟨b1, rfl, rfl⟩
  refine O.p rfl rfl rfl (Pu.assign rfl rfl) ?_
  refine O.nil ?_
  refine X.next ?_
  refine V.seq ?_
  refine V.region ?_
  refine O.p rfl rfl rfl (Pu.assign rfl rfl) ?_
  refine O.nil ?_
  refine X.next ?_
  refine V.seq ?_
  refine V.region ?_
  refine O.p rfl rfl rfl (Pu.loadAgg rfl ag24 sz24 rfl rfl (Ld.whole 0 rfl)) ?_
  refine O.p rfl rfl rfl (Pu.move rfl rfl) ?_
  refine O.e rfl rfl rfl (Ef.callP call13 rfl rfl (fun w hw => szSystem_ok _ _ bs _ _ w (by first | omega | (unfold roomLeft at *; split at * <;> omega)) (by omega))) ?_
  rintro _ _ ⟨rfl, rfl⟩
  refine O.p rfl rfl rfl (Pu.assign rfl rfl) ?_
  refine O.nil ?_
  refine X.next ?_
  refine V.seq ?_
  refine V.seq ?_
  refine V.region ?_
  refine O.p rfl rfl rfl (Pu.move rfl rfl) ?_
  refine O.p rfl rfl rfl (Pu.lss rfl rfl rfl) ?_
  refine O.nil ?_
  refine X.next ?_
  refine V.condD rfl (fun c1 => ?_) (fun c1 => ?_)
  · skip
    refine V.seq ?_
    refine V.region ?_
    refine O.p rfl rfl rfl (Pu.assign rfl rfl) ?_
    refine O.nil ?_
    refine X.next ?_
    refine V.ret ?_
    refine X.thenRet ?_
    refine X.ret1 rfl rfl ?_
    exact fun w hw => St.retP (rfl) hw
  · skip
    have hk : bs.length ≤ 1048576 := by unfold roomLeft at c1; split at c1 <;> omega
    refine V.skip ?_
    refine X.next ?_
    refine V.seq ?_
    refine V.region ?_
    refine O.p rfl rfl rfl (Pu.loadAgg rfl ag24 sz24 rfl rfl (Ld.whole 0 rfl)) ?_
    refine O.e rfl rfl rfl (Ef.call1 call15 rfl rfl (fun w hw => toSystem_ok _ bs _ _ w ((Ld.old hx) w hw) (by omega))) ?_
    rintro _ _ rfl
    refine O.exi (fun D1 => ?_)
    refine O.sep ?_
    refine O.pur ?_
    rintro ⟨hD1, rfl⟩
    refine O.e rfl rfl rfl (Ef.call1 call14 rfl rfl (fun w hw => specClassList_ok _ bs _ _ w ((Ld.own 0 (by exact rfl)) w hw) (by omega))) ?_
    rintro _ _ rfl
    refine O.exi (fun p1 => ?_)
    refine O.sep ?_
    refine O.pur ?_
    rintro ⟨rfl, hp1_1, hp1_2⟩
    refine O.sep ?_
    refine O.p rfl rfl rfl (Pu.move rfl rfl) ?_
    refine O.p rfl rfl rfl (Pu.extract rfl rfl rfl) ?_
    refine O.p rfl rfl rfl (Pu.extract rfl rfl rfl) ?_
    refine O.p rfl rfl rfl (Pu.assign rfl rfl) ?_
    refine O.p rfl rfl rfl (Pu.assign rfl rfl) ?_
    refine O.nil ?_
    refine X.next ?_
    refine V.seq ?_
    refine V.region ?_
    refine O.p rfl rfl rfl (Pu.loadAgg rfl ag24 sz24 rfl rfl (Ld.whole 3 rfl)) ?_
    refine O.e rfl rfl rfl (Ef.call1 call15 rfl rfl (fun w hw => toSystem_ok _ bs _ _ w ((Ld.old hx) w hw) (by omega))) ?_
    rintro _ _ rfl
    refine O.exi (fun D2 => ?_)
    refine O.sep ?_
    refine O.pur ?_
    rintro ⟨hD2, rfl⟩
    refine O.e rfl rfl rfl (Ef.alloc rfl zr31 rfl) ?_
    rintro _ _ ⟨b2, rfl, rfl⟩
    refine O.s rfl rfl (Ef.storeAll 0 rfl sz31 rfl rfl rfl rfl (by simp [Value.oneCell']) rfl) ?_
    rintro _ _ rfl
    refine O.nil ?_
    refine X.next ?_
    refine V.seq ?_
    refine V.region ?_
    refine O.p rfl rfl rfl (Pu.loadAgg rfl ag31 sz31 rfl rfl (Ld.whole 0 rfl)) ?_
    refine O.e rfl rfl rfl (Ef.call1 call16 rfl rfl (fun w hw => implClassList_ok _ bs _ _ w ((Ld.own 1 (by exact rfl)) w hw) (by omega))) ?_
    rintro _ _ rfl
    refine O.exi (fun p2 => ?_)
    refine O.sep ?_
    refine O.pur ?_
    rintro ⟨rfl, hp2_1, hp2_2⟩
    refine O.sep ?_
    refine O.p rfl rfl rfl (Pu.move rfl rfl) ?_
    refine O.p rfl rfl rfl (Pu.extract rfl rfl rfl) ?_
    refine O.p rfl rfl rfl (Pu.extract rfl rfl rfl) ?_
    refine O.p rfl rfl rfl (Pu.assign rfl rfl) ?_
    refine O.p rfl rfl rfl (Pu.assign rfl rfl) ?_
    refine O.nil ?_
    refine X.next ?_
    refine V.seq ?_
    refine V.seq ?_
    have heq : conts p2.2 = conts p1.2 := hp2_1.unique hp1_1
    have hsm := sumLen_bound (cls_small hp2_1)
    have ht2 := tops_len p2.2
    have ht1 := tops_len p1.2
    refine V.region ?_
    refine O.p rfl rfl rfl (Pu.move rfl rfl) ?_
    refine O.p rfl rfl rfl (Pu.move rfl rfl) ?_
    refine O.e rfl rfl rfl (Ef.callP call17 rfl rfl (fun w hw => eqInt64SS_ok p2.2 p1.2 _ _ _ _ w ((Ld.ll 0 1 (by exact rfl) (by exact rfl)) w hw) ((Ld.ll 4 5 (by exact rfl) (by exact rfl)) w hw) (by omega) (by omega))) ?_
    rintro _ _ ⟨rfl, rfl⟩
    refine O.p rfl rfl rfl (Pu.not rfl rfl) ?_
    refine O.p rfl rfl rfl (Pu.move rfl rfl) ?_
    refine O.splitN 36 rfl (fun c2 => ?_) (fun c2 => ?_)
    · skip
      exact absurd heq c2
    · skip
      refine O.gp rfl rfl rfl rfl rfl (Pu.move rfl rfl) ?_
      refine O.gp rfl rfl rfl rfl rfl (Pu.move rfl rfl) ?_
      refine O.gp rfl rfl rfl rfl rfl (Pu.neq rfl rfl rfl) ?_
      refine O.p rfl rfl rfl (Pu.pickF rfl rfl rfl) ?_
      refine O.nil ?_
      refine X.next ?_
      refine V.condNot rfl (fun c3 => ?_) (fun c3 => ?_)
      · skip
        exact absurd rfl c3
      · skip
        refine V.skip ?_
        refine X.next ?_
        refine V.seq ?_
        refine V.seq ?_
        refine V.draw mo (by kernel_rfl) (fun hwf => ?_)
        refine D.p 0 rfl rfl rfl rfl rfl rfl (Pu.loadAgg rfl ag31 sz31 rfl rfl (Ld.whole 2 rfl)) ?_
        refine D.p 1 rfl rfl rfl rfl rfl rfl (Pu.loadAgg rfl ag24 sz24 rfl rfl (Ld.whole 7 rfl)) ?_
        refine D.eff hwf (e := 2) rfl rfl rfl rfl (Ef.call1 call15 rfl rfl (fun w hw => toSystem_ok _ bs _ _ w ((Ld.old hx) w hw) (by omega))) rfl rfl rfl ?_
        rintro _ _ rfl hs
        refine ⟨fun w hw => hs w hw.tail, ?_⟩
        refine D.exi (fun D3 => ?_)
        refine D.sep ?_
        refine D.pur1 ?_
        rintro ⟨hD3, rfl⟩
        refine D.eff hwf (e := 3) rfl rfl rfl rfl (Ef.callP call18 rfl rfl (fun w hw => eqSystem_ok _ _ bs bs _ _ _ _ w ((Ld.own 4 (by exact rfl)) w hw) ((Ld.own 0 (by exact rfl)) w hw) (by omega) (by omega))) rfl rfl rfl ?_
        rintro _ _ ⟨rfl, rfl⟩ hs
        refine ⟨fun w hw => hw.sub (Sub.keep 1 rfl (Sub.keep 1 rfl (Sub.keep 1 rfl (Sub.keep 1 rfl (Sub.keep 1 rfl (Sub.keep 1 rfl (Sub.keep 1 rfl (Sub.keep 1 rfl (Sub.nil _))))))))), ?_⟩
        refine D.p 4 rfl rfl rfl rfl rfl rfl (Pu.not rfl rfl) ?_
        refine D.done hwf rfl ?_
        refine X.next ?_
        refine V.condNot rfl (fun c4 => ?_) (fun c4 => ?_)
        · skip
          exact absurd ⟨rfl, rfl⟩ c4
        · skip
          refine V.skip ?_
          refine X.next ?_
          refine V.seq ?_
          refine V.region ?_
          refine O.p rfl rfl rfl (Pu.assign rfl rfl) ?_
          refine O.nil ?_
          refine X.next ?_
          refine V.seq ?_
          refine V.region ?_
          refine O.p rfl rfl rfl (Pu.loadAgg rfl ag31 sz31 rfl rfl (Ld.whole 3 rfl)) ?_
          refine O.p rfl rfl rfl (Pu.move rfl rfl) ?_
          refine O.e rfl rfl rfl (Ef.call call19 rfl rfl (Does.pre (fun w hw => hw.sub (Sub.keep 4 rfl (Sub.keep 0 rfl (Sub.keep 0 rfl (Sub.keep 0 rfl (Sub.keep 0 rfl (Sub.keep 0 rfl (Sub.keep 0 rfl (Sub.keep 0 rfl (Sub.keep 0 rfl (Sub.nil _))))))))))) (markSystem_ok _ _ _ _ _ _ _ (by omega) (by omega)))) ?_
          rintro _ _ rfl
          refine O.exi (fun ys1 => ?_)
          refine O.sep ?_
          refine O.pur ?_
          rintro ⟨hlys1, rfl⟩
          refine O.p rfl rfl rfl (Pu.assign rfl rfl) ?_
          refine O.nil ?_
          refine X.next ?_
          refine V.seq ?_
          refine V.seq ?_
          refine V.region ?_
          refine O.p rfl rfl rfl (Pu.move rfl rfl) ?_
          refine O.p rfl rfl rfl (Pu.lss rfl rfl rfl) ?_
          refine O.p rfl rfl rfl (Pu.move rfl rfl) ?_
          refine O.splitD 51 rfl (fun c5 => ?_) (fun c5 => ?_)
          · skip
            exact absurd c5 (by omega)
          · skip
            refine O.gp rfl rfl rfl rfl rfl (Pu.move rfl rfl) ?_
            refine O.gp rfl rfl rfl rfl rfl (Pu.move rfl rfl) ?_
            refine O.ge rfl rfl rfl rfl rfl (Ef.callP call17 rfl rfl (fun w hw => eqInt64SS_ok p2.2 p1.2 _ _ _ _ w ((Ld.ll 2 3 (by exact rfl) (by exact rfl)) w hw) ((Ld.ll 5 6 (by exact rfl) (by exact rfl)) w hw) (by omega) (by omega))) ?_
            rintro _ _ ⟨rfl, rfl⟩
            refine O.gp rfl rfl rfl rfl rfl (Pu.not rfl rfl) ?_
            refine O.p rfl rfl rfl (Pu.pickF rfl rfl rfl) ?_
            refine O.p rfl rfl rfl (Pu.move rfl rfl) ?_
            refine O.splitN 57 rfl (fun c6 => ?_) (fun c6 => ?_)
            · skip
              exact absurd heq c6
            · skip
              refine O.gp rfl rfl rfl rfl rfl (Pu.move rfl rfl) ?_
              refine O.gp rfl rfl rfl rfl rfl (Pu.move rfl rfl) ?_
              refine O.gp rfl rfl rfl rfl rfl (Pu.neq rfl rfl rfl) ?_
              refine O.p rfl rfl rfl (Pu.pickF rfl rfl rfl) ?_
              refine O.nil ?_
              refine X.next ?_
              refine V.condNot rfl (fun c7 => ?_) (fun c7 => ?_)
              · skip
                exact absurd rfl c7
              · skip
                refine V.skip ?_
                refine X.next ?_
                refine V.seq ?_
                refine V.region ?_
                refine O.p rfl rfl rfl (Pu.assign rfl rfl) ?_
                refine O.nil ?_
                refine X.next ?_
                refine V.seq ?_
                refine V.region ?_
                refine O.p rfl rfl rfl (Pu.move rfl rfl) ?_
                refine O.p rfl rfl rfl (Pu.move rfl rfl) ?_
                refine O.e rfl rfl rfl (Ef.call call20 rfl rfl (Does.pre (fun w hw => hw.sub (Sub.keep 2 rfl (Sub.keep 2 rfl (Sub.keep 0 rfl (Sub.keep 0 rfl (Sub.keep 0 rfl (Sub.keep 0 rfl (Sub.keep 0 rfl (Sub.keep 0 rfl (Sub.keep 0 rfl (Sub.nil _))))))))))) (markInt64SS_ok p2.2 _ _ _ _ _ (by omega) (by omega)))) ?_
                rintro _ _ rfl
                refine O.pur ?_
                rintro rfl
                refine O.p rfl rfl rfl (Pu.assign rfl rfl) ?_
                refine O.nil ?_
                refine X.next ?_
                refine V.seq ?_
                refine V.region ?_
                refine O.p rfl rfl rfl (Pu.assign rfl rfl) ?_
                refine O.nil ?_
                refine X.next ?_
                refine V.seq ?_
                refine V.region ?_
                refine O.p rfl rfl rfl (Pu.move rfl rfl) ?_
                refine O.p rfl rfl rfl (Pu.move rfl rfl) ?_
                refine O.e rfl rfl rfl (Ef.callP call21 rfl rfl (fun w hw => heldInt64SS_ok p2.2 _ _ _ w (Ld.llm (i := 0) (j := 1) (by exact rfl) (by exact rfl) w hw) (by omega) (by omega))) ?_
                rintro _ _ ⟨rfl, rfl⟩
                refine O.p rfl rfl rfl (Pu.assign rfl rfl) ?_
                refine O.nil ?_
                refine X.next ?_
                refine V.seq ?_
                refine V.seq ?_
                refine V.region ?_
                refine O.p rfl rfl rfl (Pu.move rfl rfl) ?_
                refine O.p rfl rfl rfl (Pu.lss rfl rfl rfl) ?_
                refine O.nil ?_
                refine X.next ?_
                refine V.condD rfl (fun c8 => ?_) (fun c8 => ?_)
                · skip
                  exact absurd c8 (by omega)
                · skip
                  refine V.skip ?_
                  refine X.next ?_
                  refine V.seq ?_
                  refine V.seq ?_
                  refine V.region ?_
                  refine O.p rfl rfl rfl (Pu.move rfl rfl) ?_
                  refine O.p rfl rfl rfl (Pu.move rfl rfl) ?_
                  refine O.p rfl rfl rfl (Pu.neq rfl rfl rfl) ?_
                  refine O.nil ?_
                  refine X.next ?_
                  refine V.condNot rfl (fun c9 => ?_) (fun c9 => ?_)
                  · skip
                    exact absurd rfl c9
                  · skip
                    refine V.skip ?_
                    refine X.next ?_
                    refine V.seq ?_
                    refine V.region ?_
                    refine O.p rfl rfl rfl (Pu.loadAgg rfl ag24 sz24 rfl rfl (Ld.whole 8 rfl)) ?_
                    refine O.e rfl rfl rfl (Ef.call1 call15 rfl rfl (fun w hw => toSystem_ok _ bs _ _ w ((Ld.old hx) w hw) (by omega))) ?_
                    rintro _ _ rfl
                    refine O.exi (fun D4 => ?_)
                    refine O.sep ?_
                    refine O.pur ?_
                    rintro ⟨hD4, rfl⟩
                    refine O.e rfl rfl rfl (Ef.call1 call16 rfl rfl (fun w hw => implClassList_ok _ bs _ _ w ((Ld.own 0 (by exact rfl)) w hw) (by omega))) ?_
                    rintro _ _ rfl
                    refine O.exi (fun p3 => ?_)
                    refine O.sep ?_
                    refine O.pur ?_
                    rintro ⟨rfl, hp3_1, hp3_2⟩
                    refine O.sep ?_
                    refine O.p rfl rfl rfl (Pu.move rfl rfl) ?_
                    refine O.p rfl rfl rfl (Pu.extract rfl rfl rfl) ?_
                    refine O.p rfl rfl rfl (Pu.extract rfl rfl rfl) ?_
                    refine O.p rfl rfl rfl (Pu.assign rfl rfl) ?_
                    refine O.p rfl rfl rfl (Pu.assign rfl rfl) ?_
                    refine O.nil ?_
                    refine X.next ?_
                    refine V.seq ?_
                    refine V.seq ?_
                    have heq2 : conts p3.2 = conts p1.2 := hp3_1.unique hp1_1
                    have ht3 := tops_len p3.2
                    refine V.region ?_
                    refine O.p rfl rfl rfl (Pu.move rfl rfl) ?_
                    refine O.p rfl rfl rfl (Pu.move rfl rfl) ?_
                    refine O.e rfl rfl rfl (Ef.callP call17 rfl rfl (fun w hw => eqInt64SS_ok p3.2 p1.2 _ _ _ _ w ((Ld.ll 0 1 (by exact rfl) (by exact rfl)) w hw) ((Ld.ll 8 9 (by exact rfl) (by exact rfl)) w hw) (by omega) (by omega))) ?_
                    rintro _ _ ⟨rfl, rfl⟩
                    refine O.p rfl rfl rfl (Pu.not rfl rfl) ?_
                    refine O.p rfl rfl rfl (Pu.move rfl rfl) ?_
                    refine O.splitN 83 rfl (fun c10 => ?_) (fun c10 => ?_)
                    · skip
                      exact absurd heq2 c10
                    · skip
                      refine O.gp rfl rfl rfl rfl rfl (Pu.move rfl rfl) ?_
                      refine O.gp rfl rfl rfl rfl rfl (Pu.move rfl rfl) ?_
                      refine O.gp rfl rfl rfl rfl rfl (Pu.neq rfl rfl rfl) ?_
                      refine O.p rfl rfl rfl (Pu.pickF rfl rfl rfl) ?_
                      refine O.nil ?_
                      refine X.next ?_
                      refine V.condNot rfl (fun c11 => ?_) (fun c11 => ?_)
                      · skip
                        exact absurd rfl c11
                      · skip
                        refine V.skip ?_
                        refine X.next ?_
                        refine V.seq ?_
                        refine V.region ?_
                        refine O.p rfl rfl rfl (Pu.assign rfl rfl) ?_
                        refine O.nil ?_
                        refine X.next ?_
                        refine V.seq ?_
                        refine V.region ?_
                        refine O.p rfl rfl rfl (Pu.move rfl rfl) ?_
                        refine O.p rfl rfl rfl (Pu.move rfl rfl) ?_
                        refine O.e rfl rfl rfl (Ef.callP call21 rfl rfl (fun w hw => heldInt64SS_ok p2.2 _ _ _ w (Ld.llm (i := 3) (j := 4) (by exact rfl) (by exact rfl) w hw) (by omega) (by omega))) ?_
                        rintro _ _ ⟨rfl, rfl⟩
                        refine O.p rfl rfl rfl (Pu.assign rfl rfl) ?_
                        refine O.nil ?_
                        refine X.next ?_
                        refine V.seq ?_
                        refine V.seq ?_
                        refine V.region ?_
                        refine O.p rfl rfl rfl (Pu.move rfl rfl) ?_
                        refine O.p rfl rfl rfl (Pu.lss rfl rfl rfl) ?_
                        refine O.nil ?_
                        refine X.next ?_
                        refine V.condD rfl (fun c12 => ?_) (fun c12 => ?_)
                        · skip
                          exact absurd c12 (by omega)
                        · skip
                          refine V.skip ?_
                          refine X.next ?_
                          refine V.seq ?_
                          refine V.seq ?_
                          refine V.region ?_
                          refine O.p rfl rfl rfl (Pu.move rfl rfl) ?_
                          refine O.p rfl rfl rfl (Pu.move rfl rfl) ?_
                          refine O.p rfl rfl rfl (Pu.neq rfl rfl rfl) ?_
                          refine O.nil ?_
                          refine X.next ?_
                          refine V.condNot rfl (fun c13 => ?_) (fun c13 => ?_)
                          · skip
                            exact absurd rfl c13
                          · skip
                            refine V.skip ?_
                            refine X.next ?_
                            refine V.seq ?_
                            refine V.region ?_
                            refine O.p rfl rfl rfl (Pu.assign rfl rfl) ?_
                            refine O.nil ?_
                            refine X.next ?_
                            refine V.ret ?_
                            refine X.ret1 rfl rfl ?_
                            exact fun w hw => St.retP (rfl) hw
end Go.Proofs.Ytnbbkcpafkooaaa
