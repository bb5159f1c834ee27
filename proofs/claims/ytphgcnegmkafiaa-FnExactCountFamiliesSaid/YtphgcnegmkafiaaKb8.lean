/-
  Contracts, part 8.
-/
import Derived.Test.YtphgcnegmkafiaaKb7
set_option linter.unusedVariables false
set_option linter.unusedSimpArgs false
namespace Go.Proofs.Ytphgcnegmkafiaa
open Go Go.RowKit Go.Vc Go.Proofs
set_option maxRecDepth 100000 in
set_option maxHeartbeats 1000000 in
theorem l10Go_step (n : Nat) (ih : ∀ n', n' < n → L_l10Go n') (D0 : Nat) (sb most : Nat) (ns : List Nat) (l : List (List Int)) (chosen : List Int) (from_ : Nat) (low : Nat) (high : Nat) (chosenA : Option Addr) (chosenc : Nat) (w0 : World) (H : List Assn) (hchosen : ∀ w, St w0 H w → Rd I64 w chosenA chosen) (lchosen : chosen.length ≤ 1099511627776) (hcS : chosenA.isSome = true) (hF : Fam n D0) (hlw : low = D0 % 2 ^ 42) (hhg : high = D0 / 2 ^ 42) (hc6 : chosen.length + n = 6) (hnl : ns.length ≤ 1000) (hns : ∀ j (h : j < ns.length), ns[j] < ms9.length) (hfn : from_ ≤ ns.length) (hlm : l.length < most) (hmm : most ≤ 1000000000) : Does Try.prog 61 [.pointer (some ⟨sb, 0, none⟩), .slice chosenA chosen.length chosenc, .int .i64 (from_ : Int), .int .i64 (low : Int), .int .i64 (high : Int)] w0 (FamK 56 2 sb most ns l :: H) (fun r => [.sep (.pur (r = .tuple #[])) (FamK 56 2 sb most ns (l ++ runC (fun j => decide (j < most)) l.length (famS ms9 ns n from_ chosen D0)))] ++ H) := by
  refine Does.enter Try.func61 rfl rfl [(0, .pointer (some ⟨sb, 0, none⟩)), (1, .slice chosenA chosen.length chosenc), (2, .int .i64 (from_ : Int)), (3, .int .i64 (low : Int)), (4, .int .i64 (high : Int))] rfl ?_
  have hll : low < 2 ^ 42 := by rw [hlw]; exact lt42
  have hhl : high < 2 ^ 42 := by rw [hhg]; exact div_lt42 hF.lt
  refine V.seq ?_
  refine V.seq ?_
  refine V.region ?_
  refine O.p rfl rfl rfl (Pu.move rfl rfl) ?_
  refine O.p rfl rfl rfl (Pu.len rfl Try.underlying54 rfl) ?_
  refine O.p rfl rfl rfl (Pu.eql rfl rfl rfl) ?_
  refine O.nil ?_
  refine X.next ?_
  refine V.condD rfl (fun c1 => ?_) (fun c1 => ?_)
  · skip
    have hk0 : n = 0 := by omega
    refine V.seq ?_
    refine V.famK (fun lA1 lk1 hA1 hk1 nA1 nk1 fA1 fk1 => ?_)
    refine V.region ?_
    refine O.p rfl rfl rfl (Pu.move rfl rfl) ?_
    refine O.p rfl rfl rfl (Pu.nilCheck rfl rfl) ?_
    refine O.p rfl rfl rfl (Pu.fieldAddr 4 rfl Try.underlying56 rfl sz2 rfl rfl) ?_
    refine O.p rfl rfl rfl (Pu.load rfl pl2 rfl (Ld.blk 0 rfl rfl)) ?_
    refine O.p rfl rfl rfl (Pu.add64 (r := ((l.length + 1 : Nat) : Int)) rfl (by omega) rfl rfl rfl) ?_
    refine O.p rfl rfl rfl (Pu.nilCheck rfl rfl) ?_
    refine O.p rfl rfl rfl (Pu.fieldAddr 4 rfl Try.underlying56 rfl sz2 rfl rfl) ?_
    refine O.s rfl rfl (Ef.store1 (cs' := [_, _, _, _, _, _]) 0 rfl sz2 rfl rfl rfl rfl rfl (ltb rfl) rfl) ?_
    rintro _ _ rfl
    refine O.nil ?_
    refine X.next ?_
    refine V.seq ?_
    refine V.seq ?_
    refine V.region ?_
    refine O.p rfl rfl rfl (Pu.move rfl rfl) ?_
    refine O.p rfl rfl rfl (Pu.nilCheck rfl rfl) ?_
    refine O.p rfl rfl rfl (Pu.fieldAddr 4 rfl Try.underlying56 rfl sz2 rfl rfl) ?_
    refine O.p rfl rfl rfl (Pu.load rfl pl2 rfl (Ld.blk 0 rfl rfl)) ?_
    refine O.p rfl rfl rfl (Pu.eql rfl rfl rfl) ?_
    refine O.nil ?_
    refine X.next ?_
    refine V.condD rfl (fun c2 => ?_) (fun c2 => ?_)
    · skip
      have hl0 : l = [] := List.length_eq_zero_iff.1 (by omega)
      refine V.region ?_
      refine O.p rfl rfl rfl (Pu.move rfl rfl) ?_
      refine O.p rfl rfl rfl (Pu.move rfl rfl) ?_
      refine O.e rfl rfl rfl (Ef.call1 call89 rfl rfl (fun w hw => l01Own_ok chosen _ _ w ((fun w hw => hchosen w (hw.sub (Sub.drop (Sub.drop (Sub.drop (Sub.drop (Sub.drop (Sub.refl _)))))))) w hw) hcS (by omega))) ?_
      rintro _ _ rfl
      refine O.exi (fun p1 => ?_)
      refine O.sep ?_
      refine O.pur ?_
      rintro ⟨rfl, hp1⟩
      refine O.p rfl rfl rfl (Pu.nilCheck rfl rfl) ?_
      refine O.p rfl rfl rfl (Pu.fieldAddr 5 rfl Try.underlying56 rfl sz54 rfl rfl) ?_
      refine O.s rfl rfl (Ef.store1 (cs' := [_, _, _, _, _, _]) 1 rfl sz54 rfl rfl rfl rfl rfl (ltb rfl) rfl) ?_
      rintro _ _ rfl
      refine O.nil ?_
      refine X.next ?_
      refine V.ret ?_
      refine X.thenRet ?_
      refine X.map (fun w hw => FamK.mk (T := 56) (iT := 2) (l := (l ++ [chosen])) (ns := ns) (by rw [head_snoc, if_pos hl0, hp1]) (hw.sub (Sub.cons 1 rfl (fun w F h => by rw [List.length_append, List.length_singleton]; exact h) (Sub.keep 1 rfl (Sub.keep 1 rfl (Sub.keep 1 rfl (Sub.keep 0 rfl (Sub.drop (Sub.refl _))))))))) ?_
      refine X.ret0 rfl ?_
      exact fun w hw => St.unsep (St.addPur rfl (hw.sub (Sub.cons 0 rfl (fun w F h => by rw [hk0]; show (FamK _ _ _ _ _ (l ++ runC _ _ [chosen])).P w F; rw [runC_one]; exact h) (Sub.refl _))))
    · skip
      have hl0 : ¬ l = [] := fun h => c2 (by rw [h]; rfl)
      refine V.skip ?_
      refine X.next ?_
      refine V.ret ?_
      refine X.thenRet ?_
      refine X.map (fun w hw => FamK.mk (T := 56) (iT := 2) (l := (l ++ [chosen])) (ns := ns) (by rw [head_snoc, if_neg hl0]) (hw.sub (Sub.cons 0 rfl (fun w F h => by rw [List.length_append, List.length_singleton]; exact h) (Sub.keep 0 rfl (Sub.keep 0 rfl (Sub.keep 0 rfl (Sub.keep 0 rfl (Sub.refl _)))))))) ?_
      refine X.ret0 rfl ?_
      exact fun w hw => St.unsep (St.addPur rfl (hw.sub (Sub.cons 0 rfl (fun w F h => by rw [hk0]; show (FamK _ _ _ _ _ (l ++ runC _ _ [chosen])).P w F; rw [runC_one]; exact h) (Sub.refl _))))
  · skip
    have hn0 : 0 < n := by omega
    obtain ⟨kq, hk1⟩ : ∃ kq, n = kq + 1 := ⟨n - 1, by omega⟩
    have hpv := hF.piv hn0
    refine V.skip ?_
    refine X.next ?_
    refine V.seq ?_
    refine V.region ?_
    refine O.p rfl rfl rfl (Pu.assign rfl rfl) ?_
    refine O.nil ?_
    refine X.next ?_
    refine V.seq ?_
    refine V.block ?_
    refine V.loop3 (β := Nat) (fun nx => [(10, .int .u64 (nx : Int))]) _ (fun nx => []) _ (fun nx => nx ≤ pivD D0) (fun nx => pivD D0 - nx) 0 (by omega) (Ent.cons rfl (Ent.nil _)) (Ent.cons (t := 0) rfl (Ent.cons (t := 1) rfl (Ent.cons (t := 2) rfl (Ent.cons (t := 3) rfl (Ent.cons (t := 4) rfl (Ent.nil _)))))) (Sub.keep 0 rfl (Sub.refl _)) ?_
    rintro nx hnx0
    refine V.seq ?_
    refine V.seq ?_
    refine V.region ?_
    refine O.p rfl rfl rfl (Pu.move rfl rfl) ?_
    refine O.p rfl rfl rfl (Pu.move rfl rfl) ?_
    refine O.p rfl rfl rfl (Pu.shr (m := low) (p := nx) K64.i (by omega) rfl rfl rfl) ?_
    refine O.p rfl rfl rfl (Pu.and (m := (low >>> nx)) (n := 1) K64.i (shr_lt (by omega)) (by omega) rfl rfl rfl) ?_
    refine O.p rfl rfl rfl (Pu.eql rfl rfl rfl) ?_
    refine O.nil ?_
    refine X.next ?_
    refine V.condD rfl (fun c3 => ?_) (fun c3 => ?_)
    · skip
      have hb : D0.testBit nx = true := (word_bit (k := 42) (by omega)).1 (by rw [← hlw]; omega)
      have hne : nx ≠ pivD D0 := by rintro rfl; rw [hpv.2.1] at hb; cases hb
      refine V.skip ?_
      refine X.next ?_
      refine V.block ?_
      refine V.region ?_
      refine O.p rfl rfl rfl (Pu.move rfl rfl) ?_
      refine O.p rfl rfl rfl (Pu.addN (m := nx) (n := 1) K64.u (by omega) rfl rfl rfl) ?_
      refine O.p rfl rfl rfl (Pu.assign rfl rfl) ?_
      refine O.nil ?_
      refine X.blockNormal ?_
      exact X.back3 (nx + 1) (by omega) (by first | omega | (dsimp only; omega)) (Ent.cons rfl (Ent.nil _)) (Ent.cons (t := 0) rfl (Ent.cons (t := 1) rfl (Ent.cons (t := 2) rfl (Ent.cons (t := 3) rfl (Ent.cons (t := 4) rfl (Ent.nil _)))))) (Sub.keep 0 rfl (Sub.refl _))
    · skip
      have hb : ¬ D0.testBit nx = true := fun h => c3 (by have := (word_bit (k := 42) (by omega)).2 h; rw [← hlw] at this; omega)
      have hne : nx = pivD D0 := by apply Decidable.byContradiction; intro h; exact hb (hpv.2.2 nx (by omega))
      refine V.exit ?_
      refine X.thenExit ?_
      refine X.thenExit ?_
      refine X.blockHit ?_
      refine X.next ?_
      refine V.seq ?_
      refine V.region ?_
      refine O.p rfl rfl rfl (Pu.move rfl rfl) ?_
      refine O.p rfl rfl rfl (Pu.assign rfl rfl) ?_
      refine O.nil ?_
      refine X.next ?_
      refine V.block ?_
      refine V.loop3 (β := Nat × (List (List Int))) (fun x => [(11, .int .i64 (x.1 : Int))]) _ (fun x => [FamK 56 2 sb most ns x.2]) _ (fun x => from_ ≤ x.1 ∧ x.1 ≤ ns.length ∧ x.2 = l ++ runC (fun j => decide (j < most)) l.length (famJ ms9 ns kq from_ chosen D0 x.1)) (fun x => ns.length - x.1) (from_, l) (by (try dsimp only); exact ⟨by omega, by omega, by rw [famJ_low _ (by omega)]; simp [runC]⟩) (Ent.cons rfl (Ent.nil _)) (Ent.cons (t := 0) rfl (Ent.cons (t := 1) rfl (Ent.cons (t := 3) rfl (Ent.cons (t := 4) rfl (Ent.cons (t := 10) rfl (Ent.nil _)))))) (Sub.keep 0 rfl (Sub.refl _)) ?_
      rintro ⟨i, l2⟩ ⟨hfi, hi, hl2⟩
      dsimp only at hfi hi hl2 ⊢
      refine V.seq ?_
      refine V.seq ?_
      refine V.famK (fun lA2 lk2 hA2 hk2 nA2 nk2 fA2 fk2 => ?_)
      refine V.draw mo (by kernel_rfl) (fun hwf => ?_)
      refine D.p 0 rfl rfl rfl rfl rfl rfl (Pu.move rfl rfl) ?_
      refine D.p 1 rfl rfl rfl rfl rfl rfl (Pu.move rfl rfl) ?_
      refine D.p 2 rfl rfl rfl rfl rfl rfl (Pu.nilCheck rfl rfl) ?_
      refine D.p 3 rfl rfl rfl rfl rfl rfl (Pu.fieldAddr 2 rfl Try.underlying56 rfl sz54 rfl rfl) ?_
      refine D.p 4 rfl rfl rfl rfl rfl rfl (Pu.load rfl pl54 rfl (Ld.blk 0 rfl rfl)) ?_
      refine D.p 5 rfl rfl rfl rfl rfl rfl (Pu.len rfl Try.underlying54 rfl) ?_
      refine D.p 6 rfl rfl rfl rfl rfl rfl (Pu.lss rfl rfl rfl) ?_
      refine D.p 7 rfl rfl rfl rfl rfl rfl (Pu.move rfl rfl) ?_
      refine D.splitD 47 rfl (fun c4 => ?_) (fun c4 => ?_)
      · skip
        refine D.gp 8 rfl rfl rfl rfl rfl rfl rfl rfl (Pu.move rfl rfl) ?_
        refine D.gp 9 rfl rfl rfl rfl rfl rfl rfl rfl (Pu.nilCheck rfl rfl) ?_
        refine D.gp 10 rfl rfl rfl rfl rfl rfl rfl rfl (Pu.fieldAddr 4 rfl Try.underlying56 rfl sz2 rfl rfl) ?_
        refine D.gp 11 rfl rfl rfl rfl rfl rfl rfl rfl (Pu.load rfl pl2 rfl (Ld.blk 0 rfl rfl)) ?_
        refine D.gp 12 rfl rfl rfl rfl rfl rfl rfl rfl (Pu.move rfl rfl) ?_
        refine D.gp 13 rfl rfl rfl rfl rfl rfl rfl rfl (Pu.nilCheck rfl rfl) ?_
        refine D.gp 14 rfl rfl rfl rfl rfl rfl rfl rfl (Pu.fieldAddr 3 rfl Try.underlying56 rfl sz2 rfl rfl) ?_
        refine D.gp 15 rfl rfl rfl rfl rfl rfl rfl rfl (Pu.load rfl pl2 rfl (Ld.blk 0 rfl rfl)) ?_
        refine D.gp 16 rfl rfl rfl rfl rfl rfl rfl rfl (Pu.lss rfl rfl rfl) ?_
        refine D.p 17 rfl rfl rfl rfl rfl rfl (Pu.pickT rfl rfl rfl) ?_
        refine D.done hwf rfl ?_
        refine X.next ?_
        refine V.condD rfl (fun c5 => ?_) (fun c5 => ?_)
        · skip
          refine V.skip ?_
          refine X.next ?_
          refine V.seq ?_
          refine V.block ?_
          refine V.seq ?_
          have ei0 : i < ns.length := by omega
          have ei : i < (lowL ns).length := by rw [low_len]; exact ei0
          have eh : i < (highL ns).length := by rw [high_len]; exact ei0
          have hgd : ns.getD i 0 = ns[i]'ei0 := by rw [List.getD_eq_getElem?_getD, List.getElem?_eq_getElem ei0]; rfl
          have hMl : (ms9.getD (ns[i]'ei0) 0) < 2 ^ 84 := ms9_lt
          have hlo : (lowL ns)[i]'ei = (ms9.getD (ns[i]'ei0) 0) % 2 ^ 42 := low_at ei0 ei
          have hhi : (highL ns)[i]'eh = (ms9.getD (ns[i]'ei0) 0) / 2 ^ 42 := high_at ei0 eh
          have hlb : (lowL ns)[i]'ei < 2 ^ 42 := by rw [hlo]; exact lt42
          have hhb : (highL ns)[i]'eh < 2 ^ 42 := by rw [hhi]; exact div_lt42 hMl
          refine V.region ?_
          refine O.p rfl rfl rfl (Pu.move rfl rfl) ?_
          refine O.p rfl rfl rfl (Pu.nilCheck rfl rfl) ?_
          refine O.p rfl rfl rfl (Pu.fieldAddr 0 rfl Try.underlying56 rfl sz54 rfl rfl) ?_
          refine O.p rfl rfl rfl (Pu.load rfl pl54 rfl (Ld.blk 0 rfl rfl)) ?_
          refine O.p rfl rfl rfl (Pu.move rfl rfl) ?_
          refine O.p rfl rfl rfl (Pu.indexAddrS (i) rfl Try.underlying54 sz2 rfl rfl (by omega) (by omega) (fun w hw => Own.some hw (i := 1) (by exact rfl) (by omega))) ?_
          refine O.p rfl rfl rfl (Pu.load rfl pl2 rfl (Ld.rd (Ld.own 1 (by exact rfl)) (k := i) ei rfl rfl)) ?_
          refine O.p rfl rfl rfl (Pu.move rfl rfl) ?_
          refine O.p rfl rfl rfl (Pu.shr (m := ((lowL ns)[i]'ei)) (p := nx) K64.i (by omega) rfl rfl rfl) ?_
          refine O.p rfl rfl rfl (Pu.and (m := (((lowL ns)[i]'ei) >>> nx)) (n := 1) K64.i (shr_lt (by omega)) (by omega) rfl rfl rfl) ?_
          refine O.p rfl rfl rfl (Pu.eql rfl rfl rfl) ?_
          refine O.p rfl rfl rfl (Pu.move rfl rfl) ?_
          refine O.splitD 71 rfl (fun c6 => ?_) (fun c6 => ?_)
          · skip
            refine O.gp rfl rfl rfl rfl rfl (Pu.move rfl rfl) ?_
            refine O.gp rfl rfl rfl rfl rfl (Pu.nilCheck rfl rfl) ?_
            refine O.gp rfl rfl rfl rfl rfl (Pu.fieldAddr 0 rfl Try.underlying56 rfl sz54 rfl rfl) ?_
            refine O.gp rfl rfl rfl rfl rfl (Pu.load rfl pl54 rfl (Ld.blk 0 rfl rfl)) ?_
            refine O.gp rfl rfl rfl rfl rfl (Pu.move rfl rfl) ?_
            refine O.gp rfl rfl rfl rfl rfl (Pu.indexAddrS (i) rfl Try.underlying54 sz2 rfl rfl (by omega) (by omega) (fun w hw => Own.some hw (i := 1) (by exact rfl) (by omega))) ?_
            refine O.gp rfl rfl rfl rfl rfl (Pu.load rfl pl2 rfl (Ld.rd (Ld.own 1 (by exact rfl)) (k := i) ei rfl rfl)) ?_
            refine O.gp rfl rfl rfl rfl rfl (Pu.move rfl rfl) ?_
            refine O.gp rfl rfl rfl rfl rfl (Pu.and (m := ((lowL ns)[i]'ei)) (n := low) K64.i (by omega) (by omega) rfl rfl rfl) ?_
            refine O.gp rfl rfl rfl rfl rfl (Pu.eql rfl rfl rfl) ?_
            refine O.p rfl rfl rfl (Pu.pickT rfl rfl rfl) ?_
            refine O.p rfl rfl rfl (Pu.move rfl rfl) ?_
            refine O.splitD 83 rfl (fun c7 => ?_) (fun c7 => ?_)
            · skip
              refine O.gp rfl rfl rfl rfl rfl (Pu.move rfl rfl) ?_
              refine O.gp rfl rfl rfl rfl rfl (Pu.nilCheck rfl rfl) ?_
              refine O.gp rfl rfl rfl rfl rfl (Pu.fieldAddr 1 rfl Try.underlying56 rfl sz54 rfl rfl) ?_
              refine O.gp rfl rfl rfl rfl rfl (Pu.load rfl pl54 rfl (Ld.blk 0 rfl rfl)) ?_
              refine O.gp rfl rfl rfl rfl rfl (Pu.move rfl rfl) ?_
              refine O.gp rfl rfl rfl rfl rfl (Pu.indexAddrS (i) rfl Try.underlying54 sz2 rfl rfl (by omega) (by omega) (fun w hw => Own.some hw (i := 2) (by exact rfl) (by omega))) ?_
              refine O.gp rfl rfl rfl rfl rfl (Pu.load rfl pl2 rfl (Ld.rd (Ld.own 2 (by exact rfl)) (k := i) eh rfl rfl)) ?_
              refine O.gp rfl rfl rfl rfl rfl (Pu.move rfl rfl) ?_
              refine O.gp rfl rfl rfl rfl rfl (Pu.and (m := ((highL ns)[i]'eh)) (n := high) K64.i (by omega) (by omega) rfl rfl rfl) ?_
              refine O.gp rfl rfl rfl rfl rfl (Pu.eql rfl rfl rfl) ?_
              refine O.p rfl rfl rfl (Pu.pickT rfl rfl rfl) ?_
              refine O.nil ?_
              refine X.next ?_
              refine V.condD rfl (fun c8 => ?_) (fun c8 => ?_)
              · skip
                have hx : nextF D0 (ms9.getD (ns[i]'ei0) 0) := ⟨by rw [← hne]; exact (word_bit (k := 42) (by omega)).1 (by rw [← hlo]; omega), (land_words (k := 42)).2 ⟨by rw [← hlo, ← hlw]; omega, by rw [← hhi, ← hhg]; omega⟩⟩
                have hx' : nextF D0 (ms9.getD (ns.getD i 0) 0) := by rw [hgd]; exact hx
                have hma := most_all hlm hl2 (by omega)
                have hgo := hma.1
                have hl3 := hma.2
                have hni := hns i ei0
                have hmg : (ms9.getD (ns[i]'ei0) 0) = ms9[ns[i]'ei0] := by rw [List.getD_eq_getElem?_getD, List.getElem?_eq_getElem hni]; rfl
                have hF2 : Fam (kq + 1) D0 := by rw [← hk1]; exact hF
                have hst : Fam kq (D0 ||| (ms9.getD (ns[i]'ei0) 0)) := by rw [hmg] at hx ⊢; exact Fam.step nines_ms hF2 hni hx
                refine V.draw mo (by kernel_rfl) (fun hwf => ?_)
                refine D.p 0 rfl rfl rfl rfl rfl rfl (Pu.move rfl rfl) ?_
                refine D.p 1 rfl rfl rfl rfl rfl rfl (Pu.move rfl rfl) ?_
                refine D.p 3 rfl rfl rfl rfl rfl rfl (Pu.move rfl rfl) ?_
                refine D.p 4 rfl rfl rfl rfl rfl rfl (Pu.nilCheck rfl rfl) ?_
                refine D.p 5 rfl rfl rfl rfl rfl rfl (Pu.fieldAddr 2 rfl Try.underlying56 rfl sz54 rfl rfl) ?_
                refine D.p 6 rfl rfl rfl rfl rfl rfl (Pu.load rfl pl54 rfl (Ld.blk 0 rfl rfl)) ?_
                refine D.p 7 rfl rfl rfl rfl rfl rfl (Pu.move rfl rfl) ?_
                refine D.p 8 rfl rfl rfl rfl rfl rfl (Pu.indexAddrS (i) rfl Try.underlying54 sz2 rfl rfl (by omega) (by omega) (fun w hw => Own.some hw (i := 3) (by exact rfl) (by omega))) ?_
                refine D.p 9 rfl rfl rfl rfl rfl rfl (Pu.load rfl pl2 rfl (Ld.rd (Ld.own 3 (by exact rfl)) (k := i) ei0 rfl rfl)) ?_
                refine D.p 12 rfl rfl rfl rfl rfl rfl (Pu.move rfl rfl) ?_
                refine D.p 13 rfl rfl rfl rfl rfl rfl (Pu.add64 (r := ((i + 1 : Nat) : Int)) rfl (by omega) rfl rfl rfl) ?_
                refine D.p 14 rfl rfl rfl rfl rfl rfl (Pu.move rfl rfl) ?_
                refine D.p 15 rfl rfl rfl rfl rfl rfl (Pu.move rfl rfl) ?_
                refine D.p 16 rfl rfl rfl rfl rfl rfl (Pu.nilCheck rfl rfl) ?_
                refine D.p 17 rfl rfl rfl rfl rfl rfl (Pu.fieldAddr 0 rfl Try.underlying56 rfl sz54 rfl rfl) ?_
                refine D.p 18 rfl rfl rfl rfl rfl rfl (Pu.load rfl pl54 rfl (Ld.blk 0 rfl rfl)) ?_
                refine D.p 19 rfl rfl rfl rfl rfl rfl (Pu.move rfl rfl) ?_
                refine D.p 20 rfl rfl rfl rfl rfl rfl (Pu.indexAddrS (i) rfl Try.underlying54 sz2 rfl rfl (by omega) (by omega) (fun w hw => Own.some hw (i := 1) (by exact rfl) (by omega))) ?_
                refine D.p 21 rfl rfl rfl rfl rfl rfl (Pu.load rfl pl2 rfl (Ld.rd (Ld.own 1 (by exact rfl)) (k := i) ei rfl rfl)) ?_
                refine D.p 22 rfl rfl rfl rfl rfl rfl (Pu.or (m := low) (n := ((lowL ns)[i]'ei)) K64.i (by omega) (by omega) rfl rfl rfl) ?_
                refine D.p 23 rfl rfl rfl rfl rfl rfl (Pu.move rfl rfl) ?_
                refine D.p 24 rfl rfl rfl rfl rfl rfl (Pu.move rfl rfl) ?_
                refine D.p 25 rfl rfl rfl rfl rfl rfl (Pu.nilCheck rfl rfl) ?_
                refine D.p 26 rfl rfl rfl rfl rfl rfl (Pu.fieldAddr 1 rfl Try.underlying56 rfl sz54 rfl rfl) ?_
                refine D.p 27 rfl rfl rfl rfl rfl rfl (Pu.load rfl pl54 rfl (Ld.blk 0 rfl rfl)) ?_
                refine D.p 28 rfl rfl rfl rfl rfl rfl (Pu.move rfl rfl) ?_
                refine D.p 29 rfl rfl rfl rfl rfl rfl (Pu.indexAddrS (i) rfl Try.underlying54 sz2 rfl rfl (by omega) (by omega) (fun w hw => Own.some hw (i := 2) (by exact rfl) (by omega))) ?_
                refine D.p 30 rfl rfl rfl rfl rfl rfl (Pu.load rfl pl2 rfl (Ld.rd (Ld.own 2 (by exact rfl)) (k := i) eh rfl rfl)) ?_
                refine D.p 31 rfl rfl rfl rfl rfl rfl (Pu.or (m := high) (n := ((highL ns)[i]'eh)) K64.i (by omega) (by omega) rfl rfl rfl) ?_
                refine D.twoBC hwf (e1 := 10) (e2 := 2) rfl rfl rfl rfl rfl rfl rfl rfl rfl rfl rfl rfl rfl rfl rfl rfl rfl (fun H hs => Ef.build I64 ([(↑(ns[i]'ei0) : Int)] : List Int) rfl Try.underlying54 inf2 rfl rfl rfl (by first | decide | (simp; done)) (by kernel_rfl)) (fun H hs => Ef.call1 call89 rfl rfl (fun w hw => l01Own_ok chosen _ _ w ((fun w hw => hchosen w (hw.sub (Sub.drop (Sub.drop (Sub.drop (Sub.drop (Sub.drop (Sub.refl _)))))))) w (hs w hw)) hcS (by omega))) ?_
                rintro A1 _ hA1
                refine D.exi (fun p2 => ?_)
                refine D.sep ?_
                refine D.pur1 ?_
                rintro ⟨rfl, hp2⟩
                have hp2l := congrArg List.length hp2
                refine D.eff hwf (e := 11) rfl rfl rfl rfl (Ef.append (xs := p2.2) (ys := ([(↑(ns[i]'ei0) : Int)] : List Int)) 0 rfl Try.underlying54 inf2 rfl rfl rfl rfl rfl rfl hA1 (Ld.own 1 (by exact rfl)) (by simp only [List.length_append, List.length_cons, List.length_nil] at *; omega) (by decide)) rfl rfl rfl ?_
                rintro _ _ ⟨A2, k1, rfl, rfl, hA2⟩ hs
                replace hA2 := hA2 (.inr (by simp))
                refine ⟨fun w hw => hw.sub (Sub.keep 2 rfl (Sub.keep 2 rfl (Sub.keep 2 rfl (Sub.keep 2 rfl (Sub.keep 2 rfl (Sub.drop (Sub.drop (Sub.refl _)))))))), ?_⟩
                refine D.effT hwf (e := 32) rfl rfl rfl rfl (Ef.call call61 rfl rfl (Does.pre (fun w hw => FamK.mk (T := 56) (iT := 2) rfl (hw.sub (Sub.keep 2 rfl (Sub.keep 2 rfl (Sub.keep 2 rfl (Sub.keep 2 rfl (Sub.keep 2 rfl (Sub.keep 0 rfl (Sub.keep 0 rfl (Sub.refl _)))))))))) (ih kq (by omega) (D0 ||| (ms9.getD (ns[i]'ei0) 0)) sb most ns l2 (p2.2 ++ ([(↑(ns[i]'ei0) : Int)] : List Int)) (i + 1) (low ||| ((lowL ns)[i]'ei)) (high ||| ((highL ns)[i]'eh)) _ _ w0 _ (Ld.own 0 (by exact rfl)) (by first | omega | (simp only [tops_len, conts_len, bl, List.length_append, List.length_cons, List.length_nil] at *; omega)) hA2 hst (by rw [lor_mod, ← hlo, ← hlw]) (by rw [lor_div, ← hhi, ← hhg]) (by simp only [List.length_append, List.length_singleton]; omega) hnl hns (by omega) (by omega) hmm))) rfl rfl rfl 33 rfl ?_
                rintro _ _ rfl
                refine D.sep ?_
                refine D.pur1 ?_
                rintro rfl
                refine D.done hwf rfl ?_
                refine X.blockNormal ?_
                refine X.next ?_
                refine V.region ?_
                refine O.p rfl rfl rfl (Pu.move rfl rfl) ?_
                refine O.p rfl rfl rfl (Pu.add64 (r := ((i + 1 : Nat) : Int)) rfl (by omega) rfl rfl rfl) ?_
                refine O.p rfl rfl rfl (Pu.assign rfl rfl) ?_
                refine O.nil ?_
                exact X.back3 (i + 1, (l2 ++ runC (fun j => decide (j < most)) l2.length (famS ms9 ns kq (i + 1) (p2.2 ++ ([(↑(ns[i]'ei0) : Int)] : List Int)) (D0 ||| (ms9.getD (ns[i]'ei0) 0))))) (by (try dsimp only); exact ⟨by omega, by omega, by rw [famJ_yes (by omega) hx', most_next hgo hl3, hgd, hp2]⟩) (by first | omega | (dsimp only; omega)) (Ent.cons rfl (Ent.nil _)) (Ent.cons (t := 0) rfl (Ent.cons (t := 1) rfl (Ent.cons (t := 3) rfl (Ent.cons (t := 4) rfl (Ent.cons (t := 10) rfl (Ent.nil _)))))) (Sub.keep 0 rfl (Sub.drop (Sub.drop (Sub.refl _))))
              · skip
                have hnx : ¬ nextF D0 (ms9.getD (ns.getD i 0) 0) := by
                  rw [hgd]
                  intro hx
                  exact c8 (by have := (land_words (k := 42)).1 hx.2; rw [← hhi, ← hhg] at this; omega)
                refine V.skip ?_
                refine X.blockNormal ?_
                refine X.next ?_
                refine V.region ?_
                refine O.p rfl rfl rfl (Pu.move rfl rfl) ?_
                refine O.p rfl rfl rfl (Pu.add64 (r := ((i + 1 : Nat) : Int)) rfl (by omega) rfl rfl rfl) ?_
                refine O.p rfl rfl rfl (Pu.assign rfl rfl) ?_
                refine O.nil ?_
                refine X.map (fun w hw => FamK.mk (T := 56) (iT := 2) (l := l2) (ns := ns) rfl (hw.sub (Sub.keep 0 rfl (Sub.keep 0 rfl (Sub.keep 0 rfl (Sub.keep 0 rfl (Sub.keep 0 rfl (Sub.refl _)))))))) ?_
                exact X.back3 (i + 1, l2) (by (try dsimp only); exact ⟨by omega, by omega, by rw [famJ_no hnx]; exact hl2⟩) (by first | omega | (dsimp only; omega)) (Ent.cons rfl (Ent.nil _)) (Ent.cons (t := 0) rfl (Ent.cons (t := 1) rfl (Ent.cons (t := 3) rfl (Ent.cons (t := 4) rfl (Ent.cons (t := 10) rfl (Ent.nil _)))))) (Sub.keep 0 rfl (Sub.refl _))
            · skip
              have hnx : ¬ nextF D0 (ms9.getD (ns.getD i 0) 0) := by
                rw [hgd]
                intro hx
                exact c7 (by have := (land_words (k := 42)).1 hx.2; rw [← hlo, ← hlw] at this; omega)
              refine O.gs rfl rfl rfl rfl rfl rfl ?_
              refine O.gs rfl rfl rfl rfl rfl rfl ?_
              refine O.gs rfl rfl rfl rfl rfl rfl ?_
              refine O.gs rfl rfl rfl rfl rfl rfl ?_
              refine O.gs rfl rfl rfl rfl rfl rfl ?_
              refine O.gs rfl rfl rfl rfl rfl rfl ?_
              refine O.gs rfl rfl rfl rfl rfl rfl ?_
              refine O.gs rfl rfl rfl rfl rfl rfl ?_
              refine O.gs rfl rfl rfl rfl rfl rfl ?_
              refine O.gs rfl rfl rfl rfl rfl rfl ?_
              refine O.p rfl rfl rfl (Pu.pickF rfl rfl rfl) ?_
              refine O.nil ?_
              refine X.next ?_
              refine V.condF rfl ?_
              refine V.skip ?_
              refine X.blockNormal ?_
              refine X.next ?_
              refine V.region ?_
              refine O.p rfl rfl rfl (Pu.move rfl rfl) ?_
              refine O.p rfl rfl rfl (Pu.add64 (r := ((i + 1 : Nat) : Int)) rfl (by omega) rfl rfl rfl) ?_
              refine O.p rfl rfl rfl (Pu.assign rfl rfl) ?_
              refine O.nil ?_
              refine X.map (fun w hw => FamK.mk (T := 56) (iT := 2) (l := l2) (ns := ns) rfl (hw.sub (Sub.keep 0 rfl (Sub.keep 0 rfl (Sub.keep 0 rfl (Sub.keep 0 rfl (Sub.keep 0 rfl (Sub.refl _)))))))) ?_
              exact X.back3 (i + 1, l2) (by (try dsimp only); exact ⟨by omega, by omega, by rw [famJ_no hnx]; exact hl2⟩) (by first | omega | (dsimp only; omega)) (Ent.cons rfl (Ent.nil _)) (Ent.cons (t := 0) rfl (Ent.cons (t := 1) rfl (Ent.cons (t := 3) rfl (Ent.cons (t := 4) rfl (Ent.cons (t := 10) rfl (Ent.nil _)))))) (Sub.keep 0 rfl (Sub.refl _))
          · skip
            have hnx : ¬ nextF D0 (ms9.getD (ns.getD i 0) 0) := by
              rw [hgd]
              intro hx
              exact c6 (by have := (word_bit (k := 42) (by omega)).2 hx.1; rw [← hne] at this; rw [← hlo] at this; omega)
            refine O.gs rfl rfl rfl rfl rfl rfl ?_
            refine O.gs rfl rfl rfl rfl rfl rfl ?_
            refine O.gs rfl rfl rfl rfl rfl rfl ?_
            refine O.gs rfl rfl rfl rfl rfl rfl ?_
            refine O.gs rfl rfl rfl rfl rfl rfl ?_
            refine O.gs rfl rfl rfl rfl rfl rfl ?_
            refine O.gs rfl rfl rfl rfl rfl rfl ?_
            refine O.gs rfl rfl rfl rfl rfl rfl ?_
            refine O.gs rfl rfl rfl rfl rfl rfl ?_
            refine O.gs rfl rfl rfl rfl rfl rfl ?_
            refine O.p rfl rfl rfl (Pu.pickF rfl rfl rfl) ?_
            refine O.p rfl rfl rfl (Pu.move rfl rfl) ?_
            refine O.gs rfl rfl rfl rfl rfl rfl ?_
            refine O.gs rfl rfl rfl rfl rfl rfl ?_
            refine O.gs rfl rfl rfl rfl rfl rfl ?_
            refine O.gs rfl rfl rfl rfl rfl rfl ?_
            refine O.gs rfl rfl rfl rfl rfl rfl ?_
            refine O.gs rfl rfl rfl rfl rfl rfl ?_
            refine O.gs rfl rfl rfl rfl rfl rfl ?_
            refine O.gs rfl rfl rfl rfl rfl rfl ?_
            refine O.gs rfl rfl rfl rfl rfl rfl ?_
            refine O.gs rfl rfl rfl rfl rfl rfl ?_
            refine O.p rfl rfl rfl (Pu.pickF rfl rfl rfl) ?_
            refine O.nil ?_
            refine X.next ?_
            refine V.condF rfl ?_
            refine V.skip ?_
            refine X.blockNormal ?_
            refine X.next ?_
            refine V.region ?_
            refine O.p rfl rfl rfl (Pu.move rfl rfl) ?_
            refine O.p rfl rfl rfl (Pu.add64 (r := ((i + 1 : Nat) : Int)) rfl (by omega) rfl rfl rfl) ?_
            refine O.p rfl rfl rfl (Pu.assign rfl rfl) ?_
            refine O.nil ?_
            refine X.map (fun w hw => FamK.mk (T := 56) (iT := 2) (l := l2) (ns := ns) rfl (hw.sub (Sub.keep 0 rfl (Sub.keep 0 rfl (Sub.keep 0 rfl (Sub.keep 0 rfl (Sub.keep 0 rfl (Sub.refl _)))))))) ?_
            exact X.back3 (i + 1, l2) (by (try dsimp only); exact ⟨by omega, by omega, by rw [famJ_no hnx]; exact hl2⟩) (by first | omega | (dsimp only; omega)) (Ent.cons rfl (Ent.nil _)) (Ent.cons (t := 0) rfl (Ent.cons (t := 1) rfl (Ent.cons (t := 3) rfl (Ent.cons (t := 4) rfl (Ent.cons (t := 10) rfl (Ent.nil _)))))) (Sub.keep 0 rfl (Sub.refl _))
        · skip
          refine V.exit ?_
          refine X.thenExit ?_
          refine X.thenExit ?_
          refine X.blockHit ?_
          refine X.endBody ?_
          refine X.map (fun w hw => FamK.mk (T := 56) (iT := 2) (l := l2) (ns := ns) rfl (hw.sub (Sub.keep 0 rfl (Sub.keep 0 rfl (Sub.keep 0 rfl (Sub.keep 0 rfl (Sub.keep 0 rfl (Sub.refl _)))))))) ?_
          refine X.ret0 rfl ?_
          exact fun w hw => St.unsep (St.addPur rfl (hw.sub (Sub.cons 0 rfl (fun w F h => by rw [hk1, most_end hlm (by omega) hl2 (by omega)]; exact h) (Sub.refl _))))
      · skip
        refine D.gs 8 rfl rfl rfl rfl rfl rfl rfl rfl rfl ?_
        refine D.gs 9 rfl rfl rfl rfl rfl rfl rfl rfl rfl ?_
        refine D.gs 10 rfl rfl rfl rfl rfl rfl rfl rfl rfl ?_
        refine D.gs 11 rfl rfl rfl rfl rfl rfl rfl rfl rfl ?_
        refine D.gs 12 rfl rfl rfl rfl rfl rfl rfl rfl rfl ?_
        refine D.gs 13 rfl rfl rfl rfl rfl rfl rfl rfl rfl ?_
        refine D.gs 14 rfl rfl rfl rfl rfl rfl rfl rfl rfl ?_
        refine D.gs 15 rfl rfl rfl rfl rfl rfl rfl rfl rfl ?_
        refine D.gs 16 rfl rfl rfl rfl rfl rfl rfl rfl rfl ?_
        refine D.p 17 rfl rfl rfl rfl rfl rfl (Pu.pickF rfl rfl rfl) ?_
        refine D.done hwf rfl ?_
        refine X.next ?_
        refine V.condF rfl ?_
        refine V.exit ?_
        refine X.thenExit ?_
        refine X.thenExit ?_
        refine X.blockHit ?_
        refine X.endBody ?_
        refine X.map (fun w hw => FamK.mk (T := 56) (iT := 2) (l := l2) (ns := ns) rfl (hw.sub (Sub.keep 0 rfl (Sub.keep 0 rfl (Sub.keep 0 rfl (Sub.keep 0 rfl (Sub.keep 0 rfl (Sub.refl _)))))))) ?_
        refine X.ret0 rfl ?_
        exact fun w hw => St.unsep (St.addPur rfl (hw.sub (Sub.cons 0 rfl (fun w F h => by rw [hk1, most_end hlm (by omega) hl2 (by omega)]; exact h) (Sub.refl _))))
theorem l10Go_ok (n : Nat) : L_l10Go n := by
  induction n using Nat.strongRecOn with
  | _ n ih => exact fun D0 sb most ns l chosen from_ low high chosenA chosenc w0 H hchosen lchosen hcS hF hlw hhg hc6 hnl hns hfn hlm hmm => l10Go_step n ih D0 sb most ns l chosen from_ low high chosenA chosenc w0 H hchosen lchosen hcS hF hlw hhg hc6 hnl hns hfn hlm hmm
set_option maxRecDepth 100000 in
set_option maxHeartbeats 1000000 in
theorem l10Large_ok (v : Int) (bs : List B3) (allV : Int) (all : List (Sl × List B3)) (most : Nat) (A : Option Addr) (c : Nat) (allA : Option Addr) (allc : Nat) (w : World) (hx : Rd B3C w A bs) (hall : RdY allV w allA all) (lx : bs.length ≤ 4611686018427387904) (lall : all.length ≤ 1099511627776) (hmem : bs ∈ compM 40 9 0) (hca : conts all = compM 40 9 0) (hm0 : 0 < most) (hmm : most ≤ 1000000000) : Does Try.prog 30 [.agg #[.int .i64 v, .slice A bs.length c], .slice allA (tops all).length allc, .int .i64 (most : Int)] w [] (fun r => [.exi fun (sb : Nat) => .sep (.pur (r = .pointer (some ⟨sb, 0, none⟩))) (FamK 56 2 sb most (apartL ms9 (mkF bs)) (runC (fun j => decide (j < most)) 0 (famL bs)))]) := by
  refine Does.enter Try.func30 rfl rfl [(0, .agg #[.int .i64 v, .slice A bs.length c]), (1, .slice allA (tops all).length allc), (2, .int .i64 (most : Int))] rfl ?_
  have hcl := conts_len all
  have htl := tops_len all
  have hal : all.length = 840 := by rw [← hcl, hca]; exact nine_count
  have hbg := nine_good hmem
  have hbl : bs.length ≤ 40 := compM_len 40 9 0 _ hmem
  have hxl : mkF bs < 2 ^ 84 := (fam_of (mk_mem hmem)).lt
  have hxh := div_lt42 hxl
  refine V.seq ?_
  refine V.region ?_
  refine O.e rfl rfl rfl (Ef.box rfl rfl rfl) ?_
  rintro _ _ ⟨b1, rfl, rfl⟩
  refine O.p rfl rfl rfl (Pu.assign rfl rfl) ?_
  refine O.nil ?_
  refine X.next ?_
  refine V.seq ?_
  refine V.region ?_
  refine O.e rfl rfl rfl (Ef.build N64 ([] : List Nat) rfl Try.underlying54 inf2 rfl rfl rfl (by first | decide | (simp; done)) (by kernel_rfl)) ?_
  rintro _ _ ⟨A1, hA1, rfl, rfl⟩
  refine O.e rfl rfl rfl (Ef.build N64 ([] : List Nat) rfl Try.underlying54 inf2 rfl rfl rfl (by first | decide | (simp; done)) (by kernel_rfl)) ?_
  rintro _ _ ⟨A2, hA2, rfl, rfl⟩
  refine O.e rfl rfl rfl (Ef.build N64 ([] : List Nat) rfl Try.underlying54 inf2 rfl rfl rfl (by first | decide | (simp; done)) (by kernel_rfl)) ?_
  rintro _ _ ⟨A3, hA3, rfl, rfl⟩
  refine O.p rfl rfl rfl (Pu.move rfl rfl) ?_
  refine O.p rfl rfl rfl (Pu.buildS (cs := [.slice A1 0 0, .slice A2 0 0, .slice A3 0 0, .int .i64 (↑most : Int), .int .i64 (0 : Int), .slice none 0 0]) rfl rfl Try.underlying56 zr56 (by kernel_rfl) rfl (by kernel_rfl)) ?_
  refine O.e rfl rfl rfl (Ef.box rfl rfl rfl) ?_
  rintro _ _ ⟨b2, rfl, rfl⟩
  refine O.p rfl rfl rfl (Pu.assign rfl rfl) ?_
  refine O.nil ?_
  refine X.next ?_
  refine V.seq ?_
  refine V.region ?_
  refine O.p rfl rfl rfl (Pu.loadAgg rfl ag30 sz30 rfl rfl (Ld.whole 4 rfl)) ?_
  refine O.e rfl rfl rfl (Ef.callP call60 rfl rfl (fun w hw => l10Bits_ok  v bs _ _ w ((Ld.old hx) w hw) (by first | omega | (simp only [tops_len, conts_len, bl, List.length_append, List.length_cons, List.length_nil] at *; omega)) hbg)) ?_
  rintro _ _ ⟨rfl, rfl⟩
  refine O.p rfl rfl rfl (Pu.move rfl rfl) ?_
  refine O.p rfl rfl rfl (Pu.extract rfl rfl rfl) ?_
  refine O.p rfl rfl rfl (Pu.extract rfl rfl rfl) ?_
  refine O.p rfl rfl rfl (Pu.assign rfl rfl) ?_
  refine O.p rfl rfl rfl (Pu.assign rfl rfl) ?_
  refine O.nil ?_
  refine X.next ?_
  refine V.seq ?_
  refine V.seq ?_
  refine V.map (fun w hw => FamK.mk (T := 56) (iT := 2) (sb := b2) (most := most) (l := []) (ns := []) (f := []) rfl ((St.addNil (T := 2) (C := I64) hw).sub (Sub.keep 1 rfl (Sub.keep 3 rfl (Sub.keep 2 rfl (Sub.keep 1 rfl (Sub.keep 0 rfl (Sub.keep 0 rfl (Sub.nil _))))))))) ?_
  refine V.region ?_
  refine O.p rfl rfl rfl (Pu.assign rfl rfl) ?_
  refine O.nil ?_
  refine X.next ?_
  refine V.block ?_
  refine V.loop3 (β := Nat × (List Nat)) (fun x => [(10, .int .i64 (x.1 : Int))]) _ (fun x => [FamN 56 2 b2 most x.2]) _ (fun x => x.1 ≤ all.length ∧ x.2 = apartP (mkF bs) x.1) (fun x => all.length - x.1) (0, []) (by (try dsimp only); exact ⟨by omega, rfl⟩) (Ent.cons rfl (Ent.nil _)) (Ent.cons (t := 1) rfl (Ent.cons (t := 7) rfl (Ent.cons (t := 8) rfl (Ent.cons (t := 9) rfl (Ent.nil _))))) (Sub.keep 0 rfl (Sub.keep 0 rfl (Sub.nil _))) ?_
  rintro ⟨i, ns⟩ ⟨hi, hns⟩
  dsimp only at hi hns ⊢
  have hdl := div_lt42 hxl
  have hll0 := low_len (ns := ns)
  have hll1 := high_len (ns := ns)
  refine V.seq ?_
  refine V.seq ?_
  refine V.region ?_
  refine O.p rfl rfl rfl (Pu.move rfl rfl) ?_
  refine O.p rfl rfl rfl (Pu.move rfl rfl) ?_
  refine O.p rfl rfl rfl (Pu.len rfl Try.underlying34 rfl) ?_
  refine O.p rfl rfl rfl (Pu.lss rfl rfl rfl) ?_
  refine O.nil ?_
  refine X.next ?_
  refine V.condD rfl (fun c1 => ?_) (fun c1 => ?_)
  · skip
    refine V.skip ?_
    refine X.next ?_
    refine V.seq ?_
    refine V.block ?_
    refine V.seq ?_
    have ei : i < all.length := by omega
    have hms := ms_row hca ei
    have hMl : mkF (all[i]'ei).2 < 2 ^ 84 := by rw [← hms]; exact ms9_lt
    have hmq : (all[i]'ei).2 ∈ compM 40 9 0 := by rw [← hca]; exact List.mem_map_of_mem (List.getElem_mem ei)
    have hmg := nine_good hmq
    have hmlen : (all[i]'ei).2.length ≤ 40 := compM_len 40 9 0 _ hmq
    refine V.region ?_
    refine O.p rfl rfl rfl (Pu.move rfl rfl) ?_
    refine O.p rfl rfl rfl (Pu.move rfl rfl) ?_
    refine O.p rfl rfl rfl (Pu.indexAddr (i) rfl Try.underlying34 sz30 rfl rfl (by omega) (by omega) (hall.top.some (by omega))) ?_
    refine O.p rfl rfl rfl (Pu.loadAgg' (v := .agg #[.int .i64 allV, .slice (all[i]'ei).1.A (all[i]'ei).2.length (all[i]'ei).1.c]) rfl rfl ag30 sz30 rfl rfl (Ld.rowY (Ld.old hall.top) hall.len ei rfl)) ?_
    refine O.e rfl rfl rfl (Ef.callP call60 rfl rfl (fun w hw => l10Bits_ok  allV ((all[i]'ei).2) _ _ w ((Ld.old (hall.row i ei)) w hw) (by omega) hmg)) ?_
    rintro _ _ ⟨rfl, rfl⟩
    refine O.p rfl rfl rfl (Pu.move rfl rfl) ?_
    refine O.p rfl rfl rfl (Pu.extract rfl rfl rfl) ?_
    refine O.p rfl rfl rfl (Pu.extract rfl rfl rfl) ?_
    refine O.p rfl rfl rfl (Pu.assign rfl rfl) ?_
    refine O.p rfl rfl rfl (Pu.assign rfl rfl) ?_
    refine O.nil ?_
    refine X.next ?_
    refine V.seq ?_
    refine V.region ?_
    refine O.p rfl rfl rfl (Pu.move rfl rfl) ?_
    refine O.p rfl rfl rfl (Pu.move rfl rfl) ?_
    refine O.p rfl rfl rfl (Pu.and (m := (mkF ((all[i]'ei).2) % 2 ^ 42)) (n := (mkF bs % 2 ^ 42)) K64.i (by omega) (by omega) rfl rfl rfl) ?_
    refine O.p rfl rfl rfl (Pu.eql rfl rfl rfl) ?_
    refine O.p rfl rfl rfl (Pu.move rfl rfl) ?_
    refine O.splitD 42 rfl (fun c2 => ?_) (fun c2 => ?_)
    · skip
      refine O.gp rfl rfl rfl rfl rfl (Pu.move rfl rfl) ?_
      refine O.gp rfl rfl rfl rfl rfl (Pu.move rfl rfl) ?_
      refine O.gp rfl rfl rfl rfl rfl (Pu.and (m := (mkF ((all[i]'ei).2) / 2 ^ 42)) (n := (mkF bs / 2 ^ 42)) K64.i (by omega) (by omega) rfl rfl rfl) ?_
      refine O.gp rfl rfl rfl rfl rfl (Pu.eql rfl rfl rfl) ?_
      refine O.p rfl rfl rfl (Pu.pickT rfl rfl rfl) ?_
      refine O.nil ?_
      refine X.next ?_
      refine V.condD rfl (fun c3 => ?_) (fun c3 => ?_)
      · skip
        have hap : ms9.getD i 0 &&& mkF bs = 0 := by rw [hms]; exact (land_words (k := 42)).2 ⟨by omega, by omega⟩
        have hnl : ns.length ≤ i := by rw [hns]; exact apartP_len
        refine V.seq ?_
        refine V.famK (fun lA1 lk1 hA1 hk1 nA1 nk1 fA1 fk1 => ?_)
        refine V.region ?_
        refine O.p rfl rfl rfl (Pu.move rfl rfl) ?_
        refine O.p rfl rfl rfl (Pu.move rfl rfl) ?_
        refine O.p rfl rfl rfl (Pu.nilCheck rfl rfl) ?_
        refine O.p rfl rfl rfl (Pu.fieldAddr 0 rfl Try.underlying56 rfl sz54 rfl rfl) ?_
        refine O.p rfl rfl rfl (Pu.load rfl pl54 rfl (Ld.blk 0 rfl rfl)) ?_
        refine O.p rfl rfl rfl (Pu.move rfl rfl) ?_
        refine O.e rfl rfl rfl (Ef.build N64 ([(mkF ((all[i]'ei).2) % 2 ^ 42)] : List Nat) rfl Try.underlying54 inf2 rfl rfl rfl (by first | decide | (simp; done)) (by kernel_rfl)) ?_
        rintro _ _ ⟨A4, hA4, rfl, rfl⟩
        refine O.e rfl rfl rfl (Ef.append (xs := (lowL ns)) (ys := ([(mkF ((all[i]'ei).2) % 2 ^ 42)] : List Nat)) 2 rfl Try.underlying54 inf2 rfl rfl rfl rfl rfl rfl hA4 (Ld.own 0 (by exact rfl)) (by simp only [List.length_append, List.length_cons, List.length_nil] at *; omega) (by decide)) ?_
        rintro _ _ ⟨A5, k1, rfl, rfl, hA5⟩
        replace hA5 := hA5 (.inr (by simp))
        refine O.p rfl rfl rfl (Pu.nilCheck rfl rfl) ?_
        refine O.p rfl rfl rfl (Pu.fieldAddr 0 rfl Try.underlying56 rfl sz54 rfl rfl) ?_
        refine O.s rfl rfl (Ef.store1 (cs' := [_, _, _, _, _, _]) 1 rfl sz54 rfl rfl rfl rfl rfl (ltb rfl) rfl) ?_
        rintro _ _ rfl
        refine O.nil ?_
        refine X.next ?_
        refine V.seq ?_
        refine V.region ?_
        refine O.p rfl rfl rfl (Pu.move rfl rfl) ?_
        refine O.p rfl rfl rfl (Pu.move rfl rfl) ?_
        refine O.p rfl rfl rfl (Pu.nilCheck rfl rfl) ?_
        refine O.p rfl rfl rfl (Pu.fieldAddr 1 rfl Try.underlying56 rfl sz54 rfl rfl) ?_
        refine O.p rfl rfl rfl (Pu.load rfl pl54 rfl (Ld.blk 1 rfl rfl)) ?_
        refine O.p rfl rfl rfl (Pu.move rfl rfl) ?_
        refine O.e rfl rfl rfl (Ef.build N64 ([(mkF ((all[i]'ei).2) / 2 ^ 42)] : List Nat) rfl Try.underlying54 inf2 rfl rfl rfl (by first | decide | (simp; done)) (by kernel_rfl)) ?_
        rintro _ _ ⟨A6, hA6, rfl, rfl⟩
        refine O.e rfl rfl rfl (Ef.append (xs := (highL ns)) (ys := ([(mkF ((all[i]'ei).2) / 2 ^ 42)] : List Nat)) 4 rfl Try.underlying54 inf2 rfl rfl rfl rfl rfl rfl hA6 (Ld.own 0 (by exact rfl)) (by simp only [List.length_append, List.length_cons, List.length_nil] at *; omega) (by decide)) ?_
        rintro _ _ ⟨A7, k2, rfl, rfl, hA7⟩
        replace hA7 := hA7 (.inr (by simp))
        refine O.p rfl rfl rfl (Pu.nilCheck rfl rfl) ?_
        refine O.p rfl rfl rfl (Pu.fieldAddr 1 rfl Try.underlying56 rfl sz54 rfl rfl) ?_
        refine O.s rfl rfl (Ef.store1 (cs' := [_, _, _, _, _, _]) 2 rfl sz54 rfl rfl rfl rfl rfl (ltb rfl) rfl) ?_
        rintro _ _ rfl
        refine O.nil ?_
        refine X.next ?_
        refine V.region ?_
        refine O.p rfl rfl rfl (Pu.move rfl rfl) ?_
        refine O.p rfl rfl rfl (Pu.move rfl rfl) ?_
        refine O.p rfl rfl rfl (Pu.nilCheck rfl rfl) ?_
        refine O.p rfl rfl rfl (Pu.fieldAddr 2 rfl Try.underlying56 rfl sz54 rfl rfl) ?_
        refine O.p rfl rfl rfl (Pu.load rfl pl54 rfl (Ld.blk 2 rfl rfl)) ?_
        refine O.p rfl rfl rfl (Pu.move rfl rfl) ?_
        refine O.e rfl rfl rfl (Ef.build N64 ([i] : List Nat) rfl Try.underlying54 inf2 rfl rfl rfl (by first | decide | (simp; done)) (by kernel_rfl)) ?_
        rintro _ _ ⟨A8, hA8, rfl, rfl⟩
        refine O.e rfl rfl rfl (Ef.append (xs := ns) (ys := ([i] : List Nat)) 6 rfl Try.underlying54 inf2 rfl rfl rfl rfl rfl rfl hA8 (Ld.own 0 (by exact rfl)) (by simp only [List.length_append, List.length_cons, List.length_nil] at *; omega) (by decide)) ?_
        rintro _ _ ⟨A9, k3, rfl, rfl, hA9⟩
        replace hA9 := hA9 (.inr (by simp))
        refine O.p rfl rfl rfl (Pu.nilCheck rfl rfl) ?_
        refine O.p rfl rfl rfl (Pu.fieldAddr 2 rfl Try.underlying56 rfl sz54 rfl rfl) ?_
        refine O.s rfl rfl (Ef.store1 (cs' := [_, _, _, _, _, _]) 3 rfl sz54 rfl rfl rfl rfl rfl (ltb rfl) rfl) ?_
        rintro _ _ rfl
        refine O.nil ?_
        refine X.blockNormal ?_
        refine X.next ?_
        refine V.region ?_
        refine O.p rfl rfl rfl (Pu.move rfl rfl) ?_
        refine O.p rfl rfl rfl (Pu.add64 (r := ((i + 1 : Nat) : Int)) rfl (by omega) rfl rfl rfl) ?_
        refine O.p rfl rfl rfl (Pu.assign rfl rfl) ?_
        refine O.nil ?_
        refine X.map (fun w hw => FamK.mk (T := 56) (iT := 2) (l := []) (ns := (ns ++ [i])) rfl (hw.sub (Sub.cons 3 rfl (fun w F h => by rw [low_snoc, high_snoc, hms]; exact h) (Sub.cons 3 rfl (fun w F h => by rw [low_snoc, hms]; exact h) (Sub.cons 3 rfl (fun w F h => by rw [high_snoc, hms]; exact h) (Sub.keep 3 rfl (Sub.keep 3 rfl (Sub.keep 0 rfl (Sub.keep 0 rfl (Sub.keep 0 rfl (Sub.keep 0 rfl (Sub.nil _)))))))))))) ?_
        exact X.back3 (i + 1, (ns ++ [i])) (by (try dsimp only); exact ⟨by omega, by rw [apartP_yes hap, hns]⟩) (by first | omega | (dsimp only; omega)) (Ent.cons rfl (Ent.nil _)) (Ent.cons (t := 1) rfl (Ent.cons (t := 7) rfl (Ent.cons (t := 8) rfl (Ent.cons (t := 9) rfl (Ent.nil _))))) (Sub.keep 0 rfl (Sub.keep 3 rfl (Sub.nil _)))
      · skip
        have hap : ¬ ms9.getD i 0 &&& mkF bs = 0 := fun h => by rw [hms] at h; have := (land_words (k := 42)).1 h; omega
        refine V.skip ?_
        refine X.blockNormal ?_
        refine X.next ?_
        refine V.region ?_
        refine O.p rfl rfl rfl (Pu.move rfl rfl) ?_
        refine O.p rfl rfl rfl (Pu.add64 (r := ((i + 1 : Nat) : Int)) rfl (by omega) rfl rfl rfl) ?_
        refine O.p rfl rfl rfl (Pu.assign rfl rfl) ?_
        refine O.nil ?_
        exact X.back3 (i + 1, ns) (by (try dsimp only); exact ⟨by omega, by rw [apartP_no hap]; exact hns⟩) (by first | omega | (dsimp only; omega)) (Ent.cons rfl (Ent.nil _)) (Ent.cons (t := 1) rfl (Ent.cons (t := 7) rfl (Ent.cons (t := 8) rfl (Ent.cons (t := 9) rfl (Ent.nil _))))) (Sub.keep 0 rfl (Sub.keep 0 rfl (Sub.nil _)))
    · skip
      have hap : ¬ ms9.getD i 0 &&& mkF bs = 0 := fun h => by rw [hms] at h; have := (land_words (k := 42)).1 h; omega
      refine O.gs rfl rfl rfl rfl rfl rfl ?_
      refine O.gs rfl rfl rfl rfl rfl rfl ?_
      refine O.gs rfl rfl rfl rfl rfl rfl ?_
      refine O.gs rfl rfl rfl rfl rfl rfl ?_
      refine O.p rfl rfl rfl (Pu.pickF rfl rfl rfl) ?_
      refine O.nil ?_
      refine X.next ?_
      refine V.condF rfl ?_
      refine V.skip ?_
      refine X.blockNormal ?_
      refine X.next ?_
      refine V.region ?_
      refine O.p rfl rfl rfl (Pu.move rfl rfl) ?_
      refine O.p rfl rfl rfl (Pu.add64 (r := ((i + 1 : Nat) : Int)) rfl (by omega) rfl rfl rfl) ?_
      refine O.p rfl rfl rfl (Pu.assign rfl rfl) ?_
      refine O.nil ?_
      exact X.back3 (i + 1, ns) (by (try dsimp only); exact ⟨by omega, by rw [apartP_no hap]; exact hns⟩) (by first | omega | (dsimp only; omega)) (Ent.cons rfl (Ent.nil _)) (Ent.cons (t := 1) rfl (Ent.cons (t := 7) rfl (Ent.cons (t := 8) rfl (Ent.cons (t := 9) rfl (Ent.nil _))))) (Sub.keep 0 rfl (Sub.keep 0 rfl (Sub.nil _)))
  · skip
    refine V.exit ?_
    refine X.thenExit ?_
    refine X.thenExit ?_
    refine X.blockHit ?_
    refine X.next ?_
    refine V.seq ?_
    have hns2 : ns = apartL ms9 (mkF bs) := by rw [hns, show i = 840 by omega, apartP_all]
    have hnsl : ns.length ≤ 840 := by have := apartP_len (X := mkF bs) (i := i); rw [← hns] at this; omega
    have hnst : ∀ j (h : j < ns.length), ns[j] < ms9.length := by subst hns2; exact fun j h => apartL_lt h
    refine V.region ?_
    refine O.p rfl rfl rfl (Pu.move rfl rfl) ?_
    refine O.e rfl rfl rfl (Ef.build I64 ([] : List Int) rfl Try.underlying54 inf2 rfl rfl rfl (by first | decide | (simp; done)) (by kernel_rfl)) ?_
    rintro _ _ ⟨A10, hA10, rfl, rfl⟩
    refine O.p rfl rfl rfl (Pu.move rfl rfl) ?_
    refine O.p rfl rfl rfl (Pu.move rfl rfl) ?_
    refine O.e rfl rfl rfl (Ef.call call61 rfl rfl (Does.pre (fun w hw => hw.sub (Sub.keep 1 rfl (Sub.keep 0 rfl (Sub.keep 0 rfl (Sub.nil _))))) (l10Go_ok 6 (mkF bs) b2 most ns ([]) ([] : List Int) 0 (mkF bs % 2 ^ 42) (mkF bs / 2 ^ 42) _ _ w _ (Ld.own 0 (by exact rfl)) (by first | omega | (simp only [tops_len, conts_len, bl, List.length_append, List.length_cons, List.length_nil] at *; omega)) hA10 (fam_of (mk_mem hmem)) rfl rfl rfl (by omega) hnst (by omega) (by simpa using hm0) hmm))) ?_
    rintro _ _ rfl
    refine O.sep ?_
    refine O.pur ?_
    rintro rfl
    refine O.nil ?_
    refine X.next ?_
    refine V.seq ?_
    refine V.region ?_
    refine O.p rfl rfl rfl (Pu.move rfl rfl) ?_
    refine O.p rfl rfl rfl (Pu.assign rfl rfl) ?_
    refine O.nil ?_
    refine X.next ?_
    refine V.ret ?_
    refine X.ret1 rfl rfl ?_
    exact fun w hw => St.mkExi b2 (St.unsep (St.addPur rfl (hw.sub (Sub.cons 0 rfl (fun w F h => by rw [hns2] at h; rw [← fam_spec hmem]; exact h) (Sub.nil _)))))
set_option maxRecDepth 100000 in
set_option maxHeartbeats 1000000 in
theorem specCountFamilies_ok (v : Int) (bs : List B3) (A : Option Addr) (c : Nat) (w : World) (hx : Rd B3C w A bs) (lx : bs.length ≤ 4611686018427387904) : Does Try.prog 8 [.agg #[.int .i64 v, .slice A bs.length c]] w [] (fun r => [.pur (r = .tuple #[.int .i64 (if lfC v bs = 0 then ((famL bs).length : Int) else 0), .int .i64 (lfC v bs)])]) := by
  refine Does.enter Try.func8 rfl rfl [(0, .agg #[.int .i64 v, .slice A bs.length c])] rfl ?_
  refine V.seq ?_
  refine V.region ?_
  refine O.e rfl rfl rfl (Ef.box rfl rfl rfl) ?_
  rintro _ _ ⟨b1, rfl, rfl⟩
  refine O.p rfl rfl rfl (Pu.assign rfl rfl) ?_
  refine O.p rfl rfl rfl (Pu.assign rfl rfl) ?_
  refine O.nil ?_
  refine X.next ?_
  refine V.seq ?_
  refine V.seq ?_
  refine V.region ?_
  refine O.p rfl rfl rfl (Pu.loadAgg rfl ag30 sz30 rfl rfl (Ld.whole 0 rfl)) ?_
  refine O.e rfl rfl rfl (Ef.callP call29 rfl rfl (fun w hw => l10Nine_ok  v bs _ _ w ((Ld.old hx) w hw) (by first | omega | (simp only [tops_len, conts_len, bl, List.length_append, List.length_cons, List.length_nil] at *; omega)) )) ?_
  rintro _ _ ⟨rfl, rfl⟩
  refine O.p rfl rfl rfl (Pu.assign rfl rfl) ?_
  refine O.nil ?_
  refine X.next ?_
  refine V.seq ?_
  refine V.region ?_
  refine O.p rfl rfl rfl (Pu.move rfl rfl) ?_
  refine O.p rfl rfl rfl (Pu.neq rfl rfl rfl) ?_
  refine O.nil ?_
  refine X.next ?_
  refine V.condNot rfl (fun c1 => ?_) (fun c1 => ?_)
  · skip
    refine V.seq ?_
    refine V.region ?_
    refine O.p rfl rfl rfl (Pu.move rfl rfl) ?_
    refine O.p rfl rfl rfl (Pu.assign rfl rfl) ?_
    refine O.p rfl rfl rfl (Pu.assign rfl rfl) ?_
    refine O.nil ?_
    refine X.next ?_
    refine V.ret ?_
    refine X.thenRet ?_
    refine X.ret2 rfl rfl rfl ?_
    exact fun w hw => St.addPur (by rw [if_neg c1]) (hw.sub (Sub.nil _))
  · skip
    have hz := lf_zero c1
    have hmem := hz.2.2
    have hfl := few_len (v := 9) (.inr (.inr rfl))
    have hflt := few_lt (v := 9) (.inr (.inr rfl))
    have hll := famL_len hmem
    refine V.skip ?_
    refine X.next ?_
    refine V.seq ?_
    refine V.ent (Ent.cons (t := 1) rfl (Ent.nil _)) ?_
    refine V.draw mo (by kernel_rfl) (fun hwf => ?_)
    refine D.p 0 rfl rfl rfl rfl rfl rfl (Pu.loadAgg rfl ag30 sz30 rfl rfl (Ld.whole 0 rfl)) ?_
    refine D.eff hwf (e := 1) rfl rfl rfl rfl (Ef.call1 call31 rfl rfl (fun w hw => l10AllI_ok 40 (9 : Int) w   (by decide) (by decide) hfl.2.1 hflt (by decide))) rfl rfl rfl ?_
    rintro _ _ rfl hs
    refine ⟨fun w hw => hs w hw.tail, ?_⟩
    refine D.exi (fun r1A => ?_)
    refine D.exi (fun r1c => ?_)
    refine D.exi (fun r1 => ?_)
    refine D.sep ?_
    refine D.pur1 ?_
    rintro ⟨rfl, hr1_1⟩
    refine D.sep ?_
    refine D.pur (RowsA.len 1 rfl) (fun hn_r1 => ?_)
    have htl_r1 := tops_len r1
    have hclr1 := conts_len r1
    have hrn : r1.length = 840 := by rw [← hclr1, hr1_1]; exact nine_count
    refine D.effT hwf (e := 2) rfl rfl rfl rfl (Ef.call1 call30 rfl rfl (fun w hw => l10Large_ok  v bs (9 : Int) r1 1000000000 _ _ _ _ w ((Ld.old hx) w hw) ((Ld.yy 0 1 (by exact rfl) (by exact rfl)) w hw) (by first | omega | (simp only [tops_len, conts_len, bl, List.length_append, List.length_cons, List.length_nil] at *; omega)) (by first | omega | (simp only [tops_len, conts_len, bl, List.length_append, List.length_cons, List.length_nil] at *; omega)) hmem hr1_1 (by decide) (by decide))) rfl rfl rfl 8 rfl ?_
    rintro _ _ rfl
    refine D.exi (fun sb1 => ?_)
    refine D.sep ?_
    refine D.pur1 ?_
    rintro rfl
    refine D.famK rfl (fun lA1 lk1 hA1 hk1 nA1 nk1 fA1 fk1 => ?_)
    refine D.p 3 rfl rfl rfl rfl rfl rfl (Pu.nilCheck rfl rfl) ?_
    refine D.p 4 rfl rfl rfl rfl rfl rfl (Pu.fieldAddr 4 rfl Try.underlying56 rfl sz2 rfl rfl) ?_
    refine D.p 5 rfl rfl rfl rfl rfl rfl (Pu.load rfl pl2 rfl (Ld.blk 0 rfl rfl)) ?_
    refine D.p 6 rfl rfl rfl rfl rfl rfl (Pu.assign rfl rfl) ?_
    refine D.p 7 rfl rfl rfl rfl rfl rfl (Pu.assign rfl rfl) ?_
    refine D.done hwf rfl ?_
    refine X.next ?_
    refine V.ret ?_
    refine X.ret2 rfl rfl rfl ?_
    exact fun w hw => St.addPur (by rw [if_pos c1, most_run (by omega), c1]) (hw.sub (Sub.nil _))
set_option maxRecDepth 100000 in
set_option maxHeartbeats 1000000 in
theorem FnExactCountFamilies_ok (v : Int) (bs : List B3) (A : Option Addr) (c : Nat) (w : World) (hx : Rd B3C w A bs) (lx : bs.length ≤ 9223372036854775807) : Does Try.prog 3 [.agg #[.int .i64 v, .slice A bs.length c]] w [] (fun r => [.pur (r = .bool true)]) := by
  refine Does.enter Try.func3 rfl rfl [(0, .agg #[.int .i64 v, .slice A bs.length c])] rfl ?_
  refine V.seq ?_
  refine V.region ?_
  refine O.e rfl rfl rfl (Ef.box rfl rfl rfl) ?_
  rintro _ _ ⟨b1, rfl, rfl⟩
  refine O.p rfl rfl rfl (Pu.assign rfl rfl) ?_
  refine O.nil ?_
  refine X.next ?_
  refine V.seq ?_
  refine V.region ?_
  refine O.p rfl rfl rfl (Pu.assign rfl rfl) ?_
  refine O.nil ?_
  refine X.next ?_
  refine V.seq ?_
  refine V.region ?_
  refine O.p rfl rfl rfl (Pu.loadAgg rfl ag24 sz24 rfl rfl (Ld.whole 0 rfl)) ?_
  refine O.p rfl rfl rfl (Pu.move rfl rfl) ?_
  refine O.e rfl rfl rfl (Ef.callP call7 rfl rfl (fun w hw => szSystem_ok _ _ bs _ _ w (by first | omega | (unfold roomLeft at *; split at * <;> omega)) (by omega))) ?_
  rintro _ _ ⟨rfl, rfl⟩
  refine O.p rfl rfl rfl (Pu.assign rfl rfl) ?_
  refine O.nil ?_
  refine X.next ?_
  refine V.seq ?_
  refine V.seq ?_
  refine V.region ?_
  refine O.p rfl rfl rfl (Pu.move rfl rfl) ?_
  refine O.p rfl rfl rfl (Pu.lss rfl rfl rfl) ?_
  refine O.nil ?_
  refine X.next ?_
  refine V.condD rfl (fun c1 => ?_) (fun c1 => ?_)
  · skip
    refine V.seq ?_
    refine V.region ?_
    refine O.p rfl rfl rfl (Pu.assign rfl rfl) ?_
    refine O.nil ?_
    refine X.next ?_
    refine V.ret ?_
    refine X.thenRet ?_
    refine X.ret1 rfl rfl ?_
    exact fun w hw => St.retP rfl hw
  · skip
    have hk : bs.length ≤ 1048576 := by unfold roomLeft at c1; split at c1 <;> omega
    refine V.skip ?_
    refine X.next ?_
    refine V.seq ?_
    refine V.region ?_
    refine O.p rfl rfl rfl (Pu.loadAgg rfl ag24 sz24 rfl rfl (Ld.whole 0 rfl)) ?_
    refine O.e rfl rfl rfl (Ef.call1 call9 rfl rfl (fun w hw => toSystem_ok _ bs _ _ w ((Ld.old hx) w hw) (by omega))) ?_
    rintro _ _ rfl
    refine O.exi (fun A1 => ?_)
    refine O.sep ?_
    refine O.pur ?_
    rintro ⟨hA1, rfl⟩
    refine O.e rfl rfl rfl (Ef.callP call8 rfl rfl (fun w hw => specCountFamilies_ok  v bs _ _ w ((Ld.own 0 (by exact rfl)) w hw) (by first | omega | (simp only [tops_len, conts_len, bl, List.length_append, List.length_cons, List.length_nil] at *; omega)) )) ?_
    rintro _ _ ⟨rfl, rfl⟩
    refine O.p rfl rfl rfl (Pu.move rfl rfl) ?_
    refine O.p rfl rfl rfl (Pu.extract rfl rfl rfl) ?_
    refine O.p rfl rfl rfl (Pu.extract rfl rfl rfl) ?_
    refine O.p rfl rfl rfl (Pu.assign rfl rfl) ?_
    refine O.p rfl rfl rfl (Pu.assign rfl rfl) ?_
    refine O.nil ?_
    refine X.next ?_
    refine V.seq ?_
    refine V.region ?_
    refine O.p rfl rfl rfl (Pu.loadAgg rfl ag24 sz24 rfl rfl (Ld.whole 1 rfl)) ?_
    refine O.e rfl rfl rfl (Ef.call1 call9 rfl rfl (fun w hw => toSystem_ok _ bs _ _ w ((Ld.old hx) w hw) (by omega))) ?_
    rintro _ _ rfl
    refine O.exi (fun A2 => ?_)
    refine O.sep ?_
    refine O.pur ?_
    rintro ⟨hA2, rfl⟩
    refine O.e rfl rfl rfl (Ef.alloc rfl zr30 rfl) ?_
    rintro _ _ ⟨b2, rfl, rfl⟩
    refine O.s rfl rfl (Ef.storeAll 0 rfl sz30 rfl rfl rfl rfl (by simp [Value.oneCell']) rfl) ?_
    rintro _ _ rfl
    refine O.nil ?_
    refine X.next ?_
    refine V.seq ?_
    refine V.region ?_
    refine O.p rfl rfl rfl (Pu.loadAgg rfl ag30 sz30 rfl rfl (Ld.whole 0 rfl)) ?_
    refine O.e rfl rfl rfl (Ef.callP call10 rfl rfl (fun w hw => implCountFamilies_ok  v bs _ _ w ((Ld.own 1 (by exact rfl)) w hw) (by first | omega | (simp only [tops_len, conts_len, bl, List.length_append, List.length_cons, List.length_nil] at *; omega)) )) ?_
    rintro _ _ ⟨rfl, rfl⟩
    refine O.p rfl rfl rfl (Pu.move rfl rfl) ?_
    refine O.p rfl rfl rfl (Pu.extract rfl rfl rfl) ?_
    refine O.p rfl rfl rfl (Pu.extract rfl rfl rfl) ?_
    refine O.p rfl rfl rfl (Pu.assign rfl rfl) ?_
    refine O.p rfl rfl rfl (Pu.assign rfl rfl) ?_
    refine O.nil ?_
    refine X.next ?_
    refine V.seq ?_
    refine V.seq ?_
    refine V.region ?_
    refine O.p rfl rfl rfl (Pu.move rfl rfl) ?_
    refine O.p rfl rfl rfl (Pu.move rfl rfl) ?_
    refine O.p rfl rfl rfl (Pu.neq rfl rfl rfl) ?_
    refine O.p rfl rfl rfl (Pu.move rfl rfl) ?_
    refine O.splitN 30 rfl (fun c2 => ?_) (fun c2 => ?_)
    · skip
      refine O.gs rfl rfl rfl rfl rfl rfl ?_
      refine O.gs rfl rfl rfl rfl rfl rfl ?_
      refine O.gs rfl rfl rfl rfl rfl rfl ?_
      refine O.p rfl rfl rfl (Pu.pickT rfl rfl rfl) ?_
      refine O.nil ?_
      refine X.next ?_
      refine V.condT rfl ?_
      refine V.seq ?_
      refine V.region ?_
      refine O.p rfl rfl rfl (Pu.assign rfl rfl) ?_
      refine O.nil ?_
      refine X.next ?_
      refine V.ret ?_
      refine X.thenRet ?_
      refine X.ret1 rfl rfl ?_
      exact absurd (by first | assumption | rfl | exact ⟨rfl, rfl⟩ | exact ⟨rfl, by assumption⟩ | exact ⟨⟨rfl, by assumption⟩, rfl, by assumption⟩ | omega | (simp only [*]; done) | (rw [rfl])) c2
    · skip
      refine O.gp rfl rfl rfl rfl rfl (Pu.move rfl rfl) ?_
      refine O.gp rfl rfl rfl rfl rfl (Pu.move rfl rfl) ?_
      refine O.gp rfl rfl rfl rfl rfl (Pu.neq rfl rfl rfl) ?_
      refine O.p rfl rfl rfl (Pu.pickF rfl rfl rfl) ?_
      refine O.nil ?_
      refine X.next ?_
      refine V.condNot rfl (fun c3 => ?_) (fun c3 => ?_)
      · skip
        refine V.seq ?_
        refine V.region ?_
        refine O.p rfl rfl rfl (Pu.assign rfl rfl) ?_
        refine O.nil ?_
        refine X.next ?_
        refine V.ret ?_
        refine X.thenRet ?_
        refine X.ret1 rfl rfl ?_
        exact absurd (by first | assumption | rfl | exact ⟨rfl, rfl⟩ | exact ⟨rfl, by assumption⟩ | exact ⟨⟨rfl, by assumption⟩, rfl, by assumption⟩ | omega | (simp only [*]; done) | (rw [rfl])) c3
      · skip
        refine V.skip ?_
        refine X.next ?_
        refine V.seq ?_
        refine V.seq ?_
        refine V.draw mo (by kernel_rfl) (fun hwf => ?_)
        refine D.p 0 rfl rfl rfl rfl rfl rfl (Pu.loadAgg rfl ag30 sz30 rfl rfl (Ld.whole 0 rfl)) ?_
        refine D.p 1 rfl rfl rfl rfl rfl rfl (Pu.loadAgg rfl ag24 sz24 rfl rfl (Ld.whole 3 rfl)) ?_
        refine D.eff hwf (e := 2) rfl rfl rfl rfl (Ef.call1 call9 rfl rfl (fun w hw => toSystem_ok _ bs _ _ w ((Ld.old hx) w hw) (by omega))) rfl rfl rfl ?_
        rintro _ _ rfl hs
        refine ⟨fun w hw => hs w hw.tail, ?_⟩
        refine D.exi (fun A3 => ?_)
        refine D.sep ?_
        refine D.pur1 ?_
        rintro ⟨hA3, rfl⟩
        refine D.eff hwf (e := 3) rfl rfl rfl rfl (Ef.callP call11 rfl rfl (fun w hw => eqSystem_ok _ _ bs bs _ _ _ _ w ((Ld.own 2 (by exact rfl)) w hw) ((Ld.own 0 (by exact rfl)) w hw) (by omega) (by omega))) rfl rfl rfl ?_
        rintro _ _ ⟨rfl, rfl⟩ hs
        refine ⟨fun w hw => hw.sub (Sub.keep 1 rfl (Sub.keep 1 rfl (Sub.keep 1 rfl (Sub.keep 1 rfl (Sub.nil _))))), ?_⟩
        refine D.p 4 rfl rfl rfl rfl rfl rfl (Pu.not rfl rfl) ?_
        refine D.done hwf rfl ?_
        refine X.next ?_
        refine V.condNot rfl (fun c4 => ?_) (fun c4 => ?_)
        · skip
          refine V.seq ?_
          refine V.region ?_
          refine O.p rfl rfl rfl (Pu.assign rfl rfl) ?_
          refine O.nil ?_
          refine X.next ?_
          refine V.ret ?_
          refine X.thenRet ?_
          refine X.ret1 rfl rfl ?_
          exact absurd (by first | assumption | rfl | exact ⟨rfl, rfl⟩ | exact ⟨rfl, by assumption⟩ | exact ⟨⟨rfl, by assumption⟩, rfl, by assumption⟩ | omega | (simp only [*]; done) | (rw [rfl])) c4
        · skip
          refine V.skip ?_
          refine X.next ?_
          refine V.seq ?_
          refine V.region ?_
          refine O.p rfl rfl rfl (Pu.assign rfl rfl) ?_
          refine O.nil ?_
          refine X.next ?_
          refine V.ret ?_
          refine X.ret1 rfl rfl ?_
          exact fun w hw => St.retP rfl hw
end Go.Proofs.Ytphgcnegmkafiaa
