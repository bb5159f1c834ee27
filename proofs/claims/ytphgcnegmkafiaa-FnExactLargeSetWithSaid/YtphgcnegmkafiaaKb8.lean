/-
  Contracts, part 8.
-/
import Derived.Test.YtphgcnegmkafiaaKb7
set_option linter.unusedVariables false
set_option linter.unusedSimpArgs false
namespace Go.Proofs.Ytphgcnegmkafiaa
open Go Go.RowKit Go.Vc Go.Proofs
set_option maxRecDepth 100000 in
set_option maxHeartbeats 1000000 in
theorem l10Bits_ok (v : Int) (bs : List B3) (A : Option Addr) (c : Nat) (w : World) (hx : Rd B3C w A bs) (lx : bs.length ≤ 4611686018427387904) (hg : ∀ b ∈ bs, good 9 b) : Does Try.prog 60 [.agg #[.int .i64 v, .slice A bs.length c]] w [] (fun r => [.pur (r = .tuple #[.int .i64 ((mkF bs % 2 ^ 42 : Nat) : Int), .int .i64 ((mkF bs / 2 ^ 42 : Nat) : Int)])]) := by
  refine Does.enter Try.func60 rfl rfl [(0, .agg #[.int .i64 v, .slice A bs.length c])] rfl ?_
  refine V.seq ?_
  refine V.region ?_
  refine O.e rfl rfl rfl (Ef.box rfl rfl rfl) ?_
  rintro _ _ ⟨b1, rfl, rfl⟩
  refine O.p rfl rfl rfl (Pu.assign rfl rfl) ?_
  refine O.p rfl rfl rfl (Pu.assign rfl rfl) ?_
  refine O.nil ?_
  refine X.next ?_
  refine V.seq ?_
  refine V.region ?_
  refine O.p rfl rfl rfl (Pu.assign rfl rfl) ?_
  refine O.p rfl rfl rfl (Pu.assign rfl rfl) ?_
  refine O.nil ?_
  refine X.next ?_
  refine V.seq ?_
  refine V.seq ?_
  refine V.region ?_
  refine O.p rfl rfl rfl (Pu.assign rfl rfl) ?_
  refine O.nil ?_
  refine X.next ?_
  refine V.block ?_
  refine V.loop3 (β := Nat × Nat × Nat) (fun x => [(4, .int .i64 (x.1 : Int)), (5, .int .i64 (x.2.1 : Int)), (6, .int .i64 (x.2.2 : Int))]) _ (fun x => []) _ (fun x => x.2.2 ≤ bs.length ∧ x.1 = mkF (bs.take x.2.2) % 2 ^ 42 ∧ x.2.1 = mkF (bs.take x.2.2) / 2 ^ 42 ∧ mkF (bs.take x.2.2) < 2 ^ 84) (fun x => bs.length - x.2.2) (0, 0, 0) (by (try dsimp only); exact ⟨by omega, by rw [List.take_zero]; decide, by rw [List.take_zero]; decide, by rw [List.take_zero]; decide⟩) (Ent.cons rfl (Ent.cons rfl (Ent.cons rfl (Ent.nil _)))) (Ent.cons (t := 1) rfl (Ent.nil _)) (Sub.keep 0 rfl (Sub.nil _)) ?_
  rintro ⟨low, high, i⟩ ⟨hi, hlo, hhi, hlt⟩
  dsimp only at hi hlo hhi hlt ⊢
  refine V.seq ?_
  refine V.seq ?_
  refine V.region ?_
  refine O.p rfl rfl rfl (Pu.move rfl rfl) ?_
  refine O.p rfl rfl rfl (Pu.fieldAddr 1 rfl Try.underlying30 rfl sz28 rfl rfl) ?_
  refine O.p rfl rfl rfl (Pu.load rfl pl28 rfl (Ld.blk 0 rfl rfl)) ?_
  refine O.p rfl rfl rfl (Pu.len rfl Try.underlying28 rfl) ?_
  refine O.p rfl rfl rfl (Pu.lss rfl rfl rfl) ?_
  refine O.nil ?_
  refine X.next ?_
  refine V.condD rfl (fun c1 => ?_) (fun c1 => ?_)
  · skip
    refine V.skip ?_
    refine X.next ?_
    refine V.seq ?_
    refine V.block ?_
    refine V.seq ?_
    have ei : i < bs.length := by omega
    have hgb := hg _ (List.getElem_mem ei)
    obtain ⟨Xb, hX⟩ : ∃ Xb, Xb = mkF (bs.take i) := ⟨_, rfl⟩
    obtain ⟨t, ht⟩ : ∃ t, t = tix (bs[i]'ei) := ⟨_, rfl⟩
    have htx : t < 84 := by rw [ht]; exact tix_lt hgb
    rw [← hX] at hlo hhi hlt
    refine V.draw mo (by kernel_rfl) (fun hwf => ?_)
    refine D.p 0 rfl rfl rfl rfl rfl rfl (Pu.fieldAddr 1 rfl Try.underlying30 rfl sz28 rfl rfl) ?_
    refine D.p 1 rfl rfl rfl rfl rfl rfl (Pu.load rfl pl28 rfl (Ld.blk 0 rfl rfl)) ?_
    refine D.p 2 rfl rfl rfl rfl rfl rfl (Pu.move rfl rfl) ?_
    refine D.p 3 rfl rfl rfl rfl rfl rfl (Pu.indexAddr (i) rfl Try.underlying28 sz67 rfl rfl (by omega) (by omega) (hx.some (by omega))) ?_
    refine D.p 4 rfl rfl rfl rfl rfl rfl (Pu.loadAgg' (v := B3.v (bs[i]'ei)) rfl rfl ag67 sz67 rfl rfl (Ld.rds (Ld.old hx) (k := i) ei rfl)) ?_
    refine D.eff hwf (e := 5) rfl rfl rfl rfl (Ef.alloc rfl zr67 rfl) rfl rfl rfl ?_
    rintro _ _ ⟨b2, rfl, rfl⟩ hs
    refine ⟨fun w hw => hw.sub (Sub.keep 1 rfl (Sub.nil _)), ?_⟩
    refine D.p 6 rfl rfl rfl rfl rfl rfl (Pu.assign rfl rfl) ?_
    refine D.eff hwf (e := 7) rfl rfl rfl rfl (Ef.storeAll 0 rfl sz67 rfl rfl rfl rfl (by simp [Value.oneCell']) rfl) rfl rfl rfl ?_
    rintro _ _ rfl hs
    refine ⟨fun w hw => hw.sub (Sub.keep 1 rfl (Sub.nil _)), ?_⟩
    refine D.done hwf rfl ?_
    refine X.next ?_
    refine V.seq ?_
    refine V.region ?_
    refine O.p rfl rfl rfl (Pu.assign rfl rfl) ?_
    refine O.nil ?_
    refine X.next ?_
    refine V.block ?_
    refine V.loop3 (β := Nat × Nat × Nat × Nat) (fun x => [(4, .int .i64 (x.1 : Int)), (5, .int .i64 (x.2.1 : Int)), (7, .int .i64 (x.2.2.1 : Int)), (9, .int .i64 (x.2.2.2 : Int))]) _ (fun x => []) _ (fun x => x.2.2.2 ≤ 9 ∧ x.2.2.1 = cF x.2.2.2 ∧ x.1 = bitA Xb t x.2.2.1 % 2 ^ 42 ∧ x.2.1 = bitA Xb t x.2.2.1 / 2 ^ 42) (fun x => 9 - x.2.2.2) (low, high, 0, 0) (by (try dsimp only); exact ⟨by omega, cF_zero.symm, by rw [bitA_zero]; exact hlo, by rw [bitA_zero]; exact hhi⟩) (Ent.cons rfl (Ent.cons rfl (Ent.cons rfl (Ent.cons rfl (Ent.nil _))))) (Ent.cons (t := 1) rfl (Ent.cons (t := 6) rfl (Ent.cons (t := 8) rfl (Ent.nil _)))) (Sub.keep 0 rfl (Sub.keep 0 rfl (Sub.nil _))) ?_
    rintro ⟨l1, h1, n1, p⟩ ⟨hp, hn1, hl1, hh1⟩
    dsimp only at hp hn1 hl1 hh1 ⊢
    have hc9 := cF_le p
    have hbl1 : bitA Xb t n1 < 2 ^ 84 := bitA_lt hlt htx
    have hll1 : l1 < 2 ^ 42 := by rw [hl1]; exact lt42
    have hhl1 : h1 < 2 ^ 42 := by rw [hh1]; exact div_lt42 hbl1
    refine V.seq ?_
    refine V.seq ?_
    refine V.region ?_
    refine O.p rfl rfl rfl (Pu.move rfl rfl) ?_
    refine O.p rfl rfl rfl (Pu.lss rfl rfl rfl) ?_
    refine O.nil ?_
    refine X.next ?_
    refine V.condD rfl (fun c2 => ?_) (fun c2 => ?_)
    · skip
      refine V.skip ?_
      refine X.next ?_
      refine V.seq ?_
      refine V.block ?_
      refine V.seq ?_
      refine V.region ?_
      refine O.p rfl rfl rfl (Pu.move rfl rfl) ?_
      refine O.p rfl rfl rfl (Pu.add64 (r := ((p + 1 : Nat) : Int)) rfl (by omega) rfl rfl rfl) ?_
      refine O.p rfl rfl rfl (Pu.assign rfl rfl) ?_
      refine O.nil ?_
      refine X.next ?_
      refine V.block ?_
      refine V.loop3 (β := Nat × Nat × Nat × Nat) (fun x => [(4, .int .i64 (x.1 : Int)), (5, .int .i64 (x.2.1 : Int)), (7, .int .i64 (x.2.2.1 : Int)), (10, .int .i64 (x.2.2.2 : Int))]) _ (fun x => []) _ (fun x => p < x.2.2.2 ∧ x.2.2.2 ≤ 9 ∧ x.2.2.1 = cF p + cG p x.2.2.2 ∧ x.1 = bitA Xb t x.2.2.1 % 2 ^ 42 ∧ x.2.1 = bitA Xb t x.2.2.1 / 2 ^ 42) (fun x => 9 - x.2.2.2) (l1, h1, n1, p + 1) (by (try dsimp only); exact ⟨by omega, by omega, by rw [cG_zero]; exact hn1, hl1, hh1⟩) (Ent.cons rfl (Ent.cons rfl (Ent.cons rfl (Ent.cons rfl (Ent.nil _))))) (Ent.cons (t := 1) rfl (Ent.cons (t := 6) rfl (Ent.cons (t := 8) rfl (Ent.cons (t := 9) rfl (Ent.nil _))))) (Sub.keep 0 rfl (Sub.keep 0 rfl (Sub.nil _))) ?_
      rintro ⟨l2, h2, n2, q⟩ ⟨hpq, hq, hn2, hl2, hh2⟩
      dsimp only at hpq hq hn2 hl2 hh2 ⊢
      have hc8 := cG_le p q
      have hbl2 : bitA Xb t n2 < 2 ^ 84 := bitA_lt hlt htx
      have hll2 : l2 < 2 ^ 42 := by rw [hl2]; exact lt42
      have hhl2 : h2 < 2 ^ 42 := by rw [hh2]; exact div_lt42 hbl2
      refine V.seq ?_
      refine V.seq ?_
      refine V.region ?_
      refine O.p rfl rfl rfl (Pu.move rfl rfl) ?_
      refine O.p rfl rfl rfl (Pu.lss rfl rfl rfl) ?_
      refine O.nil ?_
      refine X.next ?_
      refine V.condD rfl (fun c3 => ?_) (fun c3 => ?_)
      · skip
        refine V.skip ?_
        refine X.next ?_
        refine V.seq ?_
        refine V.block ?_
        refine V.seq ?_
        refine V.region ?_
        refine O.p rfl rfl rfl (Pu.move rfl rfl) ?_
        refine O.p rfl rfl rfl (Pu.add64 (r := ((q + 1 : Nat) : Int)) rfl (by omega) rfl rfl rfl) ?_
        refine O.p rfl rfl rfl (Pu.assign rfl rfl) ?_
        refine O.nil ?_
        refine X.next ?_
        refine V.block ?_
        refine V.loop3 (β := Nat × Nat × Nat × Nat) (fun x => [(4, .int .i64 (x.1 : Int)), (5, .int .i64 (x.2.1 : Int)), (7, .int .i64 (x.2.2.1 : Int)), (11, .int .i64 (x.2.2.2 : Int))]) _ (fun x => []) _ (fun x => q < x.2.2.2 ∧ x.2.2.2 ≤ 9 ∧ x.2.2.1 = cF p + cG p q + (x.2.2.2 - q - 1) ∧ x.1 = bitA Xb t x.2.2.1 % 2 ^ 42 ∧ x.2.1 = bitA Xb t x.2.2.1 / 2 ^ 42) (fun x => 9 - x.2.2.2) (l2, h2, n2, q + 1) (by (try dsimp only); exact ⟨by omega, by omega, by omega, hl2, hh2⟩) (Ent.cons rfl (Ent.cons rfl (Ent.cons rfl (Ent.cons rfl (Ent.nil _))))) (Ent.cons (t := 1) rfl (Ent.cons (t := 6) rfl (Ent.cons (t := 8) rfl (Ent.cons (t := 9) rfl (Ent.cons (t := 10) rfl (Ent.nil _)))))) (Sub.keep 0 rfl (Sub.keep 0 rfl (Sub.nil _))) ?_
        rintro ⟨l3, h3, n3, r⟩ ⟨hqr, hr, hn3, hl3, hh3⟩
        dsimp only at hqr hr hn3 hl3 hh3 ⊢
        have hbl3 : bitA Xb t n3 < 2 ^ 84 := bitA_lt hlt htx
        have hll3 : l3 < 2 ^ 42 := by rw [hl3]; exact lt42
        have hhl3 : h3 < 2 ^ 42 := by rw [hh3]; exact div_lt42 hbl3
        refine V.seq ?_
        refine V.seq ?_
        refine V.region ?_
        refine O.p rfl rfl rfl (Pu.move rfl rfl) ?_
        refine O.p rfl rfl rfl (Pu.lss rfl rfl rfl) ?_
        refine O.nil ?_
        refine X.next ?_
        refine V.condD rfl (fun c4 => ?_) (fun c4 => ?_)
        · skip
          refine V.skip ?_
          refine X.next ?_
          refine V.seq ?_
          refine V.block ?_
          refine V.seq ?_
          refine V.seq ?_
          refine V.region ?_
          refine O.p rfl rfl rfl (Pu.indexArr 0 0 rfl Try.underlying67 sz2 rfl rfl (by decide) (by decide) (by decide)) ?_
          refine O.p rfl rfl rfl (Pu.load rfl pl2 rfl (Ld.blk 0 rfl rfl)) ?_
          refine O.p rfl rfl rfl (Pu.move rfl rfl) ?_
          refine O.p rfl rfl rfl (Pu.eql rfl rfl rfl) ?_
          refine O.p rfl rfl rfl (Pu.move rfl rfl) ?_
          refine O.splitD 44 rfl (fun c5 => ?_) (fun c5 => ?_)
          · skip
            refine O.gp rfl rfl rfl rfl rfl (Pu.indexArr 1 1 rfl Try.underlying67 sz2 rfl rfl (by decide) (by decide) (by decide)) ?_
            refine O.gp rfl rfl rfl rfl rfl (Pu.load rfl pl2 rfl (Ld.blk 0 rfl rfl)) ?_
            refine O.gp rfl rfl rfl rfl rfl (Pu.move rfl rfl) ?_
            refine O.gp rfl rfl rfl rfl rfl (Pu.eql rfl rfl rfl) ?_
            refine O.p rfl rfl rfl (Pu.pickT rfl rfl rfl) ?_
            refine O.p rfl rfl rfl (Pu.move rfl rfl) ?_
            refine O.splitD 50 rfl (fun c6 => ?_) (fun c6 => ?_)
            · skip
              refine O.gp rfl rfl rfl rfl rfl (Pu.indexArr 2 2 rfl Try.underlying67 sz2 rfl rfl (by decide) (by decide) (by decide)) ?_
              refine O.gp rfl rfl rfl rfl rfl (Pu.load rfl pl2 rfl (Ld.blk 0 rfl rfl)) ?_
              refine O.gp rfl rfl rfl rfl rfl (Pu.move rfl rfl) ?_
              refine O.gp rfl rfl rfl rfl rfl (Pu.eql rfl rfl rfl) ?_
              refine O.p rfl rfl rfl (Pu.pickT rfl rfl rfl) ?_
              refine O.nil ?_
              refine X.next ?_
              refine V.condD rfl (fun c7 => ?_) (fun c7 => ?_)
              · skip
                have htn : t = n3 := ht.trans ((tix_hit hgb hpq hqr (by omega)).2 ⟨c5, c6, c7⟩ |>.trans hn3.symm)
                refine V.seq ?_
                refine V.region ?_
                refine O.p rfl rfl rfl (Pu.move rfl rfl) ?_
                refine O.p rfl rfl rfl (Pu.lss rfl rfl rfl) ?_
                refine O.nil ?_
                refine X.next ?_
                refine V.condD rfl (fun c8 => ?_) (fun c8 => ?_)
                · skip
                  refine V.region ?_
                  refine O.p rfl rfl rfl (Pu.move rfl rfl) ?_
                  refine O.p rfl rfl rfl (Pu.move rfl rfl) ?_
                  refine O.p rfl rfl rfl (Pu.convU' n3 (by omega) ⟨_, Try.underlying2⟩ Try.underlying94 (by omega) rfl rfl) ?_
                  refine O.p rfl rfl rfl (Pu.shl1 (p := n3) K64.i (by omega) rfl rfl rfl) ?_
                  refine O.p rfl rfl rfl (Pu.or (m := l3) (n := (2 ^ n3)) K64.i (by omega) (pow_lt62 (by omega)) rfl rfl rfl) ?_
                  refine O.p rfl rfl rfl (Pu.assign rfl rfl) ?_
                  refine O.nil ?_
                  refine X.next ?_
                  refine V.region ?_
                  refine O.p rfl rfl rfl (Pu.move rfl rfl) ?_
                  refine O.p rfl rfl rfl (Pu.add64 (r := ((n3 + 1 : Nat) : Int)) rfl (by omega) rfl rfl rfl) ?_
                  refine O.p rfl rfl rfl (Pu.assign rfl rfl) ?_
                  refine O.nil ?_
                  refine X.blockNormal ?_
                  refine X.next ?_
                  refine V.region ?_
                  refine O.p rfl rfl rfl (Pu.move rfl rfl) ?_
                  refine O.p rfl rfl rfl (Pu.add64 (r := ((r + 1 : Nat) : Int)) rfl (by omega) rfl rfl rfl) ?_
                  refine O.p rfl rfl rfl (Pu.assign rfl rfl) ?_
                  refine O.nil ?_
                  exact X.back3 ((l3 ||| (2 ^ n3)), h3, n3 + 1, r + 1) (by (try dsimp only); exact ⟨by omega, by omega, by omega, (bit_lo htn (by omega) hl3 hh3).1, (bit_lo htn (by omega) hl3 hh3).2⟩) (by first | omega | (dsimp only; omega)) (Ent.cons rfl (Ent.cons rfl (Ent.cons rfl (Ent.cons rfl (Ent.nil _))))) (Ent.cons (t := 1) rfl (Ent.cons (t := 6) rfl (Ent.cons (t := 8) rfl (Ent.cons (t := 9) rfl (Ent.cons (t := 10) rfl (Ent.nil _)))))) (Sub.keep 0 rfl (Sub.keep 0 rfl (Sub.nil _)))
                · skip
                  refine V.region ?_
                  refine O.p rfl rfl rfl (Pu.move rfl rfl) ?_
                  refine O.p rfl rfl rfl (Pu.move rfl rfl) ?_
                  refine O.p rfl rfl rfl (Pu.sub64 (r := ((n3 - 42 : Nat) : Int)) (by omega) (by omega) rfl rfl rfl) ?_
                  refine O.p rfl rfl rfl (Pu.convU' (n3 - 42) (by omega) ⟨_, Try.underlying2⟩ Try.underlying94 (by omega) rfl rfl) ?_
                  refine O.p rfl rfl rfl (Pu.shl1 (p := n3 - 42) K64.i (by omega) rfl rfl rfl) ?_
                  refine O.p rfl rfl rfl (Pu.or (m := h3) (n := (2 ^ (n3 - 42))) K64.i (by omega) (pow_lt62 (by omega)) rfl rfl rfl) ?_
                  refine O.p rfl rfl rfl (Pu.assign rfl rfl) ?_
                  refine O.nil ?_
                  refine X.next ?_
                  refine V.region ?_
                  refine O.p rfl rfl rfl (Pu.move rfl rfl) ?_
                  refine O.p rfl rfl rfl (Pu.add64 (r := ((n3 + 1 : Nat) : Int)) rfl (by omega) rfl rfl rfl) ?_
                  refine O.p rfl rfl rfl (Pu.assign rfl rfl) ?_
                  refine O.nil ?_
                  refine X.blockNormal ?_
                  refine X.next ?_
                  refine V.region ?_
                  refine O.p rfl rfl rfl (Pu.move rfl rfl) ?_
                  refine O.p rfl rfl rfl (Pu.add64 (r := ((r + 1 : Nat) : Int)) rfl (by omega) rfl rfl rfl) ?_
                  refine O.p rfl rfl rfl (Pu.assign rfl rfl) ?_
                  refine O.nil ?_
                  exact X.back3 (l3, (h3 ||| (2 ^ (n3 - 42))), n3 + 1, r + 1) (by (try dsimp only); exact ⟨by omega, by omega, by omega, (bit_hi htn (by omega) hl3 hh3).1, (bit_hi htn (by omega) hl3 hh3).2⟩) (by first | omega | (dsimp only; omega)) (Ent.cons rfl (Ent.cons rfl (Ent.cons rfl (Ent.cons rfl (Ent.nil _))))) (Ent.cons (t := 1) rfl (Ent.cons (t := 6) rfl (Ent.cons (t := 8) rfl (Ent.cons (t := 9) rfl (Ent.cons (t := 10) rfl (Ent.nil _)))))) (Sub.keep 0 rfl (Sub.keep 0 rfl (Sub.nil _)))
              · skip
                refine V.skip ?_
                refine X.next ?_
                refine V.region ?_
                refine O.p rfl rfl rfl (Pu.move rfl rfl) ?_
                refine O.p rfl rfl rfl (Pu.add64 (r := ((n3 + 1 : Nat) : Int)) rfl (by omega) rfl rfl rfl) ?_
                refine O.p rfl rfl rfl (Pu.assign rfl rfl) ?_
                refine O.nil ?_
                refine X.blockNormal ?_
                refine X.next ?_
                refine V.region ?_
                refine O.p rfl rfl rfl (Pu.move rfl rfl) ?_
                refine O.p rfl rfl rfl (Pu.add64 (r := ((r + 1 : Nat) : Int)) rfl (by omega) rfl rfl rfl) ?_
                refine O.p rfl rfl rfl (Pu.assign rfl rfl) ?_
                refine O.nil ?_
                exact X.back3 (l3, h3, n3 + 1, r + 1) (by (try dsimp only); exact ⟨by omega, by omega, by omega, (bit_no (fun e => by have h := (tix_hit hgb hpq hqr (by omega)).1 (ht.symm.trans (e.trans hn3)); first | exact c5 h.1 | exact c6 h.2.1 | exact c7 h.2.2) hl3 hh3).1, (bit_no (fun e => by have h := (tix_hit hgb hpq hqr (by omega)).1 (ht.symm.trans (e.trans hn3)); first | exact c5 h.1 | exact c6 h.2.1 | exact c7 h.2.2) hl3 hh3).2⟩) (by first | omega | (dsimp only; omega)) (Ent.cons rfl (Ent.cons rfl (Ent.cons rfl (Ent.cons rfl (Ent.nil _))))) (Ent.cons (t := 1) rfl (Ent.cons (t := 6) rfl (Ent.cons (t := 8) rfl (Ent.cons (t := 9) rfl (Ent.cons (t := 10) rfl (Ent.nil _)))))) (Sub.keep 0 rfl (Sub.keep 0 rfl (Sub.nil _)))
            · skip
              refine O.gs rfl rfl rfl rfl rfl rfl ?_
              refine O.gs rfl rfl rfl rfl rfl rfl ?_
              refine O.gs rfl rfl rfl rfl rfl rfl ?_
              refine O.gs rfl rfl rfl rfl rfl rfl ?_
              refine O.p rfl rfl rfl (Pu.pickF rfl rfl rfl) ?_
              refine O.nil ?_
              refine X.next ?_
              refine V.condF rfl ?_
              refine V.skip ?_
              refine X.next ?_
              refine V.region ?_
              refine O.p rfl rfl rfl (Pu.move rfl rfl) ?_
              refine O.p rfl rfl rfl (Pu.add64 (r := ((n3 + 1 : Nat) : Int)) rfl (by omega) rfl rfl rfl) ?_
              refine O.p rfl rfl rfl (Pu.assign rfl rfl) ?_
              refine O.nil ?_
              refine X.blockNormal ?_
              refine X.next ?_
              refine V.region ?_
              refine O.p rfl rfl rfl (Pu.move rfl rfl) ?_
              refine O.p rfl rfl rfl (Pu.add64 (r := ((r + 1 : Nat) : Int)) rfl (by omega) rfl rfl rfl) ?_
              refine O.p rfl rfl rfl (Pu.assign rfl rfl) ?_
              refine O.nil ?_
              exact X.back3 (l3, h3, n3 + 1, r + 1) (by (try dsimp only); exact ⟨by omega, by omega, by omega, (bit_no (fun e => by have h := (tix_hit hgb hpq hqr (by omega)).1 (ht.symm.trans (e.trans hn3)); first | exact c5 h.1 | exact c6 h.2.1 | exact c7 h.2.2) hl3 hh3).1, (bit_no (fun e => by have h := (tix_hit hgb hpq hqr (by omega)).1 (ht.symm.trans (e.trans hn3)); first | exact c5 h.1 | exact c6 h.2.1 | exact c7 h.2.2) hl3 hh3).2⟩) (by first | omega | (dsimp only; omega)) (Ent.cons rfl (Ent.cons rfl (Ent.cons rfl (Ent.cons rfl (Ent.nil _))))) (Ent.cons (t := 1) rfl (Ent.cons (t := 6) rfl (Ent.cons (t := 8) rfl (Ent.cons (t := 9) rfl (Ent.cons (t := 10) rfl (Ent.nil _)))))) (Sub.keep 0 rfl (Sub.keep 0 rfl (Sub.nil _)))
          · skip
            refine O.gs rfl rfl rfl rfl rfl rfl ?_
            refine O.gs rfl rfl rfl rfl rfl rfl ?_
            refine O.gs rfl rfl rfl rfl rfl rfl ?_
            refine O.gs rfl rfl rfl rfl rfl rfl ?_
            refine O.p rfl rfl rfl (Pu.pickF rfl rfl rfl) ?_
            refine O.p rfl rfl rfl (Pu.move rfl rfl) ?_
            refine O.gs rfl rfl rfl rfl rfl rfl ?_
            refine O.gs rfl rfl rfl rfl rfl rfl ?_
            refine O.gs rfl rfl rfl rfl rfl rfl ?_
            refine O.gs rfl rfl rfl rfl rfl rfl ?_
            refine O.p rfl rfl rfl (Pu.pickF rfl rfl rfl) ?_
            refine O.nil ?_
            refine X.next ?_
            refine V.condF rfl ?_
            refine V.skip ?_
            refine X.next ?_
            refine V.region ?_
            refine O.p rfl rfl rfl (Pu.move rfl rfl) ?_
            refine O.p rfl rfl rfl (Pu.add64 (r := ((n3 + 1 : Nat) : Int)) rfl (by omega) rfl rfl rfl) ?_
            refine O.p rfl rfl rfl (Pu.assign rfl rfl) ?_
            refine O.nil ?_
            refine X.blockNormal ?_
            refine X.next ?_
            refine V.region ?_
            refine O.p rfl rfl rfl (Pu.move rfl rfl) ?_
            refine O.p rfl rfl rfl (Pu.add64 (r := ((r + 1 : Nat) : Int)) rfl (by omega) rfl rfl rfl) ?_
            refine O.p rfl rfl rfl (Pu.assign rfl rfl) ?_
            refine O.nil ?_
            exact X.back3 (l3, h3, n3 + 1, r + 1) (by (try dsimp only); exact ⟨by omega, by omega, by omega, (bit_no (fun e => by have h := (tix_hit hgb hpq hqr (by omega)).1 (ht.symm.trans (e.trans hn3)); first | exact c5 h.1 | exact c6 h.2.1 | exact c7 h.2.2) hl3 hh3).1, (bit_no (fun e => by have h := (tix_hit hgb hpq hqr (by omega)).1 (ht.symm.trans (e.trans hn3)); first | exact c5 h.1 | exact c6 h.2.1 | exact c7 h.2.2) hl3 hh3).2⟩) (by first | omega | (dsimp only; omega)) (Ent.cons rfl (Ent.cons rfl (Ent.cons rfl (Ent.cons rfl (Ent.nil _))))) (Ent.cons (t := 1) rfl (Ent.cons (t := 6) rfl (Ent.cons (t := 8) rfl (Ent.cons (t := 9) rfl (Ent.cons (t := 10) rfl (Ent.nil _)))))) (Sub.keep 0 rfl (Sub.keep 0 rfl (Sub.nil _)))
        · skip
          refine V.exit ?_
          refine X.thenExit ?_
          refine X.thenExit ?_
          refine X.blockHit ?_
          refine X.blockNormal ?_
          refine X.next ?_
          refine V.region ?_
          refine O.p rfl rfl rfl (Pu.move rfl rfl) ?_
          refine O.p rfl rfl rfl (Pu.add64 (r := ((q + 1 : Nat) : Int)) rfl (by omega) rfl rfl rfl) ?_
          refine O.p rfl rfl rfl (Pu.assign rfl rfl) ?_
          refine O.nil ?_
          exact X.back3 (l3, h3, n3, q + 1) (by (try dsimp only); exact ⟨by omega, by omega, by have := cG_step p q hpq (by omega); omega, hl3, hh3⟩) (by first | omega | (dsimp only; omega)) (Ent.cons rfl (Ent.cons rfl (Ent.cons rfl (Ent.cons rfl (Ent.nil _))))) (Ent.cons (t := 1) rfl (Ent.cons (t := 6) rfl (Ent.cons (t := 8) rfl (Ent.cons (t := 9) rfl (Ent.nil _))))) (Sub.keep 0 rfl (Sub.keep 0 rfl (Sub.nil _)))
      · skip
        refine V.exit ?_
        refine X.thenExit ?_
        refine X.thenExit ?_
        refine X.blockHit ?_
        refine X.blockNormal ?_
        refine X.next ?_
        refine V.region ?_
        refine O.p rfl rfl rfl (Pu.move rfl rfl) ?_
        refine O.p rfl rfl rfl (Pu.add64 (r := ((p + 1 : Nat) : Int)) rfl (by omega) rfl rfl rfl) ?_
        refine O.p rfl rfl rfl (Pu.assign rfl rfl) ?_
        refine O.nil ?_
        exact X.back3 (l2, h2, n2, p + 1) (by (try dsimp only); exact ⟨by omega, by rw [hn2, show q = 9 by omega]; exact cG_nine p (by omega), hl2, hh2⟩) (by first | omega | (dsimp only; omega)) (Ent.cons rfl (Ent.cons rfl (Ent.cons rfl (Ent.cons rfl (Ent.nil _))))) (Ent.cons (t := 1) rfl (Ent.cons (t := 6) rfl (Ent.cons (t := 8) rfl (Ent.nil _)))) (Sub.keep 0 rfl (Sub.keep 0 rfl (Sub.nil _)))
    · skip
      refine V.exit ?_
      refine X.thenExit ?_
      refine X.thenExit ?_
      refine X.blockHit ?_
      refine X.blockNormal ?_
      refine X.next ?_
      refine V.region ?_
      refine O.p rfl rfl rfl (Pu.move rfl rfl) ?_
      refine O.p rfl rfl rfl (Pu.add64 (r := ((i + 1 : Nat) : Int)) rfl (by omega) rfl rfl rfl) ?_
      refine O.p rfl rfl rfl (Pu.assign rfl rfl) ?_
      refine O.nil ?_
      exact X.back3 (l1, h1, i + 1) (by (try dsimp only); exact ⟨by omega, by rw [hl1, bitA_end (by rw [hn1, show p = 9 by omega, cF_nine]; exact htx), hX, ht, take_snoc ei, mk_snoc], by rw [hh1, bitA_end (by rw [hn1, show p = 9 by omega, cF_nine]; exact htx), hX, ht, take_snoc ei, mk_snoc], by rw [take_snoc ei, mk_snoc, ← hX, ← ht]; exact Nat.or_lt_two_pow hlt (Nat.pow_lt_pow_right (by decide) htx)⟩) (by first | omega | (dsimp only; omega)) (Ent.cons rfl (Ent.cons rfl (Ent.cons rfl (Ent.nil _)))) (Ent.cons (t := 1) rfl (Ent.nil _)) (Sub.keep 1 rfl (Sub.nil _))
  · skip
    refine V.exit ?_
    refine X.thenExit ?_
    refine X.thenExit ?_
    refine X.blockHit ?_
    refine X.next ?_
    refine V.seq ?_
    refine V.region ?_
    refine O.p rfl rfl rfl (Pu.move rfl rfl) ?_
    refine O.p rfl rfl rfl (Pu.move rfl rfl) ?_
    refine O.p rfl rfl rfl (Pu.assign rfl rfl) ?_
    refine O.p rfl rfl rfl (Pu.assign rfl rfl) ?_
    refine O.nil ?_
    refine X.next ?_
    refine V.ret ?_
    refine X.ret2 rfl rfl rfl ?_
    exact fun w hw => St.addPur (by rw [hlo, hhi, List.take_of_length_le (by omega)]) (hw.sub (Sub.nil _))
def L_l10Go (n : Nat) : Prop := ∀ (D0 : Nat) (sb most : Nat) (ns : List Nat) (l : List (List Int)) (chosen : List Int) (from_ : Nat) (low : Nat) (high : Nat) (chosenA : Option Addr) (chosenc : Nat) (w0 : World) (H : List Assn) (hchosen : ∀ w, St w0 H w → Rd I64 w chosenA chosen) (lchosen : chosen.length ≤ 1099511627776) (hcS : chosenA.isSome = true) (hF : Fam n D0) (hlw : low = D0 % 2 ^ 42) (hhg : high = D0 / 2 ^ 42) (hc6 : chosen.length + n = 6) (hnl : ns.length ≤ 1000) (hns : ∀ j (h : j < ns.length), ns[j] < ms9.length) (hfn : from_ ≤ ns.length) (hlm : l.length < most) (hmm : most ≤ 1000000000), Does Try.prog 61 [.pointer (some ⟨sb, 0, none⟩), .slice chosenA chosen.length chosenc, .int .i64 (from_ : Int), .int .i64 (low : Int), .int .i64 (high : Int)] w0 (FamK 56 2 sb most ns l :: H) (fun r => [.sep (.pur (r = .tuple #[])) (FamK 56 2 sb most ns (l ++ runC (fun j => decide (j < most)) l.length (famS ms9 ns n from_ chosen D0)))] ++ H)
set_option maxRecDepth 100000 in
set_option maxHeartbeats 1000000 in
theorem l10Go_step (n : Nat) (ih : ∀ n', n' < n → L_l10Go n') (D0 : Nat) (sb most : Nat) (ns : List Nat) (l : List (List Int)) (chosen : List Int) (from_ : Nat) (low : Nat) (high : Nat) (chosenA : Option Addr) (chosenc : Nat) (w0 : World) (H : List Assn) (hchosen : ∀ w, St w0 H w → Rd I64 w chosenA chosen) (lchosen : chosen.length ≤ 1099511627776) (hcS : chosenA.isSome = true) (hF : Fam n D0) (hlw : low = D0 % 2 ^ 42) (hhg : high = D0 / 2 ^ 42) (hc6 : chosen.length + n = 6) (hnl : ns.length ≤ 1000) (hns : ∀ j (h : j < ns.length), ns[j] < ms9.length) (hfn : from_ ≤ ns.length) (hlm : l.length < most) (hmm : most ≤ 1000000000) : Does Try.prog 61 [.pointer (some ⟨sb, 0, none⟩), .slice chosenA chosen.length chosenc, .int .i64 (from_ : Int), .int .i64 (low : Int), .int .i64 (high : Int)] w0 (FamK 56 2 sb most ns l :: H) (fun r => [.sep (.pur (r = .tuple #[])) (FamK 56 2 sb most ns (l ++ runC (fun j => decide (j < most)) l.length (famS ms9 ns n from_ chosen D0)))] ++ H) := by
  refine Does.enter Try.func61 rfl rfl [(0, .pointer (some ⟨sb, 0, none⟩)), (1, .slice chosenA chosen.length chosenc), (2, .int .i64 (from_ : Int)), (3, .int .i64 (low : Int)), (4, .int .i64 (high : Int))] rfl ?_
  have hll : low < 2 ^ 42 := by rw [hlw]; exact lt42
  have hhl : high < 2 ^ 42 := by rw [hhg]; exact div_lt42 hF.lt
  refine V.seq ?_
  refine V.seq ?_
  refine V.region ?_
  refine O.p rfl rfl rfl (Pu.move rfl rfl) ?_
  refine O.p rfl rfl rfl (Pu.len rfl Try.underlying54 rfl) ?_
  refine O.p rfl rfl rfl (Pu.eql rfl rfl rfl) ?_
  refine O.nil ?_
  refine X.next ?_
  refine V.condD rfl (fun c1 => ?_) (fun c1 => ?_)
  · skip
    have hk0 : n = 0 := by omega
    refine V.seq ?_
    refine V.famK (fun lA1 lk1 hA1 hk1 nA1 nk1 fA1 fk1 => ?_)
    refine V.region ?_
    refine O.p rfl rfl rfl (Pu.move rfl rfl) ?_
    refine O.p rfl rfl rfl (Pu.nilCheck rfl rfl) ?_
    refine O.p rfl rfl rfl (Pu.fieldAddr 4 rfl Try.underlying56 rfl sz2 rfl rfl) ?_
    refine O.p rfl rfl rfl (Pu.load rfl pl2 rfl (Ld.blk 0 rfl rfl)) ?_
    refine O.p rfl rfl rfl (Pu.add64 (r := ((l.length + 1 : Nat) : Int)) rfl (by omega) rfl rfl rfl) ?_
    refine O.p rfl rfl rfl (Pu.nilCheck rfl rfl) ?_
    refine O.p rfl rfl rfl (Pu.fieldAddr 4 rfl Try.underlying56 rfl sz2 rfl rfl) ?_
    refine O.s rfl rfl (Ef.store1 (cs' := [_, _, _, _, _, _]) 0 rfl sz2 rfl rfl rfl rfl rfl (ltb rfl) rfl) ?_
    rintro _ _ rfl
    refine O.nil ?_
    refine X.next ?_
    refine V.seq ?_
    refine V.seq ?_
    refine V.region ?_
    refine O.p rfl rfl rfl (Pu.move rfl rfl) ?_
    refine O.p rfl rfl rfl (Pu.nilCheck rfl rfl) ?_
    refine O.p rfl rfl rfl (Pu.fieldAddr 4 rfl Try.underlying56 rfl sz2 rfl rfl) ?_
    refine O.p rfl rfl rfl (Pu.load rfl pl2 rfl (Ld.blk 0 rfl rfl)) ?_
    refine O.p rfl rfl rfl (Pu.eql rfl rfl rfl) ?_
    refine O.nil ?_
    refine X.next ?_
    refine V.condD rfl (fun c2 => ?_) (fun c2 => ?_)
    · skip
      have hl0 : l = [] := List.length_eq_zero_iff.1 (by omega)
      refine V.region ?_
      refine O.p rfl rfl rfl (Pu.move rfl rfl) ?_
      refine O.p rfl rfl rfl (Pu.move rfl rfl) ?_
      refine O.e rfl rfl rfl (Ef.call1 call89 rfl rfl (fun w hw => l01Own_ok chosen _ _ w ((fun w hw => hchosen w (hw.sub (Sub.drop (Sub.drop (Sub.drop (Sub.drop (Sub.drop (Sub.refl _)))))))) w hw) hcS (by omega))) ?_
      rintro _ _ rfl
      refine O.exi (fun p1 => ?_)
      refine O.sep ?_
      refine O.pur ?_
      rintro ⟨rfl, hp1⟩
      refine O.p rfl rfl rfl (Pu.nilCheck rfl rfl) ?_
      refine O.p rfl rfl rfl (Pu.fieldAddr 5 rfl Try.underlying56 rfl sz54 rfl rfl) ?_
      refine O.s rfl rfl (Ef.store1 (cs' := [_, _, _, _, _, _]) 1 rfl sz54 rfl rfl rfl rfl rfl (ltb rfl) rfl) ?_
      rintro _ _ rfl
      refine O.nil ?_
      refine X.next ?_
      refine V.ret ?_
      refine X.thenRet ?_
      refine X.map (fun w hw => FamK.mk (T := 56) (iT := 2) (l := (l ++ [chosen])) (ns := ns) (by rw [head_snoc, if_pos hl0, hp1]) (hw.sub (Sub.cons 1 rfl (fun w F h => by rw [List.length_append, List.length_singleton]; exact h) (Sub.keep 1 rfl (Sub.keep 1 rfl (Sub.keep 1 rfl (Sub.keep 0 rfl (Sub.drop (Sub.refl _))))))))) ?_
      refine X.ret0 rfl ?_
      exact fun w hw => St.unsep (St.addPur rfl (hw.sub (Sub.cons 0 rfl (fun w F h => by rw [hk0]; show (FamK _ _ _ _ _ (l ++ runC _ _ [chosen])).P w F; rw [runC_one]; exact h) (Sub.refl _))))
    · skip
      have hl0 : ¬ l = [] := fun h => c2 (by rw [h]; rfl)
      refine V.skip ?_
      refine X.next ?_
      refine V.ret ?_
      refine X.thenRet ?_
      refine X.map (fun w hw => FamK.mk (T := 56) (iT := 2) (l := (l ++ [chosen])) (ns := ns) (by rw [head_snoc, if_neg hl0]) (hw.sub (Sub.cons 0 rfl (fun w F h => by rw [List.length_append, List.length_singleton]; exact h) (Sub.keep 0 rfl (Sub.keep 0 rfl (Sub.keep 0 rfl (Sub.keep 0 rfl (Sub.refl _)))))))) ?_
      refine X.ret0 rfl ?_
      exact fun w hw => St.unsep (St.addPur rfl (hw.sub (Sub.cons 0 rfl (fun w F h => by rw [hk0]; show (FamK _ _ _ _ _ (l ++ runC _ _ [chosen])).P w F; rw [runC_one]; exact h) (Sub.refl _))))
  · skip
    have hn0 : 0 < n := by omega
    obtain ⟨kq, hk1⟩ : ∃ kq, n = kq + 1 := ⟨n - 1, by omega⟩
    have hpv := hF.piv hn0
    refine V.skip ?_
    refine X.next ?_
    refine V.seq ?_
    refine V.region ?_
    refine O.p rfl rfl rfl (Pu.assign rfl rfl) ?_
    refine O.nil ?_
    refine X.next ?_
    refine V.seq ?_
    refine V.block ?_
    refine V.loop3 (β := Nat) (fun nx => [(10, .int .u64 (nx : Int))]) _ (fun nx => []) _ (fun nx => nx ≤ pivD D0) (fun nx => pivD D0 - nx) 0 (by omega) (Ent.cons rfl (Ent.nil _)) (Ent.cons (t := 0) rfl (Ent.cons (t := 1) rfl (Ent.cons (t := 2) rfl (Ent.cons (t := 3) rfl (Ent.cons (t := 4) rfl (Ent.nil _)))))) (Sub.keep 0 rfl (Sub.refl _)) ?_
    rintro nx hnx0
    refine V.seq ?_
    refine V.seq ?_
    refine V.region ?_
    refine O.p rfl rfl rfl (Pu.move rfl rfl) ?_
    refine O.p rfl rfl rfl (Pu.move rfl rfl) ?_
    refine O.p rfl rfl rfl (Pu.shr (m := low) (p := nx) K64.i (by omega) rfl rfl rfl) ?_
    refine O.p rfl rfl rfl (Pu.and (m := (low >>> nx)) (n := 1) K64.i (shr_lt (by omega)) (by omega) rfl rfl rfl) ?_
    refine O.p rfl rfl rfl (Pu.eql rfl rfl rfl) ?_
    refine O.nil ?_
    refine X.next ?_
    refine V.condD rfl (fun c3 => ?_) (fun c3 => ?_)
    · skip
      have hb : D0.testBit nx = true := (word_bit (k := 42) (by omega)).1 (by rw [← hlw]; omega)
      have hne : nx ≠ pivD D0 := by rintro rfl; rw [hpv.2.1] at hb; cases hb
      refine V.skip ?_
      refine X.next ?_
      refine V.block ?_
      refine V.region ?_
      refine O.p rfl rfl rfl (Pu.move rfl rfl) ?_
      refine O.p rfl rfl rfl (Pu.addN (m := nx) (n := 1) K64.u (by omega) rfl rfl rfl) ?_
      refine O.p rfl rfl rfl (Pu.assign rfl rfl) ?_
      refine O.nil ?_
      refine X.blockNormal ?_
      exact X.back3 (nx + 1) (by omega) (by first | omega | (dsimp only; omega)) (Ent.cons rfl (Ent.nil _)) (Ent.cons (t := 0) rfl (Ent.cons (t := 1) rfl (Ent.cons (t := 2) rfl (Ent.cons (t := 3) rfl (Ent.cons (t := 4) rfl (Ent.nil _)))))) (Sub.keep 0 rfl (Sub.refl _))
    · skip
      have hb : ¬ D0.testBit nx = true := fun h => c3 (by have := (word_bit (k := 42) (by omega)).2 h; rw [← hlw] at this; omega)
      have hne : nx = pivD D0 := by apply Decidable.byContradiction; intro h; exact hb (hpv.2.2 nx (by omega))
      refine V.exit ?_
      refine X.thenExit ?_
      refine X.thenExit ?_
      refine X.blockHit ?_
      refine X.next ?_
      refine V.seq ?_
      refine V.region ?_
      refine O.p rfl rfl rfl (Pu.move rfl rfl) ?_
      refine O.p rfl rfl rfl (Pu.assign rfl rfl) ?_
      refine O.nil ?_
      refine X.next ?_
      refine V.block ?_
      refine V.loop3 (β := Nat × (List (List Int))) (fun x => [(11, .int .i64 (x.1 : Int))]) _ (fun x => [FamK 56 2 sb most ns x.2]) _ (fun x => from_ ≤ x.1 ∧ x.1 ≤ ns.length ∧ x.2 = l ++ runC (fun j => decide (j < most)) l.length (famJ ms9 ns kq from_ chosen D0 x.1)) (fun x => ns.length - x.1) (from_, l) (by (try dsimp only); exact ⟨by omega, by omega, by rw [famJ_low _ (by omega)]; simp [runC]⟩) (Ent.cons rfl (Ent.nil _)) (Ent.cons (t := 0) rfl (Ent.cons (t := 1) rfl (Ent.cons (t := 3) rfl (Ent.cons (t := 4) rfl (Ent.cons (t := 10) rfl (Ent.nil _)))))) (Sub.keep 0 rfl (Sub.refl _)) ?_
      rintro ⟨i, l2⟩ ⟨hfi, hi, hl2⟩
      dsimp only at hfi hi hl2 ⊢
      refine V.seq ?_
      refine V.seq ?_
      refine V.famK (fun lA2 lk2 hA2 hk2 nA2 nk2 fA2 fk2 => ?_)
      refine V.draw mo (by kernel_rfl) (fun hwf => ?_)
      refine D.p 0 rfl rfl rfl rfl rfl rfl (Pu.move rfl rfl) ?_
      refine D.p 1 rfl rfl rfl rfl rfl rfl (Pu.move rfl rfl) ?_
      refine D.p 2 rfl rfl rfl rfl rfl rfl (Pu.nilCheck rfl rfl) ?_
      refine D.p 3 rfl rfl rfl rfl rfl rfl (Pu.fieldAddr 2 rfl Try.underlying56 rfl sz54 rfl rfl) ?_
      refine D.p 4 rfl rfl rfl rfl rfl rfl (Pu.load rfl pl54 rfl (Ld.blk 0 rfl rfl)) ?_
      refine D.p 5 rfl rfl rfl rfl rfl rfl (Pu.len rfl Try.underlying54 rfl) ?_
      refine D.p 6 rfl rfl rfl rfl rfl rfl (Pu.lss rfl rfl rfl) ?_
      refine D.p 7 rfl rfl rfl rfl rfl rfl (Pu.move rfl rfl) ?_
      refine D.splitD 47 rfl (fun c4 => ?_) (fun c4 => ?_)
      · skip
        refine D.gp 8 rfl rfl rfl rfl rfl rfl rfl rfl (Pu.move rfl rfl) ?_
        refine D.gp 9 rfl rfl rfl rfl rfl rfl rfl rfl (Pu.nilCheck rfl rfl) ?_
        refine D.gp 10 rfl rfl rfl rfl rfl rfl rfl rfl (Pu.fieldAddr 4 rfl Try.underlying56 rfl sz2 rfl rfl) ?_
        refine D.gp 11 rfl rfl rfl rfl rfl rfl rfl rfl (Pu.load rfl pl2 rfl (Ld.blk 0 rfl rfl)) ?_
        refine D.gp 12 rfl rfl rfl rfl rfl rfl rfl rfl (Pu.move rfl rfl) ?_
        refine D.gp 13 rfl rfl rfl rfl rfl rfl rfl rfl (Pu.nilCheck rfl rfl) ?_
        refine D.gp 14 rfl rfl rfl rfl rfl rfl rfl rfl (Pu.fieldAddr 3 rfl Try.underlying56 rfl sz2 rfl rfl) ?_
        refine D.gp 15 rfl rfl rfl rfl rfl rfl rfl rfl (Pu.load rfl pl2 rfl (Ld.blk 0 rfl rfl)) ?_
        refine D.gp 16 rfl rfl rfl rfl rfl rfl rfl rfl (Pu.lss rfl rfl rfl) ?_
        refine D.p 17 rfl rfl rfl rfl rfl rfl (Pu.pickT rfl rfl rfl) ?_
        refine D.done hwf rfl ?_
        refine X.next ?_
        refine V.condD rfl (fun c5 => ?_) (fun c5 => ?_)
        · skip
          refine V.skip ?_
          refine X.next ?_
          refine V.seq ?_
          refine V.block ?_
          refine V.seq ?_
          have ei0 : i < ns.length := by omega
          have ei : i < (lowL ns).length := by rw [low_len]; exact ei0
          have eh : i < (highL ns).length := by rw [high_len]; exact ei0
          have hgd : ns.getD i 0 = ns[i]'ei0 := by rw [List.getD_eq_getElem?_getD, List.getElem?_eq_getElem ei0]; rfl
          have hMl : (ms9.getD (ns[i]'ei0) 0) < 2 ^ 84 := ms9_lt
          have hlo : (lowL ns)[i]'ei = (ms9.getD (ns[i]'ei0) 0) % 2 ^ 42 := low_at ei0 ei
          have hhi : (highL ns)[i]'eh = (ms9.getD (ns[i]'ei0) 0) / 2 ^ 42 := high_at ei0 eh
          have hlb : (lowL ns)[i]'ei < 2 ^ 42 := by rw [hlo]; exact lt42
          have hhb : (highL ns)[i]'eh < 2 ^ 42 := by rw [hhi]; exact div_lt42 hMl
          refine V.region ?_
          refine O.p rfl rfl rfl (Pu.move rfl rfl) ?_
          refine O.p rfl rfl rfl (Pu.nilCheck rfl rfl) ?_
          refine O.p rfl rfl rfl (Pu.fieldAddr 0 rfl Try.underlying56 rfl sz54 rfl rfl) ?_
          refine O.p rfl rfl rfl (Pu.load rfl pl54 rfl (Ld.blk 0 rfl rfl)) ?_
          refine O.p rfl rfl rfl (Pu.move rfl rfl) ?_
          refine O.p rfl rfl rfl (Pu.indexAddrS (i) rfl Try.underlying54 sz2 rfl rfl (by omega) (by omega) (fun w hw => Own.some hw (i := 1) (by exact rfl) (by omega))) ?_
          refine O.p rfl rfl rfl (Pu.load rfl pl2 rfl (Ld.rd (Ld.own 1 (by exact rfl)) (k := i) ei rfl rfl)) ?_
          refine O.p rfl rfl rfl (Pu.move rfl rfl) ?_
          refine O.p rfl rfl rfl (Pu.shr (m := ((lowL ns)[i]'ei)) (p := nx) K64.i (by omega) rfl rfl rfl) ?_
          refine O.p rfl rfl rfl (Pu.and (m := (((lowL ns)[i]'ei) >>> nx)) (n := 1) K64.i (shr_lt (by omega)) (by omega) rfl rfl rfl) ?_
          refine O.p rfl rfl rfl (Pu.eql rfl rfl rfl) ?_
          refine O.p rfl rfl rfl (Pu.move rfl rfl) ?_
          refine O.splitD 71 rfl (fun c6 => ?_) (fun c6 => ?_)
          · skip
            refine O.gp rfl rfl rfl rfl rfl (Pu.move rfl rfl) ?_
            refine O.gp rfl rfl rfl rfl rfl (Pu.nilCheck rfl rfl) ?_
            refine O.gp rfl rfl rfl rfl rfl (Pu.fieldAddr 0 rfl Try.underlying56 rfl sz54 rfl rfl) ?_
            refine O.gp rfl rfl rfl rfl rfl (Pu.load rfl pl54 rfl (Ld.blk 0 rfl rfl)) ?_
            refine O.gp rfl rfl rfl rfl rfl (Pu.move rfl rfl) ?_
            refine O.gp rfl rfl rfl rfl rfl (Pu.indexAddrS (i) rfl Try.underlying54 sz2 rfl rfl (by omega) (by omega) (fun w hw => Own.some hw (i := 1) (by exact rfl) (by omega))) ?_
            refine O.gp rfl rfl rfl rfl rfl (Pu.load rfl pl2 rfl (Ld.rd (Ld.own 1 (by exact rfl)) (k := i) ei rfl rfl)) ?_
            refine O.gp rfl rfl rfl rfl rfl (Pu.move rfl rfl) ?_
            refine O.gp rfl rfl rfl rfl rfl (Pu.and (m := ((lowL ns)[i]'ei)) (n := low) K64.i (by omega) (by omega) rfl rfl rfl) ?_
            refine O.gp rfl rfl rfl rfl rfl (Pu.eql rfl rfl rfl) ?_
            refine O.p rfl rfl rfl (Pu.pickT rfl rfl rfl) ?_
            refine O.p rfl rfl rfl (Pu.move rfl rfl) ?_
            refine O.splitD 83 rfl (fun c7 => ?_) (fun c7 => ?_)
            · skip
              refine O.gp rfl rfl rfl rfl rfl (Pu.move rfl rfl) ?_
              refine O.gp rfl rfl rfl rfl rfl (Pu.nilCheck rfl rfl) ?_
              refine O.gp rfl rfl rfl rfl rfl (Pu.fieldAddr 1 rfl Try.underlying56 rfl sz54 rfl rfl) ?_
              refine O.gp rfl rfl rfl rfl rfl (Pu.load rfl pl54 rfl (Ld.blk 0 rfl rfl)) ?_
              refine O.gp rfl rfl rfl rfl rfl (Pu.move rfl rfl) ?_
              refine O.gp rfl rfl rfl rfl rfl (Pu.indexAddrS (i) rfl Try.underlying54 sz2 rfl rfl (by omega) (by omega) (fun w hw => Own.some hw (i := 2) (by exact rfl) (by omega))) ?_
              refine O.gp rfl rfl rfl rfl rfl (Pu.load rfl pl2 rfl (Ld.rd (Ld.own 2 (by exact rfl)) (k := i) eh rfl rfl)) ?_
              refine O.gp rfl rfl rfl rfl rfl (Pu.move rfl rfl) ?_
              refine O.gp rfl rfl rfl rfl rfl (Pu.and (m := ((highL ns)[i]'eh)) (n := high) K64.i (by omega) (by omega) rfl rfl rfl) ?_
              refine O.gp rfl rfl rfl rfl rfl (Pu.eql rfl rfl rfl) ?_
              refine O.p rfl rfl rfl (Pu.pickT rfl rfl rfl) ?_
              refine O.nil ?_
              refine X.next ?_
              refine V.condD rfl (fun c8 => ?_) (fun c8 => ?_)
              · skip
                have hx : nextF D0 (ms9.getD (ns[i]'ei0) 0) := ⟨by rw [← hne]; exact (word_bit (k := 42) (by omega)).1 (by rw [← hlo]; omega), (land_words (k := 42)).2 ⟨by rw [← hlo, ← hlw]; omega, by rw [← hhi, ← hhg]; omega⟩⟩
                have hx' : nextF D0 (ms9.getD (ns.getD i 0) 0) := by rw [hgd]; exact hx
                have hma := most_all hlm hl2 (by omega)
                have hgo := hma.1
                have hl3 := hma.2
                have hni := hns i ei0
                have hmg : (ms9.getD (ns[i]'ei0) 0) = ms9[ns[i]'ei0] := by rw [List.getD_eq_getElem?_getD, List.getElem?_eq_getElem hni]; rfl
                have hF2 : Fam (kq + 1) D0 := by rw [← hk1]; exact hF
                have hst : Fam kq (D0 ||| (ms9.getD (ns[i]'ei0) 0)) := by rw [hmg] at hx ⊢; exact Fam.step nines_ms hF2 hni hx
                refine V.draw mo (by kernel_rfl) (fun hwf => ?_)
                refine D.p 0 rfl rfl rfl rfl rfl rfl (Pu.move rfl rfl) ?_
                refine D.p 1 rfl rfl rfl rfl rfl rfl (Pu.move rfl rfl) ?_
                refine D.p 3 rfl rfl rfl rfl rfl rfl (Pu.move rfl rfl) ?_
                refine D.p 4 rfl rfl rfl rfl rfl rfl (Pu.nilCheck rfl rfl) ?_
                refine D.p 5 rfl rfl rfl rfl rfl rfl (Pu.fieldAddr 2 rfl Try.underlying56 rfl sz54 rfl rfl) ?_
                refine D.p 6 rfl rfl rfl rfl rfl rfl (Pu.load rfl pl54 rfl (Ld.blk 0 rfl rfl)) ?_
                refine D.p 7 rfl rfl rfl rfl rfl rfl (Pu.move rfl rfl) ?_
                refine D.p 8 rfl rfl rfl rfl rfl rfl (Pu.indexAddrS (i) rfl Try.underlying54 sz2 rfl rfl (by omega) (by omega) (fun w hw => Own.some hw (i := 3) (by exact rfl) (by omega))) ?_
                refine D.p 9 rfl rfl rfl rfl rfl rfl (Pu.load rfl pl2 rfl (Ld.rd (Ld.own 3 (by exact rfl)) (k := i) ei0 rfl rfl)) ?_
                refine D.p 12 rfl rfl rfl rfl rfl rfl (Pu.move rfl rfl) ?_
                refine D.p 13 rfl rfl rfl rfl rfl rfl (Pu.add64 (r := ((i + 1 : Nat) : Int)) rfl (by omega) rfl rfl rfl) ?_
                refine D.p 14 rfl rfl rfl rfl rfl rfl (Pu.move rfl rfl) ?_
                refine D.p 15 rfl rfl rfl rfl rfl rfl (Pu.move rfl rfl) ?_
                refine D.p 16 rfl rfl rfl rfl rfl rfl (Pu.nilCheck rfl rfl) ?_
                refine D.p 17 rfl rfl rfl rfl rfl rfl (Pu.fieldAddr 0 rfl Try.underlying56 rfl sz54 rfl rfl) ?_
                refine D.p 18 rfl rfl rfl rfl rfl rfl (Pu.load rfl pl54 rfl (Ld.blk 0 rfl rfl)) ?_
                refine D.p 19 rfl rfl rfl rfl rfl rfl (Pu.move rfl rfl) ?_
                refine D.p 20 rfl rfl rfl rfl rfl rfl (Pu.indexAddrS (i) rfl Try.underlying54 sz2 rfl rfl (by omega) (by omega) (fun w hw => Own.some hw (i := 1) (by exact rfl) (by omega))) ?_
                refine D.p 21 rfl rfl rfl rfl rfl rfl (Pu.load rfl pl2 rfl (Ld.rd (Ld.own 1 (by exact rfl)) (k := i) ei rfl rfl)) ?_
                refine D.p 22 rfl rfl rfl rfl rfl rfl (Pu.or (m := low) (n := ((lowL ns)[i]'ei)) K64.i (by omega) (by omega) rfl rfl rfl) ?_
                refine D.p 23 rfl rfl rfl rfl rfl rfl (Pu.move rfl rfl) ?_
                refine D.p 24 rfl rfl rfl rfl rfl rfl (Pu.move rfl rfl) ?_
                refine D.p 25 rfl rfl rfl rfl rfl rfl (Pu.nilCheck rfl rfl) ?_
                refine D.p 26 rfl rfl rfl rfl rfl rfl (Pu.fieldAddr 1 rfl Try.underlying56 rfl sz54 rfl rfl) ?_
                refine D.p 27 rfl rfl rfl rfl rfl rfl (Pu.load rfl pl54 rfl (Ld.blk 0 rfl rfl)) ?_
                refine D.p 28 rfl rfl rfl rfl rfl rfl (Pu.move rfl rfl) ?_
                refine D.p 29 rfl rfl rfl rfl rfl rfl (Pu.indexAddrS (i) rfl Try.underlying54 sz2 rfl rfl (by omega) (by omega) (fun w hw => Own.some hw (i := 2) (by exact rfl) (by omega))) ?_
                refine D.p 30 rfl rfl rfl rfl rfl rfl (Pu.load rfl pl2 rfl (Ld.rd (Ld.own 2 (by exact rfl)) (k := i) eh rfl rfl)) ?_
                refine D.p 31 rfl rfl rfl rfl rfl rfl (Pu.or (m := high) (n := ((highL ns)[i]'eh)) K64.i (by omega) (by omega) rfl rfl rfl) ?_
                refine D.twoBC hwf (e1 := 10) (e2 := 2) rfl rfl rfl rfl rfl rfl rfl rfl rfl rfl rfl rfl rfl rfl rfl rfl rfl (fun H hs => Ef.build I64 ([(↑(ns[i]'ei0) : Int)] : List Int) rfl Try.underlying54 inf2 rfl rfl rfl (by first | decide | (simp; done)) (by kernel_rfl)) (fun H hs => Ef.call1 call89 rfl rfl (fun w hw => l01Own_ok chosen _ _ w ((fun w hw => hchosen w (hw.sub (Sub.drop (Sub.drop (Sub.drop (Sub.drop (Sub.drop (Sub.refl _)))))))) w (hs w hw)) hcS (by omega))) ?_
                rintro A1 _ hA1
                refine D.exi (fun p2 => ?_)
                refine D.sep ?_
                refine D.pur1 ?_
                rintro ⟨rfl, hp2⟩
                have hp2l := congrArg List.length hp2
                refine D.eff hwf (e := 11) rfl rfl rfl rfl (Ef.append (xs := p2.2) (ys := ([(↑(ns[i]'ei0) : Int)] : List Int)) 0 rfl Try.underlying54 inf2 rfl rfl rfl rfl rfl rfl hA1 (Ld.own 1 (by exact rfl)) (by simp only [List.length_append, List.length_cons, List.length_nil] at *; omega) (by decide)) rfl rfl rfl ?_
                rintro _ _ ⟨A2, k1, rfl, rfl, hA2⟩ hs
                replace hA2 := hA2 (.inr (by simp))
                refine ⟨fun w hw => hw.sub (Sub.keep 2 rfl (Sub.keep 2 rfl (Sub.keep 2 rfl (Sub.keep 2 rfl (Sub.keep 2 rfl (Sub.drop (Sub.drop (Sub.refl _)))))))), ?_⟩
                refine D.effT hwf (e := 32) rfl rfl rfl rfl (Ef.call call61 rfl rfl (Does.pre (fun w hw => FamK.mk (T := 56) (iT := 2) rfl (hw.sub (Sub.keep 2 rfl (Sub.keep 2 rfl (Sub.keep 2 rfl (Sub.keep 2 rfl (Sub.keep 2 rfl (Sub.keep 0 rfl (Sub.keep 0 rfl (Sub.refl _)))))))))) (ih kq (by omega) (D0 ||| (ms9.getD (ns[i]'ei0) 0)) sb most ns l2 (p2.2 ++ ([(↑(ns[i]'ei0) : Int)] : List Int)) (i + 1) (low ||| ((lowL ns)[i]'ei)) (high ||| ((highL ns)[i]'eh)) _ _ w0 _ (Ld.own 0 (by exact rfl)) (by first | omega | (simp only [tops_len, conts_len, bl, List.length_append, List.length_cons, List.length_nil] at *; omega)) hA2 hst (by rw [lor_mod, ← hlo, ← hlw]) (by rw [lor_div, ← hhi, ← hhg]) (by simp only [List.length_append, List.length_singleton]; omega) hnl hns (by omega) (by omega) hmm))) rfl rfl rfl 33 rfl ?_
                rintro _ _ rfl
                refine D.sep ?_
                refine D.pur1 ?_
                rintro rfl
                refine D.done hwf rfl ?_
                refine X.blockNormal ?_
                refine X.next ?_
                refine V.region ?_
                refine O.p rfl rfl rfl (Pu.move rfl rfl) ?_
                refine O.p rfl rfl rfl (Pu.add64 (r := ((i + 1 : Nat) : Int)) rfl (by omega) rfl rfl rfl) ?_
                refine O.p rfl rfl rfl (Pu.assign rfl rfl) ?_
                refine O.nil ?_
                exact X.back3 (i + 1, (l2 ++ runC (fun j => decide (j < most)) l2.length (famS ms9 ns kq (i + 1) (p2.2 ++ ([(↑(ns[i]'ei0) : Int)] : List Int)) (D0 ||| (ms9.getD (ns[i]'ei0) 0))))) (by (try dsimp only); exact ⟨by omega, by omega, by rw [famJ_yes (by omega) hx', most_next hgo hl3, hgd, hp2]⟩) (by first | omega | (dsimp only; omega)) (Ent.cons rfl (Ent.nil _)) (Ent.cons (t := 0) rfl (Ent.cons (t := 1) rfl (Ent.cons (t := 3) rfl (Ent.cons (t := 4) rfl (Ent.cons (t := 10) rfl (Ent.nil _)))))) (Sub.keep 0 rfl (Sub.drop (Sub.drop (Sub.refl _))))
              · skip
                have hnx : ¬ nextF D0 (ms9.getD (ns.getD i 0) 0) := by
                  rw [hgd]
                  intro hx
                  exact c8 (by have := (land_words (k := 42)).1 hx.2; rw [← hhi, ← hhg] at this; omega)
                refine V.skip ?_
                refine X.blockNormal ?_
                refine X.next ?_
                refine V.region ?_
                refine O.p rfl rfl rfl (Pu.move rfl rfl) ?_
                refine O.p rfl rfl rfl (Pu.add64 (r := ((i + 1 : Nat) : Int)) rfl (by omega) rfl rfl rfl) ?_
                refine O.p rfl rfl rfl (Pu.assign rfl rfl) ?_
                refine O.nil ?_
                refine X.map (fun w hw => FamK.mk (T := 56) (iT := 2) (l := l2) (ns := ns) rfl (hw.sub (Sub.keep 0 rfl (Sub.keep 0 rfl (Sub.keep 0 rfl (Sub.keep 0 rfl (Sub.keep 0 rfl (Sub.refl _)))))))) ?_
                exact X.back3 (i + 1, l2) (by (try dsimp only); exact ⟨by omega, by omega, by rw [famJ_no hnx]; exact hl2⟩) (by first | omega | (dsimp only; omega)) (Ent.cons rfl (Ent.nil _)) (Ent.cons (t := 0) rfl (Ent.cons (t := 1) rfl (Ent.cons (t := 3) rfl (Ent.cons (t := 4) rfl (Ent.cons (t := 10) rfl (Ent.nil _)))))) (Sub.keep 0 rfl (Sub.refl _))
            · skip
              have hnx : ¬ nextF D0 (ms9.getD (ns.getD i 0) 0) := by
                rw [hgd]
                intro hx
                exact c7 (by have := (land_words (k := 42)).1 hx.2; rw [← hlo, ← hlw] at this; omega)
              refine O.gs rfl rfl rfl rfl rfl rfl ?_
              refine O.gs rfl rfl rfl rfl rfl rfl ?_
              refine O.gs rfl rfl rfl rfl rfl rfl ?_
              refine O.gs rfl rfl rfl rfl rfl rfl ?_
              refine O.gs rfl rfl rfl rfl rfl rfl ?_
              refine O.gs rfl rfl rfl rfl rfl rfl ?_
              refine O.gs rfl rfl rfl rfl rfl rfl ?_
              refine O.gs rfl rfl rfl rfl rfl rfl ?_
              refine O.gs rfl rfl rfl rfl rfl rfl ?_
              refine O.gs rfl rfl rfl rfl rfl rfl ?_
              refine O.p rfl rfl rfl (Pu.pickF rfl rfl rfl) ?_
              refine O.nil ?_
              refine X.next ?_
              refine V.condF rfl ?_
              refine V.skip ?_
              refine X.blockNormal ?_
              refine X.next ?_
              refine V.region ?_
              refine O.p rfl rfl rfl (Pu.move rfl rfl) ?_
              refine O.p rfl rfl rfl (Pu.add64 (r := ((i + 1 : Nat) : Int)) rfl (by omega) rfl rfl rfl) ?_
              refine O.p rfl rfl rfl (Pu.assign rfl rfl) ?_
              refine O.nil ?_
              refine X.map (fun w hw => FamK.mk (T := 56) (iT := 2) (l := l2) (ns := ns) rfl (hw.sub (Sub.keep 0 rfl (Sub.keep 0 rfl (Sub.keep 0 rfl (Sub.keep 0 rfl (Sub.keep 0 rfl (Sub.refl _)))))))) ?_
              exact X.back3 (i + 1, l2) (by (try dsimp only); exact ⟨by omega, by omega, by rw [famJ_no hnx]; exact hl2⟩) (by first | omega | (dsimp only; omega)) (Ent.cons rfl (Ent.nil _)) (Ent.cons (t := 0) rfl (Ent.cons (t := 1) rfl (Ent.cons (t := 3) rfl (Ent.cons (t := 4) rfl (Ent.cons (t := 10) rfl (Ent.nil _)))))) (Sub.keep 0 rfl (Sub.refl _))
          · skip
            have hnx : ¬ nextF D0 (ms9.getD (ns.getD i 0) 0) := by
              rw [hgd]
              intro hx
              exact c6 (by have := (word_bit (k := 42) (by omega)).2 hx.1; rw [← hne] at this; rw [← hlo] at this; omega)
            refine O.gs rfl rfl rfl rfl rfl rfl ?_
            refine O.gs rfl rfl rfl rfl rfl rfl ?_
            refine O.gs rfl rfl rfl rfl rfl rfl ?_
            refine O.gs rfl rfl rfl rfl rfl rfl ?_
            refine O.gs rfl rfl rfl rfl rfl rfl ?_
            refine O.gs rfl rfl rfl rfl rfl rfl ?_
            refine O.gs rfl rfl rfl rfl rfl rfl ?_
            refine O.gs rfl rfl rfl rfl rfl rfl ?_
            refine O.gs rfl rfl rfl rfl rfl rfl ?_
            refine O.gs rfl rfl rfl rfl rfl rfl ?_
            refine O.p rfl rfl rfl (Pu.pickF rfl rfl rfl) ?_
            refine O.p rfl rfl rfl (Pu.move rfl rfl) ?_
            refine O.gs rfl rfl rfl rfl rfl rfl ?_
            refine O.gs rfl rfl rfl rfl rfl rfl ?_
            refine O.gs rfl rfl rfl rfl rfl rfl ?_
            refine O.gs rfl rfl rfl rfl rfl rfl ?_
            refine O.gs rfl rfl rfl rfl rfl rfl ?_
            refine O.gs rfl rfl rfl rfl rfl rfl ?_
            refine O.gs rfl rfl rfl rfl rfl rfl ?_
            refine O.gs rfl rfl rfl rfl rfl rfl ?_
            refine O.gs rfl rfl rfl rfl rfl rfl ?_
            refine O.gs rfl rfl rfl rfl rfl rfl ?_
            refine O.p rfl rfl rfl (Pu.pickF rfl rfl rfl) ?_
            refine O.nil ?_
            refine X.next ?_
            refine V.condF rfl ?_
            refine V.skip ?_
            refine X.blockNormal ?_
            refine X.next ?_
            refine V.region ?_
            refine O.p rfl rfl rfl (Pu.move rfl rfl) ?_
            refine O.p rfl rfl rfl (Pu.add64 (r := ((i + 1 : Nat) : Int)) rfl (by omega) rfl rfl rfl) ?_
            refine O.p rfl rfl rfl (Pu.assign rfl rfl) ?_
            refine O.nil ?_
            refine X.map (fun w hw => FamK.mk (T := 56) (iT := 2) (l := l2) (ns := ns) rfl (hw.sub (Sub.keep 0 rfl (Sub.keep 0 rfl (Sub.keep 0 rfl (Sub.keep 0 rfl (Sub.keep 0 rfl (Sub.refl _)))))))) ?_
            exact X.back3 (i + 1, l2) (by (try dsimp only); exact ⟨by omega, by omega, by rw [famJ_no hnx]; exact hl2⟩) (by first | omega | (dsimp only; omega)) (Ent.cons rfl (Ent.nil _)) (Ent.cons (t := 0) rfl (Ent.cons (t := 1) rfl (Ent.cons (t := 3) rfl (Ent.cons (t := 4) rfl (Ent.cons (t := 10) rfl (Ent.nil _)))))) (Sub.keep 0 rfl (Sub.refl _))
        · skip
          refine V.exit ?_
          refine X.thenExit ?_
          refine X.thenExit ?_
          refine X.blockHit ?_
          refine X.endBody ?_
          refine X.map (fun w hw => FamK.mk (T := 56) (iT := 2) (l := l2) (ns := ns) rfl (hw.sub (Sub.keep 0 rfl (Sub.keep 0 rfl (Sub.keep 0 rfl (Sub.keep 0 rfl (Sub.keep 0 rfl (Sub.refl _)))))))) ?_
          refine X.ret0 rfl ?_
          exact fun w hw => St.unsep (St.addPur rfl (hw.sub (Sub.cons 0 rfl (fun w F h => by rw [hk1, most_end hlm (by omega) hl2 (by omega)]; exact h) (Sub.refl _))))
      · skip
        refine D.gs 8 rfl rfl rfl rfl rfl rfl rfl rfl rfl ?_
        refine D.gs 9 rfl rfl rfl rfl rfl rfl rfl rfl rfl ?_
        refine D.gs 10 rfl rfl rfl rfl rfl rfl rfl rfl rfl ?_
        refine D.gs 11 rfl rfl rfl rfl rfl rfl rfl rfl rfl ?_
        refine D.gs 12 rfl rfl rfl rfl rfl rfl rfl rfl rfl ?_
        refine D.gs 13 rfl rfl rfl rfl rfl rfl rfl rfl rfl ?_
        refine D.gs 14 rfl rfl rfl rfl rfl rfl rfl rfl rfl ?_
        refine D.gs 15 rfl rfl rfl rfl rfl rfl rfl rfl rfl ?_
        refine D.gs 16 rfl rfl rfl rfl rfl rfl rfl rfl rfl ?_
        refine D.p 17 rfl rfl rfl rfl rfl rfl (Pu.pickF rfl rfl rfl) ?_
        refine D.done hwf rfl ?_
        refine X.next ?_
        refine V.condF rfl ?_
        refine V.exit ?_
        refine X.thenExit ?_
        refine X.thenExit ?_
        refine X.blockHit ?_
        refine X.endBody ?_
        refine X.map (fun w hw => FamK.mk (T := 56) (iT := 2) (l := l2) (ns := ns) rfl (hw.sub (Sub.keep 0 rfl (Sub.keep 0 rfl (Sub.keep 0 rfl (Sub.keep 0 rfl (Sub.keep 0 rfl (Sub.refl _)))))))) ?_
        refine X.ret0 rfl ?_
        exact fun w hw => St.unsep (St.addPur rfl (hw.sub (Sub.cons 0 rfl (fun w F h => by rw [hk1, most_end hlm (by omega) hl2 (by omega)]; exact h) (Sub.refl _))))
theorem l10Go_ok (n : Nat) : L_l10Go n := by
  induction n using Nat.strongRecOn with
  | _ n ih => exact fun D0 sb most ns l chosen from_ low high chosenA chosenc w0 H hchosen lchosen hcS hF hlw hhg hc6 hnl hns hfn hlm hmm => l10Go_step n ih D0 sb most ns l chosen from_ low high chosenA chosenc w0 H hchosen lchosen hcS hF hlw hhg hc6 hnl hns hfn hlm hmm
set_option maxRecDepth 100000 in
set_option maxHeartbeats 1000000 in
theorem l10Large_ok (v : Int) (bs : List B3) (allV : Int) (all : List (Sl × List B3)) (most : Nat) (A : Option Addr) (c : Nat) (allA : Option Addr) (allc : Nat) (w : World) (hx : Rd B3C w A bs) (hall : RdY allV w allA all) (lx : bs.length ≤ 4611686018427387904) (lall : all.length ≤ 1099511627776) (hmem : bs ∈ compM 40 9 0) (hca : conts all = compM 40 9 0) (hm0 : 0 < most) (hmm : most ≤ 1000000000) : Does Try.prog 30 [.agg #[.int .i64 v, .slice A bs.length c], .slice allA (tops all).length allc, .int .i64 (most : Int)] w [] (fun r => [.exi fun (sb : Nat) => .sep (.pur (r = .pointer (some ⟨sb, 0, none⟩))) (FamK 56 2 sb most (apartL ms9 (mkF bs)) (runC (fun j => decide (j < most)) 0 (famL bs)))]) := by
  refine Does.enter Try.func30 rfl rfl [(0, .agg #[.int .i64 v, .slice A bs.length c]), (1, .slice allA (tops all).length allc), (2, .int .i64 (most : Int))] rfl ?_
  have hcl := conts_len all
  have htl := tops_len all
  have hal : all.length = 840 := by rw [← hcl, hca]; exact nine_count
  have hbg := nine_good hmem
  have hbl : bs.length ≤ 40 := compM_len 40 9 0 _ hmem
  have hxl : mkF bs < 2 ^ 84 := (fam_of (mk_mem hmem)).lt
  have hxh := div_lt42 hxl
  refine V.seq ?_
  refine V.region ?_
  refine O.e rfl rfl rfl (Ef.box rfl rfl rfl) ?_
  rintro _ _ ⟨b1, rfl, rfl⟩
  refine O.p rfl rfl rfl (Pu.assign rfl rfl) ?_
  refine O.nil ?_
  refine X.next ?_
  refine V.seq ?_
  refine V.region ?_
  refine O.e rfl rfl rfl (Ef.build N64 ([] : List Nat) rfl Try.underlying54 inf2 rfl rfl rfl (by first | decide | (simp; done)) (by kernel_rfl)) ?_
  rintro _ _ ⟨A1, hA1, rfl, rfl⟩
  refine O.e rfl rfl rfl (Ef.build N64 ([] : List Nat) rfl Try.underlying54 inf2 rfl rfl rfl (by first | decide | (simp; done)) (by kernel_rfl)) ?_
  rintro _ _ ⟨A2, hA2, rfl, rfl⟩
  refine O.e rfl rfl rfl (Ef.build N64 ([] : List Nat) rfl Try.underlying54 inf2 rfl rfl rfl (by first | decide | (simp; done)) (by kernel_rfl)) ?_
  rintro _ _ ⟨A3, hA3, rfl, rfl⟩
  refine O.p rfl rfl rfl (Pu.move rfl rfl) ?_
  refine O.p rfl rfl rfl (Pu.buildS (cs := [.slice A1 0 0, .slice A2 0 0, .slice A3 0 0, .int .i64 (↑most : Int), .int .i64 (0 : Int), .slice none 0 0]) rfl rfl Try.underlying56 zr56 (by kernel_rfl) rfl (by kernel_rfl)) ?_
  refine O.e rfl rfl rfl (Ef.box rfl rfl rfl) ?_
  rintro _ _ ⟨b2, rfl, rfl⟩
  refine O.p rfl rfl rfl (Pu.assign rfl rfl) ?_
  refine O.nil ?_
  refine X.next ?_
  refine V.seq ?_
  refine V.region ?_
  refine O.p rfl rfl rfl (Pu.loadAgg rfl ag30 sz30 rfl rfl (Ld.whole 4 rfl)) ?_
  refine O.e rfl rfl rfl (Ef.callP call60 rfl rfl (fun w hw => l10Bits_ok  v bs _ _ w ((Ld.old hx) w hw) (by first | omega | (simp only [tops_len, conts_len, bl, List.length_append, List.length_cons, List.length_nil] at *; omega)) hbg)) ?_
  rintro _ _ ⟨rfl, rfl⟩
  refine O.p rfl rfl rfl (Pu.move rfl rfl) ?_
  refine O.p rfl rfl rfl (Pu.extract rfl rfl rfl) ?_
  refine O.p rfl rfl rfl (Pu.extract rfl rfl rfl) ?_
  refine O.p rfl rfl rfl (Pu.assign rfl rfl) ?_
  refine O.p rfl rfl rfl (Pu.assign rfl rfl) ?_
  refine O.nil ?_
  refine X.next ?_
  refine V.seq ?_
  refine V.seq ?_
  refine V.map (fun w hw => FamK.mk (T := 56) (iT := 2) (sb := b2) (most := most) (l := []) (ns := []) (f := []) rfl ((St.addNil (T := 2) (C := I64) hw).sub (Sub.keep 1 rfl (Sub.keep 3 rfl (Sub.keep 2 rfl (Sub.keep 1 rfl (Sub.keep 0 rfl (Sub.keep 0 rfl (Sub.nil _))))))))) ?_
  refine V.region ?_
  refine O.p rfl rfl rfl (Pu.assign rfl rfl) ?_
  refine O.nil ?_
  refine X.next ?_
  refine V.block ?_
  refine V.loop3 (β := Nat × (List Nat)) (fun x => [(10, .int .i64 (x.1 : Int))]) _ (fun x => [FamN 56 2 b2 most x.2]) _ (fun x => x.1 ≤ all.length ∧ x.2 = apartP (mkF bs) x.1) (fun x => all.length - x.1) (0, []) (by (try dsimp only); exact ⟨by omega, rfl⟩) (Ent.cons rfl (Ent.nil _)) (Ent.cons (t := 1) rfl (Ent.cons (t := 7) rfl (Ent.cons (t := 8) rfl (Ent.cons (t := 9) rfl (Ent.nil _))))) (Sub.keep 0 rfl (Sub.keep 0 rfl (Sub.nil _))) ?_
  rintro ⟨i, ns⟩ ⟨hi, hns⟩
  dsimp only at hi hns ⊢
  have hdl := div_lt42 hxl
  have hll0 := low_len (ns := ns)
  have hll1 := high_len (ns := ns)
  refine V.seq ?_
  refine V.seq ?_
  refine V.region ?_
  refine O.p rfl rfl rfl (Pu.move rfl rfl) ?_
  refine O.p rfl rfl rfl (Pu.move rfl rfl) ?_
  refine O.p rfl rfl rfl (Pu.len rfl Try.underlying34 rfl) ?_
  refine O.p rfl rfl rfl (Pu.lss rfl rfl rfl) ?_
  refine O.nil ?_
  refine X.next ?_
  refine V.condD rfl (fun c1 => ?_) (fun c1 => ?_)
  · skip
    refine V.skip ?_
    refine X.next ?_
    refine V.seq ?_
    refine V.block ?_
    refine V.seq ?_
    have ei : i < all.length := by omega
    have hms := ms_row hca ei
    have hMl : mkF (all[i]'ei).2 < 2 ^ 84 := by rw [← hms]; exact ms9_lt
    have hmq : (all[i]'ei).2 ∈ compM 40 9 0 := by rw [← hca]; exact List.mem_map_of_mem (List.getElem_mem ei)
    have hmg := nine_good hmq
    have hmlen : (all[i]'ei).2.length ≤ 40 := compM_len 40 9 0 _ hmq
    refine V.region ?_
    refine O.p rfl rfl rfl (Pu.move rfl rfl) ?_
    refine O.p rfl rfl rfl (Pu.move rfl rfl) ?_
    refine O.p rfl rfl rfl (Pu.indexAddr (i) rfl Try.underlying34 sz30 rfl rfl (by omega) (by omega) (hall.top.some (by omega))) ?_
    refine O.p rfl rfl rfl (Pu.loadAgg' (v := .agg #[.int .i64 allV, .slice (all[i]'ei).1.A (all[i]'ei).2.length (all[i]'ei).1.c]) rfl rfl ag30 sz30 rfl rfl (Ld.rowY (Ld.old hall.top) hall.len ei rfl)) ?_
    refine O.e rfl rfl rfl (Ef.callP call60 rfl rfl (fun w hw => l10Bits_ok  allV ((all[i]'ei).2) _ _ w ((Ld.old (hall.row i ei)) w hw) (by omega) hmg)) ?_
    rintro _ _ ⟨rfl, rfl⟩
    refine O.p rfl rfl rfl (Pu.move rfl rfl) ?_
    refine O.p rfl rfl rfl (Pu.extract rfl rfl rfl) ?_
    refine O.p rfl rfl rfl (Pu.extract rfl rfl rfl) ?_
    refine O.p rfl rfl rfl (Pu.assign rfl rfl) ?_
    refine O.p rfl rfl rfl (Pu.assign rfl rfl) ?_
    refine O.nil ?_
    refine X.next ?_
    refine V.seq ?_
    refine V.region ?_
    refine O.p rfl rfl rfl (Pu.move rfl rfl) ?_
    refine O.p rfl rfl rfl (Pu.move rfl rfl) ?_
    refine O.p rfl rfl rfl (Pu.and (m := (mkF ((all[i]'ei).2) % 2 ^ 42)) (n := (mkF bs % 2 ^ 42)) K64.i (by omega) (by omega) rfl rfl rfl) ?_
    refine O.p rfl rfl rfl (Pu.eql rfl rfl rfl) ?_
    refine O.p rfl rfl rfl (Pu.move rfl rfl) ?_
    refine O.splitD 42 rfl (fun c2 => ?_) (fun c2 => ?_)
    · skip
      refine O.gp rfl rfl rfl rfl rfl (Pu.move rfl rfl) ?_
      refine O.gp rfl rfl rfl rfl rfl (Pu.move rfl rfl) ?_
      refine O.gp rfl rfl rfl rfl rfl (Pu.and (m := (mkF ((all[i]'ei).2) / 2 ^ 42)) (n := (mkF bs / 2 ^ 42)) K64.i (by omega) (by omega) rfl rfl rfl) ?_
      refine O.gp rfl rfl rfl rfl rfl (Pu.eql rfl rfl rfl) ?_
      refine O.p rfl rfl rfl (Pu.pickT rfl rfl rfl) ?_
      refine O.nil ?_
      refine X.next ?_
      refine V.condD rfl (fun c3 => ?_) (fun c3 => ?_)
      · skip
        have hap : ms9.getD i 0 &&& mkF bs = 0 := by rw [hms]; exact (land_words (k := 42)).2 ⟨by omega, by omega⟩
        have hnl : ns.length ≤ i := by rw [hns]; exact apartP_len
        refine V.seq ?_
        refine V.famK (fun lA1 lk1 hA1 hk1 nA1 nk1 fA1 fk1 => ?_)
        refine V.region ?_
        refine O.p rfl rfl rfl (Pu.move rfl rfl) ?_
        refine O.p rfl rfl rfl (Pu.move rfl rfl) ?_
        refine O.p rfl rfl rfl (Pu.nilCheck rfl rfl) ?_
        refine O.p rfl rfl rfl (Pu.fieldAddr 0 rfl Try.underlying56 rfl sz54 rfl rfl) ?_
        refine O.p rfl rfl rfl (Pu.load rfl pl54 rfl (Ld.blk 0 rfl rfl)) ?_
        refine O.p rfl rfl rfl (Pu.move rfl rfl) ?_
        refine O.e rfl rfl rfl (Ef.build N64 ([(mkF ((all[i]'ei).2) % 2 ^ 42)] : List Nat) rfl Try.underlying54 inf2 rfl rfl rfl (by first | decide | (simp; done)) (by kernel_rfl)) ?_
        rintro _ _ ⟨A4, hA4, rfl, rfl⟩
        refine O.e rfl rfl rfl (Ef.append (xs := (lowL ns)) (ys := ([(mkF ((all[i]'ei).2) % 2 ^ 42)] : List Nat)) 2 rfl Try.underlying54 inf2 rfl rfl rfl rfl rfl rfl hA4 (Ld.own 0 (by exact rfl)) (by simp only [List.length_append, List.length_cons, List.length_nil] at *; omega) (by decide)) ?_
        rintro _ _ ⟨A5, k1, rfl, rfl, hA5⟩
        replace hA5 := hA5 (.inr (by simp))
        refine O.p rfl rfl rfl (Pu.nilCheck rfl rfl) ?_
        refine O.p rfl rfl rfl (Pu.fieldAddr 0 rfl Try.underlying56 rfl sz54 rfl rfl) ?_
        refine O.s rfl rfl (Ef.store1 (cs' := [_, _, _, _, _, _]) 1 rfl sz54 rfl rfl rfl rfl rfl (ltb rfl) rfl) ?_
        rintro _ _ rfl
        refine O.nil ?_
        refine X.next ?_
        refine V.seq ?_
        refine V.region ?_
        refine O.p rfl rfl rfl (Pu.move rfl rfl) ?_
        refine O.p rfl rfl rfl (Pu.move rfl rfl) ?_
        refine O.p rfl rfl rfl (Pu.nilCheck rfl rfl) ?_
        refine O.p rfl rfl rfl (Pu.fieldAddr 1 rfl Try.underlying56 rfl sz54 rfl rfl) ?_
        refine O.p rfl rfl rfl (Pu.load rfl pl54 rfl (Ld.blk 1 rfl rfl)) ?_
        refine O.p rfl rfl rfl (Pu.move rfl rfl) ?_
        refine O.e rfl rfl rfl (Ef.build N64 ([(mkF ((all[i]'ei).2) / 2 ^ 42)] : List Nat) rfl Try.underlying54 inf2 rfl rfl rfl (by first | decide | (simp; done)) (by kernel_rfl)) ?_
        rintro _ _ ⟨A6, hA6, rfl, rfl⟩
        refine O.e rfl rfl rfl (Ef.append (xs := (highL ns)) (ys := ([(mkF ((all[i]'ei).2) / 2 ^ 42)] : List Nat)) 4 rfl Try.underlying54 inf2 rfl rfl rfl rfl rfl rfl hA6 (Ld.own 0 (by exact rfl)) (by simp only [List.length_append, List.length_cons, List.length_nil] at *; omega) (by decide)) ?_
        rintro _ _ ⟨A7, k2, rfl, rfl, hA7⟩
        replace hA7 := hA7 (.inr (by simp))
        refine O.p rfl rfl rfl (Pu.nilCheck rfl rfl) ?_
        refine O.p rfl rfl rfl (Pu.fieldAddr 1 rfl Try.underlying56 rfl sz54 rfl rfl) ?_
        refine O.s rfl rfl (Ef.store1 (cs' := [_, _, _, _, _, _]) 2 rfl sz54 rfl rfl rfl rfl rfl (ltb rfl) rfl) ?_
        rintro _ _ rfl
        refine O.nil ?_
        refine X.next ?_
        refine V.region ?_
        refine O.p rfl rfl rfl (Pu.move rfl rfl) ?_
        refine O.p rfl rfl rfl (Pu.move rfl rfl) ?_
        refine O.p rfl rfl rfl (Pu.nilCheck rfl rfl) ?_
        refine O.p rfl rfl rfl (Pu.fieldAddr 2 rfl Try.underlying56 rfl sz54 rfl rfl) ?_
        refine O.p rfl rfl rfl (Pu.load rfl pl54 rfl (Ld.blk 2 rfl rfl)) ?_
        refine O.p rfl rfl rfl (Pu.move rfl rfl) ?_
        refine O.e rfl rfl rfl (Ef.build N64 ([i] : List Nat) rfl Try.underlying54 inf2 rfl rfl rfl (by first | decide | (simp; done)) (by kernel_rfl)) ?_
        rintro _ _ ⟨A8, hA8, rfl, rfl⟩
        refine O.e rfl rfl rfl (Ef.append (xs := ns) (ys := ([i] : List Nat)) 6 rfl Try.underlying54 inf2 rfl rfl rfl rfl rfl rfl hA8 (Ld.own 0 (by exact rfl)) (by simp only [List.length_append, List.length_cons, List.length_nil] at *; omega) (by decide)) ?_
        rintro _ _ ⟨A9, k3, rfl, rfl, hA9⟩
        replace hA9 := hA9 (.inr (by simp))
        refine O.p rfl rfl rfl (Pu.nilCheck rfl rfl) ?_
        refine O.p rfl rfl rfl (Pu.fieldAddr 2 rfl Try.underlying56 rfl sz54 rfl rfl) ?_
        refine O.s rfl rfl (Ef.store1 (cs' := [_, _, _, _, _, _]) 3 rfl sz54 rfl rfl rfl rfl rfl (ltb rfl) rfl) ?_
        rintro _ _ rfl
        refine O.nil ?_
        refine X.blockNormal ?_
        refine X.next ?_
        refine V.region ?_
        refine O.p rfl rfl rfl (Pu.move rfl rfl) ?_
        refine O.p rfl rfl rfl (Pu.add64 (r := ((i + 1 : Nat) : Int)) rfl (by omega) rfl rfl rfl) ?_
        refine O.p rfl rfl rfl (Pu.assign rfl rfl) ?_
        refine O.nil ?_
        refine X.map (fun w hw => FamK.mk (T := 56) (iT := 2) (l := []) (ns := (ns ++ [i])) rfl (hw.sub (Sub.cons 3 rfl (fun w F h => by rw [low_snoc, high_snoc, hms]; exact h) (Sub.cons 3 rfl (fun w F h => by rw [low_snoc, hms]; exact h) (Sub.cons 3 rfl (fun w F h => by rw [high_snoc, hms]; exact h) (Sub.keep 3 rfl (Sub.keep 3 rfl (Sub.keep 0 rfl (Sub.keep 0 rfl (Sub.keep 0 rfl (Sub.keep 0 rfl (Sub.nil _)))))))))))) ?_
        exact X.back3 (i + 1, (ns ++ [i])) (by (try dsimp only); exact ⟨by omega, by rw [apartP_yes hap, hns]⟩) (by first | omega | (dsimp only; omega)) (Ent.cons rfl (Ent.nil _)) (Ent.cons (t := 1) rfl (Ent.cons (t := 7) rfl (Ent.cons (t := 8) rfl (Ent.cons (t := 9) rfl (Ent.nil _))))) (Sub.keep 0 rfl (Sub.keep 3 rfl (Sub.nil _)))
      · skip
        have hap : ¬ ms9.getD i 0 &&& mkF bs = 0 := fun h => by rw [hms] at h; have := (land_words (k := 42)).1 h; omega
        refine V.skip ?_
        refine X.blockNormal ?_
        refine X.next ?_
        refine V.region ?_
        refine O.p rfl rfl rfl (Pu.move rfl rfl) ?_
        refine O.p rfl rfl rfl (Pu.add64 (r := ((i + 1 : Nat) : Int)) rfl (by omega) rfl rfl rfl) ?_
        refine O.p rfl rfl rfl (Pu.assign rfl rfl) ?_
        refine O.nil ?_
        exact X.back3 (i + 1, ns) (by (try dsimp only); exact ⟨by omega, by rw [apartP_no hap]; exact hns⟩) (by first | omega | (dsimp only; omega)) (Ent.cons rfl (Ent.nil _)) (Ent.cons (t := 1) rfl (Ent.cons (t := 7) rfl (Ent.cons (t := 8) rfl (Ent.cons (t := 9) rfl (Ent.nil _))))) (Sub.keep 0 rfl (Sub.keep 0 rfl (Sub.nil _)))
    · skip
      have hap : ¬ ms9.getD i 0 &&& mkF bs = 0 := fun h => by rw [hms] at h; have := (land_words (k := 42)).1 h; omega
      refine O.gs rfl rfl rfl rfl rfl rfl ?_
      refine O.gs rfl rfl rfl rfl rfl rfl ?_
      refine O.gs rfl rfl rfl rfl rfl rfl ?_
      refine O.gs rfl rfl rfl rfl rfl rfl ?_
      refine O.p rfl rfl rfl (Pu.pickF rfl rfl rfl) ?_
      refine O.nil ?_
      refine X.next ?_
      refine V.condF rfl ?_
      refine V.skip ?_
      refine X.blockNormal ?_
      refine X.next ?_
      refine V.region ?_
      refine O.p rfl rfl rfl (Pu.move rfl rfl) ?_
      refine O.p rfl rfl rfl (Pu.add64 (r := ((i + 1 : Nat) : Int)) rfl (by omega) rfl rfl rfl) ?_
      refine O.p rfl rfl rfl (Pu.assign rfl rfl) ?_
      refine O.nil ?_
      exact X.back3 (i + 1, ns) (by (try dsimp only); exact ⟨by omega, by rw [apartP_no hap]; exact hns⟩) (by first | omega | (dsimp only; omega)) (Ent.cons rfl (Ent.nil _)) (Ent.cons (t := 1) rfl (Ent.cons (t := 7) rfl (Ent.cons (t := 8) rfl (Ent.cons (t := 9) rfl (Ent.nil _))))) (Sub.keep 0 rfl (Sub.keep 0 rfl (Sub.nil _)))
  · skip
    refine V.exit ?_
    refine X.thenExit ?_
    refine X.thenExit ?_
    refine X.blockHit ?_
    refine X.next ?_
    refine V.seq ?_
    have hns2 : ns = apartL ms9 (mkF bs) := by rw [hns, show i = 840 by omega, apartP_all]
    have hnsl : ns.length ≤ 840 := by have := apartP_len (X := mkF bs) (i := i); rw [← hns] at this; omega
    have hnst : ∀ j (h : j < ns.length), ns[j] < ms9.length := by subst hns2; exact fun j h => apartL_lt h
    refine V.region ?_
    refine O.p rfl rfl rfl (Pu.move rfl rfl) ?_
    refine O.e rfl rfl rfl (Ef.build I64 ([] : List Int) rfl Try.underlying54 inf2 rfl rfl rfl (by first | decide | (simp; done)) (by kernel_rfl)) ?_
    rintro _ _ ⟨A10, hA10, rfl, rfl⟩
    refine O.p rfl rfl rfl (Pu.move rfl rfl) ?_
    refine O.p rfl rfl rfl (Pu.move rfl rfl) ?_
    refine O.e rfl rfl rfl (Ef.call call61 rfl rfl (Does.pre (fun w hw => hw.sub (Sub.keep 1 rfl (Sub.keep 0 rfl (Sub.keep 0 rfl (Sub.nil _))))) (l10Go_ok 6 (mkF bs) b2 most ns ([]) ([] : List Int) 0 (mkF bs % 2 ^ 42) (mkF bs / 2 ^ 42) _ _ w _ (Ld.own 0 (by exact rfl)) (by first | omega | (simp only [tops_len, conts_len, bl, List.length_append, List.length_cons, List.length_nil] at *; omega)) hA10 (fam_of (mk_mem hmem)) rfl rfl rfl (by omega) hnst (by omega) (by simpa using hm0) hmm))) ?_
    rintro _ _ rfl
    refine O.sep ?_
    refine O.pur ?_
    rintro rfl
    refine O.nil ?_
    refine X.next ?_
    refine V.seq ?_
    refine V.region ?_
    refine O.p rfl rfl rfl (Pu.move rfl rfl) ?_
    refine O.p rfl rfl rfl (Pu.assign rfl rfl) ?_
    refine O.nil ?_
    refine X.next ?_
    refine V.ret ?_
    refine X.ret1 rfl rfl ?_
    exact fun w hw => St.mkExi b2 (St.unsep (St.addPur rfl (hw.sub (Sub.cons 0 rfl (fun w F h => by rw [hns2] at h; rw [← fam_spec hmem]; exact h) (Sub.nil _)))))
set_option maxRecDepth 100000 in
set_option maxHeartbeats 1000000 in
theorem minFunc_ok (s : List (Sl × List Int)) (gf : Nat) (sA : Option Addr) (sc : Nat) (w : World) (hs : RdL I64 w sA s) (ls : s.length ≤ 1099511627776) (hok : CallOk Try.prog gf) (h0 : 0 < s.length) (hmin : ∀ i (hi : i < s.length), 0 < i → ¬ cmpL (s[i]).2 (s[0]).2 < 0) (hf : ∀ (i j : Nat) (hi : i < s.length) (hj : j < s.length) w', Bel w.heap.size w w' → Does Try.prog gf [.slice (s[i]).1.A (s[i]).2.length (s[i]).1.c, .slice (s[j]).1.A (s[j]).2.length (s[j]).1.c] w' [] (fun v => [.pur (v = .int .i64 (cmpL (s[i]).2 (s[j]).2))])) : Does Try.prog 37 [.slice sA (tops s).length sc, .func (.func gf) #[] #[]] w [] (fun r => [.pur (r = .slice (s[0]).1.A (s[0]).2.length (s[0]).1.c)]) := by
  refine Does.enter Try.func37 rfl rfl [(0, .slice sA (tops s).length sc), (1, .func (.func gf) #[] #[])] rfl ?_
  have htl := tops_len s
  refine V.seq ?_
  refine V.region ?_
  refine O.p rfl rfl rfl (Pu.assign rfl rfl) ?_
  refine O.nil ?_
  refine X.next ?_
  refine V.seq ?_
  refine V.seq ?_
  refine V.region ?_
  refine O.p rfl rfl rfl (Pu.move rfl rfl) ?_
  refine O.p rfl rfl rfl (Pu.len rfl Try.underlying45 rfl) ?_
  refine O.p rfl rfl rfl (Pu.lss rfl rfl rfl) ?_
  refine O.nil ?_
  refine X.next ?_
  refine V.condD rfl (fun c1 => ?_) (fun c1 => ?_)
  · skip
    exact absurd c1 (by omega)
  · skip
    refine V.skip ?_
    refine X.next ?_
    refine V.seq ?_
    refine V.region ?_
    refine O.p rfl rfl rfl (Pu.move rfl rfl) ?_
    refine O.p rfl rfl rfl (Pu.indexAddr (0) rfl Try.underlying45 sz54 rfl rfl (by omega) (by omega) (hs.top.some (by omega))) ?_
    have e1 : 0 < s.length := by have := tops_len s; omega
    refine O.p rfl rfl rfl (Pu.load rfl pl54 rfl (Ld.row (Ld.old hs.top) hs.len e1 rfl)) ?_
    refine O.p rfl rfl rfl (Pu.assign rfl rfl) ?_
    refine O.nil ?_
    refine X.next ?_
    refine V.seq ?_
    refine V.seq ?_
    refine V.region ?_
    refine O.p rfl rfl rfl (Pu.assign rfl rfl) ?_
    refine O.nil ?_
    refine X.next ?_
    refine V.block ?_
    refine V.loop2 (β := Nat) (fun i => [(6, .int .i64 (i : Int))]) _ (fun i => []) (fun i => 1 ≤ i ∧ i ≤ s.length) (fun i => s.length - i) 1 (by omega) (Ent.cons rfl (Ent.nil _)) (Ent.cons (t := 0) rfl (Ent.cons (t := 1) rfl (Ent.cons (t := 5) rfl (Ent.nil _)))) (Sub.nil _) ?_
    rintro i ⟨hi1, hi⟩
    refine V.seq ?_
    refine V.seq ?_
    refine V.region ?_
    refine O.p rfl rfl rfl (Pu.move rfl rfl) ?_
    refine O.p rfl rfl rfl (Pu.move rfl rfl) ?_
    refine O.p rfl rfl rfl (Pu.len rfl Try.underlying45 rfl) ?_
    refine O.p rfl rfl rfl (Pu.lss rfl rfl rfl) ?_
    refine O.nil ?_
    refine X.next ?_
    refine V.condD rfl (fun c2 => ?_) (fun c2 => ?_)
    · skip
      refine V.skip ?_
      refine X.next ?_
      refine V.seq ?_
      refine V.block ?_
      refine V.seq ?_
      refine V.region ?_
      refine O.p rfl rfl rfl (Pu.move rfl rfl) ?_
      refine O.p rfl rfl rfl (Pu.move rfl rfl) ?_
      refine O.p rfl rfl rfl (Pu.move rfl rfl) ?_
      refine O.p rfl rfl rfl (Pu.indexAddr (i) rfl Try.underlying45 sz54 rfl rfl (by omega) (by omega) (hs.top.some (by omega))) ?_
      have e2 : i < s.length := by have := tops_len s; omega
      refine O.p rfl rfl rfl (Pu.load rfl pl54 rfl (Ld.row (Ld.old hs.top) hs.len e2 rfl)) ?_
      refine O.p rfl rfl rfl (Pu.move rfl rfl) ?_
      refine O.e rfl rfl rfl (Ef.callPV hok rfl rfl rfl (fun w' hw => hf i 0 e2 e1 w' hw.below)) ?_
      rintro _ _ ⟨rfl, rfl⟩
      refine O.p rfl rfl rfl (Pu.lss rfl rfl rfl) ?_
      refine O.nil ?_
      refine X.next ?_
      refine V.condD rfl (fun c3 => ?_) (fun c3 => ?_)
      · skip
        exact absurd c3 (hmin i (by omega) (by omega))
      · skip
        refine V.skip ?_
        refine X.blockNormal ?_
        refine X.next ?_
        refine V.region ?_
        refine O.p rfl rfl rfl (Pu.move rfl rfl) ?_
        refine O.p rfl rfl rfl (Pu.add64 (r := ((i + 1 : Nat) : Int)) rfl (by omega) rfl rfl rfl) ?_
        refine O.p rfl rfl rfl (Pu.assign rfl rfl) ?_
        refine O.nil ?_
        exact X.back2 (i + 1) (by omega) (by first | omega | (dsimp only; omega)) (Ent.cons rfl (Ent.nil _)) (Ent.cons (t := 0) rfl (Ent.cons (t := 1) rfl (Ent.cons (t := 5) rfl (Ent.nil _)))) (Sub.nil _)
    · skip
      refine V.exit ?_
      refine X.thenExit ?_
      refine X.thenExit ?_
      refine X.blockHit ?_
      refine X.next ?_
      refine V.seq ?_
      refine V.region ?_
      refine O.p rfl rfl rfl (Pu.move rfl rfl) ?_
      refine O.p rfl rfl rfl (Pu.assign rfl rfl) ?_
      refine O.nil ?_
      refine X.next ?_
      refine V.ret ?_
      refine X.ret1 rfl rfl ?_
      exact fun w hw => St.retP (rfl) hw
set_option maxRecDepth 100000 in
set_option maxHeartbeats 1000000 in
theorem implLarge9_ok (bs : List B3) (A : Option Addr) (c : Nat) (w : World) (hx : Rd B3C w A bs) (lx : bs.length ≤ 4611686018427387904) : Does Try.prog 13 [.agg #[.int .i64 9, .slice A bs.length c]] w [] (fun rv_ => [.exi fun (rA : Option Addr) => .exi fun (rc : Nat) => .exi fun (r : List (Sl × List B3)) => .sep (.pur (rv_ = .tuple #[.slice rA (tops r).length rc, .int .i64 ((lsR 9 bs).2)] ∧ conts r = (lsR 9 bs).1)) (.sep (Own 30 (SyC 9) rA rc (tops r)) (RowsA 67 B3C r))]) := by
  refine Does.enter Try.func13 rfl rfl [(0, .agg #[.int .i64 9, .slice A bs.length c])] rfl ?_
  refine V.seq ?_
  refine V.region ?_
  refine O.e rfl rfl rfl (Ef.box rfl rfl rfl) ?_
  rintro _ _ ⟨b1, rfl, rfl⟩
  refine O.p rfl rfl rfl (Pu.assign rfl rfl) ?_
  refine O.p rfl rfl rfl (Pu.assign rfl rfl) ?_
  refine O.nil ?_
  refine X.next ?_
  refine V.seq ?_
  refine V.region ?_
  refine O.p rfl rfl rfl (Pu.loadAgg rfl ag30 sz30 rfl rfl (Ld.whole 0 rfl)) ?_
  refine O.e rfl rfl rfl (Ef.call1 call33 rfl rfl (fun w hw => largeSetsWith_ok  (9 : Int) bs _ _ w ((Ld.old hx) w hw) (by first | omega | (simp only [tops_len, conts_len, bl, List.length_append, List.length_cons, List.length_nil] at *; omega)) )) ?_
  rintro _ _ rfl
  refine O.exi (fun s1A => ?_)
  refine O.exi (fun s1c => ?_)
  refine O.exi (fun s1 => ?_)
  refine O.exi (fun r1A => ?_)
  refine O.exi (fun r1c => ?_)
  refine O.exi (fun r1 => ?_)
  refine O.sep ?_
  refine O.pur ?_
  rintro ⟨rfl, hs1_1, hs1_2⟩
  refine O.sep ?_
  refine O.sep ?_
  refine O.sep ?_
  refine O.fact (RowsA.len 1 rfl) (fun hn_s1 => ?_)
  have htl_s1 := tops_len s1
  refine O.fact (RowsA.len 3 rfl) (fun hn_r1 => ?_)
  have htl_r1 := tops_len r1
  refine O.p rfl rfl rfl (Pu.move rfl rfl) ?_
  refine O.p rfl rfl rfl (Pu.extract rfl rfl rfl) ?_
  refine O.p rfl rfl rfl (Pu.extract rfl rfl rfl) ?_
  refine O.p rfl rfl rfl (Pu.extract rfl rfl rfl) ?_
  refine O.p rfl rfl rfl (Pu.assign rfl rfl) ?_
  refine O.p rfl rfl rfl (Pu.assign rfl rfl) ?_
  refine O.p rfl rfl rfl (Pu.assign rfl rfl) ?_
  refine O.nil ?_
  refine X.next ?_
  refine V.seq ?_
  refine V.block ?_
  refine V.seq ?_
  refine V.region ?_
  refine O.p rfl rfl rfl (Pu.move rfl rfl) ?_
  refine O.p rfl rfl rfl (Pu.neq rfl rfl rfl) ?_
  refine O.p rfl rfl rfl (Pu.assign rfl rfl) ?_
  refine O.nil ?_
  refine X.next ?_
  refine V.condNot rfl (fun c1 => ?_) (fun c1 => ?_)
  · skip
    refine V.seq ?_
    refine V.region ?_
    refine O.p rfl rfl rfl (Pu.move rfl rfl) ?_
    refine O.p rfl rfl rfl (Pu.assign rfl rfl) ?_
    refine O.p rfl rfl rfl (Pu.assign rfl rfl) ?_
    refine O.nil ?_
    refine X.next ?_
    refine V.ret ?_
    refine X.blockRet ?_
    refine X.thenRet ?_
    refine X.ret2 rfl rfl rfl ?_
    exact fun w hw => St.mkExi none (St.mkExi 0 (St.mkExi [] (St.unsep (St.addPur ⟨(by rw [lsR_no c1]; try rfl), (by rw [lsR_no c1]; rfl)⟩ (St.unsep (St.addNil (T := 30) (C := (SyC 9)) (RowsA.nil (T := 67) (C := B3C) (hw.sub (Sub.nil _)))))))))
  · skip
    have hc1 : lfC (9 : Int) bs = 0 := by omega
    have hmem := (lf_zero hc1).2.2
    have hcs := (hs1_1 hc1).1
    have hcr := (hs1_1 hc1).2
    have hcl1 := conts_len s1
    have hsl : s1.length = 840 := by rw [← hcl1, hcs]; exact nine_count
    have hcl2 := conts_len r1
    have hbl := compM_len 40 9 0 _ hmem
    have hrl : r1.length ≤ 33554432 := by rw [← hcl2, hcr]; exact famL_len hmem
    refine V.seq ?_
    refine V.region ?_
    refine O.p rfl rfl rfl (Pu.move rfl rfl) ?_
    refine O.p rfl rfl rfl (Pu.len rfl Try.underlying45 rfl) ?_
    refine O.p rfl rfl rfl (Pu.eql rfl rfl rfl) ?_
    refine O.p rfl rfl rfl (Pu.assign rfl rfl) ?_
    refine O.nil ?_
    refine X.next ?_
    refine V.condD rfl (fun c2 => ?_) (fun c2 => ?_)
    · skip
      have hnil : famL bs = [] := List.length_eq_zero_iff.1 (by rw [← hcr]; omega)
      refine V.seq ?_
      refine V.region ?_
      refine O.p rfl rfl rfl (Pu.assign rfl rfl) ?_
      refine O.p rfl rfl rfl (Pu.assign rfl rfl) ?_
      refine O.nil ?_
      refine X.next ?_
      refine V.ret ?_
      refine X.blockRet ?_
      refine X.thenRet ?_
      refine X.ret2 rfl rfl rfl ?_
      exact fun w hw => St.mkExi none (St.mkExi 0 (St.mkExi [] (St.unsep (St.addPur ⟨(by rw [lsR_none hc1 hnil]; try rfl), (by rw [lsR_none hc1 hnil]; rfl)⟩ (St.unsep (St.addNil (T := 30) (C := (SyC 9)) (RowsA.nil (T := 67) (C := B3C) (hw.sub (Sub.nil _)))))))))
    · skip
      have h0 : 0 < r1.length := by omega
      have hne : famL bs ≠ [] := fun h => by rw [h] at hcr; rw [hcr] at hcl2; simp at hcl2; omega
      obtain ⟨F, hFe⟩ : ∃ F, F = headF bs := ⟨_, rfl⟩
      obtain ⟨js, hjs⟩ : ∃ js, js = headN bs := ⟨_, rfl⟩
      have hfo := headF_ok hmem hne
      have hjo := headN_ok hmem hne
      rw [← hFe] at hfo
      rw [← hjs] at hjo
      have hf0 : (r1[0]'h0).2 = F := by rw [hFe, ← conts_get r1 (by rw [hcl2]; exact h0)]; exact head_zero hcr _
      have hfl0 := congrArg List.length hf0
      have hmn : ∀ i (hi : i < r1.length), 0 < i → ¬ cmpL (r1[i]).2 (r1[0]'h0).2 < 0 := fun i hi hp => by have := head_min hcr (i := i) (by rw [hcl2]; exact hi) (by rw [hcl2]; exact h0) hp; rw [conts_get, conts_get] at this; exact this
      have hsix : ∀ i (hi : i < r1.length), (r1[i]).2.length = 6 := fun i hi => famL_six (by rw [← hcr]; exact List.mem_map_of_mem (List.getElem_mem hi))
      refine V.skip ?_
      refine X.blockNormal ?_
      refine X.next ?_
      refine V.seq ?_
      refine V.draw mo (by kernel_rfl) (fun hwf => ?_)
      refine D.p 0 rfl rfl rfl rfl rfl rfl (Pu.fieldAddr 0 rfl Try.underlying30 rfl sz2 rfl rfl) ?_
      refine D.p 1 rfl rfl rfl rfl rfl rfl (Pu.load rfl pl2 rfl (Ld.blk 4 rfl rfl)) ?_
      refine D.p 2 rfl rfl rfl rfl rfl rfl (Pu.fieldAddr 1 rfl Try.underlying30 rfl sz28 rfl rfl) ?_
      refine D.p 3 rfl rfl rfl rfl rfl rfl (Pu.load rfl pl28 rfl (Ld.blk 4 rfl rfl)) ?_
      refine D.eff hwf (e := 4) rfl rfl rfl rfl (Ef.call1 call36 rfl rfl (fun w hw => cloneB_ok bs _ _ w ((Ld.old hx) w hw) (by first | omega | (simp only [tops_len] at *; omega)))) rfl rfl rfl ?_
      rintro _ _ rfl hs
      refine ⟨fun w hw => hs w hw.tail, ?_⟩
      refine D.exi (fun p1 => ?_)
      refine D.sep ?_
      refine D.pur1 ?_
      rintro ⟨rfl, hp1⟩
      refine D.p 5 rfl rfl rfl rfl rfl rfl (Pu.buildS (cs := [.int .i64 (9 : Int), .slice p1.1.1 p1.2.length p1.1.2]) rfl rfl Try.underlying30 zr30 (by kernel_rfl) rfl (by kernel_rfl)) ?_
      refine D.eff hwf (e := 6) rfl rfl rfl rfl (Ef.build (SyC 9) ([⟨p1.1.1, p1.2.length, p1.1.2⟩] : List Sl) rfl Try.underlying34 inf30 rfl rfl rfl (by first | decide | (simp; done)) (by kernel_rfl)) rfl rfl rfl ?_
      rintro _ _ ⟨A1, hA1, rfl, rfl⟩ hs
      refine ⟨fun w hw => hw.sub (Sub.keep 2 rfl (Sub.keep 2 rfl (Sub.keep 2 rfl (Sub.keep 2 rfl (Sub.keep 2 rfl (Sub.nil _)))))), ?_⟩
      refine D.p 7 rfl rfl rfl rfl rfl rfl (Pu.assign rfl rfl) ?_
      refine D.done hwf rfl ?_
      refine X.next ?_
      refine V.seq ?_
      refine V.seq ?_
      refine V.region ?_
      refine O.p rfl rfl rfl (Pu.move rfl rfl) ?_
      refine O.e rfl rfl rfl (Ef.callP call37 rfl rfl (fun w hw => minFunc_ok  r1 (38) _ _ w ((Ld.ll 4 5 (by exact rfl) (by exact rfl)) w hw) (by first | omega | (simp only [tops_len, conts_len, bl, List.length_append, List.length_cons, List.length_nil] at *; omega)) (call38) h0 hmn (fun i j hi hj w' hb => slicesCompare_ok _ _ _ _ _ _ w' (Rd.below ((Ld.rows 5 (by exact rfl) hi) w hw) hb) (Rd.below ((Ld.rows 5 (by exact rfl) hj) w hw) hb) (by have := hsix i hi; omega) (by have := hsix j hj; omega)))) ?_
      rintro _ _ ⟨rfl, rfl⟩
      refine O.p rfl rfl rfl (Pu.len rfl Try.underlying54 rfl) ?_
      refine O.p rfl rfl rfl (Pu.move rfl rfl) ?_
      refine O.nil ?_
      refine X.next ?_
      refine V.block ?_
      refine V.loop3 (β := (Option Addr) × Nat × (List Sl) × Nat) (fun x => [(7, .slice x.1 x.2.2.1.length x.2.1), (34, .int .i64 (x.2.2.2 : Int))]) _ (fun x => [Own 30 (SyC 9) x.1 x.2.1 x.2.2.1]) _ (fun x => x.2.2.2 ≤ (r1[0]'h0).2.length ∧ x.2.2.1 = ⟨p1.1.1, p1.2.length, p1.1.2⟩ :: ((js.take x.2.2.2).map fun j => (s1.getD j noRow).1)) (fun x => (r1[0]'h0).2.length - x.2.2.2) (A1, 1, ([⟨p1.1.1, p1.2.length, p1.1.2⟩] : List Sl), 0) (by (try dsimp only); exact ⟨by omega, rfl⟩) (Ent.cons rfl (Ent.cons rfl (Ent.nil _))) (Ent.cons (t := 4) rfl (Ent.cons (t := 32) rfl (Ent.cons (t := 33) rfl (Ent.nil _)))) (Sub.keep 0 rfl (Sub.keep 0 rfl (Sub.keep 0 rfl (Sub.keep 0 rfl (Sub.keep 0 rfl (Sub.keep 0 rfl (Sub.keep 0 rfl (Sub.nil _)))))))) ?_
      rintro ⟨outA, outc, out, i⟩ ⟨hi, hout⟩
      dsimp only at hi hout ⊢
      have hol := congrArg List.length hout
      simp only [List.length_cons, List.length_map, List.length_take] at hol
      refine V.seq ?_
      refine V.region ?_
      refine O.p rfl rfl rfl (Pu.lss rfl rfl rfl) ?_
      refine O.nil ?_
      refine X.next ?_
      refine V.seq ?_
      refine V.condD rfl (fun c3 => ?_) (fun c3 => ?_)
      · skip
        refine V.skip ?_
        refine X.next ?_
        refine V.seq ?_
        refine V.block ?_
        refine V.seq ?_
        refine V.region ?_
        refine O.p rfl rfl rfl (Pu.indexAddrS (i) rfl Try.underlying54 sz2 rfl rfl (by omega) (by omega) (fun w hw => ((Ld.rows 5 (by exact rfl) h0) w hw).some (by omega))) ?_
        have e1 : i < (r1[0]'h0).2.length := by omega
        refine O.p rfl rfl rfl (Pu.load rfl pl2 rfl (Ld.rd (Ld.rows 5 (by exact rfl) h0) (k := i) e1 rfl rfl)) ?_
        refine O.p rfl rfl rfl (Pu.assign rfl rfl) ?_
        refine O.nil ?_
        refine X.next ?_
        have ei : i < (r1[0]'h0).2.length := by omega
        have hji : 0 ≤ (r1[0]'h0).2[i]'ei ∧ (r1[0]'h0).2[i]'ei < 840 := by have := hfo.2.2; rw [← hf0] at this; exact this _ (List.getElem_mem ei)
        have ejs : i < js.length := by omega
        have hjat : js[i]'ejs = ((r1[0]'h0).2[i]'ei).toNat := headN_at (hf0.trans hFe) hjs _ _
        refine V.region ?_
        refine O.p rfl rfl rfl (Pu.move rfl rfl) ?_
        refine O.p rfl rfl rfl (Pu.move rfl rfl) ?_
        refine O.p rfl rfl rfl (Pu.move rfl rfl) ?_
        refine O.p rfl rfl rfl (Pu.indexAddrS ((((r1[0]'h0).2[i]'e1)).toNat) rfl Try.underlying34 sz30 rfl rfl (by omega) (by omega) (fun w hw => Own.some hw (i := 2) (by exact rfl) (by omega))) ?_
        have e2 : (((r1[0]'h0).2[i]'e1)).toNat < s1.length := by have := tops_len s1; omega
        refine O.p rfl rfl rfl (Pu.loadAgg' (v := .agg #[.int .i64 9, .slice (s1[(((r1[0]'h0).2[i]'e1)).toNat]'e2).1.A (s1[(((r1[0]'h0).2[i]'e1)).toNat]'e2).2.length (s1[(((r1[0]'h0).2[i]'e1)).toNat]'e2).1.c]) rfl rfl ag30 sz30 rfl rfl (Ld.rowY (Ld.own 2 (by exact rfl)) hn_s1 e2 rfl)) ?_
        refine O.e rfl rfl rfl (Ef.build (SyC 9) ([⟨(s1[(((r1[0]'h0).2[i]'e1)).toNat]'e2).1.A, (s1[(((r1[0]'h0).2[i]'e1)).toNat]'e2).2.length, (s1[(((r1[0]'h0).2[i]'e1)).toNat]'e2).1.c⟩] : List Sl) rfl Try.underlying34 inf30 rfl rfl rfl (by first | decide | (simp; done)) (by kernel_rfl)) ?_
        rintro _ _ ⟨A2, hA2, rfl, rfl⟩
        refine O.e rfl rfl rfl (Ef.append (xs := out) (ys := ([⟨(s1[(((r1[0]'h0).2[i]'e1)).toNat]'e2).1.A, (s1[(((r1[0]'h0).2[i]'e1)).toNat]'e2).2.length, (s1[(((r1[0]'h0).2[i]'e1)).toNat]'e2).1.c⟩] : List Sl)) 1 rfl Try.underlying34 inf30 rfl rfl rfl rfl rfl rfl hA2 (Ld.own 0 (by exact rfl)) (by simp only [List.length_append, List.length_cons, List.length_nil] at *; omega) (by decide)) ?_
        rintro _ _ ⟨A3, k1, rfl, rfl, hA3⟩
        replace hA3 := hA3 (.inr (by simp))
        refine O.p rfl rfl rfl (Pu.assign rfl rfl) ?_
        refine O.nil ?_
        refine X.blockNormal ?_
        refine X.next ?_
        refine V.region ?_
        refine O.p rfl rfl rfl (Pu.add64 (r := ((i + 1 : Nat) : Int)) rfl (by omega) rfl rfl rfl) ?_
        refine O.p rfl rfl rfl (Pu.move rfl rfl) ?_
        refine O.nil ?_
        exact X.back3 (A3, k1, (out ++ ([⟨(s1[(((r1[0]'h0).2[i]'e1)).toNat]'e2).1.A, (s1[(((r1[0]'h0).2[i]'e1)).toNat]'e2).2.length, (s1[(((r1[0]'h0).2[i]'e1)).toNat]'e2).1.c⟩] : List Sl)), i + 1) (by (try dsimp only); exact ⟨by omega, by rw [hout, take_snoc ejs, List.map_append, List.cons_append, hjat]; simp only [List.map_cons, List.map_nil]; rw [pick_at hn_s1]⟩) (by first | omega | (dsimp only; omega)) (Ent.cons rfl (Ent.cons rfl (Ent.nil _))) (Ent.cons (t := 4) rfl (Ent.cons (t := 32) rfl (Ent.cons (t := 33) rfl (Ent.nil _)))) (Sub.keep 1 rfl (Sub.keep 1 rfl (Sub.keep 1 rfl (Sub.keep 1 rfl (Sub.keep 1 rfl (Sub.keep 1 rfl (Sub.keep 1 rfl (Sub.nil _))))))))
      · skip
        refine V.exit ?_
        refine X.thenExit ?_
        refine X.thenExit ?_
        refine X.blockHit ?_
        refine X.next ?_
        refine V.seq ?_
        refine V.region ?_
        refine O.p rfl rfl rfl (Pu.move rfl rfl) ?_
        refine O.p rfl rfl rfl (Pu.assign rfl rfl) ?_
        refine O.p rfl rfl rfl (Pu.assign rfl rfl) ?_
        refine O.nil ?_
        refine X.next ?_
        refine V.ret ?_
        have hend : out = tops ((⟨p1.1.1, p1.2.length, p1.1.2⟩, p1.2) :: js.map fun j => s1.getD j noRow) := by rw [hout, List.take_of_length_le (by omega)]; unfold tops; rw [List.map_cons, List.map_map]; rfl
        refine X.map (fun w hw => St.picked (js := js) hjo.2.1 (fun j hj => by have := hjo.2.2 j hj; omega) hend (hw.sub (Sub.keep 0 rfl (Sub.keep 0 rfl (Sub.keep 1 rfl (Sub.keep 0 rfl (Sub.keep 0 rfl (Sub.keep 0 rfl (Sub.keep 0 rfl (Sub.nil _)))))))))) ?_
        refine X.ret2 rfl rfl rfl ?_
        exact fun w hw => St.mkExi outA (St.mkExi outc (St.mkExi ((⟨p1.1.1, p1.2.length, p1.1.2⟩, p1.2) :: js.map fun j => s1.getD j noRow) (St.unsep (St.addPur ⟨(by rw [lsR_yes hc1 hne, ← hend]), (by rw [lsR_yes hc1 hne, conts_cons, conts_pick hcs (fun j hj => by have := hjo.2.2 j hj; omega), hjs, hp1])⟩ (St.unsep (hw.sub (Sub.keep 0 rfl (Sub.keep 0 rfl (Sub.nil _)))))))))
set_option maxRecDepth 100000 in
set_option maxHeartbeats 1000000 in
theorem implLargeN_ok (v : Int) (bs : List B3) (A : Option Addr) (c : Nat) (w : World) (hx : Rd B3C w A bs) (lx : bs.length ≤ 4611686018427387904) (h9 : ¬ v = 9) : Does Try.prog 13 [.agg #[.int .i64 v, .slice A bs.length c]] w [] (fun rv_ => [.exi fun (rA : Option Addr) => .exi fun (rc : Nat) => .exi fun (r : List (Sl × List B3)) => .sep (.pur (rv_ = .tuple #[.slice rA (tops r).length rc, .int .i64 ((lsR v bs).2)] ∧ conts r = (lsR v bs).1)) (.sep (Own 30 (SyC 9) rA rc (tops r)) (RowsA 67 B3C r))]) := by
  refine Does.enter Try.func13 rfl rfl [(0, .agg #[.int .i64 v, .slice A bs.length c])] rfl ?_
  refine V.seq ?_
  refine V.region ?_
  refine O.e rfl rfl rfl (Ef.box rfl rfl rfl) ?_
  rintro _ _ ⟨b1, rfl, rfl⟩
  refine O.p rfl rfl rfl (Pu.assign rfl rfl) ?_
  refine O.p rfl rfl rfl (Pu.assign rfl rfl) ?_
  refine O.nil ?_
  refine X.next ?_
  refine V.seq ?_
  refine V.region ?_
  refine O.p rfl rfl rfl (Pu.loadAgg rfl ag30 sz30 rfl rfl (Ld.whole 0 rfl)) ?_
  refine O.e rfl rfl rfl (Ef.call1 call33 rfl rfl (fun w hw => largeSetsWith_ok  v bs _ _ w ((Ld.old hx) w hw) (by first | omega | (simp only [tops_len, conts_len, bl, List.length_append, List.length_cons, List.length_nil] at *; omega)) )) ?_
  rintro _ _ rfl
  refine O.exi (fun s1A => ?_)
  refine O.exi (fun s1c => ?_)
  refine O.exi (fun s1 => ?_)
  refine O.exi (fun r1A => ?_)
  refine O.exi (fun r1c => ?_)
  refine O.exi (fun r1 => ?_)
  refine O.sep ?_
  refine O.pur ?_
  rintro ⟨rfl, hs1_1, hs1_2⟩
  refine O.sep ?_
  refine O.sep ?_
  refine O.sep ?_
  refine O.fact (RowsA.len 1 rfl) (fun hn_s1 => ?_)
  have htl_s1 := tops_len s1
  refine O.fact (RowsA.len 3 rfl) (fun hn_r1 => ?_)
  have htl_r1 := tops_len r1
  refine O.p rfl rfl rfl (Pu.move rfl rfl) ?_
  refine O.p rfl rfl rfl (Pu.extract rfl rfl rfl) ?_
  refine O.p rfl rfl rfl (Pu.extract rfl rfl rfl) ?_
  refine O.p rfl rfl rfl (Pu.extract rfl rfl rfl) ?_
  refine O.p rfl rfl rfl (Pu.assign rfl rfl) ?_
  refine O.p rfl rfl rfl (Pu.assign rfl rfl) ?_
  refine O.p rfl rfl rfl (Pu.assign rfl rfl) ?_
  refine O.nil ?_
  refine X.next ?_
  refine V.seq ?_
  refine V.block ?_
  refine V.seq ?_
  refine V.region ?_
  refine O.p rfl rfl rfl (Pu.move rfl rfl) ?_
  refine O.p rfl rfl rfl (Pu.neq rfl rfl rfl) ?_
  refine O.p rfl rfl rfl (Pu.assign rfl rfl) ?_
  refine O.nil ?_
  refine X.next ?_
  refine V.condNot rfl (fun c1 => ?_) (fun c1 => ?_)
  · skip
    refine V.seq ?_
    refine V.region ?_
    refine O.p rfl rfl rfl (Pu.move rfl rfl) ?_
    refine O.p rfl rfl rfl (Pu.assign rfl rfl) ?_
    refine O.p rfl rfl rfl (Pu.assign rfl rfl) ?_
    refine O.nil ?_
    refine X.next ?_
    refine V.ret ?_
    refine X.blockRet ?_
    refine X.thenRet ?_
    refine X.ret2 rfl rfl rfl ?_
    exact fun w hw => St.mkExi none (St.mkExi 0 (St.mkExi [] (St.unsep (St.addPur ⟨(by rw [lsR_no c1]; try rfl), (by rw [lsR_no c1]; rfl)⟩ (St.unsep (St.addNil (T := 30) (C := (SyC 9)) (RowsA.nil (T := 67) (C := B3C) (hw.sub (Sub.nil _)))))))))
  · skip
    exact absurd (lf_zero (by omega)).2.1 h9
theorem implLargeSetWith_ok (v : Int) (bs : List B3) (A : Option Addr) (c : Nat) (w : World) (hx : Rd B3C w A bs) (lx : bs.length ≤ 4611686018427387904) : Does Try.prog 13 [.agg #[.int .i64 v, .slice A bs.length c]] w [] (fun rv_ => [.exi fun (rA : Option Addr) => .exi fun (rc : Nat) => .exi fun (r : List (Sl × List B3)) => .sep (.pur (rv_ = .tuple #[.slice rA (tops r).length rc, .int .i64 ((lsR v bs).2)] ∧ conts r = (lsR v bs).1)) (.sep (Own 30 (SyC 9) rA rc (tops r)) (RowsA 67 B3C r))]) := by
  by_cases h9 : v = 9
  · subst h9; exact implLarge9_ok bs A c w hx lx
  · exact implLargeN_ok v bs A c w hx lx h9
set_option maxRecDepth 100000 in
set_option maxHeartbeats 1000000 in
theorem l01CopyR_ok (v : Int) (bs : List B3) (A : Option Addr) (c : Nat) (w : World) (hx : Rd B3C w A bs) (lx : bs.length ≤ 4611686018427387904) (lb0 : 0 < bs.length) (lb : bs.length ≤ 100000) : Does Try.prog 35 [.agg #[.int .i64 v, .slice A bs.length c]] w [] (fun rv_ => [.exi fun (rA : Option Addr) => .exi fun (rc : Nat) => .exi fun (r : List B3) => .sep (.pur (rv_ = .agg #[.int .i64 v, .slice rA r.length rc] ∧ r = bs)) (Own 67 B3C rA rc r)]) := by
  refine Does.enter Try.func35 rfl rfl [(0, .agg #[.int .i64 v, .slice A bs.length c])] rfl ?_
  refine V.seq ?_
  refine V.region ?_
  refine O.e rfl rfl rfl (Ef.box rfl rfl rfl) ?_
  rintro _ _ ⟨b1, rfl, rfl⟩
  refine O.e rfl rfl rfl (Ef.alloc rfl zr30 rfl) ?_
  rintro _ _ ⟨b2, rfl, rfl⟩
  refine O.nil ?_
  refine X.next ?_
  refine V.seq ?_
  refine V.draw mo (by kernel_rfl) (fun hwf => ?_)
  refine D.p 0 rfl rfl rfl rfl rfl rfl (Pu.fieldAddr 0 rfl Try.underlying30 rfl sz2 rfl rfl) ?_
  refine D.p 1 rfl rfl rfl rfl rfl rfl (Pu.load rfl pl2 rfl (Ld.blk 1 rfl rfl)) ?_
  refine D.p 3 rfl rfl rfl rfl rfl rfl (Pu.fieldAddr 1 rfl Try.underlying30 rfl sz28 rfl rfl) ?_
  refine D.p 4 rfl rfl rfl rfl rfl rfl (Pu.load rfl pl28 rfl (Ld.blk 1 rfl rfl)) ?_
  refine D.eff hwf (e := 2) rfl rfl rfl rfl (Ef.build B3C ([] : List B3) rfl Try.underlying28 inf67 rfl rfl rfl (by first | decide | (simp; done)) (by kernel_rfl)) rfl rfl rfl ?_
  rintro _ _ ⟨A1, hA1, rfl, rfl⟩ hs
  refine ⟨fun w hw => hw.sub (Sub.keep 1 rfl (Sub.keep 1 rfl (Sub.nil _))), ?_⟩
  refine D.eff hwf (e := 5) rfl rfl rfl rfl (Ef.append (xs := ([] : List B3)) (ys := bs) 0 rfl Try.underlying28 inf67 rfl rfl rfl rfl rfl rfl (hx.some (by omega)) (Ld.old hx) (by simp only [List.length_append, List.length_cons, List.length_nil] at *; omega) (by decide)) rfl rfl rfl ?_
  rintro _ _ ⟨A2, k1, rfl, rfl, hA2⟩ hs
  replace hA2 := hA2 (.inl hA1)
  refine ⟨fun w hw => hw.sub (Sub.keep 1 rfl (Sub.keep 1 rfl (Sub.nil _))), ?_⟩
  refine D.p 6 rfl rfl rfl rfl rfl rfl (Pu.buildS (cs := [.int .i64 v, .slice A2 ((([] : List B3) ++ bs).length) k1]) rfl rfl Try.underlying30 zr30 (by kernel_rfl) rfl (by kernel_rfl)) ?_
  refine D.effX (Hs' := []) hwf (e := 7) rfl rfl rfl rfl (Ef.storeAll 1 rfl sz30 rfl rfl rfl rfl (by simp [Value.oneCell']) rfl) rfl [] rfl (List.forall_mem_nil _) ?_
  rintro _ _ rfl
  refine ⟨fun w hw => hw.sub (Sub.nil _), ?_⟩
  refine D.done hwf rfl ?_
  refine X.next ?_
  refine V.ret ?_
  refine X.retCell rfl ag30 sz30 rfl rfl (Ld.whole 1 rfl) ?_
  exact fun w hw => St.mkExi A2 (St.mkExi k1 (St.mkExi (([] : List B3) ++ bs) (St.unsep (St.addPur ⟨rfl, (List.nil_append _)⟩ (hw.sub (Sub.keep 0 rfl (Sub.nil _)))))))
set_option maxRecDepth 100000 in
set_option maxHeartbeats 1000000 in
theorem specLarge9_ok (bs : List B3) (A : Option Addr) (c : Nat) (w : World) (hx : Rd B3C w A bs) (lx : bs.length ≤ 4611686018427387904) : Does Try.prog 12 [.agg #[.int .i64 9, .slice A bs.length c]] w [] (fun rv_ => [.exi fun (rA : Option Addr) => .exi fun (rc : Nat) => .exi fun (r : List (Sl × List B3)) => .sep (.pur (rv_ = .tuple #[.slice rA (tops r).length rc, .int .i64 ((lsR 9 bs).2)] ∧ conts r = (lsR 9 bs).1)) (.sep (Own 30 (SyC 9) rA rc (tops r)) (RowsA 67 B3C r))]) := by
  refine Does.enter Try.func12 rfl rfl [(0, .agg #[.int .i64 9, .slice A bs.length c])] rfl ?_
  refine V.seq ?_
  refine V.region ?_
  refine O.e rfl rfl rfl (Ef.box rfl rfl rfl) ?_
  rintro _ _ ⟨b1, rfl, rfl⟩
  refine O.p rfl rfl rfl (Pu.assign rfl rfl) ?_
  refine O.p rfl rfl rfl (Pu.assign rfl rfl) ?_
  refine O.nil ?_
  refine X.next ?_
  refine V.seq ?_
  refine V.seq ?_
  refine V.region ?_
  refine O.p rfl rfl rfl (Pu.loadAgg rfl ag30 sz30 rfl rfl (Ld.whole 0 rfl)) ?_
  refine O.e rfl rfl rfl (Ef.callP call29 rfl rfl (fun w hw => l10Nine_ok  (9 : Int) bs _ _ w ((Ld.old hx) w hw) (by first | omega | (simp only [tops_len, conts_len, bl, List.length_append, List.length_cons, List.length_nil] at *; omega)) )) ?_
  rintro _ _ ⟨rfl, rfl⟩
  refine O.p rfl rfl rfl (Pu.assign rfl rfl) ?_
  refine O.nil ?_
  refine X.next ?_
  refine V.seq ?_
  refine V.region ?_
  refine O.p rfl rfl rfl (Pu.move rfl rfl) ?_
  refine O.p rfl rfl rfl (Pu.neq rfl rfl rfl) ?_
  refine O.nil ?_
  refine X.next ?_
  refine V.condNot rfl (fun c1 => ?_) (fun c1 => ?_)
  · skip
    refine V.seq ?_
    refine V.region ?_
    refine O.p rfl rfl rfl (Pu.move rfl rfl) ?_
    refine O.p rfl rfl rfl (Pu.assign rfl rfl) ?_
    refine O.p rfl rfl rfl (Pu.assign rfl rfl) ?_
    refine O.nil ?_
    refine X.next ?_
    refine V.ret ?_
    refine X.thenRet ?_
    refine X.ret2 rfl rfl rfl ?_
    exact fun w hw => St.mkExi none (St.mkExi 0 (St.mkExi [] (St.unsep (St.addPur ⟨(by rw [lsR_no c1]; try rfl), (by rw [lsR_no c1]; rfl)⟩ (St.unsep (St.addNil (T := 30) (C := (SyC 9)) (RowsA.nil (T := 67) (C := B3C) (hw.sub (Sub.nil _)))))))))
  · skip
    have hc1 : lfC (9 : Int) bs = 0 := by omega
    have hmem := (lf_zero hc1).2.2
    have hfl := few_len (v := 9) (.inr (.inr rfl))
    have hflt := few_lt (v := 9) (.inr (.inr rfl))
    have hbl := compM_len 40 9 0 _ hmem
    have hbc := comp_count 40 9 0 _ (by decide) hmem
    have hl36 : leftN 9 0 = 36 := by decide
    refine V.skip ?_
    refine X.next ?_
    refine V.seq ?_
    refine V.region ?_
    refine O.e rfl rfl rfl (Ef.call1 call31 rfl rfl (fun w hw => l10AllI_ok 40 (9 : Int) w   (by decide) (by decide) hfl.2.1 hflt (by decide))) ?_
    rintro _ _ rfl
    refine O.exi (fun r1A => ?_)
    refine O.exi (fun r1c => ?_)
    refine O.exi (fun r1 => ?_)
    refine O.sep ?_
    refine O.pur ?_
    rintro ⟨rfl, hr1_1⟩
    refine O.sep ?_
    refine O.fact (RowsA.len 1 rfl) (fun hn_r1 => ?_)
    have htl_r1 := tops_len r1
    replace hr1_1 : conts r1 = compM 40 9 0 := hr1_1
    have hclr1 := conts_len r1
    have hrn : r1.length = 840 := by rw [← hclr1, hr1_1]; exact nine_count
    refine O.p rfl rfl rfl (Pu.assign rfl rfl) ?_
    refine O.nil ?_
    refine X.next ?_
    refine V.seq ?_
    refine V.region ?_
    refine O.p rfl rfl rfl (Pu.loadAgg rfl ag30 sz30 rfl rfl (Ld.whole 2 rfl)) ?_
    refine O.p rfl rfl rfl (Pu.move rfl rfl) ?_
    refine O.e rfl rfl rfl (Ef.call1 call30 rfl rfl (fun w hw => l10Large_ok  (9 : Int) bs (9 : Int) r1 1 _ _ _ _ w ((Ld.old hx) w hw) ((Ld.yy 0 1 (by exact rfl) (by exact rfl)) w hw) (by first | omega | (simp only [tops_len, conts_len, bl, List.length_append, List.length_cons, List.length_nil] at *; omega)) (by first | omega | (simp only [tops_len, conts_len, bl, List.length_append, List.length_cons, List.length_nil] at *; omega)) hmem hr1_1 (by decide) (by decide))) ?_
    rintro _ _ rfl
    refine O.exi (fun sb1 => ?_)
    refine O.sep ?_
    refine O.pur ?_
    rintro rfl
    refine O.p rfl rfl rfl (Pu.assign rfl rfl) ?_
    refine O.nil ?_
    refine X.next ?_
    refine V.seq ?_
    refine V.seq ?_
    obtain ⟨L1, hL1⟩ : ∃ L1, L1 = (runC (fun j => decide (j < 1)) 0 (famL bs)) := ⟨_, rfl⟩
    rw [← hL1]
    clear hfl hflt
    refine V.famK (fun lA1 lk1 hA1 hk1 nA1 nk1 fA1 fk1 => ?_)
    refine V.region ?_
    refine O.p rfl rfl rfl (Pu.move rfl rfl) ?_
    refine O.p rfl rfl rfl (Pu.nilCheck rfl rfl) ?_
    refine O.p rfl rfl rfl (Pu.fieldAddr 4 rfl Try.underlying56 rfl sz2 rfl rfl) ?_
    refine O.p rfl rfl rfl (Pu.load rfl pl2 rfl (Ld.blk 0 rfl rfl)) ?_
    refine O.p rfl rfl rfl (Pu.eql rfl rfl rfl) ?_
    refine O.nil ?_
    refine X.next ?_
    refine V.condD rfl (fun c2 => ?_) (fun c2 => ?_)
    · skip
      have hnil : famL bs = [] := one_none (by rw [← hL1]; omega)
      refine V.seq ?_
      refine V.region ?_
      refine O.p rfl rfl rfl (Pu.assign rfl rfl) ?_
      refine O.p rfl rfl rfl (Pu.assign rfl rfl) ?_
      refine O.nil ?_
      refine X.next ?_
      refine V.ret ?_
      refine X.thenRet ?_
      refine X.ret2 rfl rfl rfl ?_
      exact fun w hw => St.mkExi none (St.mkExi 0 (St.mkExi [] (St.unsep (St.addPur ⟨(by rw [lsR_none hc1 hnil]; try rfl), (by rw [lsR_none hc1 hnil]; rfl)⟩ (St.unsep (St.addNil (T := 30) (C := (SyC 9)) (RowsA.nil (T := 67) (C := B3C) (hw.sub (Sub.nil _)))))))))
    · skip
      have hne : famL bs ≠ [] := one_some (by rw [← hL1]; omega)
      obtain ⟨F, hFe⟩ : ∃ F, F = headF bs := ⟨_, rfl⟩
      obtain ⟨js, hjs⟩ : ∃ js, js = headN bs := ⟨_, rfl⟩
      have hfo := headF_ok hmem hne
      have hjo := headN_ok hmem hne
      rw [← hFe] at hfo
      rw [← hjs] at hjo
      have hf0 : (L1.headD []) = F := by rw [hFe, hL1, one_head]; rfl
      have hfl0 := congrArg List.length hf0
      refine V.skip ?_
      refine X.next ?_
      refine V.seq ?_
      refine V.region ?_
      refine O.p rfl rfl rfl (Pu.loadAgg rfl ag30 sz30 rfl rfl (Ld.whole 7 rfl)) ?_
      refine O.e rfl rfl rfl (Ef.call1 call35 rfl rfl (fun w hw => l01CopyR_ok  (9 : Int) bs _ _ w ((Ld.old hx) w hw) (by first | omega | (simp only [tops_len, conts_len, bl, List.length_append, List.length_cons, List.length_nil] at *; omega)) (by first | assumption | omega | (try dsimp only at *; omega)) (by first | assumption | omega | (try dsimp only at *; omega)))) ?_
      rintro _ _ rfl
      refine O.exi (fun r2A => ?_)
      refine O.exi (fun r2c => ?_)
      refine O.exi (fun r2 => ?_)
      refine O.sep ?_
      refine O.pur ?_
      rintro ⟨rfl, hr2_1⟩
      refine O.e rfl rfl rfl (Ef.build (SyC 9) ([⟨r2A, r2.length, r2c⟩] : List Sl) rfl Try.underlying34 inf30 rfl rfl rfl (by first | decide | (simp; done)) (by kernel_rfl)) ?_
      rintro _ _ ⟨A1, hA1, rfl, rfl⟩
      refine O.p rfl rfl rfl (Pu.assign rfl rfl) ?_
      refine O.nil ?_
      refine X.next ?_
      refine V.seq ?_
      refine V.seq ?_
      refine V.map (fun w hw => one_heap (xs := r2) (hw.sub (Sub.keep 0 rfl (Sub.keep 0 rfl (Sub.keep 0 rfl (Sub.keep 0 rfl (Sub.keep 0 rfl (Sub.keep 0 rfl (Sub.keep 0 rfl (Sub.keep 0 rfl (Sub.keep 0 rfl (Sub.keep 0 rfl (Sub.nil _))))))))))))) ?_
      refine V.region ?_
      refine O.p rfl rfl rfl (Pu.assign rfl rfl) ?_
      refine O.nil ?_
      refine X.next ?_
      refine V.block ?_
      refine V.loop3 (β := (Option Addr) × Nat × (List (Sl × List B3)) × Nat) (fun x => [(7, .slice x.1 (tops x.2.2.1).length x.2.1), (8, .int .i64 (x.2.2.2 : Int))]) _ (fun x => [Own 30 (SyC 9) x.1 x.2.1 (tops x.2.2.1), RowsA 67 B3C x.2.2.1]) _ (fun x => x.2.2.2 ≤ (L1.headD []).length ∧ conts x.2.2.1 = bs :: (js.take x.2.2.2).map (fun j => (compM 40 9 0).getD j [])) (fun x => (L1.headD []).length - x.2.2.2) (A1, 1, [((⟨r2A, r2.length, r2c⟩ : Sl), r2)], 0) (by (try dsimp only); exact ⟨by omega, by show [_] = _; rw [hr2_1]; rfl⟩) (Ent.cons rfl (Ent.cons rfl (Ent.nil _))) (Ent.cons (t := 5) rfl (Ent.cons (t := 6) rfl (Ent.nil _))) (Sub.keep 0 rfl (Sub.keep 0 rfl (Sub.keep 0 rfl (Sub.keep 0 rfl (Sub.keep 0 rfl (Sub.keep 0 rfl (Sub.keep 0 rfl (Sub.keep 0 rfl (Sub.keep 0 rfl (Sub.keep 0 rfl (Sub.nil _))))))))))) ?_
      rintro ⟨outA, outc, out, i⟩ ⟨hi, hout⟩
      dsimp only at hi hout ⊢
      have hcol := conts_len out
      have hol := congrArg List.length hout
      simp only [List.length_cons, List.length_map, List.length_take] at hol
      refine V.fact (RowsA.len 1 rfl) (fun hn_out => ?_)
      have htl_out := tops_len out
      refine V.seq ?_
      refine V.seq ?_
      refine V.region ?_
      refine O.p rfl rfl rfl (Pu.move rfl rfl) ?_
      refine O.p rfl rfl rfl (Pu.move rfl rfl) ?_
      refine O.p rfl rfl rfl (Pu.nilCheck rfl rfl) ?_
      refine O.p rfl rfl rfl (Pu.fieldAddr 5 rfl Try.underlying56 rfl sz54 rfl rfl) ?_
      refine O.p rfl rfl rfl (Pu.load rfl pl54 rfl (Ld.blk 2 rfl rfl)) ?_
      refine O.p rfl rfl rfl (Pu.len rfl Try.underlying54 rfl) ?_
      refine O.p rfl rfl rfl (Pu.lss rfl rfl rfl) ?_
      refine O.nil ?_
      refine X.next ?_
      refine V.condD rfl (fun c3 => ?_) (fun c3 => ?_)
      · skip
        refine V.skip ?_
        refine X.next ?_
        refine V.seq ?_
        refine V.block ?_
        have ei : i < (L1.headD []).length := by omega
        have hji : 0 ≤ (L1.headD [])[i]'ei ∧ (L1.headD [])[i]'ei < 840 := by have := hfo.2.2; rw [← hf0] at this; exact this _ (List.getElem_mem ei)
        have ejs : i < js.length := by omega
        have hjat : js[i]'ejs = ((L1.headD [])[i]'ei).toNat := headN_at (hf0.trans hFe) hjs _ _
        have hk1 : ((L1.headD [])[i]'ei).toNat < r1.length := by omega
        have hqm : (r1[((L1.headD [])[i]'ei).toNat]'hk1).2 ∈ compM 40 9 0 := by rw [← hr1_1]; exact List.mem_map_of_mem (List.getElem_mem hk1)
        have hql := compM_len 40 9 0 _ hqm
        have hqc := comp_count 40 9 0 _ (by decide) hqm
        have hgt : (compM 40 9 0).getD (js[i]'ejs) [] = (r1[((L1.headD [])[i]'ei).toNat]'hk1).2 := by rw [hjat]; exact row_getD hr1_1 hk1
        refine V.region ?_
        refine O.p rfl rfl rfl (Pu.move rfl rfl) ?_
        refine O.p rfl rfl rfl (Pu.move rfl rfl) ?_
        refine O.p rfl rfl rfl (Pu.move rfl rfl) ?_
        refine O.p rfl rfl rfl (Pu.nilCheck rfl rfl) ?_
        refine O.p rfl rfl rfl (Pu.fieldAddr 5 rfl Try.underlying56 rfl sz54 rfl rfl) ?_
        refine O.p rfl rfl rfl (Pu.load rfl pl54 rfl (Ld.blk 2 rfl rfl)) ?_
        refine O.p rfl rfl rfl (Pu.move rfl rfl) ?_
        refine O.p rfl rfl rfl (Pu.indexAddrS (i) rfl Try.underlying54 sz2 rfl rfl (by omega) (by omega) (fun w hw => Own.some hw (i := 6) (by exact rfl) (by omega))) ?_
        refine O.p rfl rfl rfl (Pu.load rfl pl2 rfl (Ld.rd (Ld.own 6 (by exact rfl)) (k := i) ei rfl rfl)) ?_
        refine O.p rfl rfl rfl (Pu.indexAddrS ((((L1.headD [])[i]'ei)).toNat) rfl Try.underlying34 sz30 rfl rfl (by omega) (by omega) (fun w hw => Own.some hw (i := 7) (by exact rfl) (by omega))) ?_
        have e1 : (((L1.headD [])[i]'ei)).toNat < r1.length := by have := tops_len r1; omega
        refine O.p rfl rfl rfl (Pu.loadAgg' (v := .agg #[.int .i64 (9 : Int), .slice (r1[(((L1.headD [])[i]'ei)).toNat]'e1).1.A (r1[(((L1.headD [])[i]'ei)).toNat]'e1).2.length (r1[(((L1.headD [])[i]'ei)).toNat]'e1).1.c]) rfl rfl ag30 sz30 rfl rfl (Ld.rowY (Ld.own 7 (by exact rfl)) hn_r1 e1 rfl)) ?_
        refine O.e rfl rfl rfl (Ef.call1 call35 rfl rfl (fun w hw => l01CopyR_ok  (9 : Int) ((r1[(((L1.headD [])[i]'ei)).toNat]'e1).2) _ _ w ((Ld.rows 8 (by exact rfl) e1) w hw) (by first | omega | (simp only [tops_len, conts_len, bl, List.length_append, List.length_cons, List.length_nil] at *; omega)) (by first | assumption | omega | (try dsimp only at *; omega)) (by first | assumption | omega | (try dsimp only at *; omega)))) ?_
        rintro _ _ rfl
        refine O.exi (fun r3A => ?_)
        refine O.exi (fun r3c => ?_)
        refine O.exi (fun r3 => ?_)
        refine O.sep ?_
        refine O.pur ?_
        rintro ⟨rfl, hr3_1⟩
        refine O.e rfl rfl rfl (Ef.build (SyC 9) ([⟨r3A, r3.length, r3c⟩] : List Sl) rfl Try.underlying34 inf30 rfl rfl rfl (by first | decide | (simp; done)) (by kernel_rfl)) ?_
        rintro _ _ ⟨A2, hA2, rfl, rfl⟩
        refine O.e rfl rfl rfl (Ef.append (xs := (tops out)) (ys := ([⟨r3A, r3.length, r3c⟩] : List Sl)) 2 rfl Try.underlying34 inf30 rfl rfl rfl rfl rfl rfl hA2 (Ld.own 0 (by exact rfl)) (by simp only [List.length_append, List.length_cons, List.length_nil] at *; omega) (by decide)) ?_
        rintro _ _ ⟨A3, k1, rfl, rfl, hA3⟩
        replace hA3 := hA3 (.inr (by simp))
        refine O.map (fun w hw => snoc_heap (ps := out) (xs := r3) (hw.sub (Sub.keep 2 rfl (Sub.keep 2 rfl (Sub.keep 1 rfl (Sub.keep 0 rfl (Sub.keep 0 rfl (Sub.keep 0 rfl (Sub.keep 0 rfl (Sub.keep 0 rfl (Sub.keep 0 rfl (Sub.keep 0 rfl (Sub.keep 0 rfl (Sub.keep 0 rfl (Sub.nil _))))))))))))))) ?_
        refine O.p rfl rfl rfl (Pu.assign rfl rfl) ?_
        refine O.nil ?_
        refine X.blockNormal ?_
        refine X.next ?_
        refine V.region ?_
        refine O.p rfl rfl rfl (Pu.move rfl rfl) ?_
        refine O.p rfl rfl rfl (Pu.add64 (r := ((i + 1 : Nat) : Int)) rfl (by omega) rfl rfl rfl) ?_
        refine O.p rfl rfl rfl (Pu.assign rfl rfl) ?_
        refine O.nil ?_
        exact X.back3 (A3, k1, (out ++ [((⟨r3A, r3.length, r3c⟩ : Sl), r3)]), i + 1) (by (try dsimp only); exact ⟨by omega, by rw [conts_append, hout, take_snoc ejs, List.map_append, List.cons_append]; simp only [List.map_cons, List.map_nil]; rw [hgt, ← hr3_1]; rfl⟩) (by first | omega | (dsimp only; omega)) (Ent.cons' rfl (by first | rfl | (simp only [tops_append]; done) | (simp only [tops_append]; rfl)) (Ent.cons rfl (Ent.nil _))) (Ent.cons (t := 5) rfl (Ent.cons (t := 6) rfl (Ent.nil _))) (Sub.keep 0 rfl (Sub.keep 0 rfl (Sub.keep 1 rfl (Sub.keep 1 rfl (Sub.keep 1 rfl (Sub.keep 1 rfl (Sub.keep 1 rfl (Sub.keep 1 rfl (Sub.keep 1 rfl (Sub.keep 1 rfl (Sub.nil _)))))))))))
      · skip
        refine V.exit ?_
        refine X.thenExit ?_
        refine X.thenExit ?_
        refine X.blockHit ?_
        refine X.next ?_
        refine V.seq ?_
        refine V.region ?_
        refine O.p rfl rfl rfl (Pu.move rfl rfl) ?_
        refine O.p rfl rfl rfl (Pu.assign rfl rfl) ?_
        refine O.p rfl rfl rfl (Pu.assign rfl rfl) ?_
        refine O.nil ?_
        refine X.next ?_
        refine V.ret ?_
        refine X.ret2 rfl rfl rfl ?_
        exact fun w hw => St.mkExi outA (St.mkExi outc (St.mkExi out (St.unsep (St.addPur ⟨(by rw [lsR_yes hc1 hne]), (by rw [lsR_yes hc1 hne, hout, List.take_of_length_le (by omega), hjs])⟩ (St.unsep (hw.sub (Sub.keep 0 rfl (Sub.keep 0 rfl (Sub.nil _)))))))))
end Go.Proofs.Ytphgcnegmkafiaa
