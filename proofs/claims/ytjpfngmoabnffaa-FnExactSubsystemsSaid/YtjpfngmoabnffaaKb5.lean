/-
  Contracts, part 5.
-/
import Derived.Test.YtjpfngmoabnffaaKb4
set_option linter.unusedVariables false
set_option linter.unusedSimpArgs false
namespace Go.Proofs.Ytjpfngmoabnffaa
open Go Go.RowKit Go.Vc Go.Proofs
set_option maxRecDepth 100000 in
set_option maxHeartbeats 1000000 in
theorem specSubsystems_ok (v : Int) (bs : List B3) (A : Option Addr) (c : Nat) (w : World) (hx : Rd B3C w A bs) (lx : bs.length ≤ 4611686018427387904) : Does Try.prog 52 [.agg #[.int .i64 v, .slice A bs.length c]] w [] (fun r => [.exi fun (pA : Option Addr) => .exi fun (pc : Nat) => .exi fun (p : List (Sl × List Int)) => .sep (.pur (r = .tuple #[.slice pA (tops p).length pc, .int .i64 (if STS v bs then 0 else 1)] ∧ SubR v bs (conts p))) (.sep (Own 43 SlC pA pc (tops p)) (RowsA 2 I64 p))]) := by
  refine Does.enter Try.func52 rfl rfl [(0, .agg #[.int .i64 v, .slice A bs.length c])] rfl ?_
  refine V.seq ?_
  refine V.region ?_
  refine O.e rfl rfl rfl (Ef.box rfl rfl rfl) ?_
  rintro _ _ ⟨b1, rfl, rfl⟩
  refine O.p rfl rfl rfl (Pu.assign rfl rfl) ?_
  refine O.p rfl rfl rfl (Pu.assign rfl rfl) ?_
  refine O.nil ?_
  refine X.next ?_
  refine V.seq ?_
  refine V.seq ?_
  refine V.region ?_
  refine O.p rfl rfl rfl (Pu.loadAgg rfl ag30 sz30 rfl rfl (Ld.whole 0 rfl)) ?_
  refine O.e rfl rfl rfl (Ef.callP call81 rfl rfl (fun w hw => l01Is_ok _ bs _ _ w ((Ld.old hx) w hw) (by omega))) ?_
  rintro _ _ ⟨rfl, rfl⟩
  refine O.p rfl rfl rfl (Pu.not rfl rfl) ?_
  refine O.nil ?_
  refine X.next ?_
  refine V.condNot rfl (fun c1 => ?_) (fun c1 => ?_)
  · skip
    refine V.seq ?_
    refine V.region ?_
    refine O.p rfl rfl rfl (Pu.assign rfl rfl) ?_
    refine O.p rfl rfl rfl (Pu.assign rfl rfl) ?_
    refine O.nil ?_
    refine X.next ?_
    refine V.ret ?_
    refine X.thenRet ?_
    refine X.ret2 rfl rfl rfl ?_
    exact fun w hw => St.mkExi none (St.mkExi 0 (St.mkExi [] (St.unsep (St.addPur ⟨(by rw [if_neg c1]; rfl), (by exact ⟨fun h => absurd h c1, fun _ => rfl⟩)⟩ (St.unsep (St.addNil (T := 43) (C := SlC) (RowsA.nil (T := 2) (C := I64) (hw.sub (Sub.nil _)))))))))
  · skip
    have hlo := c1.lo
    have hhi := c1.hi
    have hfew := c1.few
    have hg : ∀ b ∈ bs, good 15 b := fun b h => (c1.good b h).mono c1.hi
    have hpw : 2 ^ v.toNat ≤ 2 ^ 15 := Nat.pow_le_pow_right (by decide) (by omega)
    have hpw0 := Nat.two_pow_pos v.toNat
    refine V.skip ?_
    refine X.next ?_
    refine V.seq ?_
    refine V.region ?_
    refine O.e rfl rfl rfl (Ef.build SlC ([] : List Sl) rfl Try.underlying34 inf43 rfl rfl rfl (by first | decide | (simp; done)) (by kernel_rfl)) ?_
    rintro _ _ ⟨A1, hA1, rfl, rfl⟩
    refine O.p rfl rfl rfl (Pu.assign rfl rfl) ?_
    refine O.nil ?_
    refine X.next ?_
    refine V.seq ?_
    refine V.seq ?_
    refine V.region ?_
    refine O.p rfl rfl rfl (Pu.assign rfl rfl) ?_
    refine O.nil ?_
    refine X.next ?_
    refine V.block ?_
    refine V.map (fun w hw => RowsA.nil (T := 2) (C := I64) hw) ?_
    refine V.loop3 (β := (Option Addr) × Nat × (List (Sl × List Int)) × Nat) (fun x => [(4, .slice x.1 (tops x.2.2.1).length x.2.1), (5, .int .i64 (x.2.2.2 : Int))]) _ (fun x => [Own 43 SlC x.1 x.2.1 (tops x.2.2.1), RowsA 2 I64 x.2.2.1]) _ (fun x => (1 ≤ x.2.2.2 ∧ x.2.2.2 ≤ 2 ^ v.toNat) ∧ (conts x.2.2.1).Perm (subsL bs x.2.2.2) ∧ (conts x.2.2.1).Pairwise leQ ∧ x.2.2.1.length ≤ x.2.2.2) (fun x => 2 ^ v.toNat - x.2.2.2) (A1, 0, [], 1) (by (try dsimp only); exact ⟨⟨by omega, by omega⟩, by rw [subsL_one]; exact List.Perm.refl _, List.Pairwise.nil, by simp⟩) (Ent.cons rfl (Ent.cons rfl (Ent.nil _))) (Ent.cons (t := 1) rfl (Ent.nil _)) (Sub.keep 1 rfl (Sub.keep 0 rfl (Sub.keep 0 rfl (Sub.nil _)))) ?_
    rintro ⟨outA, outc, out, set⟩ ⟨⟨hs1, hs2⟩, hpm, hsr, hl⟩
    dsimp only at hs1 hs2 hpm hsr hl ⊢
    refine V.fact (RowsA.len 1 rfl) (fun hn_out => ?_)
    have htl_out := tops_len out
    refine V.seq ?_
    refine V.seq ?_
    refine V.region ?_
    refine O.p rfl rfl rfl (Pu.move rfl rfl) ?_
    refine O.p rfl rfl rfl (Pu.fieldAddr 0 rfl Try.underlying30 rfl sz2 rfl rfl) ?_
    refine O.p rfl rfl rfl (Pu.load rfl pl2 rfl (Ld.blk 2 rfl rfl)) ?_
    refine O.p rfl rfl rfl (Pu.convU' ((v).toNat) (by omega) ⟨_, Try.underlying2⟩ Try.underlying115 (by omega) rfl rfl) ?_
    refine O.p rfl rfl rfl (Pu.shl1 (p := (v).toNat) K64.i (by omega) rfl rfl rfl) ?_
    refine O.p rfl rfl rfl (Pu.lss rfl rfl rfl) ?_
    refine O.nil ?_
    refine X.next ?_
    refine V.condD rfl (fun c2 => ?_) (fun c2 => ?_)
    · skip
      refine V.skip ?_
      refine X.next ?_
      refine V.seq ?_
      refine V.block ?_
      refine V.seq ?_
      refine V.region ?_
      refine O.p rfl rfl rfl (Pu.move rfl rfl) ?_
      refine O.e rfl rfl rfl (Ef.callP call113 rfl rfl (fun w hw => l05Ones_ok set w (by omega))) ?_
      rintro _ _ ⟨rfl, rfl⟩
      refine O.p rfl rfl rfl (Pu.assign rfl rfl) ?_
      refine O.nil ?_
      refine X.next ?_
      refine V.seq ?_
      refine V.seq ?_
      refine V.region ?_
      refine O.p rfl rfl rfl (Pu.move rfl rfl) ?_
      refine O.p rfl rfl rfl (Pu.neq rfl rfl rfl) ?_
      refine O.p rfl rfl rfl (Pu.move rfl rfl) ?_
      refine O.splitN 25 rfl (fun c3 => ?_) (fun c3 => ?_)
      · skip
        refine O.gp rfl rfl rfl rfl rfl (Pu.move rfl rfl) ?_
        refine O.gp rfl rfl rfl rfl rfl (Pu.neq rfl rfl rfl) ?_
        refine O.p rfl rfl rfl (Pu.pickT rfl rfl rfl) ?_
        refine O.p rfl rfl rfl (Pu.move rfl rfl) ?_
        refine O.splitN 29 rfl (fun c4 => ?_) (fun c4 => ?_)
        · skip
          refine O.gp rfl rfl rfl rfl rfl (Pu.move rfl rfl) ?_
          refine O.gp rfl rfl rfl rfl rfl (Pu.neq rfl rfl rfl) ?_
          refine O.p rfl rfl rfl (Pu.pickT rfl rfl rfl) ?_
          refine O.p rfl rfl rfl (Pu.move rfl rfl) ?_
          refine O.splitN 33 rfl (fun c5 => ?_) (fun c5 => ?_)
          · skip
            refine O.gp rfl rfl rfl rfl rfl (Pu.move rfl rfl) ?_
            refine O.gp rfl rfl rfl rfl rfl (Pu.neq rfl rfl rfl) ?_
            refine O.p rfl rfl rfl (Pu.pickT rfl rfl rfl) ?_
            refine O.p rfl rfl rfl (Pu.move rfl rfl) ?_
            refine O.splitN 37 rfl (fun c6 => ?_) (fun c6 => ?_)
            · skip
              refine O.gp rfl rfl rfl rfl rfl (Pu.move rfl rfl) ?_
              refine O.gp rfl rfl rfl rfl rfl (Pu.neq rfl rfl rfl) ?_
              refine O.p rfl rfl rfl (Pu.pickT rfl rfl rfl) ?_
              refine O.p rfl rfl rfl (Pu.move rfl rfl) ?_
              refine O.splitN 41 rfl (fun c7 => ?_) (fun c7 => ?_)
              · skip
                refine O.gs rfl rfl rfl rfl rfl rfl ?_
                refine O.gs rfl rfl rfl rfl rfl rfl ?_
                refine O.gs rfl rfl rfl rfl rfl rfl ?_
                refine O.gs rfl rfl rfl rfl rfl rfl ?_
                refine O.p rfl rfl rfl (Pu.pickT rfl rfl rfl) ?_
                refine O.nil ?_
                refine X.next ?_
                refine V.condT rfl ?_
                refine V.exit ?_
                refine X.thenExit ?_
                refine X.blockHit ?_
                refine X.next ?_
                refine V.region ?_
                refine O.p rfl rfl rfl (Pu.move rfl rfl) ?_
                refine O.p rfl rfl rfl (Pu.add64 (r := ((set + 1 : Nat) : Int)) rfl (by omega) rfl rfl rfl) ?_
                refine O.p rfl rfl rfl (Pu.assign rfl rfl) ?_
                refine O.nil ?_
                exact X.back3 (outA, outc, out, set + 1) (by (try dsimp only); exact ⟨⟨by omega, by omega⟩, by rw [subsL_no (fun h => by have q := (subq_iff c1 (by omega)).1 h; first | omega | exact absurd q.2 (by assumption))]; exact hpm, hsr, by omega⟩) (by first | omega | (dsimp only; omega)) (Ent.cons' rfl (by first | rfl | (simp only [tops_append]; done) | (simp only [tops_append]; rfl)) (Ent.cons rfl (Ent.nil _))) (Ent.cons (t := 1) rfl (Ent.nil _)) (Sub.keep 0 rfl (Sub.keep 0 rfl (Sub.keep 0 rfl (Sub.nil _))))
              · skip
                refine O.gp rfl rfl rfl rfl rfl (Pu.loadAgg rfl ag30 sz30 rfl rfl (Ld.whole 2 rfl)) ?_
                refine O.gp rfl rfl rfl rfl rfl (Pu.move rfl rfl) ?_
                refine O.ge rfl rfl rfl rfl rfl (Ef.callP call114 rfl rfl (fun w hw => l07Subsystem_ok  v bs set _ _ w ((Ld.old hx) w hw) (by first | omega | (simp only [tops_len, conts_len, bl, List.length_append, List.length_cons, List.length_nil] at *; omega)) hg (by omega) hfew)) ?_
                rintro _ _ ⟨rfl, rfl⟩
                refine O.gp rfl rfl rfl rfl rfl (Pu.not rfl rfl) ?_
                refine O.p rfl rfl rfl (Pu.pickF rfl rfl rfl) ?_
                refine O.nil ?_
                refine X.next ?_
                refine V.condNot rfl (fun c8 => ?_) (fun c8 => ?_)
                · skip
                  refine V.exit ?_
                  refine X.thenExit ?_
                  refine X.blockHit ?_
                  refine X.next ?_
                  refine V.region ?_
                  refine O.p rfl rfl rfl (Pu.move rfl rfl) ?_
                  refine O.p rfl rfl rfl (Pu.add64 (r := ((set + 1 : Nat) : Int)) rfl (by omega) rfl rfl rfl) ?_
                  refine O.p rfl rfl rfl (Pu.assign rfl rfl) ?_
                  refine O.nil ?_
                  exact X.back3 (outA, outc, out, set + 1) (by (try dsimp only); exact ⟨⟨by omega, by omega⟩, by rw [subsL_no (fun h => by have q := (subq_iff c1 (by omega)).1 h; first | omega | exact absurd q.2 (by assumption))]; exact hpm, hsr, by omega⟩) (by first | omega | (dsimp only; omega)) (Ent.cons' rfl (by first | rfl | (simp only [tops_append]; done) | (simp only [tops_append]; rfl)) (Ent.cons rfl (Ent.nil _))) (Ent.cons (t := 1) rfl (Ent.nil _)) (Sub.keep 0 rfl (Sub.keep 0 rfl (Sub.keep 0 rfl (Sub.nil _))))
                · skip
                  refine V.skip ?_
                  refine X.next ?_
                  refine V.seq ?_
                  have hsub : 3 ≤ ones set ∧ SubQ bs set := (subq_iff c1 (by omega)).2 ⟨by omega, by assumption⟩
                  have hpl := pts_len set
                  have hps : ∀ q ∈ conts out, q.length ≤ 15 := fun q hq => subsL_small q (hpm.mem_iff.1 hq)
                  refine V.region ?_
                  refine O.p rfl rfl rfl (Pu.move rfl rfl) ?_
                  refine O.e rfl rfl rfl (Ef.call1 call115 rfl rfl (fun w hw => l07Points_ok set w (by omega))) ?_
                  rintro _ _ rfl
                  refine O.exi (fun p1 => ?_)
                  refine O.sep ?_
                  refine O.pur ?_
                  rintro ⟨rfl, hp1⟩
                  refine O.p rfl rfl rfl (Pu.assign rfl rfl) ?_
                  refine O.nil ?_
                  refine X.next ?_
                  refine V.seq ?_
                  refine V.region ?_
                  refine O.p rfl rfl rfl (Pu.move rfl rfl) ?_
                  refine O.p rfl rfl rfl (Pu.len rfl Try.underlying34 rfl) ?_
                  refine O.p rfl rfl rfl (Pu.assign rfl rfl) ?_
                  refine O.nil ?_
                  refine X.next ?_
                  refine V.seq ?_
                  refine V.region ?_
                  refine O.p rfl rfl rfl (Pu.move rfl rfl) ?_
                  refine O.p rfl rfl rfl (Pu.move rfl rfl) ?_
                  refine O.e rfl rfl rfl (Ef.build SlC ([⟨p1.1.1, p1.2.length, p1.1.2⟩] : List Sl) rfl Try.underlying34 inf43 rfl rfl rfl (by first | decide | (simp; done)) (by kernel_rfl)) ?_
                  rintro _ _ ⟨A2, hA2, rfl, rfl⟩
                  refine O.e rfl rfl rfl (Ef.append (xs := (tops out)) (ys := ([⟨p1.1.1, p1.2.length, p1.1.2⟩] : List Sl)) 2 rfl Try.underlying34 inf43 rfl rfl rfl rfl rfl rfl hA2 (Ld.own 0 (by exact rfl)) (by simp only [List.length_append, List.length_cons, List.length_nil] at *; omega) (by decide)) ?_
                  rintro _ _ ⟨A3, k1, rfl, rfl, hA3⟩
                  replace hA3 := hA3 (.inr (by simp))
                  refine O.p rfl rfl rfl (Pu.assign rfl rfl) ?_
                  refine O.nil ?_
                  refine X.next ?_
                  refine V.seq ?_
                  refine V.block ?_
                  refine V.loop3 (β := Nat × (List Sl)) (fun x => [(8, .int .i64 (x.1 : Int))]) _ (fun x => [Own 43 SlC A3 k1 x.2]) _ (fun x => x.1 ≤ out.length ∧ (∀ j (hj : j < (conts out).length), x.1 ≤ j → cfB p1.2 (conts out)[j] < 0) ∧ x.2 = shiftAt (tops out) (⟨p1.1.1, p1.2.length, p1.1.2⟩ : Sl) x.1) (fun x => x.1) ((tops out).length, ((tops out) ++ ([⟨p1.1.1, p1.2.length, p1.1.2⟩] : List Sl))) (by (try dsimp only); exact ⟨by omega, fun j hj h => by rw [conts_len] at hj; omega, shiftAt_start.symm⟩) (Ent.cons rfl (Ent.nil _)) (Ent.cons (t := 1) rfl (Ent.cons (t := 4) rfl (Ent.cons (t := 5) rfl (Ent.cons (t := 7) rfl (Ent.nil _))))) (Sub.keep 2 rfl (Sub.keep 0 rfl (Sub.keep 0 rfl (Sub.keep 0 rfl (Sub.keep 0 rfl (Sub.nil _)))))) ?_
                  rintro ⟨y, z⟩ ⟨hy1, hy2, hz⟩
                  dsimp only at hy1 hy2 hz ⊢
                  subst hz
                  have hal : (tops out ++ ([(⟨p1.1.1, p1.2.length, p1.1.2⟩ : Sl)] : List Sl)).length = out.length + 1 := by rw [List.length_append, tops_len]; rfl
                  have hzl : (shiftAt (tops out) (⟨p1.1.1, p1.2.length, p1.1.2⟩ : Sl) y).length = out.length + 1 := by rw [shiftAt_len (by rw [tops_len]; omega), tops_len]
                  refine V.seq ?_
                  refine V.seq ?_
                  refine V.region ?_
                  refine O.p rfl rfl rfl (Pu.move rfl rfl) ?_
                  refine O.p rfl rfl rfl (Pu.gtr rfl rfl rfl) ?_
                  refine O.p rfl rfl rfl (Pu.move rfl rfl) ?_
                  refine O.splitD 57 rfl (fun c9 => ?_) (fun c9 => ?_)
                  · skip
                    refine O.gp rfl rfl rfl rfl rfl (Pu.move rfl rfl) ?_
                    refine O.gp rfl rfl rfl rfl rfl (Pu.move rfl rfl) ?_
                    refine O.gp rfl rfl rfl rfl rfl (Pu.move rfl rfl) ?_
                    refine O.gp rfl rfl rfl rfl rfl (Pu.sub64 (r := ((y - 1 : Nat) : Int)) (by omega) (by omega) rfl rfl rfl) ?_
                    refine O.gp rfl rfl rfl rfl rfl (Pu.indexAddrS (y - 1) rfl Try.underlying34 sz43 rfl rfl (by omega) (by omega) (fun w hw => Own.some hw (i := 0) (by exact rfl) (by omega))) ?_
                    have ea : y - 1 < out.length := by omega
                    have hsl : y - 1 < (shiftAt (tops out) (⟨p1.1.1, p1.2.length, p1.1.2⟩ : Sl) y).length := by omega
                    refine O.gp rfl rfl rfl rfl rfl (Pu.cast (v := .slice (out[y - 1]'ea).1.A (out[y - 1]'ea).2.length (out[y - 1]'ea).1.c) (shift_v hn_out hy1 (by omega) hsl) (Pu.load rfl pl43 rfl (Ld.rd (Ld.own 0 (by exact rfl)) (k := y - 1) hsl rfl rfl))) ?_
                    refine O.ge rfl rfl rfl rfl rfl (Ef.callP call116 rfl rfl (fun w hw => l07Before_ok  (p1.2) ((out[y - 1]'ea).2) _ _ _ _ w ((Ld.own 2 (by exact rfl)) w hw) ((Ld.rows 3 (by exact rfl) ea) w hw) (by rw [hp1]; omega) (by have := hps _ (List.mem_map_of_mem (f := fun p : Sl × List Int => p.2) (List.getElem_mem ea)); omega) )) ?_
                    rintro _ _ ⟨rfl, rfl⟩
                    refine O.p rfl rfl rfl (Pu.pickT rfl rfl rfl) ?_
                    refine O.nil ?_
                    refine X.next ?_
                    refine V.condD rfl (fun c10 => ?_) (fun c10 => ?_)
                    · skip
                      refine V.skip ?_
                      refine X.next ?_
                      refine V.block ?_
                      refine V.seq ?_
                      refine V.region ?_
                      refine O.p rfl rfl rfl (Pu.move rfl rfl) ?_
                      refine O.p rfl rfl rfl (Pu.move rfl rfl) ?_
                      refine O.p rfl rfl rfl (Pu.move rfl rfl) ?_
                      refine O.p rfl rfl rfl (Pu.move rfl rfl) ?_
                      refine O.p rfl rfl rfl (Pu.sub64 (r := ((y - 1 : Nat) : Int)) (by omega) (by omega) rfl rfl rfl) ?_
                      refine O.p rfl rfl rfl (Pu.indexAddrS (y - 1) rfl Try.underlying34 sz43 rfl rfl (by omega) (by omega) (fun w hw => Own.some hw (i := 0) (by exact rfl) (by omega))) ?_
                      have e1 : y - 1 < (shiftAt (tops out) (⟨p1.1.1, p1.2.length, p1.1.2⟩ : Sl) y).length := hsl
                      refine O.p rfl rfl rfl (Pu.load rfl pl43 rfl (Ld.rd (Ld.own 0 (by exact rfl)) (k := y - 1) e1 rfl rfl)) ?_
                      refine O.p rfl rfl rfl (Pu.indexAddrS (y) rfl Try.underlying34 sz43 rfl rfl (by omega) (by omega) (fun w hw => Own.some hw (i := 0) (by exact rfl) (by omega))) ?_
                      refine O.s rfl rfl (Ef.storeOwn 0 (y) ((shiftAt (tops out) (⟨p1.1.1, p1.2.length, p1.1.2⟩ : Sl) y)[y - 1]'e1) rfl sz43 rfl rfl rfl rfl (by omega) rfl) ?_
                      rintro _ _ rfl
                      refine O.nil ?_
                      refine X.next ?_
                      refine V.region ?_
                      refine O.p rfl rfl rfl (Pu.move rfl rfl) ?_
                      refine O.p rfl rfl rfl (Pu.sub64 (r := ((y - 1 : Nat) : Int)) (by omega) (by omega) rfl rfl rfl) ?_
                      refine O.p rfl rfl rfl (Pu.assign rfl rfl) ?_
                      refine O.nil ?_
                      refine X.blockNormal ?_
                      exact X.back3 (y - 1, ((shiftAt (tops out) (⟨p1.1.1, p1.2.length, p1.1.2⟩ : Sl) y).set (y) ((shiftAt (tops out) (⟨p1.1.1, p1.2.length, p1.1.2⟩ : Sl) y)[y - 1]'e1))) (by (try dsimp only); exact ⟨by omega, fun j hj h => by by_cases e : j = y - 1; (· subst e; rw [conts_get]; assumption); (· exact hy2 j hj (by omega)), shiftAt_step (by rw [tops_len]; omega) (by omega) _⟩) (by first | omega | (dsimp only; omega)) (Ent.cons rfl (Ent.nil _)) (Ent.cons (t := 1) rfl (Ent.cons (t := 4) rfl (Ent.cons (t := 5) rfl (Ent.cons (t := 7) rfl (Ent.nil _))))) (Sub.keep 0 rfl (Sub.keep 0 rfl (Sub.keep 0 rfl (Sub.keep 0 rfl (Sub.keep 0 rfl (Sub.nil _))))))
                    · skip
                      refine V.exit ?_
                      refine X.thenExit ?_
                      refine X.thenExit ?_
                      refine X.blockHit ?_
                      refine X.next ?_
                      refine V.region ?_
                      refine O.p rfl rfl rfl (Pu.move rfl rfl) ?_
                      refine O.p rfl rfl rfl (Pu.move rfl rfl) ?_
                      refine O.p rfl rfl rfl (Pu.move rfl rfl) ?_
                      refine O.p rfl rfl rfl (Pu.indexAddrS (y) rfl Try.underlying34 sz43 rfl rfl (by omega) (by omega) (fun w hw => Own.some hw (i := 0) (by exact rfl) (by omega))) ?_
                      refine O.s rfl rfl (Ef.storeOwn 0 (y) ⟨p1.1.1, p1.2.length, p1.1.2⟩ rfl sz43 rfl rfl rfl rfl (by omega) rfl) ?_
                      rintro _ _ rfl
                      refine O.nil ?_
                      refine X.blockNormal ?_
                      refine X.next ?_
                      refine V.region ?_
                      refine O.p rfl rfl rfl (Pu.move rfl rfl) ?_
                      refine O.p rfl rfl rfl (Pu.add64 (r := ((set + 1 : Nat) : Int)) rfl (by omega) rfl rfl rfl) ?_
                      refine O.p rfl rfl rfl (Pu.assign rfl rfl) ?_
                      refine O.nil ?_
                      refine X.map (fun w hw => put_heap (y := y) (ps := out) (xs := p1.2) (z := (⟨p1.1.1, p1.2.length, p1.1.2⟩ : Sl)) (by omega) (hw.sub (Sub.keep 0 rfl (Sub.keep 2 rfl (Sub.keep 1 rfl (Sub.keep 0 rfl (Sub.keep 0 rfl (Sub.nil _)))))))) ?_
                      exact X.back3 (A3, k1, (out.take y ++ ((⟨p1.1.1, p1.2.length, p1.1.2⟩ : Sl), p1.2) :: out.drop y), set + 1) (by (try dsimp only); exact ⟨⟨by omega, by omega⟩, by rw [subsL_yes hsub, ← hp1]; exact insQ_perm hpm, by rw [conts_put]; exact insQ hsr (by rw [conts_len]; omega) hy2 (fun h0 => by first | omega | (rw [conts_get]; assumption)), by simp only [List.length_append, List.length_cons, List.length_take, List.length_drop]; omega⟩) (by first | omega | (dsimp only; omega)) (Ent.cons' rfl (by simp only [tops_put, List.length_append, List.length_cons, List.length_take, List.length_drop, List.length_nil]; congr 1; omega) (Ent.cons rfl (Ent.nil _))) (Ent.cons (t := 1) rfl (Ent.nil _)) (Sub.keep 0 rfl (Sub.keep 0 rfl (Sub.keep 1 rfl (Sub.nil _))))
                  · skip
                    refine O.gs rfl rfl rfl rfl rfl rfl ?_
                    refine O.gs rfl rfl rfl rfl rfl rfl ?_
                    refine O.gs rfl rfl rfl rfl rfl rfl ?_
                    refine O.gs rfl rfl rfl rfl rfl rfl ?_
                    refine O.gs rfl rfl rfl rfl rfl rfl ?_
                    refine O.gs rfl rfl rfl rfl rfl rfl ?_
                    refine O.gs rfl rfl rfl rfl rfl rfl ?_
                    refine O.p rfl rfl rfl (Pu.pickF rfl rfl rfl) ?_
                    refine O.nil ?_
                    refine X.next ?_
                    refine V.condF rfl ?_
                    refine V.exit ?_
                    refine X.thenExit ?_
                    refine X.thenExit ?_
                    refine X.blockHit ?_
                    refine X.next ?_
                    refine V.region ?_
                    refine O.p rfl rfl rfl (Pu.move rfl rfl) ?_
                    refine O.p rfl rfl rfl (Pu.move rfl rfl) ?_
                    refine O.p rfl rfl rfl (Pu.move rfl rfl) ?_
                    refine O.p rfl rfl rfl (Pu.indexAddrS (y) rfl Try.underlying34 sz43 rfl rfl (by omega) (by omega) (fun w hw => Own.some hw (i := 0) (by exact rfl) (by omega))) ?_
                    refine O.s rfl rfl (Ef.storeOwn 0 (y) ⟨p1.1.1, p1.2.length, p1.1.2⟩ rfl sz43 rfl rfl rfl rfl (by omega) rfl) ?_
                    rintro _ _ rfl
                    refine O.nil ?_
                    refine X.blockNormal ?_
                    refine X.next ?_
                    refine V.region ?_
                    refine O.p rfl rfl rfl (Pu.move rfl rfl) ?_
                    refine O.p rfl rfl rfl (Pu.add64 (r := ((set + 1 : Nat) : Int)) rfl (by omega) rfl rfl rfl) ?_
                    refine O.p rfl rfl rfl (Pu.assign rfl rfl) ?_
                    refine O.nil ?_
                    refine X.map (fun w hw => put_heap (y := y) (ps := out) (xs := p1.2) (z := (⟨p1.1.1, p1.2.length, p1.1.2⟩ : Sl)) (by omega) (hw.sub (Sub.keep 0 rfl (Sub.keep 2 rfl (Sub.keep 1 rfl (Sub.keep 0 rfl (Sub.keep 0 rfl (Sub.nil _)))))))) ?_
                    exact X.back3 (A3, k1, (out.take y ++ ((⟨p1.1.1, p1.2.length, p1.1.2⟩ : Sl), p1.2) :: out.drop y), set + 1) (by (try dsimp only); exact ⟨⟨by omega, by omega⟩, by rw [subsL_yes hsub, ← hp1]; exact insQ_perm hpm, by rw [conts_put]; exact insQ hsr (by rw [conts_len]; omega) hy2 (fun h0 => by first | omega | (rw [conts_get]; assumption)), by simp only [List.length_append, List.length_cons, List.length_take, List.length_drop]; omega⟩) (by first | omega | (dsimp only; omega)) (Ent.cons' rfl (by simp only [tops_put, List.length_append, List.length_cons, List.length_take, List.length_drop, List.length_nil]; congr 1; omega) (Ent.cons rfl (Ent.nil _))) (Ent.cons (t := 1) rfl (Ent.nil _)) (Sub.keep 0 rfl (Sub.keep 0 rfl (Sub.keep 1 rfl (Sub.nil _))))
            · skip
              refine O.gs rfl rfl rfl rfl rfl rfl ?_
              refine O.gs rfl rfl rfl rfl rfl rfl ?_
              refine O.p rfl rfl rfl (Pu.pickF rfl rfl rfl) ?_
              refine O.p rfl rfl rfl (Pu.move rfl rfl) ?_
              refine O.gp rfl rfl rfl rfl rfl (Pu.loadAgg rfl ag30 sz30 rfl rfl (Ld.whole 2 rfl)) ?_
              refine O.gp rfl rfl rfl rfl rfl (Pu.move rfl rfl) ?_
              refine O.ge rfl rfl rfl rfl rfl (Ef.callP call114 rfl rfl (fun w hw => l07Subsystem_ok  v bs set _ _ w ((Ld.old hx) w hw) (by first | omega | (simp only [tops_len, conts_len, bl, List.length_append, List.length_cons, List.length_nil] at *; omega)) hg (by omega) hfew)) ?_
              rintro _ _ ⟨rfl, rfl⟩
              refine O.gp rfl rfl rfl rfl rfl (Pu.not rfl rfl) ?_
              refine O.p rfl rfl rfl (Pu.pickF rfl rfl rfl) ?_
              refine O.nil ?_
              refine X.next ?_
              refine V.condNot rfl (fun c11 => ?_) (fun c11 => ?_)
              · skip
                refine V.exit ?_
                refine X.thenExit ?_
                refine X.blockHit ?_
                refine X.next ?_
                refine V.region ?_
                refine O.p rfl rfl rfl (Pu.move rfl rfl) ?_
                refine O.p rfl rfl rfl (Pu.add64 (r := ((set + 1 : Nat) : Int)) rfl (by omega) rfl rfl rfl) ?_
                refine O.p rfl rfl rfl (Pu.assign rfl rfl) ?_
                refine O.nil ?_
                exact X.back3 (outA, outc, out, set + 1) (by (try dsimp only); exact ⟨⟨by omega, by omega⟩, by rw [subsL_no (fun h => by have q := (subq_iff c1 (by omega)).1 h; first | omega | exact absurd q.2 (by assumption))]; exact hpm, hsr, by omega⟩) (by first | omega | (dsimp only; omega)) (Ent.cons' rfl (by first | rfl | (simp only [tops_append]; done) | (simp only [tops_append]; rfl)) (Ent.cons rfl (Ent.nil _))) (Ent.cons (t := 1) rfl (Ent.nil _)) (Sub.keep 0 rfl (Sub.keep 0 rfl (Sub.keep 0 rfl (Sub.nil _))))
              · skip
                refine V.skip ?_
                refine X.next ?_
                refine V.seq ?_
                have hsub : 3 ≤ ones set ∧ SubQ bs set := (subq_iff c1 (by omega)).2 ⟨by omega, by assumption⟩
                have hpl := pts_len set
                have hps : ∀ q ∈ conts out, q.length ≤ 15 := fun q hq => subsL_small q (hpm.mem_iff.1 hq)
                refine V.region ?_
                refine O.p rfl rfl rfl (Pu.move rfl rfl) ?_
                refine O.e rfl rfl rfl (Ef.call1 call115 rfl rfl (fun w hw => l07Points_ok set w (by omega))) ?_
                rintro _ _ rfl
                refine O.exi (fun p1 => ?_)
                refine O.sep ?_
                refine O.pur ?_
                rintro ⟨rfl, hp1⟩
                refine O.p rfl rfl rfl (Pu.assign rfl rfl) ?_
                refine O.nil ?_
                refine X.next ?_
                refine V.seq ?_
                refine V.region ?_
                refine O.p rfl rfl rfl (Pu.move rfl rfl) ?_
                refine O.p rfl rfl rfl (Pu.len rfl Try.underlying34 rfl) ?_
                refine O.p rfl rfl rfl (Pu.assign rfl rfl) ?_
                refine O.nil ?_
                refine X.next ?_
                refine V.seq ?_
                refine V.region ?_
                refine O.p rfl rfl rfl (Pu.move rfl rfl) ?_
                refine O.p rfl rfl rfl (Pu.move rfl rfl) ?_
                refine O.e rfl rfl rfl (Ef.build SlC ([⟨p1.1.1, p1.2.length, p1.1.2⟩] : List Sl) rfl Try.underlying34 inf43 rfl rfl rfl (by first | decide | (simp; done)) (by kernel_rfl)) ?_
                rintro _ _ ⟨A4, hA4, rfl, rfl⟩
                refine O.e rfl rfl rfl (Ef.append (xs := (tops out)) (ys := ([⟨p1.1.1, p1.2.length, p1.1.2⟩] : List Sl)) 2 rfl Try.underlying34 inf43 rfl rfl rfl rfl rfl rfl hA4 (Ld.own 0 (by exact rfl)) (by simp only [List.length_append, List.length_cons, List.length_nil] at *; omega) (by decide)) ?_
                rintro _ _ ⟨A5, k2, rfl, rfl, hA5⟩
                replace hA5 := hA5 (.inr (by simp))
                refine O.p rfl rfl rfl (Pu.assign rfl rfl) ?_
                refine O.nil ?_
                refine X.next ?_
                refine V.seq ?_
                refine V.block ?_
                refine V.loop3 (β := Nat × (List Sl)) (fun x => [(8, .int .i64 (x.1 : Int))]) _ (fun x => [Own 43 SlC A5 k2 x.2]) _ (fun x => x.1 ≤ out.length ∧ (∀ j (hj : j < (conts out).length), x.1 ≤ j → cfB p1.2 (conts out)[j] < 0) ∧ x.2 = shiftAt (tops out) (⟨p1.1.1, p1.2.length, p1.1.2⟩ : Sl) x.1) (fun x => x.1) ((tops out).length, ((tops out) ++ ([⟨p1.1.1, p1.2.length, p1.1.2⟩] : List Sl))) (by (try dsimp only); exact ⟨by omega, fun j hj h => by rw [conts_len] at hj; omega, shiftAt_start.symm⟩) (Ent.cons rfl (Ent.nil _)) (Ent.cons (t := 1) rfl (Ent.cons (t := 4) rfl (Ent.cons (t := 5) rfl (Ent.cons (t := 7) rfl (Ent.nil _))))) (Sub.keep 2 rfl (Sub.keep 0 rfl (Sub.keep 0 rfl (Sub.keep 0 rfl (Sub.keep 0 rfl (Sub.nil _)))))) ?_
                rintro ⟨y, z⟩ ⟨hy1, hy2, hz⟩
                dsimp only at hy1 hy2 hz ⊢
                subst hz
                have hal : (tops out ++ ([(⟨p1.1.1, p1.2.length, p1.1.2⟩ : Sl)] : List Sl)).length = out.length + 1 := by rw [List.length_append, tops_len]; rfl
                have hzl : (shiftAt (tops out) (⟨p1.1.1, p1.2.length, p1.1.2⟩ : Sl) y).length = out.length + 1 := by rw [shiftAt_len (by rw [tops_len]; omega), tops_len]
                refine V.seq ?_
                refine V.seq ?_
                refine V.region ?_
                refine O.p rfl rfl rfl (Pu.move rfl rfl) ?_
                refine O.p rfl rfl rfl (Pu.gtr rfl rfl rfl) ?_
                refine O.p rfl rfl rfl (Pu.move rfl rfl) ?_
                refine O.splitD 57 rfl (fun c12 => ?_) (fun c12 => ?_)
                · skip
                  refine O.gp rfl rfl rfl rfl rfl (Pu.move rfl rfl) ?_
                  refine O.gp rfl rfl rfl rfl rfl (Pu.move rfl rfl) ?_
                  refine O.gp rfl rfl rfl rfl rfl (Pu.move rfl rfl) ?_
                  refine O.gp rfl rfl rfl rfl rfl (Pu.sub64 (r := ((y - 1 : Nat) : Int)) (by omega) (by omega) rfl rfl rfl) ?_
                  refine O.gp rfl rfl rfl rfl rfl (Pu.indexAddrS (y - 1) rfl Try.underlying34 sz43 rfl rfl (by omega) (by omega) (fun w hw => Own.some hw (i := 0) (by exact rfl) (by omega))) ?_
                  have ea : y - 1 < out.length := by omega
                  have hsl : y - 1 < (shiftAt (tops out) (⟨p1.1.1, p1.2.length, p1.1.2⟩ : Sl) y).length := by omega
                  refine O.gp rfl rfl rfl rfl rfl (Pu.cast (v := .slice (out[y - 1]'ea).1.A (out[y - 1]'ea).2.length (out[y - 1]'ea).1.c) (shift_v hn_out hy1 (by omega) hsl) (Pu.load rfl pl43 rfl (Ld.rd (Ld.own 0 (by exact rfl)) (k := y - 1) hsl rfl rfl))) ?_
                  refine O.ge rfl rfl rfl rfl rfl (Ef.callP call116 rfl rfl (fun w hw => l07Before_ok  (p1.2) ((out[y - 1]'ea).2) _ _ _ _ w ((Ld.own 2 (by exact rfl)) w hw) ((Ld.rows 3 (by exact rfl) ea) w hw) (by rw [hp1]; omega) (by have := hps _ (List.mem_map_of_mem (f := fun p : Sl × List Int => p.2) (List.getElem_mem ea)); omega) )) ?_
                  rintro _ _ ⟨rfl, rfl⟩
                  refine O.p rfl rfl rfl (Pu.pickT rfl rfl rfl) ?_
                  refine O.nil ?_
                  refine X.next ?_
                  refine V.condD rfl (fun c13 => ?_) (fun c13 => ?_)
                  · skip
                    refine V.skip ?_
                    refine X.next ?_
                    refine V.block ?_
                    refine V.seq ?_
                    refine V.region ?_
                    refine O.p rfl rfl rfl (Pu.move rfl rfl) ?_
                    refine O.p rfl rfl rfl (Pu.move rfl rfl) ?_
                    refine O.p rfl rfl rfl (Pu.move rfl rfl) ?_
                    refine O.p rfl rfl rfl (Pu.move rfl rfl) ?_
                    refine O.p rfl rfl rfl (Pu.sub64 (r := ((y - 1 : Nat) : Int)) (by omega) (by omega) rfl rfl rfl) ?_
                    refine O.p rfl rfl rfl (Pu.indexAddrS (y - 1) rfl Try.underlying34 sz43 rfl rfl (by omega) (by omega) (fun w hw => Own.some hw (i := 0) (by exact rfl) (by omega))) ?_
                    have e2 : y - 1 < (shiftAt (tops out) (⟨p1.1.1, p1.2.length, p1.1.2⟩ : Sl) y).length := hsl
                    refine O.p rfl rfl rfl (Pu.load rfl pl43 rfl (Ld.rd (Ld.own 0 (by exact rfl)) (k := y - 1) e2 rfl rfl)) ?_
                    refine O.p rfl rfl rfl (Pu.indexAddrS (y) rfl Try.underlying34 sz43 rfl rfl (by omega) (by omega) (fun w hw => Own.some hw (i := 0) (by exact rfl) (by omega))) ?_
                    refine O.s rfl rfl (Ef.storeOwn 0 (y) ((shiftAt (tops out) (⟨p1.1.1, p1.2.length, p1.1.2⟩ : Sl) y)[y - 1]'e2) rfl sz43 rfl rfl rfl rfl (by omega) rfl) ?_
                    rintro _ _ rfl
                    refine O.nil ?_
                    refine X.next ?_
                    refine V.region ?_
                    refine O.p rfl rfl rfl (Pu.move rfl rfl) ?_
                    refine O.p rfl rfl rfl (Pu.sub64 (r := ((y - 1 : Nat) : Int)) (by omega) (by omega) rfl rfl rfl) ?_
                    refine O.p rfl rfl rfl (Pu.assign rfl rfl) ?_
                    refine O.nil ?_
                    refine X.blockNormal ?_
                    exact X.back3 (y - 1, ((shiftAt (tops out) (⟨p1.1.1, p1.2.length, p1.1.2⟩ : Sl) y).set (y) ((shiftAt (tops out) (⟨p1.1.1, p1.2.length, p1.1.2⟩ : Sl) y)[y - 1]'e2))) (by (try dsimp only); exact ⟨by omega, fun j hj h => by by_cases e : j = y - 1; (· subst e; rw [conts_get]; assumption); (· exact hy2 j hj (by omega)), shiftAt_step (by rw [tops_len]; omega) (by omega) _⟩) (by first | omega | (dsimp only; omega)) (Ent.cons rfl (Ent.nil _)) (Ent.cons (t := 1) rfl (Ent.cons (t := 4) rfl (Ent.cons (t := 5) rfl (Ent.cons (t := 7) rfl (Ent.nil _))))) (Sub.keep 0 rfl (Sub.keep 0 rfl (Sub.keep 0 rfl (Sub.keep 0 rfl (Sub.keep 0 rfl (Sub.nil _))))))
                  · skip
                    refine V.exit ?_
                    refine X.thenExit ?_
                    refine X.thenExit ?_
                    refine X.blockHit ?_
                    refine X.next ?_
                    refine V.region ?_
                    refine O.p rfl rfl rfl (Pu.move rfl rfl) ?_
                    refine O.p rfl rfl rfl (Pu.move rfl rfl) ?_
                    refine O.p rfl rfl rfl (Pu.move rfl rfl) ?_
                    refine O.p rfl rfl rfl (Pu.indexAddrS (y) rfl Try.underlying34 sz43 rfl rfl (by omega) (by omega) (fun w hw => Own.some hw (i := 0) (by exact rfl) (by omega))) ?_
                    refine O.s rfl rfl (Ef.storeOwn 0 (y) ⟨p1.1.1, p1.2.length, p1.1.2⟩ rfl sz43 rfl rfl rfl rfl (by omega) rfl) ?_
                    rintro _ _ rfl
                    refine O.nil ?_
                    refine X.blockNormal ?_
                    refine X.next ?_
                    refine V.region ?_
                    refine O.p rfl rfl rfl (Pu.move rfl rfl) ?_
                    refine O.p rfl rfl rfl (Pu.add64 (r := ((set + 1 : Nat) : Int)) rfl (by omega) rfl rfl rfl) ?_
                    refine O.p rfl rfl rfl (Pu.assign rfl rfl) ?_
                    refine O.nil ?_
                    refine X.map (fun w hw => put_heap (y := y) (ps := out) (xs := p1.2) (z := (⟨p1.1.1, p1.2.length, p1.1.2⟩ : Sl)) (by omega) (hw.sub (Sub.keep 0 rfl (Sub.keep 2 rfl (Sub.keep 1 rfl (Sub.keep 0 rfl (Sub.keep 0 rfl (Sub.nil _)))))))) ?_
                    exact X.back3 (A5, k2, (out.take y ++ ((⟨p1.1.1, p1.2.length, p1.1.2⟩ : Sl), p1.2) :: out.drop y), set + 1) (by (try dsimp only); exact ⟨⟨by omega, by omega⟩, by rw [subsL_yes hsub, ← hp1]; exact insQ_perm hpm, by rw [conts_put]; exact insQ hsr (by rw [conts_len]; omega) hy2 (fun h0 => by first | omega | (rw [conts_get]; assumption)), by simp only [List.length_append, List.length_cons, List.length_take, List.length_drop]; omega⟩) (by first | omega | (dsimp only; omega)) (Ent.cons' rfl (by simp only [tops_put, List.length_append, List.length_cons, List.length_take, List.length_drop, List.length_nil]; congr 1; omega) (Ent.cons rfl (Ent.nil _))) (Ent.cons (t := 1) rfl (Ent.nil _)) (Sub.keep 0 rfl (Sub.keep 0 rfl (Sub.keep 1 rfl (Sub.nil _))))
                · skip
                  refine O.gs rfl rfl rfl rfl rfl rfl ?_
                  refine O.gs rfl rfl rfl rfl rfl rfl ?_
                  refine O.gs rfl rfl rfl rfl rfl rfl ?_
                  refine O.gs rfl rfl rfl rfl rfl rfl ?_
                  refine O.gs rfl rfl rfl rfl rfl rfl ?_
                  refine O.gs rfl rfl rfl rfl rfl rfl ?_
                  refine O.gs rfl rfl rfl rfl rfl rfl ?_
                  refine O.p rfl rfl rfl (Pu.pickF rfl rfl rfl) ?_
                  refine O.nil ?_
                  refine X.next ?_
                  refine V.condF rfl ?_
                  refine V.exit ?_
                  refine X.thenExit ?_
                  refine X.thenExit ?_
                  refine X.blockHit ?_
                  refine X.next ?_
                  refine V.region ?_
                  refine O.p rfl rfl rfl (Pu.move rfl rfl) ?_
                  refine O.p rfl rfl rfl (Pu.move rfl rfl) ?_
                  refine O.p rfl rfl rfl (Pu.move rfl rfl) ?_
                  refine O.p rfl rfl rfl (Pu.indexAddrS (y) rfl Try.underlying34 sz43 rfl rfl (by omega) (by omega) (fun w hw => Own.some hw (i := 0) (by exact rfl) (by omega))) ?_
                  refine O.s rfl rfl (Ef.storeOwn 0 (y) ⟨p1.1.1, p1.2.length, p1.1.2⟩ rfl sz43 rfl rfl rfl rfl (by omega) rfl) ?_
                  rintro _ _ rfl
                  refine O.nil ?_
                  refine X.blockNormal ?_
                  refine X.next ?_
                  refine V.region ?_
                  refine O.p rfl rfl rfl (Pu.move rfl rfl) ?_
                  refine O.p rfl rfl rfl (Pu.add64 (r := ((set + 1 : Nat) : Int)) rfl (by omega) rfl rfl rfl) ?_
                  refine O.p rfl rfl rfl (Pu.assign rfl rfl) ?_
                  refine O.nil ?_
                  refine X.map (fun w hw => put_heap (y := y) (ps := out) (xs := p1.2) (z := (⟨p1.1.1, p1.2.length, p1.1.2⟩ : Sl)) (by omega) (hw.sub (Sub.keep 0 rfl (Sub.keep 2 rfl (Sub.keep 1 rfl (Sub.keep 0 rfl (Sub.keep 0 rfl (Sub.nil _)))))))) ?_
                  exact X.back3 (A5, k2, (out.take y ++ ((⟨p1.1.1, p1.2.length, p1.1.2⟩ : Sl), p1.2) :: out.drop y), set + 1) (by (try dsimp only); exact ⟨⟨by omega, by omega⟩, by rw [subsL_yes hsub, ← hp1]; exact insQ_perm hpm, by rw [conts_put]; exact insQ hsr (by rw [conts_len]; omega) hy2 (fun h0 => by first | omega | (rw [conts_get]; assumption)), by simp only [List.length_append, List.length_cons, List.length_take, List.length_drop]; omega⟩) (by first | omega | (dsimp only; omega)) (Ent.cons' rfl (by simp only [tops_put, List.length_append, List.length_cons, List.length_take, List.length_drop, List.length_nil]; congr 1; omega) (Ent.cons rfl (Ent.nil _))) (Ent.cons (t := 1) rfl (Ent.nil _)) (Sub.keep 0 rfl (Sub.keep 0 rfl (Sub.keep 1 rfl (Sub.nil _))))
          · skip
            refine O.gs rfl rfl rfl rfl rfl rfl ?_
            refine O.gs rfl rfl rfl rfl rfl rfl ?_
            refine O.p rfl rfl rfl (Pu.pickF rfl rfl rfl) ?_
            refine O.p rfl rfl rfl (Pu.move rfl rfl) ?_
            refine O.gs rfl rfl rfl rfl rfl rfl ?_
            refine O.gs rfl rfl rfl rfl rfl rfl ?_
            refine O.p rfl rfl rfl (Pu.pickF rfl rfl rfl) ?_
            refine O.p rfl rfl rfl (Pu.move rfl rfl) ?_
            refine O.gp rfl rfl rfl rfl rfl (Pu.loadAgg rfl ag30 sz30 rfl rfl (Ld.whole 2 rfl)) ?_
            refine O.gp rfl rfl rfl rfl rfl (Pu.move rfl rfl) ?_
            refine O.ge rfl rfl rfl rfl rfl (Ef.callP call114 rfl rfl (fun w hw => l07Subsystem_ok  v bs set _ _ w ((Ld.old hx) w hw) (by first | omega | (simp only [tops_len, conts_len, bl, List.length_append, List.length_cons, List.length_nil] at *; omega)) hg (by omega) hfew)) ?_
            rintro _ _ ⟨rfl, rfl⟩
            refine O.gp rfl rfl rfl rfl rfl (Pu.not rfl rfl) ?_
            refine O.p rfl rfl rfl (Pu.pickF rfl rfl rfl) ?_
            refine O.nil ?_
            refine X.next ?_
            refine V.condNot rfl (fun c14 => ?_) (fun c14 => ?_)
            · skip
              refine V.exit ?_
              refine X.thenExit ?_
              refine X.blockHit ?_
              refine X.next ?_
              refine V.region ?_
              refine O.p rfl rfl rfl (Pu.move rfl rfl) ?_
              refine O.p rfl rfl rfl (Pu.add64 (r := ((set + 1 : Nat) : Int)) rfl (by omega) rfl rfl rfl) ?_
              refine O.p rfl rfl rfl (Pu.assign rfl rfl) ?_
              refine O.nil ?_
              exact X.back3 (outA, outc, out, set + 1) (by (try dsimp only); exact ⟨⟨by omega, by omega⟩, by rw [subsL_no (fun h => by have q := (subq_iff c1 (by omega)).1 h; first | omega | exact absurd q.2 (by assumption))]; exact hpm, hsr, by omega⟩) (by first | omega | (dsimp only; omega)) (Ent.cons' rfl (by first | rfl | (simp only [tops_append]; done) | (simp only [tops_append]; rfl)) (Ent.cons rfl (Ent.nil _))) (Ent.cons (t := 1) rfl (Ent.nil _)) (Sub.keep 0 rfl (Sub.keep 0 rfl (Sub.keep 0 rfl (Sub.nil _))))
            · skip
              refine V.skip ?_
              refine X.next ?_
              refine V.seq ?_
              have hsub : 3 ≤ ones set ∧ SubQ bs set := (subq_iff c1 (by omega)).2 ⟨by omega, by assumption⟩
              have hpl := pts_len set
              have hps : ∀ q ∈ conts out, q.length ≤ 15 := fun q hq => subsL_small q (hpm.mem_iff.1 hq)
              refine V.region ?_
              refine O.p rfl rfl rfl (Pu.move rfl rfl) ?_
              refine O.e rfl rfl rfl (Ef.call1 call115 rfl rfl (fun w hw => l07Points_ok set w (by omega))) ?_
              rintro _ _ rfl
              refine O.exi (fun p1 => ?_)
              refine O.sep ?_
              refine O.pur ?_
              rintro ⟨rfl, hp1⟩
              refine O.p rfl rfl rfl (Pu.assign rfl rfl) ?_
              refine O.nil ?_
              refine X.next ?_
              refine V.seq ?_
              refine V.region ?_
              refine O.p rfl rfl rfl (Pu.move rfl rfl) ?_
              refine O.p rfl rfl rfl (Pu.len rfl Try.underlying34 rfl) ?_
              refine O.p rfl rfl rfl (Pu.assign rfl rfl) ?_
              refine O.nil ?_
              refine X.next ?_
              refine V.seq ?_
              refine V.region ?_
              refine O.p rfl rfl rfl (Pu.move rfl rfl) ?_
              refine O.p rfl rfl rfl (Pu.move rfl rfl) ?_
              refine O.e rfl rfl rfl (Ef.build SlC ([⟨p1.1.1, p1.2.length, p1.1.2⟩] : List Sl) rfl Try.underlying34 inf43 rfl rfl rfl (by first | decide | (simp; done)) (by kernel_rfl)) ?_
              rintro _ _ ⟨A6, hA6, rfl, rfl⟩
              refine O.e rfl rfl rfl (Ef.append (xs := (tops out)) (ys := ([⟨p1.1.1, p1.2.length, p1.1.2⟩] : List Sl)) 2 rfl Try.underlying34 inf43 rfl rfl rfl rfl rfl rfl hA6 (Ld.own 0 (by exact rfl)) (by simp only [List.length_append, List.length_cons, List.length_nil] at *; omega) (by decide)) ?_
              rintro _ _ ⟨A7, k3, rfl, rfl, hA7⟩
              replace hA7 := hA7 (.inr (by simp))
              refine O.p rfl rfl rfl (Pu.assign rfl rfl) ?_
              refine O.nil ?_
              refine X.next ?_
              refine V.seq ?_
              refine V.block ?_
              refine V.loop3 (β := Nat × (List Sl)) (fun x => [(8, .int .i64 (x.1 : Int))]) _ (fun x => [Own 43 SlC A7 k3 x.2]) _ (fun x => x.1 ≤ out.length ∧ (∀ j (hj : j < (conts out).length), x.1 ≤ j → cfB p1.2 (conts out)[j] < 0) ∧ x.2 = shiftAt (tops out) (⟨p1.1.1, p1.2.length, p1.1.2⟩ : Sl) x.1) (fun x => x.1) ((tops out).length, ((tops out) ++ ([⟨p1.1.1, p1.2.length, p1.1.2⟩] : List Sl))) (by (try dsimp only); exact ⟨by omega, fun j hj h => by rw [conts_len] at hj; omega, shiftAt_start.symm⟩) (Ent.cons rfl (Ent.nil _)) (Ent.cons (t := 1) rfl (Ent.cons (t := 4) rfl (Ent.cons (t := 5) rfl (Ent.cons (t := 7) rfl (Ent.nil _))))) (Sub.keep 2 rfl (Sub.keep 0 rfl (Sub.keep 0 rfl (Sub.keep 0 rfl (Sub.keep 0 rfl (Sub.nil _)))))) ?_
              rintro ⟨y, z⟩ ⟨hy1, hy2, hz⟩
              dsimp only at hy1 hy2 hz ⊢
              subst hz
              have hal : (tops out ++ ([(⟨p1.1.1, p1.2.length, p1.1.2⟩ : Sl)] : List Sl)).length = out.length + 1 := by rw [List.length_append, tops_len]; rfl
              have hzl : (shiftAt (tops out) (⟨p1.1.1, p1.2.length, p1.1.2⟩ : Sl) y).length = out.length + 1 := by rw [shiftAt_len (by rw [tops_len]; omega), tops_len]
              refine V.seq ?_
              refine V.seq ?_
              refine V.region ?_
              refine O.p rfl rfl rfl (Pu.move rfl rfl) ?_
              refine O.p rfl rfl rfl (Pu.gtr rfl rfl rfl) ?_
              refine O.p rfl rfl rfl (Pu.move rfl rfl) ?_
              refine O.splitD 57 rfl (fun c15 => ?_) (fun c15 => ?_)
              · skip
                refine O.gp rfl rfl rfl rfl rfl (Pu.move rfl rfl) ?_
                refine O.gp rfl rfl rfl rfl rfl (Pu.move rfl rfl) ?_
                refine O.gp rfl rfl rfl rfl rfl (Pu.move rfl rfl) ?_
                refine O.gp rfl rfl rfl rfl rfl (Pu.sub64 (r := ((y - 1 : Nat) : Int)) (by omega) (by omega) rfl rfl rfl) ?_
                refine O.gp rfl rfl rfl rfl rfl (Pu.indexAddrS (y - 1) rfl Try.underlying34 sz43 rfl rfl (by omega) (by omega) (fun w hw => Own.some hw (i := 0) (by exact rfl) (by omega))) ?_
                have ea : y - 1 < out.length := by omega
                have hsl : y - 1 < (shiftAt (tops out) (⟨p1.1.1, p1.2.length, p1.1.2⟩ : Sl) y).length := by omega
                refine O.gp rfl rfl rfl rfl rfl (Pu.cast (v := .slice (out[y - 1]'ea).1.A (out[y - 1]'ea).2.length (out[y - 1]'ea).1.c) (shift_v hn_out hy1 (by omega) hsl) (Pu.load rfl pl43 rfl (Ld.rd (Ld.own 0 (by exact rfl)) (k := y - 1) hsl rfl rfl))) ?_
                refine O.ge rfl rfl rfl rfl rfl (Ef.callP call116 rfl rfl (fun w hw => l07Before_ok  (p1.2) ((out[y - 1]'ea).2) _ _ _ _ w ((Ld.own 2 (by exact rfl)) w hw) ((Ld.rows 3 (by exact rfl) ea) w hw) (by rw [hp1]; omega) (by have := hps _ (List.mem_map_of_mem (f := fun p : Sl × List Int => p.2) (List.getElem_mem ea)); omega) )) ?_
                rintro _ _ ⟨rfl, rfl⟩
                refine O.p rfl rfl rfl (Pu.pickT rfl rfl rfl) ?_
                refine O.nil ?_
                refine X.next ?_
                refine V.condD rfl (fun c16 => ?_) (fun c16 => ?_)
                · skip
                  refine V.skip ?_
                  refine X.next ?_
                  refine V.block ?_
                  refine V.seq ?_
                  refine V.region ?_
                  refine O.p rfl rfl rfl (Pu.move rfl rfl) ?_
                  refine O.p rfl rfl rfl (Pu.move rfl rfl) ?_
                  refine O.p rfl rfl rfl (Pu.move rfl rfl) ?_
                  refine O.p rfl rfl rfl (Pu.move rfl rfl) ?_
                  refine O.p rfl rfl rfl (Pu.sub64 (r := ((y - 1 : Nat) : Int)) (by omega) (by omega) rfl rfl rfl) ?_
                  refine O.p rfl rfl rfl (Pu.indexAddrS (y - 1) rfl Try.underlying34 sz43 rfl rfl (by omega) (by omega) (fun w hw => Own.some hw (i := 0) (by exact rfl) (by omega))) ?_
                  have e3 : y - 1 < (shiftAt (tops out) (⟨p1.1.1, p1.2.length, p1.1.2⟩ : Sl) y).length := hsl
                  refine O.p rfl rfl rfl (Pu.load rfl pl43 rfl (Ld.rd (Ld.own 0 (by exact rfl)) (k := y - 1) e3 rfl rfl)) ?_
                  refine O.p rfl rfl rfl (Pu.indexAddrS (y) rfl Try.underlying34 sz43 rfl rfl (by omega) (by omega) (fun w hw => Own.some hw (i := 0) (by exact rfl) (by omega))) ?_
                  refine O.s rfl rfl (Ef.storeOwn 0 (y) ((shiftAt (tops out) (⟨p1.1.1, p1.2.length, p1.1.2⟩ : Sl) y)[y - 1]'e3) rfl sz43 rfl rfl rfl rfl (by omega) rfl) ?_
                  rintro _ _ rfl
                  refine O.nil ?_
                  refine X.next ?_
                  refine V.region ?_
                  refine O.p rfl rfl rfl (Pu.move rfl rfl) ?_
                  refine O.p rfl rfl rfl (Pu.sub64 (r := ((y - 1 : Nat) : Int)) (by omega) (by omega) rfl rfl rfl) ?_
                  refine O.p rfl rfl rfl (Pu.assign rfl rfl) ?_
                  refine O.nil ?_
                  refine X.blockNormal ?_
                  exact X.back3 (y - 1, ((shiftAt (tops out) (⟨p1.1.1, p1.2.length, p1.1.2⟩ : Sl) y).set (y) ((shiftAt (tops out) (⟨p1.1.1, p1.2.length, p1.1.2⟩ : Sl) y)[y - 1]'e3))) (by (try dsimp only); exact ⟨by omega, fun j hj h => by by_cases e : j = y - 1; (· subst e; rw [conts_get]; assumption); (· exact hy2 j hj (by omega)), shiftAt_step (by rw [tops_len]; omega) (by omega) _⟩) (by first | omega | (dsimp only; omega)) (Ent.cons rfl (Ent.nil _)) (Ent.cons (t := 1) rfl (Ent.cons (t := 4) rfl (Ent.cons (t := 5) rfl (Ent.cons (t := 7) rfl (Ent.nil _))))) (Sub.keep 0 rfl (Sub.keep 0 rfl (Sub.keep 0 rfl (Sub.keep 0 rfl (Sub.keep 0 rfl (Sub.nil _))))))
                · skip
                  refine V.exit ?_
                  refine X.thenExit ?_
                  refine X.thenExit ?_
                  refine X.blockHit ?_
                  refine X.next ?_
                  refine V.region ?_
                  refine O.p rfl rfl rfl (Pu.move rfl rfl) ?_
                  refine O.p rfl rfl rfl (Pu.move rfl rfl) ?_
                  refine O.p rfl rfl rfl (Pu.move rfl rfl) ?_
                  refine O.p rfl rfl rfl (Pu.indexAddrS (y) rfl Try.underlying34 sz43 rfl rfl (by omega) (by omega) (fun w hw => Own.some hw (i := 0) (by exact rfl) (by omega))) ?_
                  refine O.s rfl rfl (Ef.storeOwn 0 (y) ⟨p1.1.1, p1.2.length, p1.1.2⟩ rfl sz43 rfl rfl rfl rfl (by omega) rfl) ?_
                  rintro _ _ rfl
                  refine O.nil ?_
                  refine X.blockNormal ?_
                  refine X.next ?_
                  refine V.region ?_
                  refine O.p rfl rfl rfl (Pu.move rfl rfl) ?_
                  refine O.p rfl rfl rfl (Pu.add64 (r := ((set + 1 : Nat) : Int)) rfl (by omega) rfl rfl rfl) ?_
                  refine O.p rfl rfl rfl (Pu.assign rfl rfl) ?_
                  refine O.nil ?_
                  refine X.map (fun w hw => put_heap (y := y) (ps := out) (xs := p1.2) (z := (⟨p1.1.1, p1.2.length, p1.1.2⟩ : Sl)) (by omega) (hw.sub (Sub.keep 0 rfl (Sub.keep 2 rfl (Sub.keep 1 rfl (Sub.keep 0 rfl (Sub.keep 0 rfl (Sub.nil _)))))))) ?_
                  exact X.back3 (A7, k3, (out.take y ++ ((⟨p1.1.1, p1.2.length, p1.1.2⟩ : Sl), p1.2) :: out.drop y), set + 1) (by (try dsimp only); exact ⟨⟨by omega, by omega⟩, by rw [subsL_yes hsub, ← hp1]; exact insQ_perm hpm, by rw [conts_put]; exact insQ hsr (by rw [conts_len]; omega) hy2 (fun h0 => by first | omega | (rw [conts_get]; assumption)), by simp only [List.length_append, List.length_cons, List.length_take, List.length_drop]; omega⟩) (by first | omega | (dsimp only; omega)) (Ent.cons' rfl (by simp only [tops_put, List.length_append, List.length_cons, List.length_take, List.length_drop, List.length_nil]; congr 1; omega) (Ent.cons rfl (Ent.nil _))) (Ent.cons (t := 1) rfl (Ent.nil _)) (Sub.keep 0 rfl (Sub.keep 0 rfl (Sub.keep 1 rfl (Sub.nil _))))
              · skip
                refine O.gs rfl rfl rfl rfl rfl rfl ?_
                refine O.gs rfl rfl rfl rfl rfl rfl ?_
                refine O.gs rfl rfl rfl rfl rfl rfl ?_
                refine O.gs rfl rfl rfl rfl rfl rfl ?_
                refine O.gs rfl rfl rfl rfl rfl rfl ?_
                refine O.gs rfl rfl rfl rfl rfl rfl ?_
                refine O.gs rfl rfl rfl rfl rfl rfl ?_
                refine O.p rfl rfl rfl (Pu.pickF rfl rfl rfl) ?_
                refine O.nil ?_
                refine X.next ?_
                refine V.condF rfl ?_
                refine V.exit ?_
                refine X.thenExit ?_
                refine X.thenExit ?_
                refine X.blockHit ?_
                refine X.next ?_
                refine V.region ?_
                refine O.p rfl rfl rfl (Pu.move rfl rfl) ?_
                refine O.p rfl rfl rfl (Pu.move rfl rfl) ?_
                refine O.p rfl rfl rfl (Pu.move rfl rfl) ?_
                refine O.p rfl rfl rfl (Pu.indexAddrS (y) rfl Try.underlying34 sz43 rfl rfl (by omega) (by omega) (fun w hw => Own.some hw (i := 0) (by exact rfl) (by omega))) ?_
                refine O.s rfl rfl (Ef.storeOwn 0 (y) ⟨p1.1.1, p1.2.length, p1.1.2⟩ rfl sz43 rfl rfl rfl rfl (by omega) rfl) ?_
                rintro _ _ rfl
                refine O.nil ?_
                refine X.blockNormal ?_
                refine X.next ?_
                refine V.region ?_
                refine O.p rfl rfl rfl (Pu.move rfl rfl) ?_
                refine O.p rfl rfl rfl (Pu.add64 (r := ((set + 1 : Nat) : Int)) rfl (by omega) rfl rfl rfl) ?_
                refine O.p rfl rfl rfl (Pu.assign rfl rfl) ?_
                refine O.nil ?_
                refine X.map (fun w hw => put_heap (y := y) (ps := out) (xs := p1.2) (z := (⟨p1.1.1, p1.2.length, p1.1.2⟩ : Sl)) (by omega) (hw.sub (Sub.keep 0 rfl (Sub.keep 2 rfl (Sub.keep 1 rfl (Sub.keep 0 rfl (Sub.keep 0 rfl (Sub.nil _)))))))) ?_
                exact X.back3 (A7, k3, (out.take y ++ ((⟨p1.1.1, p1.2.length, p1.1.2⟩ : Sl), p1.2) :: out.drop y), set + 1) (by (try dsimp only); exact ⟨⟨by omega, by omega⟩, by rw [subsL_yes hsub, ← hp1]; exact insQ_perm hpm, by rw [conts_put]; exact insQ hsr (by rw [conts_len]; omega) hy2 (fun h0 => by first | omega | (rw [conts_get]; assumption)), by simp only [List.length_append, List.length_cons, List.length_take, List.length_drop]; omega⟩) (by first | omega | (dsimp only; omega)) (Ent.cons' rfl (by simp only [tops_put, List.length_append, List.length_cons, List.length_take, List.length_drop, List.length_nil]; congr 1; omega) (Ent.cons rfl (Ent.nil _))) (Ent.cons (t := 1) rfl (Ent.nil _)) (Sub.keep 0 rfl (Sub.keep 0 rfl (Sub.keep 1 rfl (Sub.nil _))))
        · skip
          refine O.gs rfl rfl rfl rfl rfl rfl ?_
          refine O.gs rfl rfl rfl rfl rfl rfl ?_
          refine O.p rfl rfl rfl (Pu.pickF rfl rfl rfl) ?_
          refine O.p rfl rfl rfl (Pu.move rfl rfl) ?_
          refine O.gs rfl rfl rfl rfl rfl rfl ?_
          refine O.gs rfl rfl rfl rfl rfl rfl ?_
          refine O.p rfl rfl rfl (Pu.pickF rfl rfl rfl) ?_
          refine O.p rfl rfl rfl (Pu.move rfl rfl) ?_
          refine O.gs rfl rfl rfl rfl rfl rfl ?_
          refine O.gs rfl rfl rfl rfl rfl rfl ?_
          refine O.p rfl rfl rfl (Pu.pickF rfl rfl rfl) ?_
          refine O.p rfl rfl rfl (Pu.move rfl rfl) ?_
          refine O.gp rfl rfl rfl rfl rfl (Pu.loadAgg rfl ag30 sz30 rfl rfl (Ld.whole 2 rfl)) ?_
          refine O.gp rfl rfl rfl rfl rfl (Pu.move rfl rfl) ?_
          refine O.ge rfl rfl rfl rfl rfl (Ef.callP call114 rfl rfl (fun w hw => l07Subsystem_ok  v bs set _ _ w ((Ld.old hx) w hw) (by first | omega | (simp only [tops_len, conts_len, bl, List.length_append, List.length_cons, List.length_nil] at *; omega)) hg (by omega) hfew)) ?_
          rintro _ _ ⟨rfl, rfl⟩
          refine O.gp rfl rfl rfl rfl rfl (Pu.not rfl rfl) ?_
          refine O.p rfl rfl rfl (Pu.pickF rfl rfl rfl) ?_
          refine O.nil ?_
          refine X.next ?_
          refine V.condNot rfl (fun c17 => ?_) (fun c17 => ?_)
          · skip
            refine V.exit ?_
            refine X.thenExit ?_
            refine X.blockHit ?_
            refine X.next ?_
            refine V.region ?_
            refine O.p rfl rfl rfl (Pu.move rfl rfl) ?_
            refine O.p rfl rfl rfl (Pu.add64 (r := ((set + 1 : Nat) : Int)) rfl (by omega) rfl rfl rfl) ?_
            refine O.p rfl rfl rfl (Pu.assign rfl rfl) ?_
            refine O.nil ?_
            exact X.back3 (outA, outc, out, set + 1) (by (try dsimp only); exact ⟨⟨by omega, by omega⟩, by rw [subsL_no (fun h => by have q := (subq_iff c1 (by omega)).1 h; first | omega | exact absurd q.2 (by assumption))]; exact hpm, hsr, by omega⟩) (by first | omega | (dsimp only; omega)) (Ent.cons' rfl (by first | rfl | (simp only [tops_append]; done) | (simp only [tops_append]; rfl)) (Ent.cons rfl (Ent.nil _))) (Ent.cons (t := 1) rfl (Ent.nil _)) (Sub.keep 0 rfl (Sub.keep 0 rfl (Sub.keep 0 rfl (Sub.nil _))))
          · skip
            refine V.skip ?_
            refine X.next ?_
            refine V.seq ?_
            have hsub : 3 ≤ ones set ∧ SubQ bs set := (subq_iff c1 (by omega)).2 ⟨by omega, by assumption⟩
            have hpl := pts_len set
            have hps : ∀ q ∈ conts out, q.length ≤ 15 := fun q hq => subsL_small q (hpm.mem_iff.1 hq)
            refine V.region ?_
            refine O.p rfl rfl rfl (Pu.move rfl rfl) ?_
            refine O.e rfl rfl rfl (Ef.call1 call115 rfl rfl (fun w hw => l07Points_ok set w (by omega))) ?_
            rintro _ _ rfl
            refine O.exi (fun p1 => ?_)
            refine O.sep ?_
            refine O.pur ?_
            rintro ⟨rfl, hp1⟩
            refine O.p rfl rfl rfl (Pu.assign rfl rfl) ?_
            refine O.nil ?_
            refine X.next ?_
            refine V.seq ?_
            refine V.region ?_
            refine O.p rfl rfl rfl (Pu.move rfl rfl) ?_
            refine O.p rfl rfl rfl (Pu.len rfl Try.underlying34 rfl) ?_
            refine O.p rfl rfl rfl (Pu.assign rfl rfl) ?_
            refine O.nil ?_
            refine X.next ?_
            refine V.seq ?_
            refine V.region ?_
            refine O.p rfl rfl rfl (Pu.move rfl rfl) ?_
            refine O.p rfl rfl rfl (Pu.move rfl rfl) ?_
            refine O.e rfl rfl rfl (Ef.build SlC ([⟨p1.1.1, p1.2.length, p1.1.2⟩] : List Sl) rfl Try.underlying34 inf43 rfl rfl rfl (by first | decide | (simp; done)) (by kernel_rfl)) ?_
            rintro _ _ ⟨A8, hA8, rfl, rfl⟩
            refine O.e rfl rfl rfl (Ef.append (xs := (tops out)) (ys := ([⟨p1.1.1, p1.2.length, p1.1.2⟩] : List Sl)) 2 rfl Try.underlying34 inf43 rfl rfl rfl rfl rfl rfl hA8 (Ld.own 0 (by exact rfl)) (by simp only [List.length_append, List.length_cons, List.length_nil] at *; omega) (by decide)) ?_
            rintro _ _ ⟨A9, k4, rfl, rfl, hA9⟩
            replace hA9 := hA9 (.inr (by simp))
            refine O.p rfl rfl rfl (Pu.assign rfl rfl) ?_
            refine O.nil ?_
            refine X.next ?_
            refine V.seq ?_
            refine V.block ?_
            refine V.loop3 (β := Nat × (List Sl)) (fun x => [(8, .int .i64 (x.1 : Int))]) _ (fun x => [Own 43 SlC A9 k4 x.2]) _ (fun x => x.1 ≤ out.length ∧ (∀ j (hj : j < (conts out).length), x.1 ≤ j → cfB p1.2 (conts out)[j] < 0) ∧ x.2 = shiftAt (tops out) (⟨p1.1.1, p1.2.length, p1.1.2⟩ : Sl) x.1) (fun x => x.1) ((tops out).length, ((tops out) ++ ([⟨p1.1.1, p1.2.length, p1.1.2⟩] : List Sl))) (by (try dsimp only); exact ⟨by omega, fun j hj h => by rw [conts_len] at hj; omega, shiftAt_start.symm⟩) (Ent.cons rfl (Ent.nil _)) (Ent.cons (t := 1) rfl (Ent.cons (t := 4) rfl (Ent.cons (t := 5) rfl (Ent.cons (t := 7) rfl (Ent.nil _))))) (Sub.keep 2 rfl (Sub.keep 0 rfl (Sub.keep 0 rfl (Sub.keep 0 rfl (Sub.keep 0 rfl (Sub.nil _)))))) ?_
            rintro ⟨y, z⟩ ⟨hy1, hy2, hz⟩
            dsimp only at hy1 hy2 hz ⊢
            subst hz
            have hal : (tops out ++ ([(⟨p1.1.1, p1.2.length, p1.1.2⟩ : Sl)] : List Sl)).length = out.length + 1 := by rw [List.length_append, tops_len]; rfl
            have hzl : (shiftAt (tops out) (⟨p1.1.1, p1.2.length, p1.1.2⟩ : Sl) y).length = out.length + 1 := by rw [shiftAt_len (by rw [tops_len]; omega), tops_len]
            refine V.seq ?_
            refine V.seq ?_
            refine V.region ?_
            refine O.p rfl rfl rfl (Pu.move rfl rfl) ?_
            refine O.p rfl rfl rfl (Pu.gtr rfl rfl rfl) ?_
            refine O.p rfl rfl rfl (Pu.move rfl rfl) ?_
            refine O.splitD 57 rfl (fun c18 => ?_) (fun c18 => ?_)
            · skip
              refine O.gp rfl rfl rfl rfl rfl (Pu.move rfl rfl) ?_
              refine O.gp rfl rfl rfl rfl rfl (Pu.move rfl rfl) ?_
              refine O.gp rfl rfl rfl rfl rfl (Pu.move rfl rfl) ?_
              refine O.gp rfl rfl rfl rfl rfl (Pu.sub64 (r := ((y - 1 : Nat) : Int)) (by omega) (by omega) rfl rfl rfl) ?_
              refine O.gp rfl rfl rfl rfl rfl (Pu.indexAddrS (y - 1) rfl Try.underlying34 sz43 rfl rfl (by omega) (by omega) (fun w hw => Own.some hw (i := 0) (by exact rfl) (by omega))) ?_
              have ea : y - 1 < out.length := by omega
              have hsl : y - 1 < (shiftAt (tops out) (⟨p1.1.1, p1.2.length, p1.1.2⟩ : Sl) y).length := by omega
              refine O.gp rfl rfl rfl rfl rfl (Pu.cast (v := .slice (out[y - 1]'ea).1.A (out[y - 1]'ea).2.length (out[y - 1]'ea).1.c) (shift_v hn_out hy1 (by omega) hsl) (Pu.load rfl pl43 rfl (Ld.rd (Ld.own 0 (by exact rfl)) (k := y - 1) hsl rfl rfl))) ?_
              refine O.ge rfl rfl rfl rfl rfl (Ef.callP call116 rfl rfl (fun w hw => l07Before_ok  (p1.2) ((out[y - 1]'ea).2) _ _ _ _ w ((Ld.own 2 (by exact rfl)) w hw) ((Ld.rows 3 (by exact rfl) ea) w hw) (by rw [hp1]; omega) (by have := hps _ (List.mem_map_of_mem (f := fun p : Sl × List Int => p.2) (List.getElem_mem ea)); omega) )) ?_
              rintro _ _ ⟨rfl, rfl⟩
              refine O.p rfl rfl rfl (Pu.pickT rfl rfl rfl) ?_
              refine O.nil ?_
              refine X.next ?_
              refine V.condD rfl (fun c19 => ?_) (fun c19 => ?_)
              · skip
                refine V.skip ?_
                refine X.next ?_
                refine V.block ?_
                refine V.seq ?_
                refine V.region ?_
                refine O.p rfl rfl rfl (Pu.move rfl rfl) ?_
                refine O.p rfl rfl rfl (Pu.move rfl rfl) ?_
                refine O.p rfl rfl rfl (Pu.move rfl rfl) ?_
                refine O.p rfl rfl rfl (Pu.move rfl rfl) ?_
                refine O.p rfl rfl rfl (Pu.sub64 (r := ((y - 1 : Nat) : Int)) (by omega) (by omega) rfl rfl rfl) ?_
                refine O.p rfl rfl rfl (Pu.indexAddrS (y - 1) rfl Try.underlying34 sz43 rfl rfl (by omega) (by omega) (fun w hw => Own.some hw (i := 0) (by exact rfl) (by omega))) ?_
                have e4 : y - 1 < (shiftAt (tops out) (⟨p1.1.1, p1.2.length, p1.1.2⟩ : Sl) y).length := hsl
                refine O.p rfl rfl rfl (Pu.load rfl pl43 rfl (Ld.rd (Ld.own 0 (by exact rfl)) (k := y - 1) e4 rfl rfl)) ?_
                refine O.p rfl rfl rfl (Pu.indexAddrS (y) rfl Try.underlying34 sz43 rfl rfl (by omega) (by omega) (fun w hw => Own.some hw (i := 0) (by exact rfl) (by omega))) ?_
                refine O.s rfl rfl (Ef.storeOwn 0 (y) ((shiftAt (tops out) (⟨p1.1.1, p1.2.length, p1.1.2⟩ : Sl) y)[y - 1]'e4) rfl sz43 rfl rfl rfl rfl (by omega) rfl) ?_
                rintro _ _ rfl
                refine O.nil ?_
                refine X.next ?_
                refine V.region ?_
                refine O.p rfl rfl rfl (Pu.move rfl rfl) ?_
                refine O.p rfl rfl rfl (Pu.sub64 (r := ((y - 1 : Nat) : Int)) (by omega) (by omega) rfl rfl rfl) ?_
                refine O.p rfl rfl rfl (Pu.assign rfl rfl) ?_
                refine O.nil ?_
                refine X.blockNormal ?_
                exact X.back3 (y - 1, ((shiftAt (tops out) (⟨p1.1.1, p1.2.length, p1.1.2⟩ : Sl) y).set (y) ((shiftAt (tops out) (⟨p1.1.1, p1.2.length, p1.1.2⟩ : Sl) y)[y - 1]'e4))) (by (try dsimp only); exact ⟨by omega, fun j hj h => by by_cases e : j = y - 1; (· subst e; rw [conts_get]; assumption); (· exact hy2 j hj (by omega)), shiftAt_step (by rw [tops_len]; omega) (by omega) _⟩) (by first | omega | (dsimp only; omega)) (Ent.cons rfl (Ent.nil _)) (Ent.cons (t := 1) rfl (Ent.cons (t := 4) rfl (Ent.cons (t := 5) rfl (Ent.cons (t := 7) rfl (Ent.nil _))))) (Sub.keep 0 rfl (Sub.keep 0 rfl (Sub.keep 0 rfl (Sub.keep 0 rfl (Sub.keep 0 rfl (Sub.nil _))))))
              · skip
                refine V.exit ?_
                refine X.thenExit ?_
                refine X.thenExit ?_
                refine X.blockHit ?_
                refine X.next ?_
                refine V.region ?_
                refine O.p rfl rfl rfl (Pu.move rfl rfl) ?_
                refine O.p rfl rfl rfl (Pu.move rfl rfl) ?_
                refine O.p rfl rfl rfl (Pu.move rfl rfl) ?_
                refine O.p rfl rfl rfl (Pu.indexAddrS (y) rfl Try.underlying34 sz43 rfl rfl (by omega) (by omega) (fun w hw => Own.some hw (i := 0) (by exact rfl) (by omega))) ?_
                refine O.s rfl rfl (Ef.storeOwn 0 (y) ⟨p1.1.1, p1.2.length, p1.1.2⟩ rfl sz43 rfl rfl rfl rfl (by omega) rfl) ?_
                rintro _ _ rfl
                refine O.nil ?_
                refine X.blockNormal ?_
                refine X.next ?_
                refine V.region ?_
                refine O.p rfl rfl rfl (Pu.move rfl rfl) ?_
                refine O.p rfl rfl rfl (Pu.add64 (r := ((set + 1 : Nat) : Int)) rfl (by omega) rfl rfl rfl) ?_
                refine O.p rfl rfl rfl (Pu.assign rfl rfl) ?_
                refine O.nil ?_
                refine X.map (fun w hw => put_heap (y := y) (ps := out) (xs := p1.2) (z := (⟨p1.1.1, p1.2.length, p1.1.2⟩ : Sl)) (by omega) (hw.sub (Sub.keep 0 rfl (Sub.keep 2 rfl (Sub.keep 1 rfl (Sub.keep 0 rfl (Sub.keep 0 rfl (Sub.nil _)))))))) ?_
                exact X.back3 (A9, k4, (out.take y ++ ((⟨p1.1.1, p1.2.length, p1.1.2⟩ : Sl), p1.2) :: out.drop y), set + 1) (by (try dsimp only); exact ⟨⟨by omega, by omega⟩, by rw [subsL_yes hsub, ← hp1]; exact insQ_perm hpm, by rw [conts_put]; exact insQ hsr (by rw [conts_len]; omega) hy2 (fun h0 => by first | omega | (rw [conts_get]; assumption)), by simp only [List.length_append, List.length_cons, List.length_take, List.length_drop]; omega⟩) (by first | omega | (dsimp only; omega)) (Ent.cons' rfl (by simp only [tops_put, List.length_append, List.length_cons, List.length_take, List.length_drop, List.length_nil]; congr 1; omega) (Ent.cons rfl (Ent.nil _))) (Ent.cons (t := 1) rfl (Ent.nil _)) (Sub.keep 0 rfl (Sub.keep 0 rfl (Sub.keep 1 rfl (Sub.nil _))))
            · skip
              refine O.gs rfl rfl rfl rfl rfl rfl ?_
              refine O.gs rfl rfl rfl rfl rfl rfl ?_
              refine O.gs rfl rfl rfl rfl rfl rfl ?_
              refine O.gs rfl rfl rfl rfl rfl rfl ?_
              refine O.gs rfl rfl rfl rfl rfl rfl ?_
              refine O.gs rfl rfl rfl rfl rfl rfl ?_
              refine O.gs rfl rfl rfl rfl rfl rfl ?_
              refine O.p rfl rfl rfl (Pu.pickF rfl rfl rfl) ?_
              refine O.nil ?_
              refine X.next ?_
              refine V.condF rfl ?_
              refine V.exit ?_
              refine X.thenExit ?_
              refine X.thenExit ?_
              refine X.blockHit ?_
              refine X.next ?_
              refine V.region ?_
              refine O.p rfl rfl rfl (Pu.move rfl rfl) ?_
              refine O.p rfl rfl rfl (Pu.move rfl rfl) ?_
              refine O.p rfl rfl rfl (Pu.move rfl rfl) ?_
              refine O.p rfl rfl rfl (Pu.indexAddrS (y) rfl Try.underlying34 sz43 rfl rfl (by omega) (by omega) (fun w hw => Own.some hw (i := 0) (by exact rfl) (by omega))) ?_
              refine O.s rfl rfl (Ef.storeOwn 0 (y) ⟨p1.1.1, p1.2.length, p1.1.2⟩ rfl sz43 rfl rfl rfl rfl (by omega) rfl) ?_
              rintro _ _ rfl
              refine O.nil ?_
              refine X.blockNormal ?_
              refine X.next ?_
              refine V.region ?_
              refine O.p rfl rfl rfl (Pu.move rfl rfl) ?_
              refine O.p rfl rfl rfl (Pu.add64 (r := ((set + 1 : Nat) : Int)) rfl (by omega) rfl rfl rfl) ?_
              refine O.p rfl rfl rfl (Pu.assign rfl rfl) ?_
              refine O.nil ?_
              refine X.map (fun w hw => put_heap (y := y) (ps := out) (xs := p1.2) (z := (⟨p1.1.1, p1.2.length, p1.1.2⟩ : Sl)) (by omega) (hw.sub (Sub.keep 0 rfl (Sub.keep 2 rfl (Sub.keep 1 rfl (Sub.keep 0 rfl (Sub.keep 0 rfl (Sub.nil _)))))))) ?_
              exact X.back3 (A9, k4, (out.take y ++ ((⟨p1.1.1, p1.2.length, p1.1.2⟩ : Sl), p1.2) :: out.drop y), set + 1) (by (try dsimp only); exact ⟨⟨by omega, by omega⟩, by rw [subsL_yes hsub, ← hp1]; exact insQ_perm hpm, by rw [conts_put]; exact insQ hsr (by rw [conts_len]; omega) hy2 (fun h0 => by first | omega | (rw [conts_get]; assumption)), by simp only [List.length_append, List.length_cons, List.length_take, List.length_drop]; omega⟩) (by first | omega | (dsimp only; omega)) (Ent.cons' rfl (by simp only [tops_put, List.length_append, List.length_cons, List.length_take, List.length_drop, List.length_nil]; congr 1; omega) (Ent.cons rfl (Ent.nil _))) (Ent.cons (t := 1) rfl (Ent.nil _)) (Sub.keep 0 rfl (Sub.keep 0 rfl (Sub.keep 1 rfl (Sub.nil _))))
      · skip
        refine O.gs rfl rfl rfl rfl rfl rfl ?_
        refine O.gs rfl rfl rfl rfl rfl rfl ?_
        refine O.p rfl rfl rfl (Pu.pickF rfl rfl rfl) ?_
        refine O.p rfl rfl rfl (Pu.move rfl rfl) ?_
        refine O.gs rfl rfl rfl rfl rfl rfl ?_
        refine O.gs rfl rfl rfl rfl rfl rfl ?_
        refine O.p rfl rfl rfl (Pu.pickF rfl rfl rfl) ?_
        refine O.p rfl rfl rfl (Pu.move rfl rfl) ?_
        refine O.gs rfl rfl rfl rfl rfl rfl ?_
        refine O.gs rfl rfl rfl rfl rfl rfl ?_
        refine O.p rfl rfl rfl (Pu.pickF rfl rfl rfl) ?_
        refine O.p rfl rfl rfl (Pu.move rfl rfl) ?_
        refine O.gs rfl rfl rfl rfl rfl rfl ?_
        refine O.gs rfl rfl rfl rfl rfl rfl ?_
        refine O.p rfl rfl rfl (Pu.pickF rfl rfl rfl) ?_
        refine O.p rfl rfl rfl (Pu.move rfl rfl) ?_
        refine O.gp rfl rfl rfl rfl rfl (Pu.loadAgg rfl ag30 sz30 rfl rfl (Ld.whole 2 rfl)) ?_
        refine O.gp rfl rfl rfl rfl rfl (Pu.move rfl rfl) ?_
        refine O.ge rfl rfl rfl rfl rfl (Ef.callP call114 rfl rfl (fun w hw => l07Subsystem_ok  v bs set _ _ w ((Ld.old hx) w hw) (by first | omega | (simp only [tops_len, conts_len, bl, List.length_append, List.length_cons, List.length_nil] at *; omega)) hg (by omega) hfew)) ?_
        rintro _ _ ⟨rfl, rfl⟩
        refine O.gp rfl rfl rfl rfl rfl (Pu.not rfl rfl) ?_
        refine O.p rfl rfl rfl (Pu.pickF rfl rfl rfl) ?_
        refine O.nil ?_
        refine X.next ?_
        refine V.condNot rfl (fun c20 => ?_) (fun c20 => ?_)
        · skip
          refine V.exit ?_
          refine X.thenExit ?_
          refine X.blockHit ?_
          refine X.next ?_
          refine V.region ?_
          refine O.p rfl rfl rfl (Pu.move rfl rfl) ?_
          refine O.p rfl rfl rfl (Pu.add64 (r := ((set + 1 : Nat) : Int)) rfl (by omega) rfl rfl rfl) ?_
          refine O.p rfl rfl rfl (Pu.assign rfl rfl) ?_
          refine O.nil ?_
          exact X.back3 (outA, outc, out, set + 1) (by (try dsimp only); exact ⟨⟨by omega, by omega⟩, by rw [subsL_no (fun h => by have q := (subq_iff c1 (by omega)).1 h; first | omega | exact absurd q.2 (by assumption))]; exact hpm, hsr, by omega⟩) (by first | omega | (dsimp only; omega)) (Ent.cons' rfl (by first | rfl | (simp only [tops_append]; done) | (simp only [tops_append]; rfl)) (Ent.cons rfl (Ent.nil _))) (Ent.cons (t := 1) rfl (Ent.nil _)) (Sub.keep 0 rfl (Sub.keep 0 rfl (Sub.keep 0 rfl (Sub.nil _))))
        · skip
          refine V.skip ?_
          refine X.next ?_
          refine V.seq ?_
          have hsub : 3 ≤ ones set ∧ SubQ bs set := (subq_iff c1 (by omega)).2 ⟨by omega, by assumption⟩
          have hpl := pts_len set
          have hps : ∀ q ∈ conts out, q.length ≤ 15 := fun q hq => subsL_small q (hpm.mem_iff.1 hq)
          refine V.region ?_
          refine O.p rfl rfl rfl (Pu.move rfl rfl) ?_
          refine O.e rfl rfl rfl (Ef.call1 call115 rfl rfl (fun w hw => l07Points_ok set w (by omega))) ?_
          rintro _ _ rfl
          refine O.exi (fun p1 => ?_)
          refine O.sep ?_
          refine O.pur ?_
          rintro ⟨rfl, hp1⟩
          refine O.p rfl rfl rfl (Pu.assign rfl rfl) ?_
          refine O.nil ?_
          refine X.next ?_
          refine V.seq ?_
          refine V.region ?_
          refine O.p rfl rfl rfl (Pu.move rfl rfl) ?_
          refine O.p rfl rfl rfl (Pu.len rfl Try.underlying34 rfl) ?_
          refine O.p rfl rfl rfl (Pu.assign rfl rfl) ?_
          refine O.nil ?_
          refine X.next ?_
          refine V.seq ?_
          refine V.region ?_
          refine O.p rfl rfl rfl (Pu.move rfl rfl) ?_
          refine O.p rfl rfl rfl (Pu.move rfl rfl) ?_
          refine O.e rfl rfl rfl (Ef.build SlC ([⟨p1.1.1, p1.2.length, p1.1.2⟩] : List Sl) rfl Try.underlying34 inf43 rfl rfl rfl (by first | decide | (simp; done)) (by kernel_rfl)) ?_
          rintro _ _ ⟨A10, hA10, rfl, rfl⟩
          refine O.e rfl rfl rfl (Ef.append (xs := (tops out)) (ys := ([⟨p1.1.1, p1.2.length, p1.1.2⟩] : List Sl)) 2 rfl Try.underlying34 inf43 rfl rfl rfl rfl rfl rfl hA10 (Ld.own 0 (by exact rfl)) (by simp only [List.length_append, List.length_cons, List.length_nil] at *; omega) (by decide)) ?_
          rintro _ _ ⟨A11, k5, rfl, rfl, hA11⟩
          replace hA11 := hA11 (.inr (by simp))
          refine O.p rfl rfl rfl (Pu.assign rfl rfl) ?_
          refine O.nil ?_
          refine X.next ?_
          refine V.seq ?_
          refine V.block ?_
          refine V.loop3 (β := Nat × (List Sl)) (fun x => [(8, .int .i64 (x.1 : Int))]) _ (fun x => [Own 43 SlC A11 k5 x.2]) _ (fun x => x.1 ≤ out.length ∧ (∀ j (hj : j < (conts out).length), x.1 ≤ j → cfB p1.2 (conts out)[j] < 0) ∧ x.2 = shiftAt (tops out) (⟨p1.1.1, p1.2.length, p1.1.2⟩ : Sl) x.1) (fun x => x.1) ((tops out).length, ((tops out) ++ ([⟨p1.1.1, p1.2.length, p1.1.2⟩] : List Sl))) (by (try dsimp only); exact ⟨by omega, fun j hj h => by rw [conts_len] at hj; omega, shiftAt_start.symm⟩) (Ent.cons rfl (Ent.nil _)) (Ent.cons (t := 1) rfl (Ent.cons (t := 4) rfl (Ent.cons (t := 5) rfl (Ent.cons (t := 7) rfl (Ent.nil _))))) (Sub.keep 2 rfl (Sub.keep 0 rfl (Sub.keep 0 rfl (Sub.keep 0 rfl (Sub.keep 0 rfl (Sub.nil _)))))) ?_
          rintro ⟨y, z⟩ ⟨hy1, hy2, hz⟩
          dsimp only at hy1 hy2 hz ⊢
          subst hz
          have hal : (tops out ++ ([(⟨p1.1.1, p1.2.length, p1.1.2⟩ : Sl)] : List Sl)).length = out.length + 1 := by rw [List.length_append, tops_len]; rfl
          have hzl : (shiftAt (tops out) (⟨p1.1.1, p1.2.length, p1.1.2⟩ : Sl) y).length = out.length + 1 := by rw [shiftAt_len (by rw [tops_len]; omega), tops_len]
          refine V.seq ?_
          refine V.seq ?_
          refine V.region ?_
          refine O.p rfl rfl rfl (Pu.move rfl rfl) ?_
          refine O.p rfl rfl rfl (Pu.gtr rfl rfl rfl) ?_
          refine O.p rfl rfl rfl (Pu.move rfl rfl) ?_
          refine O.splitD 57 rfl (fun c21 => ?_) (fun c21 => ?_)
          · skip
            refine O.gp rfl rfl rfl rfl rfl (Pu.move rfl rfl) ?_
            refine O.gp rfl rfl rfl rfl rfl (Pu.move rfl rfl) ?_
            refine O.gp rfl rfl rfl rfl rfl (Pu.move rfl rfl) ?_
            refine O.gp rfl rfl rfl rfl rfl (Pu.sub64 (r := ((y - 1 : Nat) : Int)) (by omega) (by omega) rfl rfl rfl) ?_
            refine O.gp rfl rfl rfl rfl rfl (Pu.indexAddrS (y - 1) rfl Try.underlying34 sz43 rfl rfl (by omega) (by omega) (fun w hw => Own.some hw (i := 0) (by exact rfl) (by omega))) ?_
            have ea : y - 1 < out.length := by omega
            have hsl : y - 1 < (shiftAt (tops out) (⟨p1.1.1, p1.2.length, p1.1.2⟩ : Sl) y).length := by omega
            refine O.gp rfl rfl rfl rfl rfl (Pu.cast (v := .slice (out[y - 1]'ea).1.A (out[y - 1]'ea).2.length (out[y - 1]'ea).1.c) (shift_v hn_out hy1 (by omega) hsl) (Pu.load rfl pl43 rfl (Ld.rd (Ld.own 0 (by exact rfl)) (k := y - 1) hsl rfl rfl))) ?_
            refine O.ge rfl rfl rfl rfl rfl (Ef.callP call116 rfl rfl (fun w hw => l07Before_ok  (p1.2) ((out[y - 1]'ea).2) _ _ _ _ w ((Ld.own 2 (by exact rfl)) w hw) ((Ld.rows 3 (by exact rfl) ea) w hw) (by rw [hp1]; omega) (by have := hps _ (List.mem_map_of_mem (f := fun p : Sl × List Int => p.2) (List.getElem_mem ea)); omega) )) ?_
            rintro _ _ ⟨rfl, rfl⟩
            refine O.p rfl rfl rfl (Pu.pickT rfl rfl rfl) ?_
            refine O.nil ?_
            refine X.next ?_
            refine V.condD rfl (fun c22 => ?_) (fun c22 => ?_)
            · skip
              refine V.skip ?_
              refine X.next ?_
              refine V.block ?_
              refine V.seq ?_
              refine V.region ?_
              refine O.p rfl rfl rfl (Pu.move rfl rfl) ?_
              refine O.p rfl rfl rfl (Pu.move rfl rfl) ?_
              refine O.p rfl rfl rfl (Pu.move rfl rfl) ?_
              refine O.p rfl rfl rfl (Pu.move rfl rfl) ?_
              refine O.p rfl rfl rfl (Pu.sub64 (r := ((y - 1 : Nat) : Int)) (by omega) (by omega) rfl rfl rfl) ?_
              refine O.p rfl rfl rfl (Pu.indexAddrS (y - 1) rfl Try.underlying34 sz43 rfl rfl (by omega) (by omega) (fun w hw => Own.some hw (i := 0) (by exact rfl) (by omega))) ?_
              have e5 : y - 1 < (shiftAt (tops out) (⟨p1.1.1, p1.2.length, p1.1.2⟩ : Sl) y).length := hsl
              refine O.p rfl rfl rfl (Pu.load rfl pl43 rfl (Ld.rd (Ld.own 0 (by exact rfl)) (k := y - 1) e5 rfl rfl)) ?_
              refine O.p rfl rfl rfl (Pu.indexAddrS (y) rfl Try.underlying34 sz43 rfl rfl (by omega) (by omega) (fun w hw => Own.some hw (i := 0) (by exact rfl) (by omega))) ?_
              refine O.s rfl rfl (Ef.storeOwn 0 (y) ((shiftAt (tops out) (⟨p1.1.1, p1.2.length, p1.1.2⟩ : Sl) y)[y - 1]'e5) rfl sz43 rfl rfl rfl rfl (by omega) rfl) ?_
              rintro _ _ rfl
              refine O.nil ?_
              refine X.next ?_
              refine V.region ?_
              refine O.p rfl rfl rfl (Pu.move rfl rfl) ?_
              refine O.p rfl rfl rfl (Pu.sub64 (r := ((y - 1 : Nat) : Int)) (by omega) (by omega) rfl rfl rfl) ?_
              refine O.p rfl rfl rfl (Pu.assign rfl rfl) ?_
              refine O.nil ?_
              refine X.blockNormal ?_
              exact X.back3 (y - 1, ((shiftAt (tops out) (⟨p1.1.1, p1.2.length, p1.1.2⟩ : Sl) y).set (y) ((shiftAt (tops out) (⟨p1.1.1, p1.2.length, p1.1.2⟩ : Sl) y)[y - 1]'e5))) (by (try dsimp only); exact ⟨by omega, fun j hj h => by by_cases e : j = y - 1; (· subst e; rw [conts_get]; assumption); (· exact hy2 j hj (by omega)), shiftAt_step (by rw [tops_len]; omega) (by omega) _⟩) (by first | omega | (dsimp only; omega)) (Ent.cons rfl (Ent.nil _)) (Ent.cons (t := 1) rfl (Ent.cons (t := 4) rfl (Ent.cons (t := 5) rfl (Ent.cons (t := 7) rfl (Ent.nil _))))) (Sub.keep 0 rfl (Sub.keep 0 rfl (Sub.keep 0 rfl (Sub.keep 0 rfl (Sub.keep 0 rfl (Sub.nil _))))))
            · skip
              refine V.exit ?_
              refine X.thenExit ?_
              refine X.thenExit ?_
              refine X.blockHit ?_
              refine X.next ?_
              refine V.region ?_
              refine O.p rfl rfl rfl (Pu.move rfl rfl) ?_
              refine O.p rfl rfl rfl (Pu.move rfl rfl) ?_
              refine O.p rfl rfl rfl (Pu.move rfl rfl) ?_
              refine O.p rfl rfl rfl (Pu.indexAddrS (y) rfl Try.underlying34 sz43 rfl rfl (by omega) (by omega) (fun w hw => Own.some hw (i := 0) (by exact rfl) (by omega))) ?_
              refine O.s rfl rfl (Ef.storeOwn 0 (y) ⟨p1.1.1, p1.2.length, p1.1.2⟩ rfl sz43 rfl rfl rfl rfl (by omega) rfl) ?_
              rintro _ _ rfl
              refine O.nil ?_
              refine X.blockNormal ?_
              refine X.next ?_
              refine V.region ?_
              refine O.p rfl rfl rfl (Pu.move rfl rfl) ?_
              refine O.p rfl rfl rfl (Pu.add64 (r := ((set + 1 : Nat) : Int)) rfl (by omega) rfl rfl rfl) ?_
              refine O.p rfl rfl rfl (Pu.assign rfl rfl) ?_
              refine O.nil ?_
              refine X.map (fun w hw => put_heap (y := y) (ps := out) (xs := p1.2) (z := (⟨p1.1.1, p1.2.length, p1.1.2⟩ : Sl)) (by omega) (hw.sub (Sub.keep 0 rfl (Sub.keep 2 rfl (Sub.keep 1 rfl (Sub.keep 0 rfl (Sub.keep 0 rfl (Sub.nil _)))))))) ?_
              exact X.back3 (A11, k5, (out.take y ++ ((⟨p1.1.1, p1.2.length, p1.1.2⟩ : Sl), p1.2) :: out.drop y), set + 1) (by (try dsimp only); exact ⟨⟨by omega, by omega⟩, by rw [subsL_yes hsub, ← hp1]; exact insQ_perm hpm, by rw [conts_put]; exact insQ hsr (by rw [conts_len]; omega) hy2 (fun h0 => by first | omega | (rw [conts_get]; assumption)), by simp only [List.length_append, List.length_cons, List.length_take, List.length_drop]; omega⟩) (by first | omega | (dsimp only; omega)) (Ent.cons' rfl (by simp only [tops_put, List.length_append, List.length_cons, List.length_take, List.length_drop, List.length_nil]; congr 1; omega) (Ent.cons rfl (Ent.nil _))) (Ent.cons (t := 1) rfl (Ent.nil _)) (Sub.keep 0 rfl (Sub.keep 0 rfl (Sub.keep 1 rfl (Sub.nil _))))
          · skip
            refine O.gs rfl rfl rfl rfl rfl rfl ?_
            refine O.gs rfl rfl rfl rfl rfl rfl ?_
            refine O.gs rfl rfl rfl rfl rfl rfl ?_
            refine O.gs rfl rfl rfl rfl rfl rfl ?_
            refine O.gs rfl rfl rfl rfl rfl rfl ?_
            refine O.gs rfl rfl rfl rfl rfl rfl ?_
            refine O.gs rfl rfl rfl rfl rfl rfl ?_
            refine O.p rfl rfl rfl (Pu.pickF rfl rfl rfl) ?_
            refine O.nil ?_
            refine X.next ?_
            refine V.condF rfl ?_
            refine V.exit ?_
            refine X.thenExit ?_
            refine X.thenExit ?_
            refine X.blockHit ?_
            refine X.next ?_
            refine V.region ?_
            refine O.p rfl rfl rfl (Pu.move rfl rfl) ?_
            refine O.p rfl rfl rfl (Pu.move rfl rfl) ?_
            refine O.p rfl rfl rfl (Pu.move rfl rfl) ?_
            refine O.p rfl rfl rfl (Pu.indexAddrS (y) rfl Try.underlying34 sz43 rfl rfl (by omega) (by omega) (fun w hw => Own.some hw (i := 0) (by exact rfl) (by omega))) ?_
            refine O.s rfl rfl (Ef.storeOwn 0 (y) ⟨p1.1.1, p1.2.length, p1.1.2⟩ rfl sz43 rfl rfl rfl rfl (by omega) rfl) ?_
            rintro _ _ rfl
            refine O.nil ?_
            refine X.blockNormal ?_
            refine X.next ?_
            refine V.region ?_
            refine O.p rfl rfl rfl (Pu.move rfl rfl) ?_
            refine O.p rfl rfl rfl (Pu.add64 (r := ((set + 1 : Nat) : Int)) rfl (by omega) rfl rfl rfl) ?_
            refine O.p rfl rfl rfl (Pu.assign rfl rfl) ?_
            refine O.nil ?_
            refine X.map (fun w hw => put_heap (y := y) (ps := out) (xs := p1.2) (z := (⟨p1.1.1, p1.2.length, p1.1.2⟩ : Sl)) (by omega) (hw.sub (Sub.keep 0 rfl (Sub.keep 2 rfl (Sub.keep 1 rfl (Sub.keep 0 rfl (Sub.keep 0 rfl (Sub.nil _)))))))) ?_
            exact X.back3 (A11, k5, (out.take y ++ ((⟨p1.1.1, p1.2.length, p1.1.2⟩ : Sl), p1.2) :: out.drop y), set + 1) (by (try dsimp only); exact ⟨⟨by omega, by omega⟩, by rw [subsL_yes hsub, ← hp1]; exact insQ_perm hpm, by rw [conts_put]; exact insQ hsr (by rw [conts_len]; omega) hy2 (fun h0 => by first | omega | (rw [conts_get]; assumption)), by simp only [List.length_append, List.length_cons, List.length_take, List.length_drop]; omega⟩) (by first | omega | (dsimp only; omega)) (Ent.cons' rfl (by simp only [tops_put, List.length_append, List.length_cons, List.length_take, List.length_drop, List.length_nil]; congr 1; omega) (Ent.cons rfl (Ent.nil _))) (Ent.cons (t := 1) rfl (Ent.nil _)) (Sub.keep 0 rfl (Sub.keep 0 rfl (Sub.keep 1 rfl (Sub.nil _))))
    · skip
      refine V.exit ?_
      refine X.thenExit ?_
      refine X.thenExit ?_
      refine X.blockHit ?_
      refine X.next ?_
      refine V.seq ?_
      refine V.region ?_
      refine O.p rfl rfl rfl (Pu.move rfl rfl) ?_
      refine O.p rfl rfl rfl (Pu.assign rfl rfl) ?_
      refine O.p rfl rfl rfl (Pu.assign rfl rfl) ?_
      refine O.nil ?_
      refine X.next ?_
      refine V.ret ?_
      refine X.ret2 rfl rfl rfl ?_
      exact fun w hw => St.mkExi outA (St.mkExi outc (St.mkExi out (St.unsep (St.addPur ⟨(by rw [if_pos c1]), (by exact ⟨fun _ => ⟨by rw [← show set = 2 ^ v.toNat by omega]; exact hpm, hsr⟩, fun h => absurd c1 h⟩)⟩ (St.unsep (hw.sub (Sub.keep 0 rfl (Sub.keep 0 rfl (Sub.nil _)))))))))
set_option maxRecDepth 100000 in
set_option maxHeartbeats 1000000 in
theorem FnExactSubsystems_ok (v : Int) (bs : List B3) (A : Option Addr) (c : Nat) (w : World) (hx : Rd B3C w A bs) (lx : bs.length ≤ 9223372036854775807) : Does Try.prog 13 [.agg #[.int .i64 v, .slice A bs.length c]] w [] (fun r => [.pur (r = .bool true)]) := by
  refine Does.enter Try.func13 rfl rfl [(0, .agg #[.int .i64 v, .slice A bs.length c])] rfl ?_
  refine V.seq ?_
  refine V.region ?_
  refine O.e rfl rfl rfl (Ef.box rfl rfl rfl) ?_
  rintro _ _ ⟨b1, rfl, rfl⟩
  refine O.p rfl rfl rfl (Pu.assign rfl rfl) ?_
  refine O.nil ?_
  refine X.next ?_
  refine V.seq ?_
  refine V.region ?_
  refine O.p rfl rfl rfl (Pu.assign rfl rfl) ?_
  refine O.nil ?_
  refine X.next ?_
  refine V.seq ?_
  refine V.region ?_
  refine O.p rfl rfl rfl (Pu.loadAgg rfl ag24 sz24 rfl rfl (Ld.whole 0 rfl)) ?_
  refine O.p rfl rfl rfl (Pu.move rfl rfl) ?_
  refine O.e rfl rfl rfl (Ef.callP call15 rfl rfl (fun w hw => szSystem_ok _ _ bs _ _ w (by first | omega | (unfold roomLeft at *; split at * <;> omega)) (by omega))) ?_
  rintro _ _ ⟨rfl, rfl⟩
  refine O.p rfl rfl rfl (Pu.assign rfl rfl) ?_
  refine O.nil ?_
  refine X.next ?_
  refine V.seq ?_
  refine V.seq ?_
  refine V.region ?_
  refine O.p rfl rfl rfl (Pu.move rfl rfl) ?_
  refine O.p rfl rfl rfl (Pu.lss rfl rfl rfl) ?_
  refine O.nil ?_
  refine X.next ?_
  refine V.condD rfl (fun c1 => ?_) (fun c1 => ?_)
  · skip
    refine V.seq ?_
    refine V.region ?_
    refine O.p rfl rfl rfl (Pu.assign rfl rfl) ?_
    refine O.nil ?_
    refine X.next ?_
    refine V.ret ?_
    refine X.thenRet ?_
    refine X.ret1 rfl rfl ?_
    exact fun w hw => St.retP rfl hw
  · skip
    have hk : bs.length ≤ 1048576 := by unfold roomLeft at c1; split at c1 <;> omega
    refine V.skip ?_
    refine X.next ?_
    refine V.seq ?_
    refine V.region ?_
    refine O.p rfl rfl rfl (Pu.loadAgg rfl ag24 sz24 rfl rfl (Ld.whole 0 rfl)) ?_
    refine O.e rfl rfl rfl (Ef.call1 call17 rfl rfl (fun w hw => toSystem_ok _ bs _ _ w ((Ld.old hx) w hw) (by omega))) ?_
    rintro _ _ rfl
    refine O.exi (fun A1 => ?_)
    refine O.sep ?_
    refine O.pur ?_
    rintro ⟨hA1, rfl⟩
    refine O.e rfl rfl rfl (Ef.call1 call52 rfl rfl (fun w hw => specSubsystems_ok  v bs _ _ w ((Ld.own 0 (by exact rfl)) w hw) (by first | omega | (simp only [tops_len, conts_len, bl, List.length_append, List.length_cons, List.length_nil] at *; omega)) )) ?_
    rintro _ _ rfl
    refine O.exi (fun p1A => ?_)
    refine O.exi (fun p1c => ?_)
    refine O.exi (fun p1 => ?_)
    refine O.sep ?_
    refine O.pur ?_
    rintro ⟨rfl, hp1_1⟩
    refine O.sep ?_
    refine O.fact (RowsA.len 1 rfl) (fun hn_p1 => ?_)
    have htl_p1 := tops_len p1
    refine O.p rfl rfl rfl (Pu.move rfl rfl) ?_
    refine O.p rfl rfl rfl (Pu.extract rfl rfl rfl) ?_
    refine O.p rfl rfl rfl (Pu.extract rfl rfl rfl) ?_
    refine O.p rfl rfl rfl (Pu.assign rfl rfl) ?_
    refine O.p rfl rfl rfl (Pu.assign rfl rfl) ?_
    refine O.nil ?_
    refine X.next ?_
    refine V.seq ?_
    refine V.region ?_
    refine O.p rfl rfl rfl (Pu.loadAgg rfl ag24 sz24 rfl rfl (Ld.whole 3 rfl)) ?_
    refine O.e rfl rfl rfl (Ef.call1 call17 rfl rfl (fun w hw => toSystem_ok _ bs _ _ w ((Ld.old hx) w hw) (by omega))) ?_
    rintro _ _ rfl
    refine O.exi (fun A2 => ?_)
    refine O.sep ?_
    refine O.pur ?_
    rintro ⟨hA2, rfl⟩
    refine O.e rfl rfl rfl (Ef.alloc rfl zr30 rfl) ?_
    rintro _ _ ⟨b2, rfl, rfl⟩
    refine O.s rfl rfl (Ef.storeAll 0 rfl sz30 rfl rfl rfl rfl (by simp [Value.oneCell']) rfl) ?_
    rintro _ _ rfl
    refine O.nil ?_
    refine X.next ?_
    refine V.seq ?_
    refine V.region ?_
    refine O.p rfl rfl rfl (Pu.loadAgg rfl ag30 sz30 rfl rfl (Ld.whole 0 rfl)) ?_
    refine O.e rfl rfl rfl (Ef.call1 call53 rfl rfl (fun w hw => implSubsystems_ok  v bs _ _ w ((Ld.own 1 (by exact rfl)) w hw) (by first | omega | (simp only [tops_len, conts_len, bl, List.length_append, List.length_cons, List.length_nil] at *; omega)) )) ?_
    rintro _ _ rfl
    refine O.exi (fun p2A => ?_)
    refine O.exi (fun p2c => ?_)
    refine O.exi (fun p2 => ?_)
    refine O.sep ?_
    refine O.pur ?_
    rintro ⟨rfl, hp2_1⟩
    refine O.sep ?_
    refine O.fact (RowsA.len 1 rfl) (fun hn_p2 => ?_)
    have htl_p2 := tops_len p2
    have heq := hp2_1.unique hp1_1
    have hslp2 := hp2_1.small.2
    rw [conts_len] at hslp2
    have hsl0 := hp1_1.small.2
    rw [conts_len] at hsl0
    have hsm := sumLen_bound hp2_1.small.1
    refine O.p rfl rfl rfl (Pu.move rfl rfl) ?_
    refine O.p rfl rfl rfl (Pu.extract rfl rfl rfl) ?_
    refine O.p rfl rfl rfl (Pu.extract rfl rfl rfl) ?_
    refine O.p rfl rfl rfl (Pu.assign rfl rfl) ?_
    refine O.p rfl rfl rfl (Pu.assign rfl rfl) ?_
    refine O.nil ?_
    refine X.next ?_
    refine V.seq ?_
    refine V.seq ?_
    refine V.region ?_
    refine O.p rfl rfl rfl (Pu.move rfl rfl) ?_
    refine O.p rfl rfl rfl (Pu.move rfl rfl) ?_
    refine O.e rfl rfl rfl (Ef.callP call24 rfl rfl (fun w hw => eqInt64SS_ok p2 p1 _ _ _ _ w ((Ld.ll 0 1 (by exact rfl) (by exact rfl)) w hw) ((Ld.ll 4 5 (by exact rfl) (by exact rfl)) w hw) (by omega) (by omega))) ?_
    rintro _ _ ⟨rfl, rfl⟩
    refine O.p rfl rfl rfl (Pu.not rfl rfl) ?_
    refine O.p rfl rfl rfl (Pu.move rfl rfl) ?_
    refine O.splitN 36 rfl (fun c2 => ?_) (fun c2 => ?_)
    · skip
      refine O.gs rfl rfl rfl rfl rfl rfl ?_
      refine O.gs rfl rfl rfl rfl rfl rfl ?_
      refine O.gs rfl rfl rfl rfl rfl rfl ?_
      refine O.p rfl rfl rfl (Pu.pickT rfl rfl rfl) ?_
      refine O.nil ?_
      refine X.next ?_
      refine V.condT rfl ?_
      refine V.seq ?_
      refine V.region ?_
      refine O.p rfl rfl rfl (Pu.assign rfl rfl) ?_
      refine O.nil ?_
      refine X.next ?_
      refine V.ret ?_
      refine X.thenRet ?_
      refine X.ret1 rfl rfl ?_
      exact absurd (by first | assumption | rfl | exact ⟨rfl, rfl⟩ | exact ⟨rfl, by assumption⟩ | exact ⟨⟨rfl, by assumption⟩, rfl, by assumption⟩ | omega | (simp only [*]; done) | (rw [rfl])) c2
    · skip
      refine O.gp rfl rfl rfl rfl rfl (Pu.move rfl rfl) ?_
      refine O.gp rfl rfl rfl rfl rfl (Pu.move rfl rfl) ?_
      refine O.gp rfl rfl rfl rfl rfl (Pu.neq rfl rfl rfl) ?_
      refine O.p rfl rfl rfl (Pu.pickF rfl rfl rfl) ?_
      refine O.nil ?_
      refine X.next ?_
      refine V.condNot rfl (fun c3 => ?_) (fun c3 => ?_)
      · skip
        refine V.seq ?_
        refine V.region ?_
        refine O.p rfl rfl rfl (Pu.assign rfl rfl) ?_
        refine O.nil ?_
        refine X.next ?_
        refine V.ret ?_
        refine X.thenRet ?_
        refine X.ret1 rfl rfl ?_
        exact absurd (by first | assumption | rfl | exact ⟨rfl, rfl⟩ | exact ⟨rfl, by assumption⟩ | exact ⟨⟨rfl, by assumption⟩, rfl, by assumption⟩ | omega | (simp only [*]; done) | (rw [rfl])) c3
      · skip
        refine V.skip ?_
        refine X.next ?_
        refine V.seq ?_
        refine V.seq ?_
        refine V.draw mo (by kernel_rfl) (fun hwf => ?_)
        refine D.p 0 rfl rfl rfl rfl rfl rfl (Pu.loadAgg rfl ag30 sz30 rfl rfl (Ld.whole 2 rfl)) ?_
        refine D.p 1 rfl rfl rfl rfl rfl rfl (Pu.loadAgg rfl ag24 sz24 rfl rfl (Ld.whole 7 rfl)) ?_
        refine D.eff hwf (e := 2) rfl rfl rfl rfl (Ef.call1 call17 rfl rfl (fun w hw => toSystem_ok _ bs _ _ w ((Ld.old hx) w hw) (by omega))) rfl rfl rfl ?_
        rintro _ _ rfl hs
        refine ⟨fun w hw => hs w hw.tail, ?_⟩
        refine D.exi (fun A3 => ?_)
        refine D.sep ?_
        refine D.pur1 ?_
        rintro ⟨hA3, rfl⟩
        refine D.eff hwf (e := 3) rfl rfl rfl rfl (Ef.callP call19 rfl rfl (fun w hw => eqSystem_ok _ _ bs bs _ _ _ _ w ((Ld.own 4 (by exact rfl)) w hw) ((Ld.own 0 (by exact rfl)) w hw) (by omega) (by omega))) rfl rfl rfl ?_
        rintro _ _ ⟨rfl, rfl⟩ hs
        refine ⟨fun w hw => hw.sub (Sub.keep 1 rfl (Sub.keep 1 rfl (Sub.keep 1 rfl (Sub.keep 1 rfl (Sub.keep 1 rfl (Sub.keep 1 rfl (Sub.keep 1 rfl (Sub.keep 1 rfl (Sub.nil _))))))))), ?_⟩
        refine D.p 4 rfl rfl rfl rfl rfl rfl (Pu.not rfl rfl) ?_
        refine D.done hwf rfl ?_
        refine X.next ?_
        refine V.condNot rfl (fun c4 => ?_) (fun c4 => ?_)
        · skip
          refine V.seq ?_
          refine V.region ?_
          refine O.p rfl rfl rfl (Pu.assign rfl rfl) ?_
          refine O.nil ?_
          refine X.next ?_
          refine V.ret ?_
          refine X.thenRet ?_
          refine X.ret1 rfl rfl ?_
          exact absurd (by first | assumption | rfl | exact ⟨rfl, rfl⟩ | exact ⟨rfl, by assumption⟩ | exact ⟨⟨rfl, by assumption⟩, rfl, by assumption⟩ | omega | (simp only [*]; done) | (rw [rfl])) c4
        · skip
          refine V.skip ?_
          refine X.next ?_
          refine V.seq ?_
          refine V.region ?_
          refine O.p rfl rfl rfl (Pu.assign rfl rfl) ?_
          refine O.nil ?_
          refine X.next ?_
          refine V.seq ?_
          refine V.region ?_
          refine O.p rfl rfl rfl (Pu.loadAgg rfl ag30 sz30 rfl rfl (Ld.whole 3 rfl)) ?_
          refine O.p rfl rfl rfl (Pu.move rfl rfl) ?_
          refine O.e rfl rfl rfl (Ef.callM 4 call25 rfl rfl rfl (fun H _ => markSystemX_ok _ _ _ _ _ _ H (by omega) (by omega))) ?_
          rintro _ _ ⟨rfl, rfl⟩
          refine O.p rfl rfl rfl (Pu.assign rfl rfl) ?_
          refine O.nil ?_
          refine X.next ?_
          refine V.seq ?_
          refine V.seq ?_
          refine V.region ?_
          refine O.p rfl rfl rfl (Pu.move rfl rfl) ?_
          refine O.p rfl rfl rfl (Pu.lss rfl rfl rfl) ?_
          refine O.p rfl rfl rfl (Pu.move rfl rfl) ?_
          refine O.splitD 51 rfl (fun c5 => ?_) (fun c5 => ?_)
          · skip
            refine O.gs rfl rfl rfl rfl rfl rfl ?_
            refine O.gs rfl rfl rfl rfl rfl rfl ?_
            refine O.gs rfl rfl rfl rfl rfl rfl ?_
            refine O.gs rfl rfl rfl rfl rfl rfl ?_
            refine O.p rfl rfl rfl (Pu.pickT rfl rfl rfl) ?_
            refine O.p rfl rfl rfl (Pu.move rfl rfl) ?_
            refine O.gs rfl rfl rfl rfl rfl rfl ?_
            refine O.gs rfl rfl rfl rfl rfl rfl ?_
            refine O.gs rfl rfl rfl rfl rfl rfl ?_
            refine O.p rfl rfl rfl (Pu.pickT rfl rfl rfl) ?_
            refine O.nil ?_
            refine X.next ?_
            refine V.condT rfl ?_
            refine V.seq ?_
            refine V.region ?_
            refine O.p rfl rfl rfl (Pu.assign rfl rfl) ?_
            refine O.nil ?_
            refine X.next ?_
            refine V.ret ?_
            refine X.thenRet ?_
            refine X.ret1 rfl rfl ?_
            exact absurd c5 (by first | omega | assumption)
          · skip
            refine O.gp rfl rfl rfl rfl rfl (Pu.move rfl rfl) ?_
            refine O.gp rfl rfl rfl rfl rfl (Pu.move rfl rfl) ?_
            refine O.ge rfl rfl rfl rfl rfl (Ef.callP call24 rfl rfl (fun w hw => eqInt64SS_ok p2 p1 _ _ _ _ w ((Ld.ll 1 2 (by exact rfl) (by exact rfl)) w hw) ((Ld.ll 5 6 (by exact rfl) (by exact rfl)) w hw) (by omega) (by omega))) ?_
            rintro _ _ ⟨rfl, rfl⟩
            refine O.gp rfl rfl rfl rfl rfl (Pu.not rfl rfl) ?_
            refine O.p rfl rfl rfl (Pu.pickF rfl rfl rfl) ?_
            refine O.p rfl rfl rfl (Pu.move rfl rfl) ?_
            refine O.splitN 57 rfl (fun c6 => ?_) (fun c6 => ?_)
            · skip
              refine O.gs rfl rfl rfl rfl rfl rfl ?_
              refine O.gs rfl rfl rfl rfl rfl rfl ?_
              refine O.gs rfl rfl rfl rfl rfl rfl ?_
              refine O.p rfl rfl rfl (Pu.pickT rfl rfl rfl) ?_
              refine O.nil ?_
              refine X.next ?_
              refine V.condT rfl ?_
              refine V.seq ?_
              refine V.region ?_
              refine O.p rfl rfl rfl (Pu.assign rfl rfl) ?_
              refine O.nil ?_
              refine X.next ?_
              refine V.ret ?_
              refine X.thenRet ?_
              refine X.ret1 rfl rfl ?_
              exact absurd (by first | assumption | rfl | exact ⟨rfl, rfl⟩ | exact ⟨rfl, by assumption⟩ | exact ⟨⟨rfl, by assumption⟩, rfl, by assumption⟩ | omega | (simp only [*]; done) | (rw [rfl])) c6
            · skip
              refine O.gp rfl rfl rfl rfl rfl (Pu.move rfl rfl) ?_
              refine O.gp rfl rfl rfl rfl rfl (Pu.move rfl rfl) ?_
              refine O.gp rfl rfl rfl rfl rfl (Pu.neq rfl rfl rfl) ?_
              refine O.p rfl rfl rfl (Pu.pickF rfl rfl rfl) ?_
              refine O.nil ?_
              refine X.next ?_
              refine V.condNot rfl (fun c7 => ?_) (fun c7 => ?_)
              · skip
                refine V.seq ?_
                refine V.region ?_
                refine O.p rfl rfl rfl (Pu.assign rfl rfl) ?_
                refine O.nil ?_
                refine X.next ?_
                refine V.ret ?_
                refine X.thenRet ?_
                refine X.ret1 rfl rfl ?_
                exact absurd (by first | assumption | rfl | exact ⟨rfl, rfl⟩ | exact ⟨rfl, by assumption⟩ | exact ⟨⟨rfl, by assumption⟩, rfl, by assumption⟩ | omega | (simp only [*]; done) | (rw [rfl])) c7
              · skip
                refine V.skip ?_
                refine X.next ?_
                refine V.seq ?_
                refine V.region ?_
                refine O.p rfl rfl rfl (Pu.assign rfl rfl) ?_
                refine O.nil ?_
                refine X.next ?_
                refine V.seq ?_
                refine V.region ?_
                refine O.p rfl rfl rfl (Pu.move rfl rfl) ?_
                refine O.p rfl rfl rfl (Pu.move rfl rfl) ?_
                refine O.e rfl rfl rfl (Ef.call call26 rfl rfl (Does.pre (fun w hw => hw.sub (Sub.keep 1 rfl (Sub.keep 1 rfl (Sub.keep 0 rfl (Sub.keep 0 rfl (Sub.keep 0 rfl (Sub.keep 0 rfl (Sub.keep 0 rfl (Sub.keep 0 rfl (Sub.keep 0 rfl (Sub.nil _))))))))))) (markInt64SS_ok p2 _ _ _ _ _ (by omega) (by omega)))) ?_
                rintro _ _ rfl
                refine O.pur ?_
                rintro rfl
                refine O.p rfl rfl rfl (Pu.assign rfl rfl) ?_
                refine O.nil ?_
                refine X.next ?_
                refine V.seq ?_
                refine V.region ?_
                refine O.p rfl rfl rfl (Pu.assign rfl rfl) ?_
                refine O.nil ?_
                refine X.next ?_
                refine V.seq ?_
                refine V.region ?_
                refine O.p rfl rfl rfl (Pu.move rfl rfl) ?_
                refine O.p rfl rfl rfl (Pu.move rfl rfl) ?_
                refine O.e rfl rfl rfl (Ef.callP call27 rfl rfl (fun w hw => heldInt64SS_ok p2 _ _ _ w (Ld.llm (i := 0) (j := 1) (by exact rfl) (by exact rfl) w hw) (by omega) (by omega))) ?_
                rintro _ _ ⟨rfl, rfl⟩
                refine O.p rfl rfl rfl (Pu.assign rfl rfl) ?_
                refine O.nil ?_
                refine X.next ?_
                refine V.seq ?_
                refine V.seq ?_
                refine V.region ?_
                refine O.p rfl rfl rfl (Pu.move rfl rfl) ?_
                refine O.p rfl rfl rfl (Pu.lss rfl rfl rfl) ?_
                refine O.nil ?_
                refine X.next ?_
                refine V.condD rfl (fun c8 => ?_) (fun c8 => ?_)
                · skip
                  refine V.seq ?_
                  refine V.region ?_
                  refine O.p rfl rfl rfl (Pu.assign rfl rfl) ?_
                  refine O.nil ?_
                  refine X.next ?_
                  refine V.ret ?_
                  refine X.thenRet ?_
                  refine X.ret1 rfl rfl ?_
                  exact absurd c8 (by first | omega | assumption)
                · skip
                  refine V.skip ?_
                  refine X.next ?_
                  refine V.seq ?_
                  refine V.seq ?_
                  refine V.region ?_
                  refine O.p rfl rfl rfl (Pu.move rfl rfl) ?_
                  refine O.p rfl rfl rfl (Pu.move rfl rfl) ?_
                  refine O.p rfl rfl rfl (Pu.neq rfl rfl rfl) ?_
                  refine O.nil ?_
                  refine X.next ?_
                  refine V.condNot rfl (fun c9 => ?_) (fun c9 => ?_)
                  · skip
                    refine V.seq ?_
                    refine V.region ?_
                    refine O.p rfl rfl rfl (Pu.assign rfl rfl) ?_
                    refine O.nil ?_
                    refine X.next ?_
                    refine V.ret ?_
                    refine X.thenRet ?_
                    refine X.ret1 rfl rfl ?_
                    exact absurd (by first | assumption | rfl | exact ⟨rfl, rfl⟩ | exact ⟨rfl, by assumption⟩ | exact ⟨⟨rfl, by assumption⟩, rfl, by assumption⟩ | omega | (simp only [*]; done) | (rw [rfl])) c9
                  · skip
                    refine V.skip ?_
                    refine X.next ?_
                    refine V.seq ?_
                    refine V.region ?_
                    refine O.p rfl rfl rfl (Pu.loadAgg rfl ag24 sz24 rfl rfl (Ld.whole 8 rfl)) ?_
                    refine O.e rfl rfl rfl (Ef.call1 call17 rfl rfl (fun w hw => toSystem_ok _ bs _ _ w ((Ld.old hx) w hw) (by omega))) ?_
                    rintro _ _ rfl
                    refine O.exi (fun A4 => ?_)
                    refine O.sep ?_
                    refine O.pur ?_
                    rintro ⟨hA4, rfl⟩
                    refine O.e rfl rfl rfl (Ef.call1 call53 rfl rfl (fun w hw => implSubsystems_ok  v bs _ _ w ((Ld.own 0 (by exact rfl)) w hw) (by first | omega | (simp only [tops_len, conts_len, bl, List.length_append, List.length_cons, List.length_nil] at *; omega)) )) ?_
                    rintro _ _ rfl
                    refine O.exi (fun p3A => ?_)
                    refine O.exi (fun p3c => ?_)
                    refine O.exi (fun p3 => ?_)
                    refine O.sep ?_
                    refine O.pur ?_
                    rintro ⟨rfl, hp3_1⟩
                    refine O.sep ?_
                    refine O.fact (RowsA.len 1 rfl) (fun hn_p3 => ?_)
                    have htl_p3 := tops_len p3
                    have heq := hp3_1.unique hp1_1
                    have hslp3 := hp3_1.small.2
                    rw [conts_len] at hslp3
                    have hsl0 := hp1_1.small.2
                    rw [conts_len] at hsl0
                    refine O.p rfl rfl rfl (Pu.move rfl rfl) ?_
                    refine O.p rfl rfl rfl (Pu.extract rfl rfl rfl) ?_
                    refine O.p rfl rfl rfl (Pu.extract rfl rfl rfl) ?_
                    refine O.p rfl rfl rfl (Pu.assign rfl rfl) ?_
                    refine O.p rfl rfl rfl (Pu.assign rfl rfl) ?_
                    refine O.nil ?_
                    refine X.next ?_
                    refine V.seq ?_
                    refine V.seq ?_
                    refine V.region ?_
                    refine O.p rfl rfl rfl (Pu.move rfl rfl) ?_
                    refine O.p rfl rfl rfl (Pu.move rfl rfl) ?_
                    refine O.e rfl rfl rfl (Ef.callP call24 rfl rfl (fun w hw => eqInt64SS_ok p3 p1 _ _ _ _ w ((Ld.ll 0 1 (by exact rfl) (by exact rfl)) w hw) ((Ld.ll 8 9 (by exact rfl) (by exact rfl)) w hw) (by omega) (by omega))) ?_
                    rintro _ _ ⟨rfl, rfl⟩
                    refine O.p rfl rfl rfl (Pu.not rfl rfl) ?_
                    refine O.p rfl rfl rfl (Pu.move rfl rfl) ?_
                    refine O.splitN 83 rfl (fun c10 => ?_) (fun c10 => ?_)
                    · skip
                      refine O.gs rfl rfl rfl rfl rfl rfl ?_
                      refine O.gs rfl rfl rfl rfl rfl rfl ?_
                      refine O.gs rfl rfl rfl rfl rfl rfl ?_
                      refine O.p rfl rfl rfl (Pu.pickT rfl rfl rfl) ?_
                      refine O.nil ?_
                      refine X.next ?_
                      refine V.condT rfl ?_
                      refine V.seq ?_
                      refine V.region ?_
                      refine O.p rfl rfl rfl (Pu.assign rfl rfl) ?_
                      refine O.nil ?_
                      refine X.next ?_
                      refine V.ret ?_
                      refine X.thenRet ?_
                      refine X.ret1 rfl rfl ?_
                      exact absurd (by first | assumption | rfl | exact ⟨rfl, rfl⟩ | exact ⟨rfl, by assumption⟩ | exact ⟨⟨rfl, by assumption⟩, rfl, by assumption⟩ | omega | (simp only [*]; done) | (rw [rfl])) c10
                    · skip
                      refine O.gp rfl rfl rfl rfl rfl (Pu.move rfl rfl) ?_
                      refine O.gp rfl rfl rfl rfl rfl (Pu.move rfl rfl) ?_
                      refine O.gp rfl rfl rfl rfl rfl (Pu.neq rfl rfl rfl) ?_
                      refine O.p rfl rfl rfl (Pu.pickF rfl rfl rfl) ?_
                      refine O.nil ?_
                      refine X.next ?_
                      refine V.condNot rfl (fun c11 => ?_) (fun c11 => ?_)
                      · skip
                        refine V.seq ?_
                        refine V.region ?_
                        refine O.p rfl rfl rfl (Pu.assign rfl rfl) ?_
                        refine O.nil ?_
                        refine X.next ?_
                        refine V.ret ?_
                        refine X.thenRet ?_
                        refine X.ret1 rfl rfl ?_
                        exact absurd (by first | assumption | rfl | exact ⟨rfl, rfl⟩ | exact ⟨rfl, by assumption⟩ | exact ⟨⟨rfl, by assumption⟩, rfl, by assumption⟩ | omega | (simp only [*]; done) | (rw [rfl])) c11
                      · skip
                        refine V.skip ?_
                        refine X.next ?_
                        refine V.seq ?_
                        refine V.region ?_
                        refine O.p rfl rfl rfl (Pu.assign rfl rfl) ?_
                        refine O.nil ?_
                        refine X.next ?_
                        refine V.seq ?_
                        refine V.region ?_
                        refine O.p rfl rfl rfl (Pu.move rfl rfl) ?_
                        refine O.p rfl rfl rfl (Pu.move rfl rfl) ?_
                        refine O.e rfl rfl rfl (Ef.callP call27 rfl rfl (fun w hw => heldInt64SS_ok p2 _ _ _ w (Ld.llm (i := 3) (j := 4) (by exact rfl) (by exact rfl) w hw) (by omega) (by omega))) ?_
                        rintro _ _ ⟨rfl, rfl⟩
                        refine O.p rfl rfl rfl (Pu.assign rfl rfl) ?_
                        refine O.nil ?_
                        refine X.next ?_
                        refine V.seq ?_
                        refine V.seq ?_
                        refine V.region ?_
                        refine O.p rfl rfl rfl (Pu.move rfl rfl) ?_
                        refine O.p rfl rfl rfl (Pu.lss rfl rfl rfl) ?_
                        refine O.nil ?_
                        refine X.next ?_
                        refine V.condD rfl (fun c12 => ?_) (fun c12 => ?_)
                        · skip
                          refine V.seq ?_
                          refine V.region ?_
                          refine O.p rfl rfl rfl (Pu.assign rfl rfl) ?_
                          refine O.nil ?_
                          refine X.next ?_
                          refine V.ret ?_
                          refine X.thenRet ?_
                          refine X.ret1 rfl rfl ?_
                          exact absurd c12 (by first | omega | assumption)
                        · skip
                          refine V.skip ?_
                          refine X.next ?_
                          refine V.seq ?_
                          refine V.seq ?_
                          refine V.region ?_
                          refine O.p rfl rfl rfl (Pu.move rfl rfl) ?_
                          refine O.p rfl rfl rfl (Pu.move rfl rfl) ?_
                          refine O.p rfl rfl rfl (Pu.neq rfl rfl rfl) ?_
                          refine O.nil ?_
                          refine X.next ?_
                          refine V.condNot rfl (fun c13 => ?_) (fun c13 => ?_)
                          · skip
                            refine V.seq ?_
                            refine V.region ?_
                            refine O.p rfl rfl rfl (Pu.assign rfl rfl) ?_
                            refine O.nil ?_
                            refine X.next ?_
                            refine V.ret ?_
                            refine X.thenRet ?_
                            refine X.ret1 rfl rfl ?_
                            exact absurd (by first | assumption | rfl | exact ⟨rfl, rfl⟩ | exact ⟨rfl, by assumption⟩ | exact ⟨⟨rfl, by assumption⟩, rfl, by assumption⟩ | omega | (simp only [*]; done) | (rw [rfl])) c13
                          · skip
                            refine V.skip ?_
                            refine X.next ?_
                            refine V.seq ?_
                            refine V.region ?_
                            refine O.p rfl rfl rfl (Pu.assign rfl rfl) ?_
                            refine O.nil ?_
                            refine X.next ?_
                            refine V.ret ?_
                            refine X.ret1 rfl rfl ?_
                            exact fun w hw => St.retP rfl hw
end Go.Proofs.Ytjpfngmoabnffaa
