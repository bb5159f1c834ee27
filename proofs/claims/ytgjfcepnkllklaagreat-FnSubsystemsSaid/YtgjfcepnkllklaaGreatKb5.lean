/-
  Contracts, part 5.
-/
import Derived.Test.YtgjfcepnkllklaaGreatKb4
set_option linter.unusedVariables false
set_option linter.unusedSimpArgs false
namespace Go.Proofs.YtgjfcepnkllklaaGreat
open Go Go.RowKit Go.Vc Go.Proofs
set_option maxRecDepth 100000 in
set_option maxHeartbeats 1000000 in
theorem specSubsystems_ok (v : Int) (bs : List B3) (A : Option Addr) (c : Nat) (w : World) (hx : Rd B3C w A bs) (lx : bs.length ≤ 4611686018427387904) : Does Tryz.prog 35 [.agg #[.int .i64 v, .slice A bs.length c]] w [] (fun r => [.exi fun (pA : Option Addr) => .exi fun (pc : Nat) => .exi fun (p : List (Sl × List Int)) => .sep (.pur (r = .tuple #[.slice pA (tops p).length pc, .int .i64 (if STS v bs then 0 else 1)] ∧ SubR v bs (conts p))) (.sep (Own 34 SlC pA pc (tops p)) (RowsA 2 I64 p))]) := by
  refine Does.enter Tryz.func35 rfl rfl [(0, .agg #[.int .i64 v, .slice A bs.length c])] rfl ?_
  refine V.seq ?_
  refine V.region ?_
  refine O.e rfl rfl rfl (Ef.box rfl rfl rfl) ?_
  rintro _ _ ⟨b1, rfl, rfl⟩
  refine O.p rfl rfl rfl (Pu.assign rfl rfl) ?_
  refine O.p rfl rfl rfl (Pu.assign rfl rfl) ?_
  refine O.nil ?_
  refine X.next ?_
  refine V.seq ?_
  refine V.seq ?_
  refine V.region ?_
  refine O.p rfl rfl rfl (Pu.loadAgg rfl ag26 sz26 rfl rfl (Ld.whole 0 rfl)) ?_
  refine O.e rfl rfl rfl (Ef.callP call79 rfl rfl (fun w hw => l01Is_ok _ bs _ _ w ((Ld.old hx) w hw) (by omega))) ?_
  rintro _ _ ⟨rfl, rfl⟩
  refine O.p rfl rfl rfl (Pu.not rfl rfl) ?_
  refine O.nil ?_
  refine X.next ?_
  refine V.condNot rfl (fun c1 => ?_) (fun c1 => ?_)
  · skip
    refine V.seq ?_
    refine V.region ?_
    refine O.p rfl rfl rfl (Pu.assign rfl rfl) ?_
    refine O.p rfl rfl rfl (Pu.assign rfl rfl) ?_
    refine O.nil ?_
    refine X.next ?_
    refine V.ret ?_
    refine X.thenRet ?_
    refine X.ret2 rfl rfl rfl ?_
    exact fun w hw => St.mkExi none (St.mkExi 0 (St.mkExi [] (St.unsep (St.addPur ⟨(by rw [if_neg c1]; rfl), (by exact ⟨fun h => absurd h c1, fun _ => rfl⟩)⟩ (St.unsep (St.addNil (T := 34) (C := SlC) (RowsA.nil (T := 2) (C := I64) (hw.sub (Sub.nil _)))))))))
  · skip
    have hlo := c1.lo
    have hhi := c1.hi
    have hfew := c1.few
    have hg : ∀ b ∈ bs, good 15 b := fun b h => (c1.good b h).mono c1.hi
    have hpw : 2 ^ v.toNat ≤ 2 ^ 15 := Nat.pow_le_pow_right (by decide) (by omega)
    have hpw0 := Nat.two_pow_pos v.toNat
    refine V.skip ?_
    refine X.next ?_
    refine V.seq ?_
    refine V.region ?_
    refine O.e rfl rfl rfl (Ef.build SlC ([] : List Sl) rfl Tryz.underlying28 inf34 rfl rfl rfl (by first | decide | (simp; done)) (by kernel_rfl)) ?_
    rintro _ _ ⟨A1, hA1, rfl, rfl⟩
    refine O.p rfl rfl rfl (Pu.assign rfl rfl) ?_
    refine O.nil ?_
    refine X.next ?_
    refine V.seq ?_
    refine V.seq ?_
    refine V.region ?_
    refine O.p rfl rfl rfl (Pu.assign rfl rfl) ?_
    refine O.nil ?_
    refine X.next ?_
    refine V.block ?_
    refine V.map (fun w hw => RowsA.nil (T := 2) (C := I64) hw) ?_
    refine V.loop3 (β := (Option Addr) × Nat × (List (Sl × List Int)) × Nat) (fun x => [(4, .slice x.1 (tops x.2.2.1).length x.2.1), (5, .int .i64 (x.2.2.2 : Int))]) _ (fun x => [Own 34 SlC x.1 x.2.1 (tops x.2.2.1), RowsA 2 I64 x.2.2.1]) _ (fun x => (1 ≤ x.2.2.2 ∧ x.2.2.2 ≤ 2 ^ v.toNat) ∧ (conts x.2.2.1).Perm (subsL bs x.2.2.2) ∧ (conts x.2.2.1).Pairwise leQ ∧ x.2.2.1.length ≤ x.2.2.2) (fun x => 2 ^ v.toNat - x.2.2.2) (A1, 0, [], 1) (by (try dsimp only); exact ⟨⟨by omega, by omega⟩, by rw [subsL_one]; exact List.Perm.refl _, List.Pairwise.nil, by simp⟩) (Ent.cons rfl (Ent.cons rfl (Ent.nil _))) (Ent.cons (t := 1) rfl (Ent.nil _)) (Sub.keep 1 rfl (Sub.keep 0 rfl (Sub.keep 0 rfl (Sub.nil _)))) ?_
    rintro ⟨outA, outc, out, set⟩ ⟨⟨hs1, hs2⟩, hpm, hsr, hl⟩
    dsimp only at hs1 hs2 hpm hsr hl ⊢
    refine V.fact (RowsA.len 1 rfl) (fun hn_out => ?_)
    have htl_out := tops_len out
    refine V.seq ?_
    refine V.seq ?_
    refine V.region ?_
    refine O.p rfl rfl rfl (Pu.move rfl rfl) ?_
    refine O.p rfl rfl rfl (Pu.fieldAddr 0 rfl Tryz.underlying26 rfl sz2 rfl rfl) ?_
    refine O.p rfl rfl rfl (Pu.load rfl pl2 rfl (Ld.blk 2 rfl rfl)) ?_
    refine O.p rfl rfl rfl (Pu.convU' ((v).toNat) (by omega) ⟨_, Tryz.underlying2⟩ Tryz.underlying90 (by omega) rfl rfl) ?_
    refine O.p rfl rfl rfl (Pu.shl1 (p := (v).toNat) K64.i (by omega) rfl rfl rfl) ?_
    refine O.p rfl rfl rfl (Pu.lss rfl rfl rfl) ?_
    refine O.nil ?_
    refine X.next ?_
    refine V.condD rfl (fun c2 => ?_) (fun c2 => ?_)
    · skip
      refine V.skip ?_
      refine X.next ?_
      refine V.seq ?_
      refine V.block ?_
      refine V.seq ?_
      refine V.region ?_
      refine O.p rfl rfl rfl (Pu.move rfl rfl) ?_
      refine O.e rfl rfl rfl (Ef.callP call111 rfl rfl (fun w hw => l05Ones_ok set w (by omega))) ?_
      rintro _ _ ⟨rfl, rfl⟩
      refine O.p rfl rfl rfl (Pu.assign rfl rfl) ?_
      refine O.nil ?_
      refine X.next ?_
      refine V.seq ?_
      refine V.seq ?_
      refine V.region ?_
      refine O.p rfl rfl rfl (Pu.move rfl rfl) ?_
      refine O.p rfl rfl rfl (Pu.neq rfl rfl rfl) ?_
      refine O.p rfl rfl rfl (Pu.move rfl rfl) ?_
      refine O.splitN 25 rfl (fun c3 => ?_) (fun c3 => ?_)
      · skip
        refine O.gp rfl rfl rfl rfl rfl (Pu.move rfl rfl) ?_
        refine O.gp rfl rfl rfl rfl rfl (Pu.neq rfl rfl rfl) ?_
        refine O.p rfl rfl rfl (Pu.pickT rfl rfl rfl) ?_
        refine O.p rfl rfl rfl (Pu.move rfl rfl) ?_
        refine O.splitN 29 rfl (fun c4 => ?_) (fun c4 => ?_)
        · skip
          refine O.gp rfl rfl rfl rfl rfl (Pu.move rfl rfl) ?_
          refine O.gp rfl rfl rfl rfl rfl (Pu.neq rfl rfl rfl) ?_
          refine O.p rfl rfl rfl (Pu.pickT rfl rfl rfl) ?_
          refine O.p rfl rfl rfl (Pu.move rfl rfl) ?_
          refine O.splitN 33 rfl (fun c5 => ?_) (fun c5 => ?_)
          · skip
            refine O.gp rfl rfl rfl rfl rfl (Pu.move rfl rfl) ?_
            refine O.gp rfl rfl rfl rfl rfl (Pu.neq rfl rfl rfl) ?_
            refine O.p rfl rfl rfl (Pu.pickT rfl rfl rfl) ?_
            refine O.p rfl rfl rfl (Pu.move rfl rfl) ?_
            refine O.splitN 37 rfl (fun c6 => ?_) (fun c6 => ?_)
            · skip
              refine O.gp rfl rfl rfl rfl rfl (Pu.move rfl rfl) ?_
              refine O.gp rfl rfl rfl rfl rfl (Pu.neq rfl rfl rfl) ?_
              refine O.p rfl rfl rfl (Pu.pickT rfl rfl rfl) ?_
              refine O.p rfl rfl rfl (Pu.move rfl rfl) ?_
              refine O.splitN 41 rfl (fun c7 => ?_) (fun c7 => ?_)
              · skip
                refine O.gs rfl rfl rfl rfl rfl rfl ?_
                refine O.gs rfl rfl rfl rfl rfl rfl ?_
                refine O.gs rfl rfl rfl rfl rfl rfl ?_
                refine O.gs rfl rfl rfl rfl rfl rfl ?_
                refine O.p rfl rfl rfl (Pu.pickT rfl rfl rfl) ?_
                refine O.nil ?_
                refine X.next ?_
                refine V.condT rfl ?_
                refine V.exit ?_
                refine X.thenExit ?_
                refine X.blockHit ?_
                refine X.next ?_
                refine V.region ?_
                refine O.p rfl rfl rfl (Pu.move rfl rfl) ?_
                refine O.p rfl rfl rfl (Pu.add64 (r := ((set + 1 : Nat) : Int)) rfl (by omega) rfl rfl rfl) ?_
                refine O.p rfl rfl rfl (Pu.assign rfl rfl) ?_
                refine O.nil ?_
                exact X.back3 (outA, outc, out, set + 1) (by (try dsimp only); exact ⟨⟨by omega, by omega⟩, by rw [subsL_no (fun h => by have q := (subq_iff c1 (by omega)).1 h; first | omega | exact absurd q.2 (by assumption))]; exact hpm, hsr, by omega⟩) (by first | omega | (dsimp only; omega)) (Ent.cons' rfl (by first | rfl | (simp only [tops_append]; done) | (simp only [tops_append]; rfl)) (Ent.cons rfl (Ent.nil _))) (Ent.cons (t := 1) rfl (Ent.nil _)) (Sub.keep 0 rfl (Sub.keep 0 rfl (Sub.keep 0 rfl (Sub.nil _))))
              · skip
                refine O.gp rfl rfl rfl rfl rfl (Pu.loadAgg rfl ag26 sz26 rfl rfl (Ld.whole 2 rfl)) ?_
                refine O.gp rfl rfl rfl rfl rfl (Pu.move rfl rfl) ?_
                refine O.ge rfl rfl rfl rfl rfl (Ef.callP call112 rfl rfl (fun w hw => l07Subsystem_ok  v bs set _ _ w ((Ld.old hx) w hw) (by first | omega | (simp only [tops_len, conts_len, bl, List.length_append, List.length_cons, List.length_nil] at *; omega)) hg (by omega) hfew)) ?_
                rintro _ _ ⟨rfl, rfl⟩
                refine O.gp rfl rfl rfl rfl rfl (Pu.not rfl rfl) ?_
                refine O.p rfl rfl rfl (Pu.pickF rfl rfl rfl) ?_
                refine O.nil ?_
                refine X.next ?_
                refine V.condNot rfl (fun c8 => ?_) (fun c8 => ?_)
                · skip
                  refine V.exit ?_
                  refine X.thenExit ?_
                  refine X.blockHit ?_
                  refine X.next ?_
                  refine V.region ?_
                  refine O.p rfl rfl rfl (Pu.move rfl rfl) ?_
                  refine O.p rfl rfl rfl (Pu.add64 (r := ((set + 1 : Nat) : Int)) rfl (by omega) rfl rfl rfl) ?_
                  refine O.p rfl rfl rfl (Pu.assign rfl rfl) ?_
                  refine O.nil ?_
                  exact X.back3 (outA, outc, out, set + 1) (by (try dsimp only); exact ⟨⟨by omega, by omega⟩, by rw [subsL_no (fun h => by have q := (subq_iff c1 (by omega)).1 h; first | omega | exact absurd q.2 (by assumption))]; exact hpm, hsr, by omega⟩) (by first | omega | (dsimp only; omega)) (Ent.cons' rfl (by first | rfl | (simp only [tops_append]; done) | (simp only [tops_append]; rfl)) (Ent.cons rfl (Ent.nil _))) (Ent.cons (t := 1) rfl (Ent.nil _)) (Sub.keep 0 rfl (Sub.keep 0 rfl (Sub.keep 0 rfl (Sub.nil _))))
                · skip
                  refine V.skip ?_
                  refine X.next ?_
                  refine V.seq ?_
                  have hsub : 3 ≤ ones set ∧ SubQ bs set := (subq_iff c1 (by omega)).2 ⟨by omega, by assumption⟩
                  have hpl := pts_len set
                  have hps : ∀ q ∈ conts out, q.length ≤ 15 := fun q hq => subsL_small q (hpm.mem_iff.1 hq)
                  refine V.region ?_
                  refine O.p rfl rfl rfl (Pu.move rfl rfl) ?_
                  refine O.e rfl rfl rfl (Ef.call1 call101 rfl rfl (fun w hw => l07Points_ok set w (by omega))) ?_
                  rintro _ _ rfl
                  refine O.exi (fun p1 => ?_)
                  refine O.sep ?_
                  refine O.pur ?_
                  rintro ⟨rfl, hp1⟩
                  refine O.p rfl rfl rfl (Pu.assign rfl rfl) ?_
                  refine O.nil ?_
                  refine X.next ?_
                  refine V.seq ?_
                  refine V.region ?_
                  refine O.p rfl rfl rfl (Pu.move rfl rfl) ?_
                  refine O.p rfl rfl rfl (Pu.len rfl Tryz.underlying28 rfl) ?_
                  refine O.p rfl rfl rfl (Pu.assign rfl rfl) ?_
                  refine O.nil ?_
                  refine X.next ?_
                  refine V.seq ?_
                  refine V.region ?_
                  refine O.p rfl rfl rfl (Pu.move rfl rfl) ?_
                  refine O.p rfl rfl rfl (Pu.move rfl rfl) ?_
                  refine O.e rfl rfl rfl (Ef.build SlC ([⟨p1.1.1, p1.2.length, p1.1.2⟩] : List Sl) rfl Tryz.underlying28 inf34 rfl rfl rfl (by first | decide | (simp; done)) (by kernel_rfl)) ?_
                  rintro _ _ ⟨A2, hA2, rfl, rfl⟩
                  refine O.e rfl rfl rfl (Ef.append (xs := (tops out)) (ys := ([⟨p1.1.1, p1.2.length, p1.1.2⟩] : List Sl)) 2 rfl Tryz.underlying28 inf34 rfl rfl rfl rfl rfl rfl hA2 (Ld.own 0 (by exact rfl)) (by simp only [List.length_append, List.length_cons, List.length_nil] at *; omega) (by decide)) ?_
                  rintro _ _ ⟨A3, k1, rfl, rfl, hA3⟩
                  replace hA3 := hA3 (.inr (by simp))
                  refine O.p rfl rfl rfl (Pu.assign rfl rfl) ?_
                  refine O.nil ?_
                  refine X.next ?_
                  refine V.seq ?_
                  refine V.block ?_
                  refine V.loop3 (β := Nat × (List Sl)) (fun x => [(8, .int .i64 (x.1 : Int))]) _ (fun x => [Own 34 SlC A3 k1 x.2]) _ (fun x => x.1 ≤ out.length ∧ (∀ j (hj : j < (conts out).length), x.1 ≤ j → cfB p1.2 (conts out)[j] < 0) ∧ x.2 = shiftAt (tops out) (⟨p1.1.1, p1.2.length, p1.1.2⟩ : Sl) x.1) (fun x => x.1) ((tops out).length, ((tops out) ++ ([⟨p1.1.1, p1.2.length, p1.1.2⟩] : List Sl))) (by (try dsimp only); exact ⟨by omega, fun j hj h => by rw [conts_len] at hj; omega, shiftAt_start.symm⟩) (Ent.cons rfl (Ent.nil _)) (Ent.cons (t := 1) rfl (Ent.cons (t := 4) rfl (Ent.cons (t := 5) rfl (Ent.cons (t := 7) rfl (Ent.nil _))))) (Sub.keep 2 rfl (Sub.keep 0 rfl (Sub.keep 0 rfl (Sub.keep 0 rfl (Sub.keep 0 rfl (Sub.nil _)))))) ?_
                  rintro ⟨y, z⟩ ⟨hy1, hy2, hz⟩
                  dsimp only at hy1 hy2 hz ⊢
                  subst hz
                  have hal : (tops out ++ ([(⟨p1.1.1, p1.2.length, p1.1.2⟩ : Sl)] : List Sl)).length = out.length + 1 := by rw [List.length_append, tops_len]; rfl
                  have hzl : (shiftAt (tops out) (⟨p1.1.1, p1.2.length, p1.1.2⟩ : Sl) y).length = out.length + 1 := by rw [shiftAt_len (by rw [tops_len]; omega), tops_len]
                  refine V.seq ?_
                  refine V.seq ?_
                  refine V.region ?_
                  refine O.p rfl rfl rfl (Pu.move rfl rfl) ?_
                  refine O.p rfl rfl rfl (Pu.gtr rfl rfl rfl) ?_
                  refine O.p rfl rfl rfl (Pu.move rfl rfl) ?_
                  refine O.splitD 57 rfl (fun c9 => ?_) (fun c9 => ?_)
                  · skip
                    refine O.gp rfl rfl rfl rfl rfl (Pu.move rfl rfl) ?_
                    refine O.gp rfl rfl rfl rfl rfl (Pu.move rfl rfl) ?_
                    refine O.gp rfl rfl rfl rfl rfl (Pu.move rfl rfl) ?_
                    refine O.gp rfl rfl rfl rfl rfl (Pu.sub64 (r := ((y - 1 : Nat) : Int)) (by omega) (by omega) rfl rfl rfl) ?_
                    refine O.gp rfl rfl rfl rfl rfl (Pu.indexAddrS (y - 1) rfl Tryz.underlying28 sz34 rfl rfl (by omega) (by omega) (fun w hw => Own.some hw (i := 0) (by exact rfl) (by omega))) ?_
                    have ea : y - 1 < out.length := by omega
                    have hsl : y - 1 < (shiftAt (tops out) (⟨p1.1.1, p1.2.length, p1.1.2⟩ : Sl) y).length := by omega
                    refine O.gp rfl rfl rfl rfl rfl (Pu.cast (v := .slice (out[y - 1]'ea).1.A (out[y - 1]'ea).2.length (out[y - 1]'ea).1.c) (shift_v hn_out hy1 (by omega) hsl) (Pu.load rfl pl34 rfl (Ld.rd (Ld.own 0 (by exact rfl)) (k := y - 1) hsl rfl rfl))) ?_
                    refine O.ge rfl rfl rfl rfl rfl (Ef.callP call113 rfl rfl (fun w hw => l07Before_ok  (p1.2) ((out[y - 1]'ea).2) _ _ _ _ w ((Ld.own 2 (by exact rfl)) w hw) ((Ld.rows 3 (by exact rfl) ea) w hw) (by rw [hp1]; omega) (by have := hps _ (List.mem_map_of_mem (f := fun p : Sl × List Int => p.2) (List.getElem_mem ea)); omega) )) ?_
                    rintro _ _ ⟨rfl, rfl⟩
                    refine O.p rfl rfl rfl (Pu.pickT rfl rfl rfl) ?_
                    refine O.nil ?_
                    refine X.next ?_
                    refine V.condD rfl (fun c10 => ?_) (fun c10 => ?_)
                    · skip
                      refine V.skip ?_
                      refine X.next ?_
                      refine V.block ?_
                      refine V.seq ?_
                      refine V.region ?_
                      refine O.p rfl rfl rfl (Pu.move rfl rfl) ?_
                      refine O.p rfl rfl rfl (Pu.move rfl rfl) ?_
                      refine O.p rfl rfl rfl (Pu.move rfl rfl) ?_
                      refine O.p rfl rfl rfl (Pu.move rfl rfl) ?_
                      refine O.p rfl rfl rfl (Pu.sub64 (r := ((y - 1 : Nat) : Int)) (by omega) (by omega) rfl rfl rfl) ?_
                      refine O.p rfl rfl rfl (Pu.indexAddrS (y - 1) rfl Tryz.underlying28 sz34 rfl rfl (by omega) (by omega) (fun w hw => Own.some hw (i := 0) (by exact rfl) (by omega))) ?_
                      have e1 : y - 1 < (shiftAt (tops out) (⟨p1.1.1, p1.2.length, p1.1.2⟩ : Sl) y).length := hsl
                      refine O.p rfl rfl rfl (Pu.load rfl pl34 rfl (Ld.rd (Ld.own 0 (by exact rfl)) (k := y - 1) e1 rfl rfl)) ?_
                      refine O.p rfl rfl rfl (Pu.indexAddrS (y) rfl Tryz.underlying28 sz34 rfl rfl (by omega) (by omega) (fun w hw => Own.some hw (i := 0) (by exact rfl) (by omega))) ?_
                      refine O.s rfl rfl (Ef.storeOwn 0 (y) ((shiftAt (tops out) (⟨p1.1.1, p1.2.length, p1.1.2⟩ : Sl) y)[y - 1]'e1) rfl sz34 rfl rfl rfl rfl (by omega) rfl) ?_
                      rintro _ _ rfl
                      refine O.nil ?_
                      refine X.next ?_
                      refine V.region ?_
                      refine O.p rfl rfl rfl (Pu.move rfl rfl) ?_
                      refine O.p rfl rfl rfl (Pu.sub64 (r := ((y - 1 : Nat) : Int)) (by omega) (by omega) rfl rfl rfl) ?_
                      refine O.p rfl rfl rfl (Pu.assign rfl rfl) ?_
                      refine O.nil ?_
                      refine X.blockNormal ?_
                      exact X.back3 (y - 1, ((shiftAt (tops out) (⟨p1.1.1, p1.2.length, p1.1.2⟩ : Sl) y).set (y) ((shiftAt (tops out) (⟨p1.1.1, p1.2.length, p1.1.2⟩ : Sl) y)[y - 1]'e1))) (by (try dsimp only); exact ⟨by omega, fun j hj h => by by_cases e : j = y - 1; (· subst e; rw [conts_get]; assumption); (· exact hy2 j hj (by omega)), shiftAt_step (by rw [tops_len]; omega) (by omega) _⟩) (by first | omega | (dsimp only; omega)) (Ent.cons rfl (Ent.nil _)) (Ent.cons (t := 1) rfl (Ent.cons (t := 4) rfl (Ent.cons (t := 5) rfl (Ent.cons (t := 7) rfl (Ent.nil _))))) (Sub.keep 0 rfl (Sub.keep 0 rfl (Sub.keep 0 rfl (Sub.keep 0 rfl (Sub.keep 0 rfl (Sub.nil _))))))
                    · skip
                      refine V.exit ?_
                      refine X.thenExit ?_
                      refine X.thenExit ?_
                      refine X.blockHit ?_
                      refine X.next ?_
                      refine V.region ?_
                      refine O.p rfl rfl rfl (Pu.move rfl rfl) ?_
                      refine O.p rfl rfl rfl (Pu.move rfl rfl) ?_
                      refine O.p rfl rfl rfl (Pu.move rfl rfl) ?_
                      refine O.p rfl rfl rfl (Pu.indexAddrS (y) rfl Tryz.underlying28 sz34 rfl rfl (by omega) (by omega) (fun w hw => Own.some hw (i := 0) (by exact rfl) (by omega))) ?_
                      refine O.s rfl rfl (Ef.storeOwn 0 (y) ⟨p1.1.1, p1.2.length, p1.1.2⟩ rfl sz34 rfl rfl rfl rfl (by omega) rfl) ?_
                      rintro _ _ rfl
                      refine O.nil ?_
                      refine X.blockNormal ?_
                      refine X.next ?_
                      refine V.region ?_
                      refine O.p rfl rfl rfl (Pu.move rfl rfl) ?_
                      refine O.p rfl rfl rfl (Pu.add64 (r := ((set + 1 : Nat) : Int)) rfl (by omega) rfl rfl rfl) ?_
                      refine O.p rfl rfl rfl (Pu.assign rfl rfl) ?_
                      refine O.nil ?_
                      refine X.map (fun w hw => put_heap (y := y) (ps := out) (xs := p1.2) (z := (⟨p1.1.1, p1.2.length, p1.1.2⟩ : Sl)) (by omega) (hw.sub (Sub.keep 0 rfl (Sub.keep 2 rfl (Sub.keep 1 rfl (Sub.keep 0 rfl (Sub.keep 0 rfl (Sub.nil _)))))))) ?_
                      exact X.back3 (A3, k1, (out.take y ++ ((⟨p1.1.1, p1.2.length, p1.1.2⟩ : Sl), p1.2) :: out.drop y), set + 1) (by (try dsimp only); exact ⟨⟨by omega, by omega⟩, by rw [subsL_yes hsub, ← hp1]; exact insQ_perm hpm, by rw [conts_put]; exact insQ hsr (by rw [conts_len]; omega) hy2 (fun h0 => by first | omega | (rw [conts_get]; assumption)), by simp only [List.length_append, List.length_cons, List.length_take, List.length_drop]; omega⟩) (by first | omega | (dsimp only; omega)) (Ent.cons' rfl (by simp only [tops_put, List.length_append, List.length_cons, List.length_take, List.length_drop, List.length_nil]; congr 1; omega) (Ent.cons rfl (Ent.nil _))) (Ent.cons (t := 1) rfl (Ent.nil _)) (Sub.keep 0 rfl (Sub.keep 0 rfl (Sub.keep 1 rfl (Sub.nil _))))
                  · skip
                    refine O.gs rfl rfl rfl rfl rfl rfl ?_
                    refine O.gs rfl rfl rfl rfl rfl rfl ?_
                    refine O.gs rfl rfl rfl rfl rfl rfl ?_
                    refine O.gs rfl rfl rfl rfl rfl rfl ?_
                    refine O.gs rfl rfl rfl rfl rfl rfl ?_
                    refine O.gs rfl rfl rfl rfl rfl rfl ?_
                    refine O.gs rfl rfl rfl rfl rfl rfl ?_
                    refine O.p rfl rfl rfl (Pu.pickF rfl rfl rfl) ?_
                    refine O.nil ?_
                    refine X.next ?_
                    refine V.condF rfl ?_
                    refine V.exit ?_
                    refine X.thenExit ?_
                    refine X.thenExit ?_
                    refine X.blockHit ?_
                    refine X.next ?_
                    refine V.region ?_
                    refine O.p rfl rfl rfl (Pu.move rfl rfl) ?_
                    refine O.p rfl rfl rfl (Pu.move rfl rfl) ?_
                    refine O.p rfl rfl rfl (Pu.move rfl rfl) ?_
                    refine O.p rfl rfl rfl (Pu.indexAddrS (y) rfl Tryz.underlying28 sz34 rfl rfl (by omega) (by omega) (fun w hw => Own.some hw (i := 0) (by exact rfl) (by omega))) ?_
                    refine O.s rfl rfl (Ef.storeOwn 0 (y) ⟨p1.1.1, p1.2.length, p1.1.2⟩ rfl sz34 rfl rfl rfl rfl (by omega) rfl) ?_
                    rintro _ _ rfl
                    refine O.nil ?_
                    refine X.blockNormal ?_
                    refine X.next ?_
                    refine V.region ?_
                    refine O.p rfl rfl rfl (Pu.move rfl rfl) ?_
                    refine O.p rfl rfl rfl (Pu.add64 (r := ((set + 1 : Nat) : Int)) rfl (by omega) rfl rfl rfl) ?_
                    refine O.p rfl rfl rfl (Pu.assign rfl rfl) ?_
                    refine O.nil ?_
                    refine X.map (fun w hw => put_heap (y := y) (ps := out) (xs := p1.2) (z := (⟨p1.1.1, p1.2.length, p1.1.2⟩ : Sl)) (by omega) (hw.sub (Sub.keep 0 rfl (Sub.keep 2 rfl (Sub.keep 1 rfl (Sub.keep 0 rfl (Sub.keep 0 rfl (Sub.nil _)))))))) ?_
                    exact X.back3 (A3, k1, (out.take y ++ ((⟨p1.1.1, p1.2.length, p1.1.2⟩ : Sl), p1.2) :: out.drop y), set + 1) (by (try dsimp only); exact ⟨⟨by omega, by omega⟩, by rw [subsL_yes hsub, ← hp1]; exact insQ_perm hpm, by rw [conts_put]; exact insQ hsr (by rw [conts_len]; omega) hy2 (fun h0 => by first | omega | (rw [conts_get]; assumption)), by simp only [List.length_append, List.length_cons, List.length_take, List.length_drop]; omega⟩) (by first | omega | (dsimp only; omega)) (Ent.cons' rfl (by simp only [tops_put, List.length_append, List.length_cons, List.length_take, List.length_drop, List.length_nil]; congr 1; omega) (Ent.cons rfl (Ent.nil _))) (Ent.cons (t := 1) rfl (Ent.nil _)) (Sub.keep 0 rfl (Sub.keep 0 rfl (Sub.keep 1 rfl (Sub.nil _))))
            · skip
              refine O.gs rfl rfl rfl rfl rfl rfl ?_
              refine O.gs rfl rfl rfl rfl rfl rfl ?_
              refine O.p rfl rfl rfl (Pu.pickF rfl rfl rfl) ?_
              refine O.p rfl rfl rfl (Pu.move rfl rfl) ?_
              refine O.gp rfl rfl rfl rfl rfl (Pu.loadAgg rfl ag26 sz26 rfl rfl (Ld.whole 2 rfl)) ?_
              refine O.gp rfl rfl rfl rfl rfl (Pu.move rfl rfl) ?_
              refine O.ge rfl rfl rfl rfl rfl (Ef.callP call112 rfl rfl (fun w hw => l07Subsystem_ok  v bs set _ _ w ((Ld.old hx) w hw) (by first | omega | (simp only [tops_len, conts_len, bl, List.length_append, List.length_cons, List.length_nil] at *; omega)) hg (by omega) hfew)) ?_
              rintro _ _ ⟨rfl, rfl⟩
              refine O.gp rfl rfl rfl rfl rfl (Pu.not rfl rfl) ?_
              refine O.p rfl rfl rfl (Pu.pickF rfl rfl rfl) ?_
              refine O.nil ?_
              refine X.next ?_
              refine V.condNot rfl (fun c11 => ?_) (fun c11 => ?_)
              · skip
                refine V.exit ?_
                refine X.thenExit ?_
                refine X.blockHit ?_
                refine X.next ?_
                refine V.region ?_
                refine O.p rfl rfl rfl (Pu.move rfl rfl) ?_
                refine O.p rfl rfl rfl (Pu.add64 (r := ((set + 1 : Nat) : Int)) rfl (by omega) rfl rfl rfl) ?_
                refine O.p rfl rfl rfl (Pu.assign rfl rfl) ?_
                refine O.nil ?_
                exact X.back3 (outA, outc, out, set + 1) (by (try dsimp only); exact ⟨⟨by omega, by omega⟩, by rw [subsL_no (fun h => by have q := (subq_iff c1 (by omega)).1 h; first | omega | exact absurd q.2 (by assumption))]; exact hpm, hsr, by omega⟩) (by first | omega | (dsimp only; omega)) (Ent.cons' rfl (by first | rfl | (simp only [tops_append]; done) | (simp only [tops_append]; rfl)) (Ent.cons rfl (Ent.nil _))) (Ent.cons (t := 1) rfl (Ent.nil _)) (Sub.keep 0 rfl (Sub.keep 0 rfl (Sub.keep 0 rfl (Sub.nil _))))
              · skip
                refine V.skip ?_
                refine X.next ?_
                refine V.seq ?_
                have hsub : 3 ≤ ones set ∧ SubQ bs set := (subq_iff c1 (by omega)).2 ⟨by omega, by assumption⟩
                have hpl := pts_len set
                have hps : ∀ q ∈ conts out, q.length ≤ 15 := fun q hq => subsL_small q (hpm.mem_iff.1 hq)
                refine V.region ?_
                refine O.p rfl rfl rfl (Pu.move rfl rfl) ?_
                refine O.e rfl rfl rfl (Ef.call1 call101 rfl rfl (fun w hw => l07Points_ok set w (by omega))) ?_
                rintro _ _ rfl
                refine O.exi (fun p1 => ?_)
                refine O.sep ?_
                refine O.pur ?_
                rintro ⟨rfl, hp1⟩
                refine O.p rfl rfl rfl (Pu.assign rfl rfl) ?_
                refine O.nil ?_
                refine X.next ?_
                refine V.seq ?_
                refine V.region ?_
                refine O.p rfl rfl rfl (Pu.move rfl rfl) ?_
                refine O.p rfl rfl rfl (Pu.len rfl Tryz.underlying28 rfl) ?_
                refine O.p rfl rfl rfl (Pu.assign rfl rfl) ?_
                refine O.nil ?_
                refine X.next ?_
                refine V.seq ?_
                refine V.region ?_
                refine O.p rfl rfl rfl (Pu.move rfl rfl) ?_
                refine O.p rfl rfl rfl (Pu.move rfl rfl) ?_
                refine O.e rfl rfl rfl (Ef.build SlC ([⟨p1.1.1, p1.2.length, p1.1.2⟩] : List Sl) rfl Tryz.underlying28 inf34 rfl rfl rfl (by first | decide | (simp; done)) (by kernel_rfl)) ?_
                rintro _ _ ⟨A4, hA4, rfl, rfl⟩
                refine O.e rfl rfl rfl (Ef.append (xs := (tops out)) (ys := ([⟨p1.1.1, p1.2.length, p1.1.2⟩] : List Sl)) 2 rfl Tryz.underlying28 inf34 rfl rfl rfl rfl rfl rfl hA4 (Ld.own 0 (by exact rfl)) (by simp only [List.length_append, List.length_cons, List.length_nil] at *; omega) (by decide)) ?_
                rintro _ _ ⟨A5, k2, rfl, rfl, hA5⟩
                replace hA5 := hA5 (.inr (by simp))
                refine O.p rfl rfl rfl (Pu.assign rfl rfl) ?_
                refine O.nil ?_
                refine X.next ?_
                refine V.seq ?_
                refine V.block ?_
                refine V.loop3 (β := Nat × (List Sl)) (fun x => [(8, .int .i64 (x.1 : Int))]) _ (fun x => [Own 34 SlC A5 k2 x.2]) _ (fun x => x.1 ≤ out.length ∧ (∀ j (hj : j < (conts out).length), x.1 ≤ j → cfB p1.2 (conts out)[j] < 0) ∧ x.2 = shiftAt (tops out) (⟨p1.1.1, p1.2.length, p1.1.2⟩ : Sl) x.1) (fun x => x.1) ((tops out).length, ((tops out) ++ ([⟨p1.1.1, p1.2.length, p1.1.2⟩] : List Sl))) (by (try dsimp only); exact ⟨by omega, fun j hj h => by rw [conts_len] at hj; omega, shiftAt_start.symm⟩) (Ent.cons rfl (Ent.nil _)) (Ent.cons (t := 1) rfl (Ent.cons (t := 4) rfl (Ent.cons (t := 5) rfl (Ent.cons (t := 7) rfl (Ent.nil _))))) (Sub.keep 2 rfl (Sub.keep 0 rfl (Sub.keep 0 rfl (Sub.keep 0 rfl (Sub.keep 0 rfl (Sub.nil _)))))) ?_
                rintro ⟨y, z⟩ ⟨hy1, hy2, hz⟩
                dsimp only at hy1 hy2 hz ⊢
                subst hz
                have hal : (tops out ++ ([(⟨p1.1.1, p1.2.length, p1.1.2⟩ : Sl)] : List Sl)).length = out.length + 1 := by rw [List.length_append, tops_len]; rfl
                have hzl : (shiftAt (tops out) (⟨p1.1.1, p1.2.length, p1.1.2⟩ : Sl) y).length = out.length + 1 := by rw [shiftAt_len (by rw [tops_len]; omega), tops_len]
                refine V.seq ?_
                refine V.seq ?_
                refine V.region ?_
                refine O.p rfl rfl rfl (Pu.move rfl rfl) ?_
                refine O.p rfl rfl rfl (Pu.gtr rfl rfl rfl) ?_
                refine O.p rfl rfl rfl (Pu.move rfl rfl) ?_
                refine O.splitD 57 rfl (fun c12 => ?_) (fun c12 => ?_)
                · skip
                  refine O.gp rfl rfl rfl rfl rfl (Pu.move rfl rfl) ?_
                  refine O.gp rfl rfl rfl rfl rfl (Pu.move rfl rfl) ?_
                  refine O.gp rfl rfl rfl rfl rfl (Pu.move rfl rfl) ?_
                  refine O.gp rfl rfl rfl rfl rfl (Pu.sub64 (r := ((y - 1 : Nat) : Int)) (by omega) (by omega) rfl rfl rfl) ?_
                  refine O.gp rfl rfl rfl rfl rfl (Pu.indexAddrS (y - 1) rfl Tryz.underlying28 sz34 rfl rfl (by omega) (by omega) (fun w hw => Own.some hw (i := 0) (by exact rfl) (by omega))) ?_
                  have ea : y - 1 < out.length := by omega
                  have hsl : y - 1 < (shiftAt (tops out) (⟨p1.1.1, p1.2.length, p1.1.2⟩ : Sl) y).length := by omega
                  refine O.gp rfl rfl rfl rfl rfl (Pu.cast (v := .slice (out[y - 1]'ea).1.A (out[y - 1]'ea).2.length (out[y - 1]'ea).1.c) (shift_v hn_out hy1 (by omega) hsl) (Pu.load rfl pl34 rfl (Ld.rd (Ld.own 0 (by exact rfl)) (k := y - 1) hsl rfl rfl))) ?_
                  refine O.ge rfl rfl rfl rfl rfl (Ef.callP call113 rfl rfl (fun w hw => l07Before_ok  (p1.2) ((out[y - 1]'ea).2) _ _ _ _ w ((Ld.own 2 (by exact rfl)) w hw) ((Ld.rows 3 (by exact rfl) ea) w hw) (by rw [hp1]; omega) (by have := hps _ (List.mem_map_of_mem (f := fun p : Sl × List Int => p.2) (List.getElem_mem ea)); omega) )) ?_
                  rintro _ _ ⟨rfl, rfl⟩
                  refine O.p rfl rfl rfl (Pu.pickT rfl rfl rfl) ?_
                  refine O.nil ?_
                  refine X.next ?_
                  refine V.condD rfl (fun c13 => ?_) (fun c13 => ?_)
                  · skip
                    refine V.skip ?_
                    refine X.next ?_
                    refine V.block ?_
                    refine V.seq ?_
                    refine V.region ?_
                    refine O.p rfl rfl rfl (Pu.move rfl rfl) ?_
                    refine O.p rfl rfl rfl (Pu.move rfl rfl) ?_
                    refine O.p rfl rfl rfl (Pu.move rfl rfl) ?_
                    refine O.p rfl rfl rfl (Pu.move rfl rfl) ?_
                    refine O.p rfl rfl rfl (Pu.sub64 (r := ((y - 1 : Nat) : Int)) (by omega) (by omega) rfl rfl rfl) ?_
                    refine O.p rfl rfl rfl (Pu.indexAddrS (y - 1) rfl Tryz.underlying28 sz34 rfl rfl (by omega) (by omega) (fun w hw => Own.some hw (i := 0) (by exact rfl) (by omega))) ?_
                    have e2 : y - 1 < (shiftAt (tops out) (⟨p1.1.1, p1.2.length, p1.1.2⟩ : Sl) y).length := hsl
                    refine O.p rfl rfl rfl (Pu.load rfl pl34 rfl (Ld.rd (Ld.own 0 (by exact rfl)) (k := y - 1) e2 rfl rfl)) ?_
                    refine O.p rfl rfl rfl (Pu.indexAddrS (y) rfl Tryz.underlying28 sz34 rfl rfl (by omega) (by omega) (fun w hw => Own.some hw (i := 0) (by exact rfl) (by omega))) ?_
                    refine O.s rfl rfl (Ef.storeOwn 0 (y) ((shiftAt (tops out) (⟨p1.1.1, p1.2.length, p1.1.2⟩ : Sl) y)[y - 1]'e2) rfl sz34 rfl rfl rfl rfl (by omega) rfl) ?_
                    rintro _ _ rfl
                    refine O.nil ?_
                    refine X.next ?_
                    refine V.region ?_
                    refine O.p rfl rfl rfl (Pu.move rfl rfl) ?_
                    refine O.p rfl rfl rfl (Pu.sub64 (r := ((y - 1 : Nat) : Int)) (by omega) (by omega) rfl rfl rfl) ?_
                    refine O.p rfl rfl rfl (Pu.assign rfl rfl) ?_
                    refine O.nil ?_
                    refine X.blockNormal ?_
                    exact X.back3 (y - 1, ((shiftAt (tops out) (⟨p1.1.1, p1.2.length, p1.1.2⟩ : Sl) y).set (y) ((shiftAt (tops out) (⟨p1.1.1, p1.2.length, p1.1.2⟩ : Sl) y)[y - 1]'e2))) (by (try dsimp only); exact ⟨by omega, fun j hj h => by by_cases e : j = y - 1; (· subst e; rw [conts_get]; assumption); (· exact hy2 j hj (by omega)), shiftAt_step (by rw [tops_len]; omega) (by omega) _⟩) (by first | omega | (dsimp only; omega)) (Ent.cons rfl (Ent.nil _)) (Ent.cons (t := 1) rfl (Ent.cons (t := 4) rfl (Ent.cons (t := 5) rfl (Ent.cons (t := 7) rfl (Ent.nil _))))) (Sub.keep 0 rfl (Sub.keep 0 rfl (Sub.keep 0 rfl (Sub.keep 0 rfl (Sub.keep 0 rfl (Sub.nil _))))))
                  · skip
                    refine V.exit ?_
                    refine X.thenExit ?_
                    refine X.thenExit ?_
                    refine X.blockHit ?_
                    refine X.next ?_
                    refine V.region ?_
                    refine O.p rfl rfl rfl (Pu.move rfl rfl) ?_
                    refine O.p rfl rfl rfl (Pu.move rfl rfl) ?_
                    refine O.p rfl rfl rfl (Pu.move rfl rfl) ?_
                    refine O.p rfl rfl rfl (Pu.indexAddrS (y) rfl Tryz.underlying28 sz34 rfl rfl (by omega) (by omega) (fun w hw => Own.some hw (i := 0) (by exact rfl) (by omega))) ?_
                    refine O.s rfl rfl (Ef.storeOwn 0 (y) ⟨p1.1.1, p1.2.length, p1.1.2⟩ rfl sz34 rfl rfl rfl rfl (by omega) rfl) ?_
                    rintro _ _ rfl
                    refine O.nil ?_
                    refine X.blockNormal ?_
                    refine X.next ?_
                    refine V.region ?_
                    refine O.p rfl rfl rfl (Pu.move rfl rfl) ?_
                    refine O.p rfl rfl rfl (Pu.add64 (r := ((set + 1 : Nat) : Int)) rfl (by omega) rfl rfl rfl) ?_
                    refine O.p rfl rfl rfl (Pu.assign rfl rfl) ?_
                    refine O.nil ?_
                    refine X.map (fun w hw => put_heap (y := y) (ps := out) (xs := p1.2) (z := (⟨p1.1.1, p1.2.length, p1.1.2⟩ : Sl)) (by omega) (hw.sub (Sub.keep 0 rfl (Sub.keep 2 rfl (Sub.keep 1 rfl (Sub.keep 0 rfl (Sub.keep 0 rfl (Sub.nil _)))))))) ?_
                    exact X.back3 (A5, k2, (out.take y ++ ((⟨p1.1.1, p1.2.length, p1.1.2⟩ : Sl), p1.2) :: out.drop y), set + 1) (by (try dsimp only); exact ⟨⟨by omega, by omega⟩, by rw [subsL_yes hsub, ← hp1]; exact insQ_perm hpm, by rw [conts_put]; exact insQ hsr (by rw [conts_len]; omega) hy2 (fun h0 => by first | omega | (rw [conts_get]; assumption)), by simp only [List.length_append, List.length_cons, List.length_take, List.length_drop]; omega⟩) (by first | omega | (dsimp only; omega)) (Ent.cons' rfl (by simp only [tops_put, List.length_append, List.length_cons, List.length_take, List.length_drop, List.length_nil]; congr 1; omega) (Ent.cons rfl (Ent.nil _))) (Ent.cons (t := 1) rfl (Ent.nil _)) (Sub.keep 0 rfl (Sub.keep 0 rfl (Sub.keep 1 rfl (Sub.nil _))))
                · skip
                  refine O.gs rfl rfl rfl rfl rfl rfl ?_
                  refine O.gs rfl rfl rfl rfl rfl rfl ?_
                  refine O.gs rfl rfl rfl rfl rfl rfl ?_
                  refine O.gs rfl rfl rfl rfl rfl rfl ?_
                  refine O.gs rfl rfl rfl rfl rfl rfl ?_
                  refine O.gs rfl rfl rfl rfl rfl rfl ?_
                  refine O.gs rfl rfl rfl rfl rfl rfl ?_
                  refine O.p rfl rfl rfl (Pu.pickF rfl rfl rfl) ?_
                  refine O.nil ?_
                  refine X.next ?_
                  refine V.condF rfl ?_
                  refine V.exit ?_
                  refine X.thenExit ?_
                  refine X.thenExit ?_
                  refine X.blockHit ?_
                  refine X.next ?_
                  refine V.region ?_
                  refine O.p rfl rfl rfl (Pu.move rfl rfl) ?_
                  refine O.p rfl rfl rfl (Pu.move rfl rfl) ?_
                  refine O.p rfl rfl rfl (Pu.move rfl rfl) ?_
                  refine O.p rfl rfl rfl (Pu.indexAddrS (y) rfl Tryz.underlying28 sz34 rfl rfl (by omega) (by omega) (fun w hw => Own.some hw (i := 0) (by exact rfl) (by omega))) ?_
                  refine O.s rfl rfl (Ef.storeOwn 0 (y) ⟨p1.1.1, p1.2.length, p1.1.2⟩ rfl sz34 rfl rfl rfl rfl (by omega) rfl) ?_
                  rintro _ _ rfl
                  refine O.nil ?_
                  refine X.blockNormal ?_
                  refine X.next ?_
                  refine V.region ?_
                  refine O.p rfl rfl rfl (Pu.move rfl rfl) ?_
                  refine O.p rfl rfl rfl (Pu.add64 (r := ((set + 1 : Nat) : Int)) rfl (by omega) rfl rfl rfl) ?_
                  refine O.p rfl rfl rfl (Pu.assign rfl rfl) ?_
                  refine O.nil ?_
                  refine X.map (fun w hw => put_heap (y := y) (ps := out) (xs := p1.2) (z := (⟨p1.1.1, p1.2.length, p1.1.2⟩ : Sl)) (by omega) (hw.sub (Sub.keep 0 rfl (Sub.keep 2 rfl (Sub.keep 1 rfl (Sub.keep 0 rfl (Sub.keep 0 rfl (Sub.nil _)))))))) ?_
                  exact X.back3 (A5, k2, (out.take y ++ ((⟨p1.1.1, p1.2.length, p1.1.2⟩ : Sl), p1.2) :: out.drop y), set + 1) (by (try dsimp only); exact ⟨⟨by omega, by omega⟩, by rw [subsL_yes hsub, ← hp1]; exact insQ_perm hpm, by rw [conts_put]; exact insQ hsr (by rw [conts_len]; omega) hy2 (fun h0 => by first | omega | (rw [conts_get]; assumption)), by simp only [List.length_append, List.length_cons, List.length_take, List.length_drop]; omega⟩) (by first | omega | (dsimp only; omega)) (Ent.cons' rfl (by simp only [tops_put, List.length_append, List.length_cons, List.length_take, List.length_drop, List.length_nil]; congr 1; omega) (Ent.cons rfl (Ent.nil _))) (Ent.cons (t := 1) rfl (Ent.nil _)) (Sub.keep 0 rfl (Sub.keep 0 rfl (Sub.keep 1 rfl (Sub.nil _))))
          · skip
            refine O.gs rfl rfl rfl rfl rfl rfl ?_
            refine O.gs rfl rfl rfl rfl rfl rfl ?_
            refine O.p rfl rfl rfl (Pu.pickF rfl rfl rfl) ?_
            refine O.p rfl rfl rfl (Pu.move rfl rfl) ?_
            refine O.gs rfl rfl rfl rfl rfl rfl ?_
            refine O.gs rfl rfl rfl rfl rfl rfl ?_
            refine O.p rfl rfl rfl (Pu.pickF rfl rfl rfl) ?_
            refine O.p rfl rfl rfl (Pu.move rfl rfl) ?_
            refine O.gp rfl rfl rfl rfl rfl (Pu.loadAgg rfl ag26 sz26 rfl rfl (Ld.whole 2 rfl)) ?_
            refine O.gp rfl rfl rfl rfl rfl (Pu.move rfl rfl) ?_
            refine O.ge rfl rfl rfl rfl rfl (Ef.callP call112 rfl rfl (fun w hw => l07Subsystem_ok  v bs set _ _ w ((Ld.old hx) w hw) (by first | omega | (simp only [tops_len, conts_len, bl, List.length_append, List.length_cons, List.length_nil] at *; omega)) hg (by omega) hfew)) ?_
            rintro _ _ ⟨rfl, rfl⟩
            refine O.gp rfl rfl rfl rfl rfl (Pu.not rfl rfl) ?_
            refine O.p rfl rfl rfl (Pu.pickF rfl rfl rfl) ?_
            refine O.nil ?_
            refine X.next ?_
            refine V.condNot rfl (fun c14 => ?_) (fun c14 => ?_)
            · skip
              refine V.exit ?_
              refine X.thenExit ?_
              refine X.blockHit ?_
              refine X.next ?_
              refine V.region ?_
              refine O.p rfl rfl rfl (Pu.move rfl rfl) ?_
              refine O.p rfl rfl rfl (Pu.add64 (r := ((set + 1 : Nat) : Int)) rfl (by omega) rfl rfl rfl) ?_
              refine O.p rfl rfl rfl (Pu.assign rfl rfl) ?_
              refine O.nil ?_
              exact X.back3 (outA, outc, out, set + 1) (by (try dsimp only); exact ⟨⟨by omega, by omega⟩, by rw [subsL_no (fun h => by have q := (subq_iff c1 (by omega)).1 h; first | omega | exact absurd q.2 (by assumption))]; exact hpm, hsr, by omega⟩) (by first | omega | (dsimp only; omega)) (Ent.cons' rfl (by first | rfl | (simp only [tops_append]; done) | (simp only [tops_append]; rfl)) (Ent.cons rfl (Ent.nil _))) (Ent.cons (t := 1) rfl (Ent.nil _)) (Sub.keep 0 rfl (Sub.keep 0 rfl (Sub.keep 0 rfl (Sub.nil _))))
            · skip
              refine V.skip ?_
              refine X.next ?_
              refine V.seq ?_
              have hsub : 3 ≤ ones set ∧ SubQ bs set := (subq_iff c1 (by omega)).2 ⟨by omega, by assumption⟩
              have hpl := pts_len set
              have hps : ∀ q ∈ conts out, q.length ≤ 15 := fun q hq => subsL_small q (hpm.mem_iff.1 hq)
              refine V.region ?_
              refine O.p rfl rfl rfl (Pu.move rfl rfl) ?_
              refine O.e rfl rfl rfl (Ef.call1 call101 rfl rfl (fun w hw => l07Points_ok set w (by omega))) ?_
              rintro _ _ rfl
              refine O.exi (fun p1 => ?_)
              refine O.sep ?_
              refine O.pur ?_
              rintro ⟨rfl, hp1⟩
              refine O.p rfl rfl rfl (Pu.assign rfl rfl) ?_
              refine O.nil ?_
              refine X.next ?_
              refine V.seq ?_
              refine V.region ?_
              refine O.p rfl rfl rfl (Pu.move rfl rfl) ?_
              refine O.p rfl rfl rfl (Pu.len rfl Tryz.underlying28 rfl) ?_
              refine O.p rfl rfl rfl (Pu.assign rfl rfl) ?_
              refine O.nil ?_
              refine X.next ?_
              refine V.seq ?_
              refine V.region ?_
              refine O.p rfl rfl rfl (Pu.move rfl rfl) ?_
              refine O.p rfl rfl rfl (Pu.move rfl rfl) ?_
              refine O.e rfl rfl rfl (Ef.build SlC ([⟨p1.1.1, p1.2.length, p1.1.2⟩] : List Sl) rfl Tryz.underlying28 inf34 rfl rfl rfl (by first | decide | (simp; done)) (by kernel_rfl)) ?_
              rintro _ _ ⟨A6, hA6, rfl, rfl⟩
              refine O.e rfl rfl rfl (Ef.append (xs := (tops out)) (ys := ([⟨p1.1.1, p1.2.length, p1.1.2⟩] : List Sl)) 2 rfl Tryz.underlying28 inf34 rfl rfl rfl rfl rfl rfl hA6 (Ld.own 0 (by exact rfl)) (by simp only [List.length_append, List.length_cons, List.length_nil] at *; omega) (by decide)) ?_
              rintro _ _ ⟨A7, k3, rfl, rfl, hA7⟩
              replace hA7 := hA7 (.inr (by simp))
              refine O.p rfl rfl rfl (Pu.assign rfl rfl) ?_
              refine O.nil ?_
              refine X.next ?_
              refine V.seq ?_
              refine V.block ?_
              refine V.loop3 (β := Nat × (List Sl)) (fun x => [(8, .int .i64 (x.1 : Int))]) _ (fun x => [Own 34 SlC A7 k3 x.2]) _ (fun x => x.1 ≤ out.length ∧ (∀ j (hj : j < (conts out).length), x.1 ≤ j → cfB p1.2 (conts out)[j] < 0) ∧ x.2 = shiftAt (tops out) (⟨p1.1.1, p1.2.length, p1.1.2⟩ : Sl) x.1) (fun x => x.1) ((tops out).length, ((tops out) ++ ([⟨p1.1.1, p1.2.length, p1.1.2⟩] : List Sl))) (by (try dsimp only); exact ⟨by omega, fun j hj h => by rw [conts_len] at hj; omega, shiftAt_start.symm⟩) (Ent.cons rfl (Ent.nil _)) (Ent.cons (t := 1) rfl (Ent.cons (t := 4) rfl (Ent.cons (t := 5) rfl (Ent.cons (t := 7) rfl (Ent.nil _))))) (Sub.keep 2 rfl (Sub.keep 0 rfl (Sub.keep 0 rfl (Sub.keep 0 rfl (Sub.keep 0 rfl (Sub.nil _)))))) ?_
              rintro ⟨y, z⟩ ⟨hy1, hy2, hz⟩
              dsimp only at hy1 hy2 hz ⊢
              subst hz
              have hal : (tops out ++ ([(⟨p1.1.1, p1.2.length, p1.1.2⟩ : Sl)] : List Sl)).length = out.length + 1 := by rw [List.length_append, tops_len]; rfl
              have hzl : (shiftAt (tops out) (⟨p1.1.1, p1.2.length, p1.1.2⟩ : Sl) y).length = out.length + 1 := by rw [shiftAt_len (by rw [tops_len]; omega), tops_len]
              refine V.seq ?_
              refine V.seq ?_
              refine V.region ?_
              refine O.p rfl rfl rfl (Pu.move rfl rfl) ?_
              refine O.p rfl rfl rfl (Pu.gtr rfl rfl rfl) ?_
              refine O.p rfl rfl rfl (Pu.move rfl rfl) ?_
              refine O.splitD 57 rfl (fun c15 => ?_) (fun c15 => ?_)
              · skip
                refine O.gp rfl rfl rfl rfl rfl (Pu.move rfl rfl) ?_
                refine O.gp rfl rfl rfl rfl rfl (Pu.move rfl rfl) ?_
                refine O.gp rfl rfl rfl rfl rfl (Pu.move rfl rfl) ?_
                refine O.gp rfl rfl rfl rfl rfl (Pu.sub64 (r := ((y - 1 : Nat) : Int)) (by omega) (by omega) rfl rfl rfl) ?_
                refine O.gp rfl rfl rfl rfl rfl (Pu.indexAddrS (y - 1) rfl Tryz.underlying28 sz34 rfl rfl (by omega) (by omega) (fun w hw => Own.some hw (i := 0) (by exact rfl) (by omega))) ?_
                have ea : y - 1 < out.length := by omega
                have hsl : y - 1 < (shiftAt (tops out) (⟨p1.1.1, p1.2.length, p1.1.2⟩ : Sl) y).length := by omega
                refine O.gp rfl rfl rfl rfl rfl (Pu.cast (v := .slice (out[y - 1]'ea).1.A (out[y - 1]'ea).2.length (out[y - 1]'ea).1.c) (shift_v hn_out hy1 (by omega) hsl) (Pu.load rfl pl34 rfl (Ld.rd (Ld.own 0 (by exact rfl)) (k := y - 1) hsl rfl rfl))) ?_
                refine O.ge rfl rfl rfl rfl rfl (Ef.callP call113 rfl rfl (fun w hw => l07Before_ok  (p1.2) ((out[y - 1]'ea).2) _ _ _ _ w ((Ld.own 2 (by exact rfl)) w hw) ((Ld.rows 3 (by exact rfl) ea) w hw) (by rw [hp1]; omega) (by have := hps _ (List.mem_map_of_mem (f := fun p : Sl × List Int => p.2) (List.getElem_mem ea)); omega) )) ?_
                rintro _ _ ⟨rfl, rfl⟩
                refine O.p rfl rfl rfl (Pu.pickT rfl rfl rfl) ?_
                refine O.nil ?_
                refine X.next ?_
                refine V.condD rfl (fun c16 => ?_) (fun c16 => ?_)
                · skip
                  refine V.skip ?_
                  refine X.next ?_
                  refine V.block ?_
                  refine V.seq ?_
                  refine V.region ?_
                  refine O.p rfl rfl rfl (Pu.move rfl rfl) ?_
                  refine O.p rfl rfl rfl (Pu.move rfl rfl) ?_
                  refine O.p rfl rfl rfl (Pu.move rfl rfl) ?_
                  refine O.p rfl rfl rfl (Pu.move rfl rfl) ?_
                  refine O.p rfl rfl rfl (Pu.sub64 (r := ((y - 1 : Nat) : Int)) (by omega) (by omega) rfl rfl rfl) ?_
                  refine O.p rfl rfl rfl (Pu.indexAddrS (y - 1) rfl Tryz.underlying28 sz34 rfl rfl (by omega) (by omega) (fun w hw => Own.some hw (i := 0) (by exact rfl) (by omega))) ?_
                  have e3 : y - 1 < (shiftAt (tops out) (⟨p1.1.1, p1.2.length, p1.1.2⟩ : Sl) y).length := hsl
                  refine O.p rfl rfl rfl (Pu.load rfl pl34 rfl (Ld.rd (Ld.own 0 (by exact rfl)) (k := y - 1) e3 rfl rfl)) ?_
                  refine O.p rfl rfl rfl (Pu.indexAddrS (y) rfl Tryz.underlying28 sz34 rfl rfl (by omega) (by omega) (fun w hw => Own.some hw (i := 0) (by exact rfl) (by omega))) ?_
                  refine O.s rfl rfl (Ef.storeOwn 0 (y) ((shiftAt (tops out) (⟨p1.1.1, p1.2.length, p1.1.2⟩ : Sl) y)[y - 1]'e3) rfl sz34 rfl rfl rfl rfl (by omega) rfl) ?_
                  rintro _ _ rfl
                  refine O.nil ?_
                  refine X.next ?_
                  refine V.region ?_
                  refine O.p rfl rfl rfl (Pu.move rfl rfl) ?_
                  refine O.p rfl rfl rfl (Pu.sub64 (r := ((y - 1 : Nat) : Int)) (by omega) (by omega) rfl rfl rfl) ?_
                  refine O.p rfl rfl rfl (Pu.assign rfl rfl) ?_
                  refine O.nil ?_
                  refine X.blockNormal ?_
                  exact X.back3 (y - 1, ((shiftAt (tops out) (⟨p1.1.1, p1.2.length, p1.1.2⟩ : Sl) y).set (y) ((shiftAt (tops out) (⟨p1.1.1, p1.2.length, p1.1.2⟩ : Sl) y)[y - 1]'e3))) (by (try dsimp only); exact ⟨by omega, fun j hj h => by by_cases e : j = y - 1; (· subst e; rw [conts_get]; assumption); (· exact hy2 j hj (by omega)), shiftAt_step (by rw [tops_len]; omega) (by omega) _⟩) (by first | omega | (dsimp only; omega)) (Ent.cons rfl (Ent.nil _)) (Ent.cons (t := 1) rfl (Ent.cons (t := 4) rfl (Ent.cons (t := 5) rfl (Ent.cons (t := 7) rfl (Ent.nil _))))) (Sub.keep 0 rfl (Sub.keep 0 rfl (Sub.keep 0 rfl (Sub.keep 0 rfl (Sub.keep 0 rfl (Sub.nil _))))))
                · skip
                  refine V.exit ?_
                  refine X.thenExit ?_
                  refine X.thenExit ?_
                  refine X.blockHit ?_
                  refine X.next ?_
                  refine V.region ?_
                  refine O.p rfl rfl rfl (Pu.move rfl rfl) ?_
                  refine O.p rfl rfl rfl (Pu.move rfl rfl) ?_
                  refine O.p rfl rfl rfl (Pu.move rfl rfl) ?_
                  refine O.p rfl rfl rfl (Pu.indexAddrS (y) rfl Tryz.underlying28 sz34 rfl rfl (by omega) (by omega) (fun w hw => Own.some hw (i := 0) (by exact rfl) (by omega))) ?_
                  refine O.s rfl rfl (Ef.storeOwn 0 (y) ⟨p1.1.1, p1.2.length, p1.1.2⟩ rfl sz34 rfl rfl rfl rfl (by omega) rfl) ?_
                  rintro _ _ rfl
                  refine O.nil ?_
                  refine X.blockNormal ?_
                  refine X.next ?_
                  refine V.region ?_
                  refine O.p rfl rfl rfl (Pu.move rfl rfl) ?_
                  refine O.p rfl rfl rfl (Pu.add64 (r := ((set + 1 : Nat) : Int)) rfl (by omega) rfl rfl rfl) ?_
                  refine O.p rfl rfl rfl (Pu.assign rfl rfl) ?_
                  refine O.nil ?_
                  refine X.map (fun w hw => put_heap (y := y) (ps := out) (xs := p1.2) (z := (⟨p1.1.1, p1.2.length, p1.1.2⟩ : Sl)) (by omega) (hw.sub (Sub.keep 0 rfl (Sub.keep 2 rfl (Sub.keep 1 rfl (Sub.keep 0 rfl (Sub.keep 0 rfl (Sub.nil _)))))))) ?_
                  exact X.back3 (A7, k3, (out.take y ++ ((⟨p1.1.1, p1.2.length, p1.1.2⟩ : Sl), p1.2) :: out.drop y), set + 1) (by (try dsimp only); exact ⟨⟨by omega, by omega⟩, by rw [subsL_yes hsub, ← hp1]; exact insQ_perm hpm, by rw [conts_put]; exact insQ hsr (by rw [conts_len]; omega) hy2 (fun h0 => by first | omega | (rw [conts_get]; assumption)), by simp only [List.length_append, List.length_cons, List.length_take, List.length_drop]; omega⟩) (by first | omega | (dsimp only; omega)) (Ent.cons' rfl (by simp only [tops_put, List.length_append, List.length_cons, List.length_take, List.length_drop, List.length_nil]; congr 1; omega) (Ent.cons rfl (Ent.nil _))) (Ent.cons (t := 1) rfl (Ent.nil _)) (Sub.keep 0 rfl (Sub.keep 0 rfl (Sub.keep 1 rfl (Sub.nil _))))
              · skip
                refine O.gs rfl rfl rfl rfl rfl rfl ?_
                refine O.gs rfl rfl rfl rfl rfl rfl ?_
                refine O.gs rfl rfl rfl rfl rfl rfl ?_
                refine O.gs rfl rfl rfl rfl rfl rfl ?_
                refine O.gs rfl rfl rfl rfl rfl rfl ?_
                refine O.gs rfl rfl rfl rfl rfl rfl ?_
                refine O.gs rfl rfl rfl rfl rfl rfl ?_
                refine O.p rfl rfl rfl (Pu.pickF rfl rfl rfl) ?_
                refine O.nil ?_
                refine X.next ?_
                refine V.condF rfl ?_
                refine V.exit ?_
                refine X.thenExit ?_
                refine X.thenExit ?_
                refine X.blockHit ?_
                refine X.next ?_
                refine V.region ?_
                refine O.p rfl rfl rfl (Pu.move rfl rfl) ?_
                refine O.p rfl rfl rfl (Pu.move rfl rfl) ?_
                refine O.p rfl rfl rfl (Pu.move rfl rfl) ?_
                refine O.p rfl rfl rfl (Pu.indexAddrS (y) rfl Tryz.underlying28 sz34 rfl rfl (by omega) (by omega) (fun w hw => Own.some hw (i := 0) (by exact rfl) (by omega))) ?_
                refine O.s rfl rfl (Ef.storeOwn 0 (y) ⟨p1.1.1, p1.2.length, p1.1.2⟩ rfl sz34 rfl rfl rfl rfl (by omega) rfl) ?_
                rintro _ _ rfl
                refine O.nil ?_
                refine X.blockNormal ?_
                refine X.next ?_
                refine V.region ?_
                refine O.p rfl rfl rfl (Pu.move rfl rfl) ?_
                refine O.p rfl rfl rfl (Pu.add64 (r := ((set + 1 : Nat) : Int)) rfl (by omega) rfl rfl rfl) ?_
                refine O.p rfl rfl rfl (Pu.assign rfl rfl) ?_
                refine O.nil ?_
                refine X.map (fun w hw => put_heap (y := y) (ps := out) (xs := p1.2) (z := (⟨p1.1.1, p1.2.length, p1.1.2⟩ : Sl)) (by omega) (hw.sub (Sub.keep 0 rfl (Sub.keep 2 rfl (Sub.keep 1 rfl (Sub.keep 0 rfl (Sub.keep 0 rfl (Sub.nil _)))))))) ?_
                exact X.back3 (A7, k3, (out.take y ++ ((⟨p1.1.1, p1.2.length, p1.1.2⟩ : Sl), p1.2) :: out.drop y), set + 1) (by (try dsimp only); exact ⟨⟨by omega, by omega⟩, by rw [subsL_yes hsub, ← hp1]; exact insQ_perm hpm, by rw [conts_put]; exact insQ hsr (by rw [conts_len]; omega) hy2 (fun h0 => by first | omega | (rw [conts_get]; assumption)), by simp only [List.length_append, List.length_cons, List.length_take, List.length_drop]; omega⟩) (by first | omega | (dsimp only; omega)) (Ent.cons' rfl (by simp only [tops_put, List.length_append, List.length_cons, List.length_take, List.length_drop, List.length_nil]; congr 1; omega) (Ent.cons rfl (Ent.nil _))) (Ent.cons (t := 1) rfl (Ent.nil _)) (Sub.keep 0 rfl (Sub.keep 0 rfl (Sub.keep 1 rfl (Sub.nil _))))
        · skip
          refine O.gs rfl rfl rfl rfl rfl rfl ?_
          refine O.gs rfl rfl rfl rfl rfl rfl ?_
          refine O.p rfl rfl rfl (Pu.pickF rfl rfl rfl) ?_
          refine O.p rfl rfl rfl (Pu.move rfl rfl) ?_
          refine O.gs rfl rfl rfl rfl rfl rfl ?_
          refine O.gs rfl rfl rfl rfl rfl rfl ?_
          refine O.p rfl rfl rfl (Pu.pickF rfl rfl rfl) ?_
          refine O.p rfl rfl rfl (Pu.move rfl rfl) ?_
          refine O.gs rfl rfl rfl rfl rfl rfl ?_
          refine O.gs rfl rfl rfl rfl rfl rfl ?_
          refine O.p rfl rfl rfl (Pu.pickF rfl rfl rfl) ?_
          refine O.p rfl rfl rfl (Pu.move rfl rfl) ?_
          refine O.gp rfl rfl rfl rfl rfl (Pu.loadAgg rfl ag26 sz26 rfl rfl (Ld.whole 2 rfl)) ?_
          refine O.gp rfl rfl rfl rfl rfl (Pu.move rfl rfl) ?_
          refine O.ge rfl rfl rfl rfl rfl (Ef.callP call112 rfl rfl (fun w hw => l07Subsystem_ok  v bs set _ _ w ((Ld.old hx) w hw) (by first | omega | (simp only [tops_len, conts_len, bl, List.length_append, List.length_cons, List.length_nil] at *; omega)) hg (by omega) hfew)) ?_
          rintro _ _ ⟨rfl, rfl⟩
          refine O.gp rfl rfl rfl rfl rfl (Pu.not rfl rfl) ?_
          refine O.p rfl rfl rfl (Pu.pickF rfl rfl rfl) ?_
          refine O.nil ?_
          refine X.next ?_
          refine V.condNot rfl (fun c17 => ?_) (fun c17 => ?_)
          · skip
            refine V.exit ?_
            refine X.thenExit ?_
            refine X.blockHit ?_
            refine X.next ?_
            refine V.region ?_
            refine O.p rfl rfl rfl (Pu.move rfl rfl) ?_
            refine O.p rfl rfl rfl (Pu.add64 (r := ((set + 1 : Nat) : Int)) rfl (by omega) rfl rfl rfl) ?_
            refine O.p rfl rfl rfl (Pu.assign rfl rfl) ?_
            refine O.nil ?_
            exact X.back3 (outA, outc, out, set + 1) (by (try dsimp only); exact ⟨⟨by omega, by omega⟩, by rw [subsL_no (fun h => by have q := (subq_iff c1 (by omega)).1 h; first | omega | exact absurd q.2 (by assumption))]; exact hpm, hsr, by omega⟩) (by first | omega | (dsimp only; omega)) (Ent.cons' rfl (by first | rfl | (simp only [tops_append]; done) | (simp only [tops_append]; rfl)) (Ent.cons rfl (Ent.nil _))) (Ent.cons (t := 1) rfl (Ent.nil _)) (Sub.keep 0 rfl (Sub.keep 0 rfl (Sub.keep 0 rfl (Sub.nil _))))
          · skip
            refine V.skip ?_
            refine X.next ?_
            refine V.seq ?_
            have hsub : 3 ≤ ones set ∧ SubQ bs set := (subq_iff c1 (by omega)).2 ⟨by omega, by assumption⟩
            have hpl := pts_len set
            have hps : ∀ q ∈ conts out, q.length ≤ 15 := fun q hq => subsL_small q (hpm.mem_iff.1 hq)
            refine V.region ?_
            refine O.p rfl rfl rfl (Pu.move rfl rfl) ?_
            refine O.e rfl rfl rfl (Ef.call1 call101 rfl rfl (fun w hw => l07Points_ok set w (by omega))) ?_
            rintro _ _ rfl
            refine O.exi (fun p1 => ?_)
            refine O.sep ?_
            refine O.pur ?_
            rintro ⟨rfl, hp1⟩
            refine O.p rfl rfl rfl (Pu.assign rfl rfl) ?_
            refine O.nil ?_
            refine X.next ?_
            refine V.seq ?_
            refine V.region ?_
            refine O.p rfl rfl rfl (Pu.move rfl rfl) ?_
            refine O.p rfl rfl rfl (Pu.len rfl Tryz.underlying28 rfl) ?_
            refine O.p rfl rfl rfl (Pu.assign rfl rfl) ?_
            refine O.nil ?_
            refine X.next ?_
            refine V.seq ?_
            refine V.region ?_
            refine O.p rfl rfl rfl (Pu.move rfl rfl) ?_
            refine O.p rfl rfl rfl (Pu.move rfl rfl) ?_
            refine O.e rfl rfl rfl (Ef.build SlC ([⟨p1.1.1, p1.2.length, p1.1.2⟩] : List Sl) rfl Tryz.underlying28 inf34 rfl rfl rfl (by first | decide | (simp; done)) (by kernel_rfl)) ?_
            rintro _ _ ⟨A8, hA8, rfl, rfl⟩
            refine O.e rfl rfl rfl (Ef.append (xs := (tops out)) (ys := ([⟨p1.1.1, p1.2.length, p1.1.2⟩] : List Sl)) 2 rfl Tryz.underlying28 inf34 rfl rfl rfl rfl rfl rfl hA8 (Ld.own 0 (by exact rfl)) (by simp only [List.length_append, List.length_cons, List.length_nil] at *; omega) (by decide)) ?_
            rintro _ _ ⟨A9, k4, rfl, rfl, hA9⟩
            replace hA9 := hA9 (.inr (by simp))
            refine O.p rfl rfl rfl (Pu.assign rfl rfl) ?_
            refine O.nil ?_
            refine X.next ?_
            refine V.seq ?_
            refine V.block ?_
            refine V.loop3 (β := Nat × (List Sl)) (fun x => [(8, .int .i64 (x.1 : Int))]) _ (fun x => [Own 34 SlC A9 k4 x.2]) _ (fun x => x.1 ≤ out.length ∧ (∀ j (hj : j < (conts out).length), x.1 ≤ j → cfB p1.2 (conts out)[j] < 0) ∧ x.2 = shiftAt (tops out) (⟨p1.1.1, p1.2.length, p1.1.2⟩ : Sl) x.1) (fun x => x.1) ((tops out).length, ((tops out) ++ ([⟨p1.1.1, p1.2.length, p1.1.2⟩] : List Sl))) (by (try dsimp only); exact ⟨by omega, fun j hj h => by rw [conts_len] at hj; omega, shiftAt_start.symm⟩) (Ent.cons rfl (Ent.nil _)) (Ent.cons (t := 1) rfl (Ent.cons (t := 4) rfl (Ent.cons (t := 5) rfl (Ent.cons (t := 7) rfl (Ent.nil _))))) (Sub.keep 2 rfl (Sub.keep 0 rfl (Sub.keep 0 rfl (Sub.keep 0 rfl (Sub.keep 0 rfl (Sub.nil _)))))) ?_
            rintro ⟨y, z⟩ ⟨hy1, hy2, hz⟩
            dsimp only at hy1 hy2 hz ⊢
            subst hz
            have hal : (tops out ++ ([(⟨p1.1.1, p1.2.length, p1.1.2⟩ : Sl)] : List Sl)).length = out.length + 1 := by rw [List.length_append, tops_len]; rfl
            have hzl : (shiftAt (tops out) (⟨p1.1.1, p1.2.length, p1.1.2⟩ : Sl) y).length = out.length + 1 := by rw [shiftAt_len (by rw [tops_len]; omega), tops_len]
            refine V.seq ?_
            refine V.seq ?_
            refine V.region ?_
            refine O.p rfl rfl rfl (Pu.move rfl rfl) ?_
            refine O.p rfl rfl rfl (Pu.gtr rfl rfl rfl) ?_
            refine O.p rfl rfl rfl (Pu.move rfl rfl) ?_
            refine O.splitD 57 rfl (fun c18 => ?_) (fun c18 => ?_)
            · skip
              refine O.gp rfl rfl rfl rfl rfl (Pu.move rfl rfl) ?_
              refine O.gp rfl rfl rfl rfl rfl (Pu.move rfl rfl) ?_
              refine O.gp rfl rfl rfl rfl rfl (Pu.move rfl rfl) ?_
              refine O.gp rfl rfl rfl rfl rfl (Pu.sub64 (r := ((y - 1 : Nat) : Int)) (by omega) (by omega) rfl rfl rfl) ?_
              refine O.gp rfl rfl rfl rfl rfl (Pu.indexAddrS (y - 1) rfl Tryz.underlying28 sz34 rfl rfl (by omega) (by omega) (fun w hw => Own.some hw (i := 0) (by exact rfl) (by omega))) ?_
              have ea : y - 1 < out.length := by omega
              have hsl : y - 1 < (shiftAt (tops out) (⟨p1.1.1, p1.2.length, p1.1.2⟩ : Sl) y).length := by omega
              refine O.gp rfl rfl rfl rfl rfl (Pu.cast (v := .slice (out[y - 1]'ea).1.A (out[y - 1]'ea).2.length (out[y - 1]'ea).1.c) (shift_v hn_out hy1 (by omega) hsl) (Pu.load rfl pl34 rfl (Ld.rd (Ld.own 0 (by exact rfl)) (k := y - 1) hsl rfl rfl))) ?_
              refine O.ge rfl rfl rfl rfl rfl (Ef.callP call113 rfl rfl (fun w hw => l07Before_ok  (p1.2) ((out[y - 1]'ea).2) _ _ _ _ w ((Ld.own 2 (by exact rfl)) w hw) ((Ld.rows 3 (by exact rfl) ea) w hw) (by rw [hp1]; omega) (by have := hps _ (List.mem_map_of_mem (f := fun p : Sl × List Int => p.2) (List.getElem_mem ea)); omega) )) ?_
              rintro _ _ ⟨rfl, rfl⟩
              refine O.p rfl rfl rfl (Pu.pickT rfl rfl rfl) ?_
              refine O.nil ?_
              refine X.next ?_
              refine V.condD rfl (fun c19 => ?_) (fun c19 => ?_)
              · skip
                refine V.skip ?_
                refine X.next ?_
                refine V.block ?_
                refine V.seq ?_
                refine V.region ?_
                refine O.p rfl rfl rfl (Pu.move rfl rfl) ?_
                refine O.p rfl rfl rfl (Pu.move rfl rfl) ?_
                refine O.p rfl rfl rfl (Pu.move rfl rfl) ?_
                refine O.p rfl rfl rfl (Pu.move rfl rfl) ?_
                refine O.p rfl rfl rfl (Pu.sub64 (r := ((y - 1 : Nat) : Int)) (by omega) (by omega) rfl rfl rfl) ?_
                refine O.p rfl rfl rfl (Pu.indexAddrS (y - 1) rfl Tryz.underlying28 sz34 rfl rfl (by omega) (by omega) (fun w hw => Own.some hw (i := 0) (by exact rfl) (by omega))) ?_
                have e4 : y - 1 < (shiftAt (tops out) (⟨p1.1.1, p1.2.length, p1.1.2⟩ : Sl) y).length := hsl
                refine O.p rfl rfl rfl (Pu.load rfl pl34 rfl (Ld.rd (Ld.own 0 (by exact rfl)) (k := y - 1) e4 rfl rfl)) ?_
                refine O.p rfl rfl rfl (Pu.indexAddrS (y) rfl Tryz.underlying28 sz34 rfl rfl (by omega) (by omega) (fun w hw => Own.some hw (i := 0) (by exact rfl) (by omega))) ?_
                refine O.s rfl rfl (Ef.storeOwn 0 (y) ((shiftAt (tops out) (⟨p1.1.1, p1.2.length, p1.1.2⟩ : Sl) y)[y - 1]'e4) rfl sz34 rfl rfl rfl rfl (by omega) rfl) ?_
                rintro _ _ rfl
                refine O.nil ?_
                refine X.next ?_
                refine V.region ?_
                refine O.p rfl rfl rfl (Pu.move rfl rfl) ?_
                refine O.p rfl rfl rfl (Pu.sub64 (r := ((y - 1 : Nat) : Int)) (by omega) (by omega) rfl rfl rfl) ?_
                refine O.p rfl rfl rfl (Pu.assign rfl rfl) ?_
                refine O.nil ?_
                refine X.blockNormal ?_
                exact X.back3 (y - 1, ((shiftAt (tops out) (⟨p1.1.1, p1.2.length, p1.1.2⟩ : Sl) y).set (y) ((shiftAt (tops out) (⟨p1.1.1, p1.2.length, p1.1.2⟩ : Sl) y)[y - 1]'e4))) (by (try dsimp only); exact ⟨by omega, fun j hj h => by by_cases e : j = y - 1; (· subst e; rw [conts_get]; assumption); (· exact hy2 j hj (by omega)), shiftAt_step (by rw [tops_len]; omega) (by omega) _⟩) (by first | omega | (dsimp only; omega)) (Ent.cons rfl (Ent.nil _)) (Ent.cons (t := 1) rfl (Ent.cons (t := 4) rfl (Ent.cons (t := 5) rfl (Ent.cons (t := 7) rfl (Ent.nil _))))) (Sub.keep 0 rfl (Sub.keep 0 rfl (Sub.keep 0 rfl (Sub.keep 0 rfl (Sub.keep 0 rfl (Sub.nil _))))))
              · skip
                refine V.exit ?_
                refine X.thenExit ?_
                refine X.thenExit ?_
                refine X.blockHit ?_
                refine X.next ?_
                refine V.region ?_
                refine O.p rfl rfl rfl (Pu.move rfl rfl) ?_
                refine O.p rfl rfl rfl (Pu.move rfl rfl) ?_
                refine O.p rfl rfl rfl (Pu.move rfl rfl) ?_
                refine O.p rfl rfl rfl (Pu.indexAddrS (y) rfl Tryz.underlying28 sz34 rfl rfl (by omega) (by omega) (fun w hw => Own.some hw (i := 0) (by exact rfl) (by omega))) ?_
                refine O.s rfl rfl (Ef.storeOwn 0 (y) ⟨p1.1.1, p1.2.length, p1.1.2⟩ rfl sz34 rfl rfl rfl rfl (by omega) rfl) ?_
                rintro _ _ rfl
                refine O.nil ?_
                refine X.blockNormal ?_
                refine X.next ?_
                refine V.region ?_
                refine O.p rfl rfl rfl (Pu.move rfl rfl) ?_
                refine O.p rfl rfl rfl (Pu.add64 (r := ((set + 1 : Nat) : Int)) rfl (by omega) rfl rfl rfl) ?_
                refine O.p rfl rfl rfl (Pu.assign rfl rfl) ?_
                refine O.nil ?_
                refine X.map (fun w hw => put_heap (y := y) (ps := out) (xs := p1.2) (z := (⟨p1.1.1, p1.2.length, p1.1.2⟩ : Sl)) (by omega) (hw.sub (Sub.keep 0 rfl (Sub.keep 2 rfl (Sub.keep 1 rfl (Sub.keep 0 rfl (Sub.keep 0 rfl (Sub.nil _)))))))) ?_
                exact X.back3 (A9, k4, (out.take y ++ ((⟨p1.1.1, p1.2.length, p1.1.2⟩ : Sl), p1.2) :: out.drop y), set + 1) (by (try dsimp only); exact ⟨⟨by omega, by omega⟩, by rw [subsL_yes hsub, ← hp1]; exact insQ_perm hpm, by rw [conts_put]; exact insQ hsr (by rw [conts_len]; omega) hy2 (fun h0 => by first | omega | (rw [conts_get]; assumption)), by simp only [List.length_append, List.length_cons, List.length_take, List.length_drop]; omega⟩) (by first | omega | (dsimp only; omega)) (Ent.cons' rfl (by simp only [tops_put, List.length_append, List.length_cons, List.length_take, List.length_drop, List.length_nil]; congr 1; omega) (Ent.cons rfl (Ent.nil _))) (Ent.cons (t := 1) rfl (Ent.nil _)) (Sub.keep 0 rfl (Sub.keep 0 rfl (Sub.keep 1 rfl (Sub.nil _))))
            · skip
              refine O.gs rfl rfl rfl rfl rfl rfl ?_
              refine O.gs rfl rfl rfl rfl rfl rfl ?_
              refine O.gs rfl rfl rfl rfl rfl rfl ?_
              refine O.gs rfl rfl rfl rfl rfl rfl ?_
              refine O.gs rfl rfl rfl rfl rfl rfl ?_
              refine O.gs rfl rfl rfl rfl rfl rfl ?_
              refine O.gs rfl rfl rfl rfl rfl rfl ?_
              refine O.p rfl rfl rfl (Pu.pickF rfl rfl rfl) ?_
              refine O.nil ?_
              refine X.next ?_
              refine V.condF rfl ?_
              refine V.exit ?_
              refine X.thenExit ?_
              refine X.thenExit ?_
              refine X.blockHit ?_
              refine X.next ?_
              refine V.region ?_
              refine O.p rfl rfl rfl (Pu.move rfl rfl) ?_
              refine O.p rfl rfl rfl (Pu.move rfl rfl) ?_
              refine O.p rfl rfl rfl (Pu.move rfl rfl) ?_
              refine O.p rfl rfl rfl (Pu.indexAddrS (y) rfl Tryz.underlying28 sz34 rfl rfl (by omega) (by omega) (fun w hw => Own.some hw (i := 0) (by exact rfl) (by omega))) ?_
              refine O.s rfl rfl (Ef.storeOwn 0 (y) ⟨p1.1.1, p1.2.length, p1.1.2⟩ rfl sz34 rfl rfl rfl rfl (by omega) rfl) ?_
              rintro _ _ rfl
              refine O.nil ?_
              refine X.blockNormal ?_
              refine X.next ?_
              refine V.region ?_
              refine O.p rfl rfl rfl (Pu.move rfl rfl) ?_
              refine O.p rfl rfl rfl (Pu.add64 (r := ((set + 1 : Nat) : Int)) rfl (by omega) rfl rfl rfl) ?_
              refine O.p rfl rfl rfl (Pu.assign rfl rfl) ?_
              refine O.nil ?_
              refine X.map (fun w hw => put_heap (y := y) (ps := out) (xs := p1.2) (z := (⟨p1.1.1, p1.2.length, p1.1.2⟩ : Sl)) (by omega) (hw.sub (Sub.keep 0 rfl (Sub.keep 2 rfl (Sub.keep 1 rfl (Sub.keep 0 rfl (Sub.keep 0 rfl (Sub.nil _)))))))) ?_
              exact X.back3 (A9, k4, (out.take y ++ ((⟨p1.1.1, p1.2.length, p1.1.2⟩ : Sl), p1.2) :: out.drop y), set + 1) (by (try dsimp only); exact ⟨⟨by omega, by omega⟩, by rw [subsL_yes hsub, ← hp1]; exact insQ_perm hpm, by rw [conts_put]; exact insQ hsr (by rw [conts_len]; omega) hy2 (fun h0 => by first | omega | (rw [conts_get]; assumption)), by simp only [List.length_append, List.length_cons, List.length_take, List.length_drop]; omega⟩) (by first | omega | (dsimp only; omega)) (Ent.cons' rfl (by simp only [tops_put, List.length_append, List.length_cons, List.length_take, List.length_drop, List.length_nil]; congr 1; omega) (Ent.cons rfl (Ent.nil _))) (Ent.cons (t := 1) rfl (Ent.nil _)) (Sub.keep 0 rfl (Sub.keep 0 rfl (Sub.keep 1 rfl (Sub.nil _))))
      · skip
        refine O.gs rfl rfl rfl rfl rfl rfl ?_
        refine O.gs rfl rfl rfl rfl rfl rfl ?_
        refine O.p rfl rfl rfl (Pu.pickF rfl rfl rfl) ?_
        refine O.p rfl rfl rfl (Pu.move rfl rfl) ?_
        refine O.gs rfl rfl rfl rfl rfl rfl ?_
        refine O.gs rfl rfl rfl rfl rfl rfl ?_
        refine O.p rfl rfl rfl (Pu.pickF rfl rfl rfl) ?_
        refine O.p rfl rfl rfl (Pu.move rfl rfl) ?_
        refine O.gs rfl rfl rfl rfl rfl rfl ?_
        refine O.gs rfl rfl rfl rfl rfl rfl ?_
        refine O.p rfl rfl rfl (Pu.pickF rfl rfl rfl) ?_
        refine O.p rfl rfl rfl (Pu.move rfl rfl) ?_
        refine O.gs rfl rfl rfl rfl rfl rfl ?_
        refine O.gs rfl rfl rfl rfl rfl rfl ?_
        refine O.p rfl rfl rfl (Pu.pickF rfl rfl rfl) ?_
        refine O.p rfl rfl rfl (Pu.move rfl rfl) ?_
        refine O.gp rfl rfl rfl rfl rfl (Pu.loadAgg rfl ag26 sz26 rfl rfl (Ld.whole 2 rfl)) ?_
        refine O.gp rfl rfl rfl rfl rfl (Pu.move rfl rfl) ?_
        refine O.ge rfl rfl rfl rfl rfl (Ef.callP call112 rfl rfl (fun w hw => l07Subsystem_ok  v bs set _ _ w ((Ld.old hx) w hw) (by first | omega | (simp only [tops_len, conts_len, bl, List.length_append, List.length_cons, List.length_nil] at *; omega)) hg (by omega) hfew)) ?_
        rintro _ _ ⟨rfl, rfl⟩
        refine O.gp rfl rfl rfl rfl rfl (Pu.not rfl rfl) ?_
        refine O.p rfl rfl rfl (Pu.pickF rfl rfl rfl) ?_
        refine O.nil ?_
        refine X.next ?_
        refine V.condNot rfl (fun c20 => ?_) (fun c20 => ?_)
        · skip
          refine V.exit ?_
          refine X.thenExit ?_
          refine X.blockHit ?_
          refine X.next ?_
          refine V.region ?_
          refine O.p rfl rfl rfl (Pu.move rfl rfl) ?_
          refine O.p rfl rfl rfl (Pu.add64 (r := ((set + 1 : Nat) : Int)) rfl (by omega) rfl rfl rfl) ?_
          refine O.p rfl rfl rfl (Pu.assign rfl rfl) ?_
          refine O.nil ?_
          exact X.back3 (outA, outc, out, set + 1) (by (try dsimp only); exact ⟨⟨by omega, by omega⟩, by rw [subsL_no (fun h => by have q := (subq_iff c1 (by omega)).1 h; first | omega | exact absurd q.2 (by assumption))]; exact hpm, hsr, by omega⟩) (by first | omega | (dsimp only; omega)) (Ent.cons' rfl (by first | rfl | (simp only [tops_append]; done) | (simp only [tops_append]; rfl)) (Ent.cons rfl (Ent.nil _))) (Ent.cons (t := 1) rfl (Ent.nil _)) (Sub.keep 0 rfl (Sub.keep 0 rfl (Sub.keep 0 rfl (Sub.nil _))))
        · skip
          refine V.skip ?_
          refine X.next ?_
          refine V.seq ?_
          have hsub : 3 ≤ ones set ∧ SubQ bs set := (subq_iff c1 (by omega)).2 ⟨by omega, by assumption⟩
          have hpl := pts_len set
          have hps : ∀ q ∈ conts out, q.length ≤ 15 := fun q hq => subsL_small q (hpm.mem_iff.1 hq)
          refine V.region ?_
          refine O.p rfl rfl rfl (Pu.move rfl rfl) ?_
          refine O.e rfl rfl rfl (Ef.call1 call101 rfl rfl (fun w hw => l07Points_ok set w (by omega))) ?_
          rintro _ _ rfl
          refine O.exi (fun p1 => ?_)
          refine O.sep ?_
          refine O.pur ?_
          rintro ⟨rfl, hp1⟩
          refine O.p rfl rfl rfl (Pu.assign rfl rfl) ?_
          refine O.nil ?_
          refine X.next ?_
          refine V.seq ?_
          refine V.region ?_
          refine O.p rfl rfl rfl (Pu.move rfl rfl) ?_
          refine O.p rfl rfl rfl (Pu.len rfl Tryz.underlying28 rfl) ?_
          refine O.p rfl rfl rfl (Pu.assign rfl rfl) ?_
          refine O.nil ?_
          refine X.next ?_
          refine V.seq ?_
          refine V.region ?_
          refine O.p rfl rfl rfl (Pu.move rfl rfl) ?_
          refine O.p rfl rfl rfl (Pu.move rfl rfl) ?_
          refine O.e rfl rfl rfl (Ef.build SlC ([⟨p1.1.1, p1.2.length, p1.1.2⟩] : List Sl) rfl Tryz.underlying28 inf34 rfl rfl rfl (by first | decide | (simp; done)) (by kernel_rfl)) ?_
          rintro _ _ ⟨A10, hA10, rfl, rfl⟩
          refine O.e rfl rfl rfl (Ef.append (xs := (tops out)) (ys := ([⟨p1.1.1, p1.2.length, p1.1.2⟩] : List Sl)) 2 rfl Tryz.underlying28 inf34 rfl rfl rfl rfl rfl rfl hA10 (Ld.own 0 (by exact rfl)) (by simp only [List.length_append, List.length_cons, List.length_nil] at *; omega) (by decide)) ?_
          rintro _ _ ⟨A11, k5, rfl, rfl, hA11⟩
          replace hA11 := hA11 (.inr (by simp))
          refine O.p rfl rfl rfl (Pu.assign rfl rfl) ?_
          refine O.nil ?_
          refine X.next ?_
          refine V.seq ?_
          refine V.block ?_
          refine V.loop3 (β := Nat × (List Sl)) (fun x => [(8, .int .i64 (x.1 : Int))]) _ (fun x => [Own 34 SlC A11 k5 x.2]) _ (fun x => x.1 ≤ out.length ∧ (∀ j (hj : j < (conts out).length), x.1 ≤ j → cfB p1.2 (conts out)[j] < 0) ∧ x.2 = shiftAt (tops out) (⟨p1.1.1, p1.2.length, p1.1.2⟩ : Sl) x.1) (fun x => x.1) ((tops out).length, ((tops out) ++ ([⟨p1.1.1, p1.2.length, p1.1.2⟩] : List Sl))) (by (try dsimp only); exact ⟨by omega, fun j hj h => by rw [conts_len] at hj; omega, shiftAt_start.symm⟩) (Ent.cons rfl (Ent.nil _)) (Ent.cons (t := 1) rfl (Ent.cons (t := 4) rfl (Ent.cons (t := 5) rfl (Ent.cons (t := 7) rfl (Ent.nil _))))) (Sub.keep 2 rfl (Sub.keep 0 rfl (Sub.keep 0 rfl (Sub.keep 0 rfl (Sub.keep 0 rfl (Sub.nil _)))))) ?_
          rintro ⟨y, z⟩ ⟨hy1, hy2, hz⟩
          dsimp only at hy1 hy2 hz ⊢
          subst hz
          have hal : (tops out ++ ([(⟨p1.1.1, p1.2.length, p1.1.2⟩ : Sl)] : List Sl)).length = out.length + 1 := by rw [List.length_append, tops_len]; rfl
          have hzl : (shiftAt (tops out) (⟨p1.1.1, p1.2.length, p1.1.2⟩ : Sl) y).length = out.length + 1 := by rw [shiftAt_len (by rw [tops_len]; omega), tops_len]
          refine V.seq ?_
          refine V.seq ?_
          refine V.region ?_
          refine O.p rfl rfl rfl (Pu.move rfl rfl) ?_
          refine O.p rfl rfl rfl (Pu.gtr rfl rfl rfl) ?_
          refine O.p rfl rfl rfl (Pu.move rfl rfl) ?_
          refine O.splitD 57 rfl (fun c21 => ?_) (fun c21 => ?_)
          · skip
            refine O.gp rfl rfl rfl rfl rfl (Pu.move rfl rfl) ?_
            refine O.gp rfl rfl rfl rfl rfl (Pu.move rfl rfl) ?_
            refine O.gp rfl rfl rfl rfl rfl (Pu.move rfl rfl) ?_
            refine O.gp rfl rfl rfl rfl rfl (Pu.sub64 (r := ((y - 1 : Nat) : Int)) (by omega) (by omega) rfl rfl rfl) ?_
            refine O.gp rfl rfl rfl rfl rfl (Pu.indexAddrS (y - 1) rfl Tryz.underlying28 sz34 rfl rfl (by omega) (by omega) (fun w hw => Own.some hw (i := 0) (by exact rfl) (by omega))) ?_
            have ea : y - 1 < out.length := by omega
            have hsl : y - 1 < (shiftAt (tops out) (⟨p1.1.1, p1.2.length, p1.1.2⟩ : Sl) y).length := by omega
            refine O.gp rfl rfl rfl rfl rfl (Pu.cast (v := .slice (out[y - 1]'ea).1.A (out[y - 1]'ea).2.length (out[y - 1]'ea).1.c) (shift_v hn_out hy1 (by omega) hsl) (Pu.load rfl pl34 rfl (Ld.rd (Ld.own 0 (by exact rfl)) (k := y - 1) hsl rfl rfl))) ?_
            refine O.ge rfl rfl rfl rfl rfl (Ef.callP call113 rfl rfl (fun w hw => l07Before_ok  (p1.2) ((out[y - 1]'ea).2) _ _ _ _ w ((Ld.own 2 (by exact rfl)) w hw) ((Ld.rows 3 (by exact rfl) ea) w hw) (by rw [hp1]; omega) (by have := hps _ (List.mem_map_of_mem (f := fun p : Sl × List Int => p.2) (List.getElem_mem ea)); omega) )) ?_
            rintro _ _ ⟨rfl, rfl⟩
            refine O.p rfl rfl rfl (Pu.pickT rfl rfl rfl) ?_
            refine O.nil ?_
            refine X.next ?_
            refine V.condD rfl (fun c22 => ?_) (fun c22 => ?_)
            · skip
              refine V.skip ?_
              refine X.next ?_
              refine V.block ?_
              refine V.seq ?_
              refine V.region ?_
              refine O.p rfl rfl rfl (Pu.move rfl rfl) ?_
              refine O.p rfl rfl rfl (Pu.move rfl rfl) ?_
              refine O.p rfl rfl rfl (Pu.move rfl rfl) ?_
              refine O.p rfl rfl rfl (Pu.move rfl rfl) ?_
              refine O.p rfl rfl rfl (Pu.sub64 (r := ((y - 1 : Nat) : Int)) (by omega) (by omega) rfl rfl rfl) ?_
              refine O.p rfl rfl rfl (Pu.indexAddrS (y - 1) rfl Tryz.underlying28 sz34 rfl rfl (by omega) (by omega) (fun w hw => Own.some hw (i := 0) (by exact rfl) (by omega))) ?_
              have e5 : y - 1 < (shiftAt (tops out) (⟨p1.1.1, p1.2.length, p1.1.2⟩ : Sl) y).length := hsl
              refine O.p rfl rfl rfl (Pu.load rfl pl34 rfl (Ld.rd (Ld.own 0 (by exact rfl)) (k := y - 1) e5 rfl rfl)) ?_
              refine O.p rfl rfl rfl (Pu.indexAddrS (y) rfl Tryz.underlying28 sz34 rfl rfl (by omega) (by omega) (fun w hw => Own.some hw (i := 0) (by exact rfl) (by omega))) ?_
              refine O.s rfl rfl (Ef.storeOwn 0 (y) ((shiftAt (tops out) (⟨p1.1.1, p1.2.length, p1.1.2⟩ : Sl) y)[y - 1]'e5) rfl sz34 rfl rfl rfl rfl (by omega) rfl) ?_
              rintro _ _ rfl
              refine O.nil ?_
              refine X.next ?_
              refine V.region ?_
              refine O.p rfl rfl rfl (Pu.move rfl rfl) ?_
              refine O.p rfl rfl rfl (Pu.sub64 (r := ((y - 1 : Nat) : Int)) (by omega) (by omega) rfl rfl rfl) ?_
              refine O.p rfl rfl rfl (Pu.assign rfl rfl) ?_
              refine O.nil ?_
              refine X.blockNormal ?_
              exact X.back3 (y - 1, ((shiftAt (tops out) (⟨p1.1.1, p1.2.length, p1.1.2⟩ : Sl) y).set (y) ((shiftAt (tops out) (⟨p1.1.1, p1.2.length, p1.1.2⟩ : Sl) y)[y - 1]'e5))) (by (try dsimp only); exact ⟨by omega, fun j hj h => by by_cases e : j = y - 1; (· subst e; rw [conts_get]; assumption); (· exact hy2 j hj (by omega)), shiftAt_step (by rw [tops_len]; omega) (by omega) _⟩) (by first | omega | (dsimp only; omega)) (Ent.cons rfl (Ent.nil _)) (Ent.cons (t := 1) rfl (Ent.cons (t := 4) rfl (Ent.cons (t := 5) rfl (Ent.cons (t := 7) rfl (Ent.nil _))))) (Sub.keep 0 rfl (Sub.keep 0 rfl (Sub.keep 0 rfl (Sub.keep 0 rfl (Sub.keep 0 rfl (Sub.nil _))))))
            · skip
              refine V.exit ?_
              refine X.thenExit ?_
              refine X.thenExit ?_
              refine X.blockHit ?_
              refine X.next ?_
              refine V.region ?_
              refine O.p rfl rfl rfl (Pu.move rfl rfl) ?_
              refine O.p rfl rfl rfl (Pu.move rfl rfl) ?_
              refine O.p rfl rfl rfl (Pu.move rfl rfl) ?_
              refine O.p rfl rfl rfl (Pu.indexAddrS (y) rfl Tryz.underlying28 sz34 rfl rfl (by omega) (by omega) (fun w hw => Own.some hw (i := 0) (by exact rfl) (by omega))) ?_
              refine O.s rfl rfl (Ef.storeOwn 0 (y) ⟨p1.1.1, p1.2.length, p1.1.2⟩ rfl sz34 rfl rfl rfl rfl (by omega) rfl) ?_
              rintro _ _ rfl
              refine O.nil ?_
              refine X.blockNormal ?_
              refine X.next ?_
              refine V.region ?_
              refine O.p rfl rfl rfl (Pu.move rfl rfl) ?_
              refine O.p rfl rfl rfl (Pu.add64 (r := ((set + 1 : Nat) : Int)) rfl (by omega) rfl rfl rfl) ?_
              refine O.p rfl rfl rfl (Pu.assign rfl rfl) ?_
              refine O.nil ?_
              refine X.map (fun w hw => put_heap (y := y) (ps := out) (xs := p1.2) (z := (⟨p1.1.1, p1.2.length, p1.1.2⟩ : Sl)) (by omega) (hw.sub (Sub.keep 0 rfl (Sub.keep 2 rfl (Sub.keep 1 rfl (Sub.keep 0 rfl (Sub.keep 0 rfl (Sub.nil _)))))))) ?_
              exact X.back3 (A11, k5, (out.take y ++ ((⟨p1.1.1, p1.2.length, p1.1.2⟩ : Sl), p1.2) :: out.drop y), set + 1) (by (try dsimp only); exact ⟨⟨by omega, by omega⟩, by rw [subsL_yes hsub, ← hp1]; exact insQ_perm hpm, by rw [conts_put]; exact insQ hsr (by rw [conts_len]; omega) hy2 (fun h0 => by first | omega | (rw [conts_get]; assumption)), by simp only [List.length_append, List.length_cons, List.length_take, List.length_drop]; omega⟩) (by first | omega | (dsimp only; omega)) (Ent.cons' rfl (by simp only [tops_put, List.length_append, List.length_cons, List.length_take, List.length_drop, List.length_nil]; congr 1; omega) (Ent.cons rfl (Ent.nil _))) (Ent.cons (t := 1) rfl (Ent.nil _)) (Sub.keep 0 rfl (Sub.keep 0 rfl (Sub.keep 1 rfl (Sub.nil _))))
          · skip
            refine O.gs rfl rfl rfl rfl rfl rfl ?_
            refine O.gs rfl rfl rfl rfl rfl rfl ?_
            refine O.gs rfl rfl rfl rfl rfl rfl ?_
            refine O.gs rfl rfl rfl rfl rfl rfl ?_
            refine O.gs rfl rfl rfl rfl rfl rfl ?_
            refine O.gs rfl rfl rfl rfl rfl rfl ?_
            refine O.gs rfl rfl rfl rfl rfl rfl ?_
            refine O.p rfl rfl rfl (Pu.pickF rfl rfl rfl) ?_
            refine O.nil ?_
            refine X.next ?_
            refine V.condF rfl ?_
            refine V.exit ?_
            refine X.thenExit ?_
            refine X.thenExit ?_
            refine X.blockHit ?_
            refine X.next ?_
            refine V.region ?_
            refine O.p rfl rfl rfl (Pu.move rfl rfl) ?_
            refine O.p rfl rfl rfl (Pu.move rfl rfl) ?_
            refine O.p rfl rfl rfl (Pu.move rfl rfl) ?_
            refine O.p rfl rfl rfl (Pu.indexAddrS (y) rfl Tryz.underlying28 sz34 rfl rfl (by omega) (by omega) (fun w hw => Own.some hw (i := 0) (by exact rfl) (by omega))) ?_
            refine O.s rfl rfl (Ef.storeOwn 0 (y) ⟨p1.1.1, p1.2.length, p1.1.2⟩ rfl sz34 rfl rfl rfl rfl (by omega) rfl) ?_
            rintro _ _ rfl
            refine O.nil ?_
            refine X.blockNormal ?_
            refine X.next ?_
            refine V.region ?_
            refine O.p rfl rfl rfl (Pu.move rfl rfl) ?_
            refine O.p rfl rfl rfl (Pu.add64 (r := ((set + 1 : Nat) : Int)) rfl (by omega) rfl rfl rfl) ?_
            refine O.p rfl rfl rfl (Pu.assign rfl rfl) ?_
            refine O.nil ?_
            refine X.map (fun w hw => put_heap (y := y) (ps := out) (xs := p1.2) (z := (⟨p1.1.1, p1.2.length, p1.1.2⟩ : Sl)) (by omega) (hw.sub (Sub.keep 0 rfl (Sub.keep 2 rfl (Sub.keep 1 rfl (Sub.keep 0 rfl (Sub.keep 0 rfl (Sub.nil _)))))))) ?_
            exact X.back3 (A11, k5, (out.take y ++ ((⟨p1.1.1, p1.2.length, p1.1.2⟩ : Sl), p1.2) :: out.drop y), set + 1) (by (try dsimp only); exact ⟨⟨by omega, by omega⟩, by rw [subsL_yes hsub, ← hp1]; exact insQ_perm hpm, by rw [conts_put]; exact insQ hsr (by rw [conts_len]; omega) hy2 (fun h0 => by first | omega | (rw [conts_get]; assumption)), by simp only [List.length_append, List.length_cons, List.length_take, List.length_drop]; omega⟩) (by first | omega | (dsimp only; omega)) (Ent.cons' rfl (by simp only [tops_put, List.length_append, List.length_cons, List.length_take, List.length_drop, List.length_nil]; congr 1; omega) (Ent.cons rfl (Ent.nil _))) (Ent.cons (t := 1) rfl (Ent.nil _)) (Sub.keep 0 rfl (Sub.keep 0 rfl (Sub.keep 1 rfl (Sub.nil _))))
    · skip
      refine V.exit ?_
      refine X.thenExit ?_
      refine X.thenExit ?_
      refine X.blockHit ?_
      refine X.next ?_
      refine V.seq ?_
      refine V.region ?_
      refine O.p rfl rfl rfl (Pu.move rfl rfl) ?_
      refine O.p rfl rfl rfl (Pu.assign rfl rfl) ?_
      refine O.p rfl rfl rfl (Pu.assign rfl rfl) ?_
      refine O.nil ?_
      refine X.next ?_
      refine V.ret ?_
      refine X.ret2 rfl rfl rfl ?_
      exact fun w hw => St.mkExi outA (St.mkExi outc (St.mkExi out (St.unsep (St.addPur ⟨(by rw [if_pos c1]), (by exact ⟨fun _ => ⟨by rw [← show set = 2 ^ v.toNat by omega]; exact hpm, hsr⟩, fun h => absurd c1 h⟩)⟩ (St.unsep (hw.sub (Sub.keep 0 rfl (Sub.keep 0 rfl (Sub.nil _)))))))))
set_option maxRecDepth 100000 in
set_option maxHeartbeats 1000000 in
theorem l01From_ok (code : List UInt8) (codeA : Option Addr) (codec : Nat) (w : World) (hcode : Rd U8C w codeA code) (lcode : code.length ≤ 1099511627776) (lc : code.length ≤ 1048576) : Does Tryz.prog 76 [.slice codeA code.length codec] w [] (fun r => [.exi fun (s : Nat) => .sep (.pur (r = .pointer (some ⟨s, 0, none⟩))) (SrcK 132 codeA codec code s)]) := by
  refine Does.enter Tryz.func76 rfl rfl [(0, .slice codeA code.length codec)] rfl ?_
  refine V.seq ?_
  refine V.region ?_
  refine O.p rfl rfl rfl (Pu.assign rfl rfl) ?_
  refine O.nil ?_
  refine X.next ?_
  refine V.seq ?_
  refine V.region ?_
  refine O.p rfl rfl rfl (Pu.move rfl rfl) ?_
  refine O.p rfl rfl rfl (Pu.move rfl rfl) ?_
  refine O.p rfl rfl rfl (Pu.len rfl Tryz.underlying22 rfl) ?_
  refine O.p rfl rfl rfl (Pu.convU' code.length (by omega) ⟨_, Tryz.underlying3⟩ Tryz.underlying90 (by omega) rfl rfl) ?_
  refine O.p rfl rfl rfl (Pu.addU (m := 13551) (n := code.length) rfl rfl rfl) ?_
  refine O.p rfl rfl rfl (Pu.buildS (cs := [.slice codeA code.length codec, .int .i64 (0 : Int), .int .u64 (↑(((13551 + code.length) % 18446744073709551616)) : Int)]) rfl rfl Tryz.underlying132 zr132 (by kernel_rfl) rfl (by kernel_rfl)) ?_
  refine O.e rfl rfl rfl (Ef.box rfl rfl rfl) ?_
  rintro _ _ ⟨b1, rfl, rfl⟩
  refine O.p rfl rfl rfl (Pu.assign rfl rfl) ?_
  refine O.nil ?_
  refine X.next ?_
  refine V.seq ?_
  refine V.seq ?_
  refine V.map (fun w hw => SrcK.mk (a := 0) (h := ((13551 + code.length) % 18446744073709551616)) ⟨by omega, by omega⟩ hw) ?_
  refine V.region ?_
  refine O.p rfl rfl rfl (Pu.assign rfl rfl) ?_
  refine O.nil ?_
  refine X.next ?_
  refine V.block ?_
  refine V.loop3 (β := Nat) (fun i => [(4, .int .i64 (i : Int))]) _ (fun i => []) _ (fun i => i ≤ code.length) (fun i => code.length - i) 0 (by omega) (Ent.cons rfl (Ent.nil _)) (Ent.cons (t := 0) rfl (Ent.cons (t := 3) rfl (Ent.nil _))) (Sub.keep 0 rfl (Sub.nil _)) ?_
  rintro i hi
  refine V.seq ?_
  refine V.seq ?_
  refine V.region ?_
  refine O.p rfl rfl rfl (Pu.move rfl rfl) ?_
  refine O.p rfl rfl rfl (Pu.move rfl rfl) ?_
  refine O.p rfl rfl rfl (Pu.len rfl Tryz.underlying22 rfl) ?_
  refine O.p rfl rfl rfl (Pu.lss rfl rfl rfl) ?_
  refine O.p rfl rfl rfl (Pu.move rfl rfl) ?_
  refine O.splitD 16 rfl (fun c1 => ?_) (fun c1 => ?_)
  · skip
    refine O.gp rfl rfl rfl rfl rfl (Pu.move rfl rfl) ?_
    refine O.gp rfl rfl rfl rfl rfl (Pu.lss rfl rfl rfl) ?_
    refine O.p rfl rfl rfl (Pu.pickT rfl rfl rfl) ?_
    refine O.nil ?_
    refine X.next ?_
    refine V.condD rfl (fun c2 => ?_) (fun c2 => ?_)
    · skip
      refine V.skip ?_
      refine X.next ?_
      refine V.seq ?_
      refine V.block ?_
      refine V.srcK (fun at1 word1 hat1 hword1 => ?_)
      refine V.draw mo (by kernel_rfl) (fun hwf => ?_)
      refine D.p 0 rfl rfl rfl rfl rfl rfl (Pu.move rfl rfl) ?_
      refine D.p 1 rfl rfl rfl rfl rfl rfl (Pu.move rfl rfl) ?_
      refine D.p 2 rfl rfl rfl rfl rfl rfl (Pu.nilCheck rfl rfl) ?_
      refine D.p 3 rfl rfl rfl rfl rfl rfl (Pu.fieldAddr 2 rfl Tryz.underlying132 rfl sz90 rfl rfl) ?_
      refine D.p 4 rfl rfl rfl rfl rfl rfl (Pu.load rfl pl90 rfl (Ld.blk 0 rfl rfl)) ?_
      refine D.p 5 rfl rfl rfl rfl rfl rfl (Pu.mulU (m := word1) (n := 1099511628211) rfl rfl rfl) ?_
      refine D.p 6 rfl rfl rfl rfl rfl rfl (Pu.move rfl rfl) ?_
      refine D.p 7 rfl rfl rfl rfl rfl rfl (Pu.move rfl rfl) ?_
      refine D.p 8 rfl rfl rfl rfl rfl rfl (Pu.indexAddr (i) rfl Tryz.underlying22 sz5 rfl rfl (by omega) (by omega) (hcode.some (by omega))) ?_
      have e1 : i < code.length := by omega
      have hu1 := UInt8.toNat_lt (code[i]'e1)
      refine D.p 9 rfl rfl rfl rfl rfl rfl (Pu.load rfl pl5 rfl (Ld.rd (Ld.old hcode) (k := i) e1 rfl rfl)) ?_
      refine D.p 10 rfl rfl rfl rfl rfl rfl (Pu.convU' ((code[i]'e1).toNat) (by omega) ⟨_, Tryz.underlying5⟩ Tryz.underlying90 (by omega) rfl rfl) ?_
      refine D.p 11 rfl rfl rfl rfl rfl rfl (Pu.addU (m := (word1 * 1099511628211 % 18446744073709551616)) (n := (code[i]'e1).toNat) rfl rfl rfl) ?_
      refine D.p 12 rfl rfl rfl rfl rfl rfl (Pu.addU (m := (((word1 * 1099511628211 % 18446744073709551616) + (code[i]'e1).toNat) % 18446744073709551616)) (n := 179) rfl rfl rfl) ?_
      refine D.p 13 rfl rfl rfl rfl rfl rfl (Pu.nilCheck rfl rfl) ?_
      refine D.p 14 rfl rfl rfl rfl rfl rfl (Pu.fieldAddr 2 rfl Tryz.underlying132 rfl sz90 rfl rfl) ?_
      refine D.effX (Hs' := []) hwf (e := 15) rfl rfl rfl rfl (Ef.store1 (cs' := [_, _, _]) 0 rfl sz90 rfl rfl rfl rfl rfl (ltb rfl) rfl) rfl [13] rfl (List.forall_mem_cons.2 ⟨⟨35, _, rfl, rfl, Det.of rfl rfl rfl (Pu.nilCheck rfl rfl)⟩, List.forall_mem_nil _⟩) ?_
      rintro _ _ rfl
      refine ⟨fun w hw => hw.sub (Sub.nil _), ?_⟩
      refine D.done hwf rfl ?_
      refine X.blockNormal ?_
      refine X.next ?_
      refine V.map (fun w hw => SrcK.mk (a := at1) (h := (((((word1 * 1099511628211 % 18446744073709551616) + (code[i]'e1).toNat) % 18446744073709551616) + 179) % 18446744073709551616)) ⟨by omega, by omega⟩ hw) ?_
      refine V.region ?_
      refine O.p rfl rfl rfl (Pu.move rfl rfl) ?_
      refine O.p rfl rfl rfl (Pu.add64 (r := ((i + 1 : Nat) : Int)) rfl (by omega) rfl rfl rfl) ?_
      refine O.p rfl rfl rfl (Pu.assign rfl rfl) ?_
      refine O.nil ?_
      exact X.back3 (i + 1) (by omega) (by first | omega | (dsimp only; omega)) (Ent.cons rfl (Ent.nil _)) (Ent.cons (t := 0) rfl (Ent.cons (t := 3) rfl (Ent.nil _))) (Sub.keep 0 rfl (Sub.nil _))
    · skip
      refine V.exit ?_
      refine X.thenExit ?_
      refine X.thenExit ?_
      refine X.blockHit ?_
      refine X.next ?_
      refine V.seq ?_
      refine V.region ?_
      refine O.p rfl rfl rfl (Pu.move rfl rfl) ?_
      refine O.p rfl rfl rfl (Pu.assign rfl rfl) ?_
      refine O.nil ?_
      refine X.next ?_
      refine V.ret ?_
      refine X.ret1 rfl rfl ?_
      exact fun w hw => St.mkExi b1 (St.unsep (St.addPur rfl (hw.sub (Sub.keep 0 rfl (Sub.nil _)))))
  · skip
    refine O.gs rfl rfl rfl rfl rfl rfl ?_
    refine O.gs rfl rfl rfl rfl rfl rfl ?_
    refine O.p rfl rfl rfl (Pu.pickF rfl rfl rfl) ?_
    refine O.nil ?_
    refine X.next ?_
    refine V.condF rfl ?_
    refine V.exit ?_
    refine X.thenExit ?_
    refine X.thenExit ?_
    refine X.blockHit ?_
    refine X.next ?_
    refine V.seq ?_
    refine V.region ?_
    refine O.p rfl rfl rfl (Pu.move rfl rfl) ?_
    refine O.p rfl rfl rfl (Pu.assign rfl rfl) ?_
    refine O.nil ?_
    refine X.next ?_
    refine V.ret ?_
    refine X.ret1 rfl rfl ?_
    exact fun w hw => St.mkExi b1 (St.unsep (St.addPur rfl (hw.sub (Sub.keep 0 rfl (Sub.nil _)))))
set_option maxRecDepth 100000 in
set_option maxHeartbeats 1000000 in
theorem l01Next_ok (cA : Option Addr) (cc : Nat) (code : List UInt8) (s : Nat) (n : Int) (w0 : World) (H : List Assn) (hc : Rd U8C w0 cA code) (lc : code.length ≤ 1048576) : Does Tryz.prog 92 [.pointer (some ⟨s, 0, none⟩), .int .i64 n] w0 (SrcK 132 cA cc code s :: H) (fun rv_ => [.exi fun (r : Int) => .sep (.pur (rv_ = .int .i64 r ∧ 0 ≤ r ∧ (n < 1 → r = 0) ∧ (1 ≤ n → r < n))) (SrcK 132 cA cc code s)] ++ H) := by
  refine Does.enter Tryz.func92 rfl rfl [(0, .pointer (some ⟨s, 0, none⟩)), (1, .int .i64 n)] rfl ?_
  refine V.seq ?_
  refine V.region ?_
  refine O.p rfl rfl rfl (Pu.assign rfl rfl) ?_
  refine O.nil ?_
  refine X.next ?_
  refine V.seq ?_
  refine V.seq ?_
  refine V.region ?_
  refine O.p rfl rfl rfl (Pu.move rfl rfl) ?_
  refine O.p rfl rfl rfl (Pu.lss rfl rfl rfl) ?_
  refine O.nil ?_
  refine X.next ?_
  refine V.condD rfl (fun c1 => ?_) (fun c1 => ?_)
  · skip
    refine V.seq ?_
    refine V.region ?_
    refine O.p rfl rfl rfl (Pu.assign rfl rfl) ?_
    refine O.nil ?_
    refine X.next ?_
    refine V.ret ?_
    refine X.thenRet ?_
    refine X.ret1 rfl rfl ?_
    exact fun w hw => St.mkExi (0 : Int) (St.unsep (St.addPur ⟨rfl, by omega, by omega, by omega⟩ (hw.sub (Sub.keep 0 rfl (Sub.refl _)))))
  · skip
    refine V.skip ?_
    refine X.next ?_
    refine V.seq ?_
    refine V.srcK (fun at1 word1 hat1 hword1 => ?_)
    refine V.region ?_
    refine O.p rfl rfl rfl (Pu.move rfl rfl) ?_
    refine O.p rfl rfl rfl (Pu.move rfl rfl) ?_
    refine O.p rfl rfl rfl (Pu.nilCheck rfl rfl) ?_
    refine O.p rfl rfl rfl (Pu.fieldAddr 2 rfl Tryz.underlying132 rfl sz90 rfl rfl) ?_
    refine O.p rfl rfl rfl (Pu.load rfl pl90 rfl (Ld.blk 0 rfl rfl)) ?_
    refine O.p rfl rfl rfl (Pu.mulU (m := word1) (n := 6364136223846793005) rfl rfl rfl) ?_
    refine O.p rfl rfl rfl (Pu.addU (m := (word1 * 6364136223846793005 % 18446744073709551616)) (n := 1442695040888963407) rfl rfl rfl) ?_
    refine O.p rfl rfl rfl (Pu.nilCheck rfl rfl) ?_
    refine O.p rfl rfl rfl (Pu.fieldAddr 2 rfl Tryz.underlying132 rfl sz90 rfl rfl) ?_
    refine O.s rfl rfl (Ef.store1 (cs' := [_, _, _]) 0 rfl sz90 rfl rfl rfl rfl rfl (ltb rfl) rfl) ?_
    rintro _ _ rfl
    refine O.nil ?_
    refine X.next ?_
    refine V.seq ?_
    refine V.region ?_
    refine O.p rfl rfl rfl (Pu.move rfl rfl) ?_
    refine O.p rfl rfl rfl (Pu.nilCheck rfl rfl) ?_
    refine O.p rfl rfl rfl (Pu.fieldAddr 2 rfl Tryz.underlying132 rfl sz90 rfl rfl) ?_
    refine O.p rfl rfl rfl (Pu.load rfl pl90 rfl (Ld.blk 0 rfl rfl)) ?_
    refine O.p rfl rfl rfl (Pu.shr (m := (((word1 * 6364136223846793005 % 18446744073709551616) + 1442695040888963407) % 18446744073709551616)) (p := 33) K64.u (by omega) rfl rfl rfl) ?_
    have hle1 := and_le_r (m := ((((word1 * 6364136223846793005 % 18446744073709551616) + 1442695040888963407) % 18446744073709551616) >>> 33)) (n := 16777215)
    refine O.p rfl rfl rfl (Pu.andU (m := ((((word1 * 6364136223846793005 % 18446744073709551616) + 1442695040888963407) % 18446744073709551616) >>> 33)) (n := 16777215) (Nat.lt_of_le_of_lt (Nat.shiftRight_le _ _) (by omega)) (by decide) rfl rfl rfl) ?_
    refine O.p rfl rfl rfl (Pu.conv64 ⟨_, Tryz.underlying90⟩ Tryz.underlying2 (by omega) rfl rfl) ?_
    refine O.p rfl rfl rfl (Pu.assign rfl rfl) ?_
    refine O.nil ?_
    refine X.next ?_
    refine V.seq ?_
    refine V.seq ?_
    refine V.draw mo (by kernel_rfl) (fun hwf => ?_)
    refine D.p 0 rfl rfl rfl rfl rfl rfl (Pu.move rfl rfl) ?_
    refine D.p 1 rfl rfl rfl rfl rfl rfl (Pu.nilCheck rfl rfl) ?_
    refine D.p 2 rfl rfl rfl rfl rfl rfl (Pu.fieldAddr 1 rfl Tryz.underlying132 rfl sz3 rfl rfl) ?_
    refine D.p 3 rfl rfl rfl rfl rfl rfl (Pu.load rfl pl3 rfl (Ld.blk 0 rfl rfl)) ?_
    refine D.p 4 rfl rfl rfl rfl rfl rfl (Pu.move rfl rfl) ?_
    refine D.p 5 rfl rfl rfl rfl rfl rfl (Pu.nilCheck rfl rfl) ?_
    refine D.p 6 rfl rfl rfl rfl rfl rfl (Pu.fieldAddr 0 rfl Tryz.underlying132 rfl sz22 rfl rfl) ?_
    refine D.p 7 rfl rfl rfl rfl rfl rfl (Pu.load rfl pl22 rfl (Ld.blk 0 rfl rfl)) ?_
    refine D.p 8 rfl rfl rfl rfl rfl rfl (Pu.len rfl Tryz.underlying22 rfl) ?_
    refine D.p 9 rfl rfl rfl rfl rfl rfl (Pu.lss rfl rfl rfl) ?_
    refine D.done hwf rfl ?_
    refine X.next ?_
    refine V.condD rfl (fun c2 => ?_) (fun c2 => ?_)
    · skip
      refine V.seq ?_
      refine V.draw mo (by kernel_rfl) (fun hwf => ?_)
      refine D.p 0 rfl rfl rfl rfl rfl rfl (Pu.move rfl rfl) ?_
      refine D.p 1 rfl rfl rfl rfl rfl rfl (Pu.move rfl rfl) ?_
      refine D.p 2 rfl rfl rfl rfl rfl rfl (Pu.nilCheck rfl rfl) ?_
      refine D.p 3 rfl rfl rfl rfl rfl rfl (Pu.fieldAddr 0 rfl Tryz.underlying132 rfl sz22 rfl rfl) ?_
      refine D.p 4 rfl rfl rfl rfl rfl rfl (Pu.load rfl pl22 rfl (Ld.blk 0 rfl rfl)) ?_
      refine D.p 5 rfl rfl rfl rfl rfl rfl (Pu.move rfl rfl) ?_
      refine D.p 6 rfl rfl rfl rfl rfl rfl (Pu.nilCheck rfl rfl) ?_
      refine D.p 7 rfl rfl rfl rfl rfl rfl (Pu.fieldAddr 1 rfl Tryz.underlying132 rfl sz3 rfl rfl) ?_
      refine D.p 8 rfl rfl rfl rfl rfl rfl (Pu.load rfl pl3 rfl (Ld.blk 0 rfl rfl)) ?_
      refine D.p 9 rfl rfl rfl rfl rfl rfl (Pu.indexAddr (at1) rfl Tryz.underlying22 sz5 rfl rfl (by omega) (by omega) (hc.some (by omega))) ?_
      have e1 : at1 < code.length := by omega
      have hu1 := UInt8.toNat_lt (code[at1]'e1)
      refine D.p 10 rfl rfl rfl rfl rfl rfl (Pu.load rfl pl5 rfl (Ld.rd (Ld.old hc) (k := at1) e1 rfl rfl)) ?_
      refine D.p 11 rfl rfl rfl rfl rfl rfl (Pu.conv64 ⟨_, Tryz.underlying5⟩ Tryz.underlying2 (by omega) rfl rfl) ?_
      refine D.p 12 rfl rfl rfl rfl rfl rfl (Pu.add64 (r := (((((((word1 * 6364136223846793005 % 18446744073709551616) + 1442695040888963407) % 18446744073709551616) >>> 33) &&& 16777215) + (code[at1]'e1).toNat : Nat) : Int)) (by omega) (by omega) rfl rfl rfl) ?_
      refine D.last hwf (e := 13) rfl rfl rfl rfl rfl rfl (Pu.assign rfl rfl) ?_
      refine X.next ?_
      refine V.region ?_
      refine O.p rfl rfl rfl (Pu.move rfl rfl) ?_
      refine O.p rfl rfl rfl (Pu.move rfl rfl) ?_
      refine O.p rfl rfl rfl (Pu.nilCheck rfl rfl) ?_
      refine O.p rfl rfl rfl (Pu.fieldAddr 1 rfl Tryz.underlying132 rfl sz3 rfl rfl) ?_
      refine O.p rfl rfl rfl (Pu.load rfl pl3 rfl (Ld.blk 0 rfl rfl)) ?_
      refine O.p rfl rfl rfl (Pu.add64 (r := ((at1 + 1 : Nat) : Int)) rfl (by omega) rfl rfl rfl) ?_
      refine O.p rfl rfl rfl (Pu.nilCheck rfl rfl) ?_
      refine O.p rfl rfl rfl (Pu.fieldAddr 1 rfl Tryz.underlying132 rfl sz3 rfl rfl) ?_
      refine O.s rfl rfl (Ef.store1 (cs' := [_, _, _]) 0 rfl sz3 rfl rfl rfl rfl rfl (ltb rfl) rfl) ?_
      rintro _ _ rfl
      refine O.nil ?_
      refine X.next ?_
      refine V.seq ?_
      refine V.map (fun w hw => SrcK.mk (a := at1 + 1) (h := (((word1 * 6364136223846793005 % 18446744073709551616) + 1442695040888963407) % 18446744073709551616)) ⟨by omega, by omega⟩ hw) ?_
      refine V.region ?_
      refine O.p rfl rfl rfl (Pu.move rfl rfl) ?_
      refine O.p rfl rfl rfl (Pu.move rfl rfl) ?_
      refine O.p rfl rfl rfl (Pu.rem64 (by omega) (by omega) rfl rfl rfl) ?_
      refine O.p rfl rfl rfl (Pu.assign rfl rfl) ?_
      refine O.nil ?_
      refine X.next ?_
      refine V.ret ?_
      refine X.ret1 rfl rfl ?_
      exact fun w hw => St.mkExi ((↑((((((word1 * 6364136223846793005 % 18446744073709551616) + 1442695040888963407) % 18446744073709551616) >>> 33) &&& 16777215) + (code[at1]'e1).toNat) : Int) % n) (St.unsep (St.addPur ⟨rfl, Int.emod_nonneg _ (by omega), fun h => by omega, fun h => Int.emod_lt_of_pos _ (by omega)⟩ (hw.sub (Sub.keep 0 rfl (Sub.refl _)))))
    · skip
      refine V.skip ?_
      refine X.next ?_
      refine V.seq ?_
      refine V.map (fun w hw => SrcK.mk (a := at1) (h := (((word1 * 6364136223846793005 % 18446744073709551616) + 1442695040888963407) % 18446744073709551616)) ⟨by omega, by omega⟩ hw) ?_
      refine V.region ?_
      refine O.p rfl rfl rfl (Pu.move rfl rfl) ?_
      refine O.p rfl rfl rfl (Pu.move rfl rfl) ?_
      refine O.p rfl rfl rfl (Pu.rem64 (by omega) (by omega) rfl rfl rfl) ?_
      refine O.p rfl rfl rfl (Pu.assign rfl rfl) ?_
      refine O.nil ?_
      refine X.next ?_
      refine V.ret ?_
      refine X.ret1 rfl rfl ?_
      exact fun w hw => St.mkExi ((↑((((((word1 * 6364136223846793005 % 18446744073709551616) + 1442695040888963407) % 18446744073709551616) >>> 33) &&& 16777215)) : Int) % n) (St.unsep (St.addPur ⟨rfl, Int.emod_nonneg _ (by omega), fun h => by omega, fun h => Int.emod_lt_of_pos _ (by omega)⟩ (hw.sub (Sub.keep 0 rfl (Sub.refl _)))))
set_option maxRecDepth 100000 in
set_option maxHeartbeats 1000000 in
theorem l01Pick_ok (cA : Option Addr) (cc : Nat) (code : List UInt8) (s : Nat) (list : List Int) (listA : Option Addr) (listc : Nat) (w0 : World) (H : List Assn) (hlist : ∀ w, St w0 H w → Rd I64 w listA list) (llist : list.length ≤ 1099511627776) (hc : Rd U8C w0 cA code) (lc : code.length ≤ 1048576) (hl : 0 < list.length) : Does Tryz.prog 93 [.pointer (some ⟨s, 0, none⟩), .slice listA list.length listc] w0 (SrcK 132 cA cc code s :: H) (fun rv_ => [.exi fun (r : Int) => .sep (.pur (rv_ = .int .i64 r ∧ r ∈ list)) (SrcK 132 cA cc code s)] ++ H) := by
  refine Does.enter Tryz.func93 rfl rfl [(0, .pointer (some ⟨s, 0, none⟩)), (1, .slice listA list.length listc)] rfl ?_
  refine V.seq ?_
  refine V.region ?_
  refine O.p rfl rfl rfl (Pu.assign rfl rfl) ?_
  refine O.nil ?_
  refine X.next ?_
  refine V.seq ?_
  refine V.region ?_
  refine O.p rfl rfl rfl (Pu.move rfl rfl) ?_
  refine O.p rfl rfl rfl (Pu.move rfl rfl) ?_
  refine O.p rfl rfl rfl (Pu.move rfl rfl) ?_
  refine O.p rfl rfl rfl (Pu.len rfl Tryz.underlying34 rfl) ?_
  refine O.e rfl rfl rfl (Ef.call call92 rfl rfl (Does.pre (fun w hw => hw.sub (Sub.keep 0 rfl (Sub.refl _))) (l01Next_ok _ _ _ s (↑list.length : Int) w0 _   (by first | assumption | omega | (try dsimp only at *; omega)) (by first | assumption | omega | (try dsimp only at *; omega))))) ?_
  rintro _ _ rfl
  refine O.exi (fun r1 => ?_)
  refine O.sep ?_
  refine O.pur ?_
  rintro ⟨rfl, hr1_1, hr1_2, hr1_3⟩
  refine O.p rfl rfl rfl (Pu.indexAddrS ((r1).toNat) rfl Tryz.underlying34 sz2 rfl rfl (by omega) (by omega) (fun w hw => ((fun w hw => hlist w (hw.sub (Sub.drop (Sub.refl _)))) w hw).some (by omega))) ?_
  have e1 : (r1).toNat < list.length := by omega
  refine O.p rfl rfl rfl (Pu.load rfl pl2 rfl (Ld.rd (fun w hw => hlist w (hw.sub (Sub.drop (Sub.refl _)))) (k := (r1).toNat) e1 rfl rfl)) ?_
  refine O.p rfl rfl rfl (Pu.assign rfl rfl) ?_
  refine O.nil ?_
  refine X.next ?_
  refine V.ret ?_
  refine X.ret1 rfl rfl ?_
  exact fun w hw => St.mkExi (list[(r1).toNat]'e1) (St.unsep (St.addPur ⟨rfl, List.getElem_mem _⟩ (hw.sub (Sub.keep 0 rfl (Sub.refl _)))))
set_option maxRecDepth 100000 in
set_option maxHeartbeats 1000000 in
theorem l01Names_ok (w : World) : Does Tryz.prog 192 [] w [] (fun rv_ => [.exi fun (rA : Option Addr) => .exi fun (rc : Nat) => .exi fun (r : List ByteArray) => .sep (.pur (rv_ = .slice rA r.length rc ∧ r = nmL)) (Own 9 StrC rA rc r)]) := by
  refine Does.enter Tryz.func192 rfl rfl [] rfl ?_
  refine V.seq ?_
  refine V.region ?_
  refine O.p rfl rfl rfl (Pu.assign rfl rfl) ?_
  refine O.nil ?_
  refine X.next ?_
  refine V.seq ?_
  refine V.region ?_
  refine O.e rfl rfl rfl (Ef.build StrC ([(ByteArray.mk #[115, 105, 110, 103, 108, 101]), (ByteArray.mk #[102, 97, 110, 111]), (ByteArray.mk #[97, 102, 102, 105, 110, 101]), (ByteArray.mk #[99, 121, 99, 108, 105, 99, 49, 51]), (ByteArray.mk #[99, 121, 99, 108, 105, 99, 49, 53]), (ByteArray.mk #[112, 114, 111, 106, 101, 99, 116, 105, 118, 101, 49, 53])] : List ByteArray) rfl Tryz.underlying110 inf9 rfl rfl rfl (by first | decide | (simp; done)) (by kernel_rfl)) ?_
  rintro _ _ ⟨A1, hA1, rfl, rfl⟩
  refine O.p rfl rfl rfl (Pu.assign rfl rfl) ?_
  refine O.nil ?_
  refine X.next ?_
  refine V.ret ?_
  refine X.ret1 rfl rfl ?_
  exact fun w hw => St.mkExi A1 (St.mkExi 6 (St.mkExi ([(ByteArray.mk #[115, 105, 110, 103, 108, 101]), (ByteArray.mk #[102, 97, 110, 111]), (ByteArray.mk #[97, 102, 102, 105, 110, 101]), (ByteArray.mk #[99, 121, 99, 108, 105, 99, 49, 51]), (ByteArray.mk #[99, 121, 99, 108, 105, 99, 49, 53]), (ByteArray.mk #[112, 114, 111, 106, 101, 99, 116, 105, 118, 101, 49, 53])] : List ByteArray) (St.unsep (St.addPur ⟨rfl, rfl⟩ (hw.sub (Sub.keep 0 rfl (Sub.nil _)))))))
set_option maxRecDepth 100000 in
set_option maxHeartbeats 1000000 in
theorem l01BlockD_ok (a : Int) (b : Int) (c_ : Int) (w : World) (ha : (-1000000 ≤ a ∧ a ≤ 1000000)) (hb : (-1000000 ≤ b ∧ b ≤ 1000000)) (hc : (-1000000 ≤ c_ ∧ c_ ≤ 1000000)) : Does Tryz.prog 206 [.int .i64 a, .int .i64 b, .int .i64 c_] w [] (fun r => [.pur (r = B3.v (bk3 a b c_))]) := by
  refine Does.enter Tryz.func206 rfl rfl [(0, .int .i64 a), (1, .int .i64 b), (2, .int .i64 c_)] rfl ?_
  refine V.seq ?_
  refine V.region ?_
  refine O.e rfl rfl rfl (Ef.alloc rfl zr51 rfl) ?_
  rintro _ _ ⟨b1, rfl, rfl⟩
  refine O.nil ?_
  refine X.next ?_
  refine V.seq ?_
  refine V.region ?_
  refine O.p rfl rfl rfl (Pu.move rfl rfl) ?_
  refine O.p rfl rfl rfl (Pu.move rfl rfl) ?_
  refine O.p rfl rfl rfl (Pu.move rfl rfl) ?_
  refine O.p rfl rfl rfl (Pu.min3 (r := (min (min a b) c_)) (by omega) rfl rfl rfl rfl) ?_
  refine O.p rfl rfl rfl (Pu.move rfl rfl) ?_
  refine O.p rfl rfl rfl (Pu.move rfl rfl) ?_
  refine O.p rfl rfl rfl (Pu.move rfl rfl) ?_
  refine O.p rfl rfl rfl (Pu.max3 (r := (max (max a b) c_)) (by omega) rfl rfl rfl rfl) ?_
  refine O.p rfl rfl rfl (Pu.assign rfl rfl) ?_
  refine O.p rfl rfl rfl (Pu.assign rfl rfl) ?_
  refine O.nil ?_
  refine X.next ?_
  refine V.seq ?_
  refine V.region ?_
  refine O.p rfl rfl rfl (Pu.move rfl rfl) ?_
  refine O.p rfl rfl rfl (Pu.move rfl rfl) ?_
  refine O.p rfl rfl rfl (Pu.move rfl rfl) ?_
  refine O.p rfl rfl rfl (Pu.add64 rfl (by omega) rfl rfl rfl) ?_
  refine O.p rfl rfl rfl (Pu.move rfl rfl) ?_
  refine O.p rfl rfl rfl (Pu.add64 rfl (by omega) rfl rfl rfl) ?_
  refine O.p rfl rfl rfl (Pu.move rfl rfl) ?_
  refine O.p rfl rfl rfl (Pu.sub64 rfl (by omega) rfl rfl rfl) ?_
  refine O.p rfl rfl rfl (Pu.move rfl rfl) ?_
  refine O.p rfl rfl rfl (Pu.sub64 rfl (by omega) rfl rfl rfl) ?_
  refine O.p rfl rfl rfl (Pu.move rfl rfl) ?_
  refine O.p rfl rfl rfl (Pu.buildA (cs := [.int .i64 (min (min a b) c_), .int .i64 ((((a + b) + c_) - (min (min a b) c_)) - (max (max a b) c_)), .int .i64 (max (max a b) c_)]) (v := B3.v ((min (min a b) c_), ((((a + b) + c_) - (min (min a b) c_)) - (max (max a b) c_)), (max (max a b) c_))) rfl rfl Tryz.underlying51 zr51 sz2 rfl (by kernel_rfl)) ?_
  refine O.s rfl rfl (Ef.storeAll 0 rfl sz51 rfl rfl rfl rfl (by simp [Value.oneCell']) rfl) ?_
  rintro _ _ rfl
  refine O.nil ?_
  refine X.next ?_
  refine V.ret ?_
  refine X.retCell rfl ag51 sz51 rfl rfl (Ld.whole 0 rfl) ?_
  exact fun w hw => St.retP (rfl) hw
end Go.Proofs.YtgjfcepnkllklaaGreat
