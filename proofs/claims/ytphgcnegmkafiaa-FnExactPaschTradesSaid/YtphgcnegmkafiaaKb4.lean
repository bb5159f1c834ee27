/-
  Contracts, part 4.
-/
import Derived.Test.YtphgcnegmkafiaaKb3
set_option linter.unusedVariables false
set_option linter.unusedSimpArgs false
namespace Go.Proofs.Ytphgcnegmkafiaa
open Go Go.RowKit Go.Vc Go.Proofs
set_option maxRecDepth 100000 in
set_option maxHeartbeats 1000000 in
theorem paschs_ok (v : Int) (bs : List B3) (A : Option Addr) (c : Nat) (w : World) (hx : Rd B3C w A bs) (lx : bs.length ≤ 4611686018427387904) (hS : STS v bs) : Does Try.prog 78 [.agg #[.int .i64 v, .slice A bs.length c]] w [] (fun r => [.exi fun (pA : Option Addr) => .exi fun (pc : Nat) => .exi fun (p : List (Sl × List Int)) => .sep (.pur (r = .slice pA (tops p).length pc ∧ IsList (PQ bs) (conts p) ∧ p.length ≤ 1500625)) (.sep (Own 54 SlC pA pc (tops p)) (RowsA 2 I64 p))]) := by
  refine Does.enter Try.func78 rfl rfl [(0, .agg #[.int .i64 v, .slice A bs.length c])] rfl ?_
  have hfew := hS.few
  have hg : ∀ b ∈ bs, good 15 b := fun b h => (hS.good b h).mono hS.hi
  refine V.seq ?_
  refine V.region ?_
  refine O.e rfl rfl rfl (Ef.box rfl rfl rfl) ?_
  rintro _ _ ⟨b1, rfl, rfl⟩
  refine O.p rfl rfl rfl (Pu.assign rfl rfl) ?_
  refine O.nil ?_
  refine X.next ?_
  refine V.seq ?_
  refine V.region ?_
  refine O.p rfl rfl rfl (Pu.assign rfl rfl) ?_
  refine O.nil ?_
  refine X.next ?_
  refine V.seq ?_
  refine V.region ?_
  refine O.p rfl rfl rfl (Pu.fieldAddr 1 rfl Try.underlying30 rfl sz28 rfl rfl) ?_
  refine O.p rfl rfl rfl (Pu.load rfl pl28 rfl (Ld.blk 0 rfl rfl)) ?_
  refine O.p rfl rfl rfl (Pu.assign rfl rfl) ?_
  refine O.nil ?_
  refine X.next ?_
  refine V.seq ?_
  refine V.seq ?_
  refine V.region ?_
  refine O.p rfl rfl rfl (Pu.move rfl rfl) ?_
  refine O.p rfl rfl rfl (Pu.len rfl Try.underlying28 rfl) ?_
  refine O.p rfl rfl rfl (Pu.move rfl rfl) ?_
  refine O.nil ?_
  refine X.next ?_
  refine V.block ?_
  refine V.map (fun w hw => St.addNil (T := 54) (C := SlC) (RowsA.nil (T := 2) (C := I64) hw)) ?_
  refine V.loop3 (β := (Option Addr) × Nat × (List (Sl × List Int)) × Nat) (fun x => [(3, .slice x.1 (tops x.2.2.1).length x.2.1), (13, .int .i64 (x.2.2.2 : Int))]) _ (fun x => [Own 54 SlC x.1 x.2.1 (tops x.2.2.1), RowsA 2 I64 x.2.2.1]) _ (fun x => x.2.2.2 ≤ bs.length ∧ IsList (PreB (PQ bs) [] x.2.2.2) (conts x.2.2.1) ∧ x.2.2.1.length ≤ x.2.2.2 * 42875) (fun x => bs.length - x.2.2.2) (none, 0, [], 0) (by (try dsimp only); exact ⟨by omega, pas0, by simp⟩) (Ent.cons rfl (Ent.cons rfl (Ent.nil _))) (Ent.cons (t := 4) rfl (Ent.cons (t := 12) rfl (Ent.nil _))) (Sub.keep 0 rfl (Sub.keep 0 rfl (Sub.keep 0 rfl (Sub.nil _)))) ?_
  rintro ⟨outA, outc, out, i⟩ ⟨hi, g0, b0⟩
  dsimp only at hi g0 b0 ⊢
  refine V.fact (RowsA.len 1 rfl) (fun hn_out => ?_)
  have htl_out := tops_len out
  refine V.seq ?_
  refine V.region ?_
  refine O.p rfl rfl rfl (Pu.lss rfl rfl rfl) ?_
  refine O.nil ?_
  refine X.next ?_
  refine V.seq ?_
  refine V.condD rfl (fun c1 => ?_) (fun c1 => ?_)
  · skip
    refine V.skip ?_
    refine X.next ?_
    refine V.seq ?_
    refine V.block ?_
    refine V.seq ?_
    refine V.region ?_
    refine O.p rfl rfl rfl (Pu.move rfl rfl) ?_
    refine O.p rfl rfl rfl (Pu.assign rfl rfl) ?_
    refine O.nil ?_
    refine X.next ?_
    refine V.seq ?_
    refine V.region ?_
    refine O.p rfl rfl rfl (Pu.move rfl rfl) ?_
    refine O.p rfl rfl rfl (Pu.add64 (r := ((i + 1 : Nat) : Int)) rfl (by omega) rfl rfl rfl) ?_
    refine O.p rfl rfl rfl (Pu.assign rfl rfl) ?_
    refine O.nil ?_
    refine X.next ?_
    refine V.block ?_
    refine V.loop3 (β := (Option Addr) × Nat × (List (Sl × List Int)) × Nat) (fun x => [(3, .slice x.1 (tops x.2.2.1).length x.2.1), (6, .int .i64 (x.2.2.2 : Int))]) _ (fun x => [Own 54 SlC x.1 x.2.1 (tops x.2.2.1), RowsA 2 I64 x.2.2.1]) _ (fun x => i < x.2.2.2 ∧ x.2.2.2 ≤ bs.length ∧ (∃ ls, conts x.2.2.1 = conts out ++ ls ∧ IsList (PreB (PQ bs) [(i : Int)] x.2.2.2) ls) ∧ x.2.2.1.length ≤ i * 42875 + x.2.2.2 * 1225) (fun x => bs.length - x.2.2.2) (outA, outc, out, i + 1) (by (try dsimp only); exact ⟨by omega, by omega, ⟨[], by simp, pas1⟩, by omega⟩) (Ent.cons rfl (Ent.cons rfl (Ent.nil _))) (Ent.cons (t := 4) rfl (Ent.cons (t := 5) rfl (Ent.cons (t := 12) rfl (Ent.cons (t := 13) rfl (Ent.nil _))))) (Sub.keep 0 rfl (Sub.keep 0 rfl (Sub.keep 0 rfl (Sub.nil _)))) ?_
    rintro ⟨o1A, o1c, o1, j⟩ ⟨hij, hj, ⟨ls1, q1, g1⟩, b1⟩
    dsimp only at hij hj ls1 q1 g1 b1 ⊢
    refine V.fact (RowsA.len 1 rfl) (fun hn_o1 => ?_)
    have htl_o1 := tops_len o1
    refine V.seq ?_
    refine V.seq ?_
    refine V.region ?_
    refine O.p rfl rfl rfl (Pu.move rfl rfl) ?_
    refine O.p rfl rfl rfl (Pu.move rfl rfl) ?_
    refine O.p rfl rfl rfl (Pu.len rfl Try.underlying28 rfl) ?_
    refine O.p rfl rfl rfl (Pu.lss rfl rfl rfl) ?_
    refine O.nil ?_
    refine X.next ?_
    refine V.condD rfl (fun c2 => ?_) (fun c2 => ?_)
    · skip
      refine V.skip ?_
      refine X.next ?_
      refine V.seq ?_
      refine V.block ?_
      refine V.seq ?_
      refine V.seq ?_
      refine V.draw mo (by kernel_rfl) (fun hwf => ?_)
      refine D.p 0 rfl rfl rfl rfl rfl rfl (Pu.move rfl rfl) ?_
      refine D.p 1 rfl rfl rfl rfl rfl rfl (Pu.move rfl rfl) ?_
      refine D.p 2 rfl rfl rfl rfl rfl rfl (Pu.indexAddr (i) rfl Try.underlying28 sz67 rfl rfl (by omega) (by omega) (hx.some (by omega))) ?_
      have e1 : i < bs.length := by omega
      refine D.p 3 rfl rfl rfl rfl rfl rfl (Pu.loadAgg' (v := B3.v (bs[i]'e1)) rfl rfl ag67 sz67 rfl rfl (Ld.rds (Ld.old hx) (k := i) e1 rfl)) ?_
      refine D.p 4 rfl rfl rfl rfl rfl rfl (Pu.move rfl rfl) ?_
      refine D.p 5 rfl rfl rfl rfl rfl rfl (Pu.move rfl rfl) ?_
      refine D.p 6 rfl rfl rfl rfl rfl rfl (Pu.indexAddr (j) rfl Try.underlying28 sz67 rfl rfl (by omega) (by omega) (hx.some (by omega))) ?_
      have e2 : j < bs.length := by omega
      refine D.p 7 rfl rfl rfl rfl rfl rfl (Pu.loadAgg' (v := B3.v (bs[j]'e2)) rfl rfl ag67 sz67 rfl rfl (Ld.rds (Ld.old hx) (k := j) e2 rfl)) ?_
      refine D.eff hwf (e := 8) rfl rfl rfl rfl (Ef.callP call109 rfl rfl (fun w hw => meets_ok (bs[i]'e1) (bs[j]'e2) w)) rfl rfl rfl ?_
      rintro _ _ ⟨rfl, rfl⟩ hs
      refine ⟨fun w hw => hw, ?_⟩
      refine D.p 9 rfl rfl rfl rfl rfl rfl (Pu.not rfl rfl) ?_
      refine D.done hwf rfl ?_
      refine X.next ?_
      refine V.condNot rfl (fun c3 => ?_) (fun c3 => ?_)
      · skip
        refine V.exit ?_
        refine X.thenExit ?_
        refine X.blockHit ?_
        refine X.next ?_
        refine V.region ?_
        refine O.p rfl rfl rfl (Pu.move rfl rfl) ?_
        refine O.p rfl rfl rfl (Pu.add64 (r := ((j + 1 : Nat) : Int)) rfl (by omega) rfl rfl rfl) ?_
        refine O.p rfl rfl rfl (Pu.assign rfl rfl) ?_
        refine O.nil ?_
        exact X.back3 (o1A, o1c, o1, j + 1) (by (try dsimp only); exact ⟨by omega, by omega, ⟨ls1, q1, pas_skip1 hS hij (by omega) c3 g1⟩, by omega⟩) (by first | omega | (dsimp only; omega)) (Ent.cons' rfl (by first | rfl | (simp only [tops_append]; done) | (simp only [tops_append]; rfl)) (Ent.cons rfl (Ent.nil _))) (Ent.cons (t := 4) rfl (Ent.cons (t := 5) rfl (Ent.cons (t := 12) rfl (Ent.cons (t := 13) rfl (Ent.nil _))))) (Sub.keep 0 rfl (Sub.keep 0 rfl (Sub.keep 0 rfl (Sub.nil _))))
      · skip
        refine V.skip ?_
        refine X.next ?_
        refine V.seq ?_
        refine V.region ?_
        refine O.p rfl rfl rfl (Pu.move rfl rfl) ?_
        refine O.p rfl rfl rfl (Pu.add64 (r := ((j + 1 : Nat) : Int)) rfl (by omega) rfl rfl rfl) ?_
        refine O.p rfl rfl rfl (Pu.assign rfl rfl) ?_
        refine O.nil ?_
        refine X.next ?_
        refine V.block ?_
        refine V.loop3 (β := (Option Addr) × Nat × (List (Sl × List Int)) × Nat) (fun x => [(3, .slice x.1 (tops x.2.2.1).length x.2.1), (7, .int .i64 (x.2.2.2 : Int))]) _ (fun x => [Own 54 SlC x.1 x.2.1 (tops x.2.2.1), RowsA 2 I64 x.2.2.1]) _ (fun x => j < x.2.2.2 ∧ x.2.2.2 ≤ bs.length ∧ (∃ ls, conts x.2.2.1 = conts o1 ++ ls ∧ IsList (PreB (PQ bs) [(i : Int), (j : Int)] x.2.2.2) ls) ∧ x.2.2.1.length ≤ i * 42875 + j * 1225 + x.2.2.2 * 35) (fun x => bs.length - x.2.2.2) (o1A, o1c, o1, j + 1) (by (try dsimp only); exact ⟨by omega, by omega, ⟨[], by simp, pas2⟩, by omega⟩) (Ent.cons rfl (Ent.cons rfl (Ent.nil _))) (Ent.cons (t := 4) rfl (Ent.cons (t := 5) rfl (Ent.cons (t := 6) rfl (Ent.cons (t := 12) rfl (Ent.cons (t := 13) rfl (Ent.nil _)))))) (Sub.keep 0 rfl (Sub.keep 0 rfl (Sub.keep 0 rfl (Sub.nil _)))) ?_
        rintro ⟨o2A, o2c, o2, k⟩ ⟨hjk, hk, ⟨ls2, q2, g2⟩, b2⟩
        dsimp only at hjk hk ls2 q2 g2 b2 ⊢
        refine V.fact (RowsA.len 1 rfl) (fun hn_o2 => ?_)
        have htl_o2 := tops_len o2
        refine V.seq ?_
        refine V.seq ?_
        refine V.region ?_
        refine O.p rfl rfl rfl (Pu.move rfl rfl) ?_
        refine O.p rfl rfl rfl (Pu.move rfl rfl) ?_
        refine O.p rfl rfl rfl (Pu.len rfl Try.underlying28 rfl) ?_
        refine O.p rfl rfl rfl (Pu.lss rfl rfl rfl) ?_
        refine O.nil ?_
        refine X.next ?_
        refine V.condD rfl (fun c4 => ?_) (fun c4 => ?_)
        · skip
          refine V.skip ?_
          refine X.next ?_
          refine V.seq ?_
          refine V.block ?_
          refine V.seq ?_
          refine V.seq ?_
          refine V.draw mo (by kernel_rfl) (fun hwf => ?_)
          refine D.p 0 rfl rfl rfl rfl rfl rfl (Pu.move rfl rfl) ?_
          refine D.p 1 rfl rfl rfl rfl rfl rfl (Pu.move rfl rfl) ?_
          refine D.p 2 rfl rfl rfl rfl rfl rfl (Pu.indexAddr (i) rfl Try.underlying28 sz67 rfl rfl (by omega) (by omega) (hx.some (by omega))) ?_
          refine D.p 3 rfl rfl rfl rfl rfl rfl (Pu.loadAgg' (v := B3.v (bs[i]'e1)) rfl rfl ag67 sz67 rfl rfl (Ld.rds (Ld.old hx) (k := i) e1 rfl)) ?_
          refine D.p 4 rfl rfl rfl rfl rfl rfl (Pu.move rfl rfl) ?_
          refine D.p 5 rfl rfl rfl rfl rfl rfl (Pu.move rfl rfl) ?_
          refine D.p 6 rfl rfl rfl rfl rfl rfl (Pu.indexAddr (k) rfl Try.underlying28 sz67 rfl rfl (by omega) (by omega) (hx.some (by omega))) ?_
          have e3 : k < bs.length := by omega
          refine D.p 7 rfl rfl rfl rfl rfl rfl (Pu.loadAgg' (v := B3.v (bs[k]'e3)) rfl rfl ag67 sz67 rfl rfl (Ld.rds (Ld.old hx) (k := k) e3 rfl)) ?_
          refine D.eff hwf (e := 8) rfl rfl rfl rfl (Ef.callP call109 rfl rfl (fun w hw => meets_ok (bs[i]'e1) (bs[k]'e3) w)) rfl rfl rfl ?_
          rintro _ _ ⟨rfl, rfl⟩ hs
          refine ⟨fun w hw => hw, ?_⟩
          refine D.p 9 rfl rfl rfl rfl rfl rfl (Pu.not rfl rfl) ?_
          refine D.p 10 rfl rfl rfl rfl rfl rfl (Pu.move rfl rfl) ?_
          refine D.splitN 52 rfl (fun c5 => ?_) (fun c5 => ?_)
          · skip
            refine D.gs 11 rfl rfl rfl rfl rfl rfl rfl rfl rfl ?_
            refine D.gs 12 rfl rfl rfl rfl rfl rfl rfl rfl rfl ?_
            refine D.gs 13 rfl rfl rfl rfl rfl rfl rfl rfl rfl ?_
            refine D.gs 14 rfl rfl rfl rfl rfl rfl rfl rfl rfl ?_
            refine D.gs 15 rfl rfl rfl rfl rfl rfl rfl rfl rfl ?_
            refine D.gs 16 rfl rfl rfl rfl rfl rfl rfl rfl rfl ?_
            refine D.gs 17 rfl rfl rfl rfl rfl rfl rfl rfl rfl ?_
            refine D.gs 18 rfl rfl rfl rfl rfl rfl rfl rfl rfl ?_
            refine D.gs 19 rfl rfl rfl rfl rfl rfl rfl rfl rfl ?_
            refine D.gs 20 rfl rfl rfl rfl rfl rfl rfl rfl rfl ?_
            refine D.p 21 rfl rfl rfl rfl rfl rfl (Pu.pickT rfl rfl rfl) ?_
            refine D.done hwf rfl ?_
            refine X.next ?_
            refine V.condT rfl ?_
            refine V.exit ?_
            refine X.thenExit ?_
            refine X.blockHit ?_
            refine X.next ?_
            refine V.region ?_
            refine O.p rfl rfl rfl (Pu.move rfl rfl) ?_
            refine O.p rfl rfl rfl (Pu.add64 (r := ((k + 1 : Nat) : Int)) rfl (by omega) rfl rfl rfl) ?_
            refine O.p rfl rfl rfl (Pu.assign rfl rfl) ?_
            refine O.nil ?_
            exact X.back3 (o2A, o2c, o2, k + 1) (by (try dsimp only); exact ⟨by omega, by omega, ⟨ls2, q2, pas_skip2 hS hij hjk (by omega) (.inl c5) g2⟩, by omega⟩) (by first | omega | (dsimp only; omega)) (Ent.cons' rfl (by first | rfl | (simp only [tops_append]; done) | (simp only [tops_append]; rfl)) (Ent.cons rfl (Ent.nil _))) (Ent.cons (t := 4) rfl (Ent.cons (t := 5) rfl (Ent.cons (t := 6) rfl (Ent.cons (t := 12) rfl (Ent.cons (t := 13) rfl (Ent.nil _)))))) (Sub.keep 0 rfl (Sub.keep 0 rfl (Sub.keep 0 rfl (Sub.nil _))))
          · skip
            refine D.gp 11 rfl rfl rfl rfl rfl rfl rfl rfl (Pu.move rfl rfl) ?_
            refine D.gp 12 rfl rfl rfl rfl rfl rfl rfl rfl (Pu.move rfl rfl) ?_
            refine D.gp 13 rfl rfl rfl rfl rfl rfl rfl rfl (Pu.indexAddr (j) rfl Try.underlying28 sz67 rfl rfl (by omega) (by omega) (hx.some (by omega))) ?_
            refine D.gp 14 rfl rfl rfl rfl rfl rfl rfl rfl (Pu.loadAgg' (v := B3.v (bs[j]'e2)) rfl rfl ag67 sz67 rfl rfl (Ld.rds (Ld.old hx) (k := j) e2 rfl)) ?_
            refine D.gp 15 rfl rfl rfl rfl rfl rfl rfl rfl (Pu.move rfl rfl) ?_
            refine D.gp 16 rfl rfl rfl rfl rfl rfl rfl rfl (Pu.move rfl rfl) ?_
            refine D.gp 17 rfl rfl rfl rfl rfl rfl rfl rfl (Pu.indexAddr (k) rfl Try.underlying28 sz67 rfl rfl (by omega) (by omega) (hx.some (by omega))) ?_
            refine D.gp 18 rfl rfl rfl rfl rfl rfl rfl rfl (Pu.loadAgg' (v := B3.v (bs[k]'e3)) rfl rfl ag67 sz67 rfl rfl (Ld.rds (Ld.old hx) (k := k) e3 rfl)) ?_
            refine D.geff hwf (e := 19) rfl rfl rfl rfl rfl rfl (Ef.callP call109 rfl rfl (fun w hw => meets_ok (bs[j]'e2) (bs[k]'e3) w)) rfl rfl rfl ?_
            rintro _ _ ⟨rfl, rfl⟩ hs
            refine ⟨fun w hw => hw, ?_⟩
            refine D.gp 20 rfl rfl rfl rfl rfl rfl rfl rfl (Pu.not rfl rfl) ?_
            refine D.p 21 rfl rfl rfl rfl rfl rfl (Pu.pickF rfl rfl rfl) ?_
            refine D.done hwf rfl ?_
            refine X.next ?_
            refine V.condNot rfl (fun c6 => ?_) (fun c6 => ?_)
            · skip
              refine V.exit ?_
              refine X.thenExit ?_
              refine X.blockHit ?_
              refine X.next ?_
              refine V.region ?_
              refine O.p rfl rfl rfl (Pu.move rfl rfl) ?_
              refine O.p rfl rfl rfl (Pu.add64 (r := ((k + 1 : Nat) : Int)) rfl (by omega) rfl rfl rfl) ?_
              refine O.p rfl rfl rfl (Pu.assign rfl rfl) ?_
              refine O.nil ?_
              exact X.back3 (o2A, o2c, o2, k + 1) (by (try dsimp only); exact ⟨by omega, by omega, ⟨ls2, q2, pas_skip2 hS hij hjk (by omega) (.inr c6) g2⟩, by omega⟩) (by first | omega | (dsimp only; omega)) (Ent.cons' rfl (by first | rfl | (simp only [tops_append]; done) | (simp only [tops_append]; rfl)) (Ent.cons rfl (Ent.nil _))) (Ent.cons (t := 4) rfl (Ent.cons (t := 5) rfl (Ent.cons (t := 6) rfl (Ent.cons (t := 12) rfl (Ent.cons (t := 13) rfl (Ent.nil _)))))) (Sub.keep 0 rfl (Sub.keep 0 rfl (Sub.keep 0 rfl (Sub.nil _))))
            · skip
              refine V.skip ?_
              refine X.next ?_
              refine V.seq ?_
              refine V.region ?_
              refine O.p rfl rfl rfl (Pu.move rfl rfl) ?_
              refine O.p rfl rfl rfl (Pu.add64 (r := ((k + 1 : Nat) : Int)) rfl (by omega) rfl rfl rfl) ?_
              refine O.p rfl rfl rfl (Pu.assign rfl rfl) ?_
              refine O.nil ?_
              refine X.next ?_
              refine V.block ?_
              refine V.loop3 (β := (Option Addr) × Nat × (List (Sl × List Int)) × Nat) (fun x => [(3, .slice x.1 (tops x.2.2.1).length x.2.1), (8, .int .i64 (x.2.2.2 : Int))]) _ (fun x => [Own 54 SlC x.1 x.2.1 (tops x.2.2.1), RowsA 2 I64 x.2.2.1]) _ (fun x => k < x.2.2.2 ∧ x.2.2.2 ≤ bs.length ∧ (∃ ls, conts x.2.2.1 = conts o2 ++ ls ∧ IsList (PreB (PQ bs) [(i : Int), (j : Int), (k : Int)] x.2.2.2) ls) ∧ x.2.2.1.length ≤ i * 42875 + j * 1225 + k * 35 + x.2.2.2) (fun x => bs.length - x.2.2.2) (o2A, o2c, o2, k + 1) (by (try dsimp only); exact ⟨by omega, by omega, ⟨[], by simp, pas3⟩, by omega⟩) (Ent.cons rfl (Ent.cons rfl (Ent.nil _))) (Ent.cons (t := 4) rfl (Ent.cons (t := 5) rfl (Ent.cons (t := 6) rfl (Ent.cons (t := 7) rfl (Ent.cons (t := 12) rfl (Ent.cons (t := 13) rfl (Ent.nil _))))))) (Sub.keep 0 rfl (Sub.keep 0 rfl (Sub.keep 0 rfl (Sub.nil _)))) ?_
              rintro ⟨o3A, o3c, o3, m⟩ ⟨hkm, hm, ⟨ls3, q3, g3⟩, b3⟩
              dsimp only at hkm hm ls3 q3 g3 b3 ⊢
              refine V.fact (RowsA.len 1 rfl) (fun hn_o3 => ?_)
              have htl_o3 := tops_len o3
              refine V.seq ?_
              refine V.seq ?_
              refine V.region ?_
              refine O.p rfl rfl rfl (Pu.move rfl rfl) ?_
              refine O.p rfl rfl rfl (Pu.move rfl rfl) ?_
              refine O.p rfl rfl rfl (Pu.len rfl Try.underlying28 rfl) ?_
              refine O.p rfl rfl rfl (Pu.lss rfl rfl rfl) ?_
              refine O.nil ?_
              refine X.next ?_
              refine V.condD rfl (fun c7 => ?_) (fun c7 => ?_)
              · skip
                refine V.skip ?_
                refine X.next ?_
                refine V.seq ?_
                refine V.block ?_
                refine V.seq ?_
                refine V.draw mo (by kernel_rfl) (fun hwf => ?_)
                refine D.p 0 rfl rfl rfl rfl rfl rfl (Pu.move rfl rfl) ?_
                refine D.p 1 rfl rfl rfl rfl rfl rfl (Pu.move rfl rfl) ?_
                refine D.p 2 rfl rfl rfl rfl rfl rfl (Pu.indexAddr (i) rfl Try.underlying28 sz67 rfl rfl (by omega) (by omega) (hx.some (by omega))) ?_
                refine D.p 3 rfl rfl rfl rfl rfl rfl (Pu.loadAgg' (v := B3.v (bs[i]'e1)) rfl rfl ag67 sz67 rfl rfl (Ld.rds (Ld.old hx) (k := i) e1 rfl)) ?_
                refine D.p 4 rfl rfl rfl rfl rfl rfl (Pu.move rfl rfl) ?_
                refine D.p 5 rfl rfl rfl rfl rfl rfl (Pu.move rfl rfl) ?_
                refine D.p 6 rfl rfl rfl rfl rfl rfl (Pu.indexAddr (j) rfl Try.underlying28 sz67 rfl rfl (by omega) (by omega) (hx.some (by omega))) ?_
                refine D.p 7 rfl rfl rfl rfl rfl rfl (Pu.loadAgg' (v := B3.v (bs[j]'e2)) rfl rfl ag67 sz67 rfl rfl (Ld.rds (Ld.old hx) (k := j) e2 rfl)) ?_
                refine D.p 8 rfl rfl rfl rfl rfl rfl (Pu.move rfl rfl) ?_
                refine D.p 9 rfl rfl rfl rfl rfl rfl (Pu.move rfl rfl) ?_
                refine D.p 10 rfl rfl rfl rfl rfl rfl (Pu.indexAddr (k) rfl Try.underlying28 sz67 rfl rfl (by omega) (by omega) (hx.some (by omega))) ?_
                refine D.p 11 rfl rfl rfl rfl rfl rfl (Pu.loadAgg' (v := B3.v (bs[k]'e3)) rfl rfl ag67 sz67 rfl rfl (Ld.rds (Ld.old hx) (k := k) e3 rfl)) ?_
                refine D.p 12 rfl rfl rfl rfl rfl rfl (Pu.move rfl rfl) ?_
                refine D.p 13 rfl rfl rfl rfl rfl rfl (Pu.move rfl rfl) ?_
                refine D.p 14 rfl rfl rfl rfl rfl rfl (Pu.indexAddr (m) rfl Try.underlying28 sz67 rfl rfl (by omega) (by omega) (hx.some (by omega))) ?_
                have e4 : m < bs.length := by omega
                refine D.p 15 rfl rfl rfl rfl rfl rfl (Pu.loadAgg' (v := B3.v (bs[m]'e4)) rfl rfl ag67 sz67 rfl rfl (Ld.rds (Ld.old hx) (k := m) e4 rfl)) ?_
                refine D.eff hwf (e := 16) rfl rfl rfl rfl (Ef.build B3C ([(bs[i]'e1), (bs[j]'e2), (bs[k]'e3), (bs[m]'e4)] : List B3) rfl Try.underlying28 inf67 rfl rfl rfl (by first | decide | (simp; done)) (by kernel_rfl)) rfl rfl rfl ?_
                rintro _ _ ⟨A1, hA1, rfl, rfl⟩ hs
                refine ⟨fun w hw => hw.sub (Sub.keep 1 rfl (Sub.keep 1 rfl (Sub.keep 1 rfl (Sub.nil _)))), ?_⟩
                refine D.eff hwf (e := 17) rfl rfl rfl rfl (Ef.callP call110 rfl rfl (fun w hw => isPasch_ok  ([(bs[i]'e1), (bs[j]'e2), (bs[k]'e3), (bs[m]'e4)] : List B3) _ _ w ((Ld.own 0 (by exact rfl)) w hw) (by first | omega | (simp only [tops_len, conts_len, bl, List.length_append, List.length_cons, List.length_nil] at *; omega)) (fun b hb => by simp only [List.mem_cons, List.not_mem_nil, or_false] at hb; rcases hb with rfl | rfl | rfl | rfl <;> exact hg _ (List.getElem_mem _)) (by rfl))) rfl rfl rfl ?_
                rintro _ _ ⟨rfl, rfl⟩ hs
                refine ⟨fun w hw => hw.sub (Sub.keep 1 rfl (Sub.keep 1 rfl (Sub.keep 1 rfl (Sub.nil _)))), ?_⟩
                refine D.done hwf rfl ?_
                refine X.next ?_
                refine V.condD rfl (fun c8 => ?_) (fun c8 => ?_)
                · skip
                  refine V.region ?_
                  refine O.p rfl rfl rfl (Pu.move rfl rfl) ?_
                  refine O.p rfl rfl rfl (Pu.move rfl rfl) ?_
                  refine O.p rfl rfl rfl (Pu.move rfl rfl) ?_
                  refine O.p rfl rfl rfl (Pu.move rfl rfl) ?_
                  refine O.p rfl rfl rfl (Pu.move rfl rfl) ?_
                  refine O.e rfl rfl rfl (Ef.build I64 ([(↑i : Int), (↑j : Int), (↑k : Int), (↑m : Int)] : List Int) rfl Try.underlying54 inf2 rfl rfl rfl (by first | decide | (simp; done)) (by kernel_rfl)) ?_
                  rintro _ _ ⟨A2, hA2, rfl, rfl⟩
                  refine O.e rfl rfl rfl (Ef.build SlC ([⟨A2, 4, 4⟩] : List Sl) rfl Try.underlying45 inf54 rfl rfl rfl (by first | decide | (simp; done)) (by kernel_rfl)) ?_
                  rintro _ _ ⟨A3, hA3, rfl, rfl⟩
                  refine O.e rfl rfl rfl (Ef.append (xs := (tops o3)) (ys := ([⟨A2, 4, 4⟩] : List Sl)) 3 rfl Try.underlying45 inf54 rfl rfl rfl rfl rfl rfl hA3 (Ld.own 0 (by exact rfl)) (by simp only [List.length_append, List.length_cons, List.length_nil] at *; omega) (by decide)) ?_
                  rintro _ _ ⟨A4, k1, rfl, rfl, hA4⟩
                  replace hA4 := hA4 (.inr (by simp))
                  refine O.map (fun w hw => snoc_heap (ps := o3) (xs := ([(↑i : Int), (↑j : Int), (↑k : Int), (↑m : Int)] : List Int)) (hw.sub (Sub.keep 3 rfl (Sub.keep 3 rfl (Sub.keep 1 rfl (Sub.keep 0 rfl (Sub.keep 0 rfl (Sub.keep 0 rfl (Sub.nil _))))))))) ?_
                  refine O.p rfl rfl rfl (Pu.assign rfl rfl) ?_
                  refine O.nil ?_
                  refine X.blockNormal ?_
                  refine X.next ?_
                  refine V.region ?_
                  refine O.p rfl rfl rfl (Pu.move rfl rfl) ?_
                  refine O.p rfl rfl rfl (Pu.add64 (r := ((m + 1 : Nat) : Int)) rfl (by omega) rfl rfl rfl) ?_
                  refine O.p rfl rfl rfl (Pu.assign rfl rfl) ?_
                  refine O.nil ?_
                  exact X.back3 (A4, k1, (o3 ++ [((⟨A2, 4, 4⟩ : Sl), ([(↑i : Int), (↑j : Int), (↑k : Int), (↑m : Int)] : List Int))]), m + 1) (by (try dsimp only); exact ⟨by omega, by omega, ⟨ls3 ++ [[(i : Int), (j : Int), (k : Int), (m : Int)]], by rw [conts_append, q3, List.append_assoc]; rfl, pas_yes hij hjk hkm (by omega) ((pasB_four (hg _ (List.getElem_mem _)) (hg _ (List.getElem_mem _)) (hg _ (List.getElem_mem _)) (hg _ (List.getElem_mem _))).1 c8) g3⟩, by simp only [List.length_append, List.length_singleton]; omega⟩) (by first | omega | (dsimp only; omega)) (Ent.cons' rfl (by first | rfl | (simp only [tops_append]; done) | (simp only [tops_append]; rfl)) (Ent.cons rfl (Ent.nil _))) (Ent.cons (t := 4) rfl (Ent.cons (t := 5) rfl (Ent.cons (t := 6) rfl (Ent.cons (t := 7) rfl (Ent.cons (t := 12) rfl (Ent.cons (t := 13) rfl (Ent.nil _))))))) (Sub.keep 0 rfl (Sub.keep 0 rfl (Sub.keep 2 rfl (Sub.nil _))))
                · skip
                  refine V.skip ?_
                  refine X.blockNormal ?_
                  refine X.next ?_
                  refine V.region ?_
                  refine O.p rfl rfl rfl (Pu.move rfl rfl) ?_
                  refine O.p rfl rfl rfl (Pu.add64 (r := ((m + 1 : Nat) : Int)) rfl (by omega) rfl rfl rfl) ?_
                  refine O.p rfl rfl rfl (Pu.assign rfl rfl) ?_
                  refine O.nil ?_
                  exact X.back3 (o3A, o3c, o3, m + 1) (by (try dsimp only); exact ⟨by omega, by omega, ⟨ls3, q3, pas_no hij hjk hkm (by omega) (fun h => c8 ((pasB_four (hg _ (List.getElem_mem _)) (hg _ (List.getElem_mem _)) (hg _ (List.getElem_mem _)) (hg _ (List.getElem_mem _))).2 h)) g3⟩, by omega⟩) (by first | omega | (dsimp only; omega)) (Ent.cons' rfl (by first | rfl | (simp only [tops_append]; done) | (simp only [tops_append]; rfl)) (Ent.cons rfl (Ent.nil _))) (Ent.cons (t := 4) rfl (Ent.cons (t := 5) rfl (Ent.cons (t := 6) rfl (Ent.cons (t := 7) rfl (Ent.cons (t := 12) rfl (Ent.cons (t := 13) rfl (Ent.nil _))))))) (Sub.keep 1 rfl (Sub.keep 1 rfl (Sub.keep 1 rfl (Sub.nil _))))
              · skip
                refine V.exit ?_
                refine X.thenExit ?_
                refine X.thenExit ?_
                refine X.blockHit ?_
                refine X.blockNormal ?_
                refine X.next ?_
                refine V.region ?_
                refine O.p rfl rfl rfl (Pu.move rfl rfl) ?_
                refine O.p rfl rfl rfl (Pu.add64 (r := ((k + 1 : Nat) : Int)) rfl (by omega) rfl rfl rfl) ?_
                refine O.p rfl rfl rfl (Pu.assign rfl rfl) ?_
                refine O.nil ?_
                exact X.back3 (o3A, o3c, o3, k + 1) (by (try dsimp only); exact ⟨by omega, by omega, ⟨ls2 ++ ls3, by rw [q3, q2, List.append_assoc], preB_step g2 (pas3_all (by omega) g3)⟩, by omega⟩) (by first | omega | (dsimp only; omega)) (Ent.cons' rfl (by first | rfl | (simp only [tops_append]; done) | (simp only [tops_append]; rfl)) (Ent.cons rfl (Ent.nil _))) (Ent.cons (t := 4) rfl (Ent.cons (t := 5) rfl (Ent.cons (t := 6) rfl (Ent.cons (t := 12) rfl (Ent.cons (t := 13) rfl (Ent.nil _)))))) (Sub.keep 0 rfl (Sub.keep 0 rfl (Sub.keep 0 rfl (Sub.nil _))))
        · skip
          refine V.exit ?_
          refine X.thenExit ?_
          refine X.thenExit ?_
          refine X.blockHit ?_
          refine X.blockNormal ?_
          refine X.next ?_
          refine V.region ?_
          refine O.p rfl rfl rfl (Pu.move rfl rfl) ?_
          refine O.p rfl rfl rfl (Pu.add64 (r := ((j + 1 : Nat) : Int)) rfl (by omega) rfl rfl rfl) ?_
          refine O.p rfl rfl rfl (Pu.assign rfl rfl) ?_
          refine O.nil ?_
          exact X.back3 (o2A, o2c, o2, j + 1) (by (try dsimp only); exact ⟨by omega, by omega, ⟨ls1 ++ ls2, by rw [q2, q1, List.append_assoc], preB_step g1 (pas2_all (by omega) g2)⟩, by omega⟩) (by first | omega | (dsimp only; omega)) (Ent.cons' rfl (by first | rfl | (simp only [tops_append]; done) | (simp only [tops_append]; rfl)) (Ent.cons rfl (Ent.nil _))) (Ent.cons (t := 4) rfl (Ent.cons (t := 5) rfl (Ent.cons (t := 12) rfl (Ent.cons (t := 13) rfl (Ent.nil _))))) (Sub.keep 0 rfl (Sub.keep 0 rfl (Sub.keep 0 rfl (Sub.nil _))))
    · skip
      refine V.exit ?_
      refine X.thenExit ?_
      refine X.thenExit ?_
      refine X.blockHit ?_
      refine X.blockNormal ?_
      refine X.next ?_
      refine V.region ?_
      refine O.p rfl rfl rfl (Pu.add64 (r := ((i + 1 : Nat) : Int)) rfl (by omega) rfl rfl rfl) ?_
      refine O.p rfl rfl rfl (Pu.move rfl rfl) ?_
      refine O.nil ?_
      exact X.back3 (o1A, o1c, o1, i + 1) (by (try dsimp only); exact ⟨by omega, by rw [q1]; exact preB_step g0 (pas1_all (by omega) g1), by omega⟩) (by first | omega | (dsimp only; omega)) (Ent.cons' rfl (by first | rfl | (simp only [tops_append]; done) | (simp only [tops_append]; rfl)) (Ent.cons rfl (Ent.nil _))) (Ent.cons (t := 4) rfl (Ent.cons (t := 12) rfl (Ent.nil _))) (Sub.keep 0 rfl (Sub.keep 0 rfl (Sub.keep 0 rfl (Sub.nil _))))
  · skip
    refine V.exit ?_
    refine X.thenExit ?_
    refine X.thenExit ?_
    refine X.blockHit ?_
    refine X.next ?_
    refine V.seq ?_
    refine V.region ?_
    refine O.p rfl rfl rfl (Pu.move rfl rfl) ?_
    refine O.p rfl rfl rfl (Pu.assign rfl rfl) ?_
    refine O.nil ?_
    refine X.next ?_
    refine V.ret ?_
    refine X.ret1 rfl rfl ?_
    exact fun w hw => St.mkExi outA (St.mkExi outc (St.mkExi out (St.unsep (St.addPur ⟨(by first | rfl | (simp only [tops_append]; done) | (simp only [tops_append]; rfl)), pas0_all (by omega) g0, by omega⟩ (St.unsep (hw.sub (Sub.keep 0 rfl (Sub.keep 0 rfl (Sub.nil _)))))))))
set_option maxRecDepth 100000 in
theorem cloneB_ok (xs : List B3) (A : Option Addr) (c : Nat) (w : World) (hx : Rd B3C w A xs) (lx : xs.length ≤ 1099511627776) : Does Try.prog 36 [.slice A xs.length c] w [] (fun v => [.exi fun p : (Option Addr × Nat) × List B3 => .sep (.pur (v = .slice p.1.1 p.2.length p.1.2 ∧ p.2 = xs)) (Own 67 B3C p.1.1 p.1.2 p.2)]) := by
  refine Does.enter Try.func36 rfl rfl [(0, .slice A xs.length c)] rfl ?_
  refine V.seq ?_
  refine V.region ?_
  refine O.p rfl rfl rfl (Pu.assign rfl rfl) ?_
  refine O.nil ?_
  refine X.next ?_
  refine V.seq ?_
  refine V.seq ?_
  refine V.region ?_
  refine O.p rfl rfl rfl (Pu.move rfl rfl) ?_
  refine O.p rfl rfl rfl (Pu.eqlNil Try.underlying28 rfl rfl rfl) ?_
  refine O.nil ?_
  refine X.next ?_
  refine V.cond rfl (fun c1 => ?_) (fun c1 => ?_)
  · skip
    refine V.seq ?_
    refine V.region ?_
    refine O.p rfl rfl rfl (Pu.assign rfl rfl) ?_
    refine O.nil ?_
    refine X.next ?_
    refine V.ret ?_
    refine X.thenRet ?_
    refine X.ret1 rfl rfl ?_
    exact fun w hw => St.retX ((none, 0), []) ⟨rfl, (Rd.none hx (none_of c1)).symm⟩ (St.addNil hw)
  · skip
    refine V.skip ?_
    refine X.next ?_
    refine V.seq ?_
    refine V.region ?_
    refine O.e rfl rfl rfl (Ef.build B3C ([] : List B3) rfl Try.underlying28 inf67 rfl rfl rfl (by first | decide | (simp; done)) (by kernel_rfl)) ?_
    rintro _ _ ⟨A1, hA1, rfl, rfl⟩
    refine O.p rfl rfl rfl (Pu.move rfl rfl) ?_
    refine O.e rfl rfl rfl (Ef.append (xs := ([] : List B3)) (ys := xs) 0 rfl Try.underlying28 inf67 rfl rfl rfl rfl rfl rfl (some_of c1) (Ld.old hx) (by simp only [List.length_append, List.length_cons, List.length_nil] at *; omega) (by decide)) ?_
    rintro _ _ ⟨A2, k1, rfl, rfl, hA2⟩
    replace hA2 := hA2 (.inl hA1)
    refine O.p rfl rfl rfl (Pu.assign rfl rfl) ?_
    refine O.nil ?_
    refine X.next ?_
    refine V.ret ?_
    refine X.ret1 rfl rfl ?_
    exact fun w hw => St.retX ((A2, k1), [] ++ xs) ⟨rfl, rfl⟩ (hw.sub (Sub.keep 0 rfl (Sub.nil _)))
set_option maxRecDepth 100000 in
theorem markBlockX_ok (xs : List B3) (m : Int) (A : Option Addr) (c : Nat) (w0 : World) (H : List Assn) (hm : 0 ≤ m ∧ m ≤ 1152921504606846976) (lx : xs.length ≤ 1099511627776) : Does Try.prog 39 [.slice A xs.length c, .int .i64 m] w0 (Own 67 B3C A c xs :: H) (fun v => .pur (v = .int .i64 (m + 3 * xs.length)) :: Own 67 B3C A c (marksB m xs.length) :: H) := by
  refine Does.enter Try.func39 rfl rfl [(0, .slice A xs.length c), (1, .int .i64 m)] rfl ?_
  refine V.seq ?_
  refine V.region ?_
  refine O.p rfl rfl rfl (Pu.assign rfl rfl) ?_
  refine O.nil ?_
  refine X.next ?_
  refine V.seq ?_
  refine V.seq ?_
  refine V.region ?_
  refine O.p rfl rfl rfl (Pu.assign rfl rfl) ?_
  refine O.nil ?_
  refine X.next ?_
  refine V.block ?_
  refine V.loop3 (β := Nat) (fun k => [(5, .int .i64 (k : Int)), (1, .int .i64 (m + 3 * (k : Int)))]) _ (fun k => [Own 67 B3C A c (markBAt xs m k)]) _ (fun k => k ≤ xs.length) (fun k => xs.length - k) 0 (by omega) (Ent.cons rfl (Ent.cons' rfl (iv (by omega)) (Ent.nil _))) (Ent.cons (t := 0) rfl (Ent.cons (t := 4) rfl (Ent.nil _))) (Sub.cons 0 rfl (fun w F h => by rw [markBAt_zero]; exact h) (Sub.refl _)) ?_
  rintro k hk
  refine V.seq ?_
  refine V.seq ?_
  refine V.region ?_
  refine O.p rfl rfl rfl (Pu.move rfl rfl) ?_
  refine O.p rfl rfl rfl (Pu.move rfl rfl) ?_
  refine O.p rfl rfl rfl (Pu.len rfl Try.underlying28 rfl) ?_
  refine O.p rfl rfl rfl (Pu.lss rfl rfl rfl) ?_
  refine O.nil ?_
  refine X.next ?_
  refine V.condD rfl (fun c1 => ?_) (fun c1 => ?_)
  · skip
    refine V.skip ?_
    refine X.next ?_
    refine V.seq ?_
    refine V.block ?_
    refine V.seq ?_
    refine V.region ?_
    refine O.p rfl rfl rfl (Pu.assign rfl rfl) ?_
    refine O.nil ?_
    refine X.next ?_
    refine V.block ?_
    refine V.unroll 3 ?_
    refine V.seq ?_
    refine V.seq ?_
    refine V.region ?_
    refine O.p rfl rfl rfl (Pu.move rfl rfl) ?_
    refine O.p rfl rfl rfl (Pu.isT (by decide) (Pu.lss rfl rfl rfl)) ?_
    refine O.nil ?_
    refine X.next ?_
    refine V.condT rfl ?_
    refine V.skip ?_
    refine X.next ?_
    refine V.seq ?_
    refine V.block ?_
    refine V.seq ?_
    refine V.region ?_
    refine O.p rfl rfl rfl (Pu.move rfl rfl) ?_
    refine O.p rfl rfl rfl (Pu.move rfl rfl) ?_
    refine O.p rfl rfl rfl (Pu.move rfl rfl) ?_
    refine O.p rfl rfl rfl (Pu.move rfl rfl) ?_
    refine O.p rfl rfl rfl (Pu.indexAddrS (k) rfl Try.underlying28 sz67 rfl rfl (by omega) (by omega) (fun w hw => Own.some hw (i := 0) (by exact rfl) (by (try simp only [List.length_set]); rw [markBAt_len hk]; omega))) ?_
    refine O.p rfl rfl rfl (Pu.indexArr' (0) rfl Try.underlying67 sz2 rfl rfl (by omega) (by omega) rfl (fun w hw => by have := Own.some hw (i := 0) (by exact rfl) (by (try simp only [List.length_set]); rw [markBAt_len hk]; omega); simpa using this)) ?_
    refine O.s rfl rfl (Ef.storeOwnAt 0 (k) (0) (((m + 3 * (↑k : Int)), ((markBAt xs m k)[k]'(by (try simp only [List.length_set]); rw [markBAt_len hk]; omega)).2.1, ((markBAt xs m k)[k]'(by (try simp only [List.length_set]); rw [markBAt_len hk]; omega)).2.2) : B3) rfl sz2 rfl rfl rfl rfl (by (try simp only [List.length_set]); rw [markBAt_len hk]; omega) (by decide) rfl rfl (by rfl)) ?_
    rintro _ _ rfl
    refine O.nil ?_
    refine X.next ?_
    refine V.region ?_
    refine O.p rfl rfl rfl (Pu.move rfl rfl) ?_
    refine O.p rfl rfl rfl (Pu.add64 rfl (by omega) rfl rfl rfl) ?_
    refine O.p rfl rfl rfl (Pu.assign rfl rfl) ?_
    refine O.nil ?_
    refine X.blockNormal ?_
    refine X.next ?_
    refine V.region ?_
    refine O.p rfl rfl rfl (Pu.move rfl rfl) ?_
    refine O.p rfl rfl rfl (Pu.add64 (r := 1) (by decide) (by decide) rfl rfl rfl) ?_
    refine O.p rfl rfl rfl (Pu.assign rfl rfl) ?_
    refine O.nil ?_
    refine X.again 2 ?_
    refine V.seq ?_
    refine V.seq ?_
    refine V.region ?_
    refine O.p rfl rfl rfl (Pu.move rfl rfl) ?_
    refine O.p rfl rfl rfl (Pu.isT (by decide) (Pu.lss rfl rfl rfl)) ?_
    refine O.nil ?_
    refine X.next ?_
    refine V.condT rfl ?_
    refine V.skip ?_
    refine X.next ?_
    refine V.seq ?_
    refine V.block ?_
    refine V.seq ?_
    refine V.region ?_
    refine O.p rfl rfl rfl (Pu.move rfl rfl) ?_
    refine O.p rfl rfl rfl (Pu.move rfl rfl) ?_
    refine O.p rfl rfl rfl (Pu.move rfl rfl) ?_
    refine O.p rfl rfl rfl (Pu.move rfl rfl) ?_
    refine O.p rfl rfl rfl (Pu.indexAddrS (k) rfl Try.underlying28 sz67 rfl rfl (by omega) (by omega) (fun w hw => Own.some hw (i := 0) (by exact rfl) (by (try simp only [List.length_set]); rw [markBAt_len hk]; omega))) ?_
    refine O.p rfl rfl rfl (Pu.indexArr' (1) rfl Try.underlying67 sz2 rfl rfl (by omega) (by omega) rfl (fun w hw => by have := Own.some hw (i := 0) (by exact rfl) (by (try simp only [List.length_set]); rw [markBAt_len hk]; omega); simpa using this)) ?_
    refine O.s rfl rfl (Ef.storeOwnAt 0 (k) (1) (((((markBAt xs m k).set k (((m + 3 * (↑k : Int)), ((markBAt xs m k)[k]'(by (try simp only [List.length_set]); rw [markBAt_len hk]; omega)).2.1, ((markBAt xs m k)[k]'(by (try simp only [List.length_set]); rw [markBAt_len hk]; omega)).2.2) : B3))[k]'(by (try simp only [List.length_set]); rw [markBAt_len hk]; omega)).1, ((m + 3 * (↑k : Int)) + (1 : Int)), (((markBAt xs m k).set k (((m + 3 * (↑k : Int)), ((markBAt xs m k)[k]'(by (try simp only [List.length_set]); rw [markBAt_len hk]; omega)).2.1, ((markBAt xs m k)[k]'(by (try simp only [List.length_set]); rw [markBAt_len hk]; omega)).2.2) : B3))[k]'(by (try simp only [List.length_set]); rw [markBAt_len hk]; omega)).2.2) : B3) rfl sz2 rfl rfl rfl rfl (by (try simp only [List.length_set]); rw [markBAt_len hk]; omega) (by decide) rfl rfl (by rfl)) ?_
    rintro _ _ rfl
    refine O.nil ?_
    refine X.next ?_
    refine V.region ?_
    refine O.p rfl rfl rfl (Pu.move rfl rfl) ?_
    refine O.p rfl rfl rfl (Pu.add64 rfl (by omega) rfl rfl rfl) ?_
    refine O.p rfl rfl rfl (Pu.assign rfl rfl) ?_
    refine O.nil ?_
    refine X.blockNormal ?_
    refine X.next ?_
    refine V.region ?_
    refine O.p rfl rfl rfl (Pu.move rfl rfl) ?_
    refine O.p rfl rfl rfl (Pu.add64 (r := 2) (by decide) (by decide) rfl rfl rfl) ?_
    refine O.p rfl rfl rfl (Pu.assign rfl rfl) ?_
    refine O.nil ?_
    refine X.again 1 ?_
    refine V.seq ?_
    refine V.seq ?_
    refine V.region ?_
    refine O.p rfl rfl rfl (Pu.move rfl rfl) ?_
    refine O.p rfl rfl rfl (Pu.isT (by decide) (Pu.lss rfl rfl rfl)) ?_
    refine O.nil ?_
    refine X.next ?_
    refine V.condT rfl ?_
    refine V.skip ?_
    refine X.next ?_
    refine V.seq ?_
    refine V.block ?_
    refine V.seq ?_
    refine V.region ?_
    refine O.p rfl rfl rfl (Pu.move rfl rfl) ?_
    refine O.p rfl rfl rfl (Pu.move rfl rfl) ?_
    refine O.p rfl rfl rfl (Pu.move rfl rfl) ?_
    refine O.p rfl rfl rfl (Pu.move rfl rfl) ?_
    refine O.p rfl rfl rfl (Pu.indexAddrS (k) rfl Try.underlying28 sz67 rfl rfl (by omega) (by omega) (fun w hw => Own.some hw (i := 0) (by exact rfl) (by (try simp only [List.length_set]); rw [markBAt_len hk]; omega))) ?_
    refine O.p rfl rfl rfl (Pu.indexArr' (2) rfl Try.underlying67 sz2 rfl rfl (by omega) (by omega) rfl (fun w hw => by have := Own.some hw (i := 0) (by exact rfl) (by (try simp only [List.length_set]); rw [markBAt_len hk]; omega); simpa using this)) ?_
    refine O.s rfl rfl (Ef.storeOwnAt 0 (k) (2) ((((((markBAt xs m k).set k (((m + 3 * (↑k : Int)), ((markBAt xs m k)[k]'(by (try simp only [List.length_set]); rw [markBAt_len hk]; omega)).2.1, ((markBAt xs m k)[k]'(by (try simp only [List.length_set]); rw [markBAt_len hk]; omega)).2.2) : B3)).set k (((((markBAt xs m k).set k (((m + 3 * (↑k : Int)), ((markBAt xs m k)[k]'(by (try simp only [List.length_set]); rw [markBAt_len hk]; omega)).2.1, ((markBAt xs m k)[k]'(by (try simp only [List.length_set]); rw [markBAt_len hk]; omega)).2.2) : B3))[k]'(by (try simp only [List.length_set]); rw [markBAt_len hk]; omega)).1, ((m + 3 * (↑k : Int)) + (1 : Int)), (((markBAt xs m k).set k (((m + 3 * (↑k : Int)), ((markBAt xs m k)[k]'(by (try simp only [List.length_set]); rw [markBAt_len hk]; omega)).2.1, ((markBAt xs m k)[k]'(by (try simp only [List.length_set]); rw [markBAt_len hk]; omega)).2.2) : B3))[k]'(by (try simp only [List.length_set]); rw [markBAt_len hk]; omega)).2.2) : B3))[k]'(by (try simp only [List.length_set]); rw [markBAt_len hk]; omega)).1, ((((markBAt xs m k).set k (((m + 3 * (↑k : Int)), ((markBAt xs m k)[k]'(by (try simp only [List.length_set]); rw [markBAt_len hk]; omega)).2.1, ((markBAt xs m k)[k]'(by (try simp only [List.length_set]); rw [markBAt_len hk]; omega)).2.2) : B3)).set k (((((markBAt xs m k).set k (((m + 3 * (↑k : Int)), ((markBAt xs m k)[k]'(by (try simp only [List.length_set]); rw [markBAt_len hk]; omega)).2.1, ((markBAt xs m k)[k]'(by (try simp only [List.length_set]); rw [markBAt_len hk]; omega)).2.2) : B3))[k]'(by (try simp only [List.length_set]); rw [markBAt_len hk]; omega)).1, ((m + 3 * (↑k : Int)) + (1 : Int)), (((markBAt xs m k).set k (((m + 3 * (↑k : Int)), ((markBAt xs m k)[k]'(by (try simp only [List.length_set]); rw [markBAt_len hk]; omega)).2.1, ((markBAt xs m k)[k]'(by (try simp only [List.length_set]); rw [markBAt_len hk]; omega)).2.2) : B3))[k]'(by (try simp only [List.length_set]); rw [markBAt_len hk]; omega)).2.2) : B3))[k]'(by (try simp only [List.length_set]); rw [markBAt_len hk]; omega)).2.1, (((m + 3 * (↑k : Int)) + (1 : Int)) + (1 : Int))) : B3) rfl sz2 rfl rfl rfl rfl (by (try simp only [List.length_set]); rw [markBAt_len hk]; omega) (by decide) rfl rfl (by rfl)) ?_
    rintro _ _ rfl
    refine O.nil ?_
    refine X.next ?_
    refine V.region ?_
    refine O.p rfl rfl rfl (Pu.move rfl rfl) ?_
    refine O.p rfl rfl rfl (Pu.add64 rfl (by omega) rfl rfl rfl) ?_
    refine O.p rfl rfl rfl (Pu.assign rfl rfl) ?_
    refine O.nil ?_
    refine X.blockNormal ?_
    refine X.next ?_
    refine V.region ?_
    refine O.p rfl rfl rfl (Pu.move rfl rfl) ?_
    refine O.p rfl rfl rfl (Pu.add64 (r := 3) (by decide) (by decide) rfl rfl rfl) ?_
    refine O.p rfl rfl rfl (Pu.assign rfl rfl) ?_
    refine O.nil ?_
    refine X.again 0 ?_
    refine V.seq ?_
    refine V.seq ?_
    refine V.region ?_
    refine O.p rfl rfl rfl (Pu.move rfl rfl) ?_
    refine O.p rfl rfl rfl (Pu.isF (by decide) (Pu.lss rfl rfl rfl)) ?_
    refine O.nil ?_
    refine X.next ?_
    refine V.condF rfl ?_
    refine V.exit ?_
    refine X.thenExit ?_
    refine X.thenExit ?_
    refine X.blockHit ?_
    refine X.blockNormal ?_
    refine X.next ?_
    refine V.region ?_
    refine O.p rfl rfl rfl (Pu.move rfl rfl) ?_
    refine O.p rfl rfl rfl (Pu.add64 (r := ((k + 1 : Nat) : Int)) rfl (by omega) rfl rfl rfl) ?_
    refine O.p rfl rfl rfl (Pu.assign rfl rfl) ?_
    refine O.nil ?_
    exact X.back3 (k + 1) (by omega) (by omega) (Ent.cons rfl (Ent.cons' rfl (iv (by omega)) (Ent.nil _))) (Ent.cons (t := 0) rfl (Ent.cons (t := 4) rfl (Ent.nil _))) (Sub.cons 0 rfl (fun w F h => by have e : ((((markBAt xs m k).set k (((m + 3 * (↑k : Int)), ((markBAt xs m k)[k]'(by (try simp only [List.length_set]); rw [markBAt_len hk]; omega)).2.1, ((markBAt xs m k)[k]'(by (try simp only [List.length_set]); rw [markBAt_len hk]; omega)).2.2) : B3)).set k (((((markBAt xs m k).set k (((m + 3 * (↑k : Int)), ((markBAt xs m k)[k]'(by (try simp only [List.length_set]); rw [markBAt_len hk]; omega)).2.1, ((markBAt xs m k)[k]'(by (try simp only [List.length_set]); rw [markBAt_len hk]; omega)).2.2) : B3))[k]'(by (try simp only [List.length_set]); rw [markBAt_len hk]; omega)).1, ((m + 3 * (↑k : Int)) + (1 : Int)), (((markBAt xs m k).set k (((m + 3 * (↑k : Int)), ((markBAt xs m k)[k]'(by (try simp only [List.length_set]); rw [markBAt_len hk]; omega)).2.1, ((markBAt xs m k)[k]'(by (try simp only [List.length_set]); rw [markBAt_len hk]; omega)).2.2) : B3))[k]'(by (try simp only [List.length_set]); rw [markBAt_len hk]; omega)).2.2) : B3)).set k ((((((markBAt xs m k).set k (((m + 3 * (↑k : Int)), ((markBAt xs m k)[k]'(by (try simp only [List.length_set]); rw [markBAt_len hk]; omega)).2.1, ((markBAt xs m k)[k]'(by (try simp only [List.length_set]); rw [markBAt_len hk]; omega)).2.2) : B3)).set k (((((markBAt xs m k).set k (((m + 3 * (↑k : Int)), ((markBAt xs m k)[k]'(by (try simp only [List.length_set]); rw [markBAt_len hk]; omega)).2.1, ((markBAt xs m k)[k]'(by (try simp only [List.length_set]); rw [markBAt_len hk]; omega)).2.2) : B3))[k]'(by (try simp only [List.length_set]); rw [markBAt_len hk]; omega)).1, ((m + 3 * (↑k : Int)) + (1 : Int)), (((markBAt xs m k).set k (((m + 3 * (↑k : Int)), ((markBAt xs m k)[k]'(by (try simp only [List.length_set]); rw [markBAt_len hk]; omega)).2.1, ((markBAt xs m k)[k]'(by (try simp only [List.length_set]); rw [markBAt_len hk]; omega)).2.2) : B3))[k]'(by (try simp only [List.length_set]); rw [markBAt_len hk]; omega)).2.2) : B3))[k]'(by (try simp only [List.length_set]); rw [markBAt_len hk]; omega)).1, ((((markBAt xs m k).set k (((m + 3 * (↑k : Int)), ((markBAt xs m k)[k]'(by (try simp only [List.length_set]); rw [markBAt_len hk]; omega)).2.1, ((markBAt xs m k)[k]'(by (try simp only [List.length_set]); rw [markBAt_len hk]; omega)).2.2) : B3)).set k (((((markBAt xs m k).set k (((m + 3 * (↑k : Int)), ((markBAt xs m k)[k]'(by (try simp only [List.length_set]); rw [markBAt_len hk]; omega)).2.1, ((markBAt xs m k)[k]'(by (try simp only [List.length_set]); rw [markBAt_len hk]; omega)).2.2) : B3))[k]'(by (try simp only [List.length_set]); rw [markBAt_len hk]; omega)).1, ((m + 3 * (↑k : Int)) + (1 : Int)), (((markBAt xs m k).set k (((m + 3 * (↑k : Int)), ((markBAt xs m k)[k]'(by (try simp only [List.length_set]); rw [markBAt_len hk]; omega)).2.1, ((markBAt xs m k)[k]'(by (try simp only [List.length_set]); rw [markBAt_len hk]; omega)).2.2) : B3))[k]'(by (try simp only [List.length_set]); rw [markBAt_len hk]; omega)).2.2) : B3))[k]'(by (try simp only [List.length_set]); rw [markBAt_len hk]; omega)).2.1, (((m + 3 * (↑k : Int)) + (1 : Int)) + (1 : Int))) : B3)) = markBAt xs m (k + 1) := (by rw [← markBAt_set (m := m) (k := k) (by omega)]; simp only [List.set_set, List.getElem_set_self]; congr 1; refine Prod.ext ?_ (Prod.ext ?_ ?_) <;> dsimp only <;> omega); exact e ▸ h) (Sub.refl _))
  · skip
    refine V.exit ?_
    refine X.thenExit ?_
    refine X.thenExit ?_
    refine X.blockHit ?_
    refine X.next ?_
    refine V.seq ?_
    refine V.region ?_
    refine O.p rfl rfl rfl (Pu.move rfl rfl) ?_
    refine O.p rfl rfl rfl (Pu.assign rfl rfl) ?_
    refine O.nil ?_
    refine X.next ?_
    refine V.ret ?_
    refine X.ret1 rfl rfl ?_
    exact fun w hw => St.addPur (iv (by omega)) (hw.sub (Sub.cons 0 rfl (fun w F h => by rw [markBAt_all (by omega)] at h; exact h) (Sub.refl _)))
set_option maxRecDepth 100000 in
theorem markSystemX_ok (p : Int) (xs : List B3) (m : Int) (A : Option Addr) (c : Nat) (w0 : World) (H : List Assn) (hm : 0 ≤ m ∧ m ≤ 1152921504606846976) (lx : xs.length ≤ 1099511627776) : Does Try.prog 15 [.agg #[.int .i64 p, .slice A xs.length c], .int .i64 m] w0 (Own 67 B3C A c xs :: H) (fun v => .pur (v = .int .i64 (m + 3 * xs.length)) :: Own 67 B3C A c (marksB m xs.length) :: H) := by
  refine Does.enter Try.func15 rfl rfl [(0, .agg #[.int .i64 p, .slice A xs.length c]), (1, .int .i64 m)] rfl ?_
  refine V.seq ?_
  refine V.region ?_
  refine O.e rfl rfl rfl (Ef.box rfl rfl rfl) ?_
  rintro _ _ ⟨b1, rfl, rfl⟩
  refine O.p rfl rfl rfl (Pu.assign rfl rfl) ?_
  refine O.nil ?_
  refine X.next ?_
  refine V.seq ?_
  refine V.region ?_
  refine O.p rfl rfl rfl (Pu.fieldAddr 1 rfl Try.underlying30 rfl sz28 rfl rfl) ?_
  refine O.p rfl rfl rfl (Pu.load rfl pl28 rfl (Ld.blk 0 rfl rfl)) ?_
  refine O.p rfl rfl rfl (Pu.move rfl rfl) ?_
  refine O.e rfl rfl rfl (Ef.callM 1 call39 rfl rfl rfl (fun H _ => markBlockX_ok _ _ _ _ _ H (by omega) (by omega))) ?_
  rintro _ _ ⟨rfl, rfl⟩
  refine O.p rfl rfl rfl (Pu.assign rfl rfl) ?_
  refine O.nil ?_
  refine X.next ?_
  refine V.seq ?_
  refine V.region ?_
  refine O.p rfl rfl rfl (Pu.move rfl rfl) ?_
  refine O.p rfl rfl rfl (Pu.assign rfl rfl) ?_
  refine O.nil ?_
  refine X.next ?_
  refine V.ret ?_
  refine X.ret1 rfl rfl ?_
  exact fun w hw => St.addPur rfl (hw.sub (Sub.keep 1 rfl (Sub.drop (Sub.refl _))))
set_option maxRecDepth 100000 in
theorem heldBlockX_ok (n : Nat) (m : Int) (A : Option Addr) (c : Nat) (w : World) (hx : Rd B3C w A (marksB m n)) (hm : 0 ≤ m ∧ m ≤ 1152921504606846976) (lx : n ≤ 1099511627776) : Does Try.prog 40 [.slice A n c, .int .i64 m] w [] (fun v => [.pur (v = .int .i64 (m + 3 * n))]) := by
  refine Does.enter Try.func40 rfl rfl [(0, .slice A n c), (1, .int .i64 m)] rfl ?_
  refine V.seq ?_
  have hml := marksB_len m n
  refine V.region ?_
  refine O.p rfl rfl rfl (Pu.assign rfl rfl) ?_
  refine O.nil ?_
  refine X.next ?_
  refine V.seq ?_
  refine V.seq ?_
  refine V.region ?_
  refine O.p rfl rfl rfl (Pu.assign rfl rfl) ?_
  refine O.nil ?_
  refine X.next ?_
  refine V.block ?_
  refine V.loop2 (β := Nat) (fun k => [(5, .int .i64 (k : Int)), (1, .int .i64 (m + 3 * (k : Int)))]) _ (fun k => []) (fun k => k ≤ n) (fun k => n - k) 0 (by omega) (Ent.cons rfl (Ent.cons' rfl (iv (by omega)) (Ent.nil _))) (Ent.cons (t := 0) rfl (Ent.nil _)) (Sub.nil _) ?_
  rintro k hk
  refine V.seq ?_
  refine V.seq ?_
  refine V.region ?_
  refine O.p rfl rfl rfl (Pu.move rfl rfl) ?_
  refine O.p rfl rfl rfl (Pu.move rfl rfl) ?_
  refine O.p rfl rfl rfl (Pu.len rfl Try.underlying28 rfl) ?_
  refine O.p rfl rfl rfl (Pu.lss rfl rfl rfl) ?_
  refine O.nil ?_
  refine X.next ?_
  refine V.condD rfl (fun c1 => ?_) (fun c1 => ?_)
  · skip
    refine V.skip ?_
    refine X.next ?_
    refine V.seq ?_
    refine V.block ?_
    refine V.seq ?_
    refine V.region ?_
    refine O.p rfl rfl rfl (Pu.assign rfl rfl) ?_
    refine O.nil ?_
    refine X.next ?_
    refine V.block ?_
    refine V.unroll 3 ?_
    refine V.seq ?_
    refine V.seq ?_
    refine V.region ?_
    refine O.p rfl rfl rfl (Pu.move rfl rfl) ?_
    refine O.p rfl rfl rfl (Pu.isT (by decide) (Pu.lss rfl rfl rfl)) ?_
    refine O.nil ?_
    refine X.next ?_
    refine V.condT rfl ?_
    refine V.skip ?_
    refine X.next ?_
    refine V.seq ?_
    refine V.block ?_
    refine V.seq ?_
    refine V.seq ?_
    refine V.region ?_
    refine O.p rfl rfl rfl (Pu.move rfl rfl) ?_
    refine O.p rfl rfl rfl (Pu.move rfl rfl) ?_
    refine O.p rfl rfl rfl (Pu.move rfl rfl) ?_
    refine O.p rfl rfl rfl (Pu.indexAddrS (k) rfl Try.underlying28 sz67 rfl rfl (by omega) (by omega) (fun w hw => ((Ld.old hx) w hw).some (by omega))) ?_
    refine O.p rfl rfl rfl (Pu.indexArr' (0) rfl Try.underlying67 sz2 rfl rfl (by omega) (by omega) rfl (fun w hw => by have := Rd.some ((Ld.old hx) w hw) (by omega); simpa using this)) ?_
    have e1 : k < (marksB m n).length := by omega
    refine O.p rfl rfl rfl (Pu.load rfl pl2 rfl (Ld.part (k := k) (j := 0) (Ld.old hx) e1 rfl rfl)) ?_
    refine O.p rfl rfl rfl (Pu.move rfl rfl) ?_
    refine O.p rfl rfl rfl (Pu.neq rfl rfl rfl) ?_
    refine O.nil ?_
    refine X.next ?_
    refine V.condNot rfl (fun c2 => ?_) (fun c2 => ?_)
    · skip
      exact absurd (by have h1 := marksB_get m n (k := k) (by rw [marksB_len]; omega); have h2 := congrArg (fun q : B3 => q.1) h1; have h3 := congrArg (fun q : B3 => q.2.1) h1; have h4 := congrArg (fun q : B3 => q.2.2) h1; dsimp only at h2 h3 h4; omega) c2
    · skip
      refine V.skip ?_
      refine X.next ?_
      refine V.region ?_
      refine O.p rfl rfl rfl (Pu.move rfl rfl) ?_
      refine O.p rfl rfl rfl (Pu.add64 rfl (by omega) rfl rfl rfl) ?_
      refine O.p rfl rfl rfl (Pu.assign rfl rfl) ?_
      refine O.nil ?_
      refine X.blockNormal ?_
      refine X.next ?_
      refine V.region ?_
      refine O.p rfl rfl rfl (Pu.move rfl rfl) ?_
      refine O.p rfl rfl rfl (Pu.add64 (r := 1) (by decide) (by decide) rfl rfl rfl) ?_
      refine O.p rfl rfl rfl (Pu.assign rfl rfl) ?_
      refine O.nil ?_
      refine X.again 2 ?_
      refine V.seq ?_
      refine V.seq ?_
      refine V.region ?_
      refine O.p rfl rfl rfl (Pu.move rfl rfl) ?_
      refine O.p rfl rfl rfl (Pu.isT (by decide) (Pu.lss rfl rfl rfl)) ?_
      refine O.nil ?_
      refine X.next ?_
      refine V.condT rfl ?_
      refine V.skip ?_
      refine X.next ?_
      refine V.seq ?_
      refine V.block ?_
      refine V.seq ?_
      refine V.seq ?_
      refine V.region ?_
      refine O.p rfl rfl rfl (Pu.move rfl rfl) ?_
      refine O.p rfl rfl rfl (Pu.move rfl rfl) ?_
      refine O.p rfl rfl rfl (Pu.move rfl rfl) ?_
      refine O.p rfl rfl rfl (Pu.indexAddrS (k) rfl Try.underlying28 sz67 rfl rfl (by omega) (by omega) (fun w hw => ((Ld.old hx) w hw).some (by omega))) ?_
      refine O.p rfl rfl rfl (Pu.indexArr' (1) rfl Try.underlying67 sz2 rfl rfl (by omega) (by omega) rfl (fun w hw => by have := Rd.some ((Ld.old hx) w hw) (by omega); simpa using this)) ?_
      refine O.p rfl rfl rfl (Pu.load rfl pl2 rfl (Ld.part (k := k) (j := 1) (Ld.old hx) e1 rfl rfl)) ?_
      refine O.p rfl rfl rfl (Pu.move rfl rfl) ?_
      refine O.p rfl rfl rfl (Pu.neq rfl rfl rfl) ?_
      refine O.nil ?_
      refine X.next ?_
      refine V.condNot rfl (fun c3 => ?_) (fun c3 => ?_)
      · skip
        exact absurd (by have h1 := marksB_get m n (k := k) (by rw [marksB_len]; omega); have h2 := congrArg (fun q : B3 => q.1) h1; have h3 := congrArg (fun q : B3 => q.2.1) h1; have h4 := congrArg (fun q : B3 => q.2.2) h1; dsimp only at h2 h3 h4; omega) c3
      · skip
        refine V.skip ?_
        refine X.next ?_
        refine V.region ?_
        refine O.p rfl rfl rfl (Pu.move rfl rfl) ?_
        refine O.p rfl rfl rfl (Pu.add64 rfl (by omega) rfl rfl rfl) ?_
        refine O.p rfl rfl rfl (Pu.assign rfl rfl) ?_
        refine O.nil ?_
        refine X.blockNormal ?_
        refine X.next ?_
        refine V.region ?_
        refine O.p rfl rfl rfl (Pu.move rfl rfl) ?_
        refine O.p rfl rfl rfl (Pu.add64 (r := 2) (by decide) (by decide) rfl rfl rfl) ?_
        refine O.p rfl rfl rfl (Pu.assign rfl rfl) ?_
        refine O.nil ?_
        refine X.again 1 ?_
        refine V.seq ?_
        refine V.seq ?_
        refine V.region ?_
        refine O.p rfl rfl rfl (Pu.move rfl rfl) ?_
        refine O.p rfl rfl rfl (Pu.isT (by decide) (Pu.lss rfl rfl rfl)) ?_
        refine O.nil ?_
        refine X.next ?_
        refine V.condT rfl ?_
        refine V.skip ?_
        refine X.next ?_
        refine V.seq ?_
        refine V.block ?_
        refine V.seq ?_
        refine V.seq ?_
        refine V.region ?_
        refine O.p rfl rfl rfl (Pu.move rfl rfl) ?_
        refine O.p rfl rfl rfl (Pu.move rfl rfl) ?_
        refine O.p rfl rfl rfl (Pu.move rfl rfl) ?_
        refine O.p rfl rfl rfl (Pu.indexAddrS (k) rfl Try.underlying28 sz67 rfl rfl (by omega) (by omega) (fun w hw => ((Ld.old hx) w hw).some (by omega))) ?_
        refine O.p rfl rfl rfl (Pu.indexArr' (2) rfl Try.underlying67 sz2 rfl rfl (by omega) (by omega) rfl (fun w hw => by have := Rd.some ((Ld.old hx) w hw) (by omega); simpa using this)) ?_
        refine O.p rfl rfl rfl (Pu.load rfl pl2 rfl (Ld.part (k := k) (j := 2) (Ld.old hx) e1 rfl rfl)) ?_
        refine O.p rfl rfl rfl (Pu.move rfl rfl) ?_
        refine O.p rfl rfl rfl (Pu.neq rfl rfl rfl) ?_
        refine O.nil ?_
        refine X.next ?_
        refine V.condNot rfl (fun c4 => ?_) (fun c4 => ?_)
        · skip
          exact absurd (by have h1 := marksB_get m n (k := k) (by rw [marksB_len]; omega); have h2 := congrArg (fun q : B3 => q.1) h1; have h3 := congrArg (fun q : B3 => q.2.1) h1; have h4 := congrArg (fun q : B3 => q.2.2) h1; dsimp only at h2 h3 h4; omega) c4
        · skip
          refine V.skip ?_
          refine X.next ?_
          refine V.region ?_
          refine O.p rfl rfl rfl (Pu.move rfl rfl) ?_
          refine O.p rfl rfl rfl (Pu.add64 rfl (by omega) rfl rfl rfl) ?_
          refine O.p rfl rfl rfl (Pu.assign rfl rfl) ?_
          refine O.nil ?_
          refine X.blockNormal ?_
          refine X.next ?_
          refine V.region ?_
          refine O.p rfl rfl rfl (Pu.move rfl rfl) ?_
          refine O.p rfl rfl rfl (Pu.add64 (r := 3) (by decide) (by decide) rfl rfl rfl) ?_
          refine O.p rfl rfl rfl (Pu.assign rfl rfl) ?_
          refine O.nil ?_
          refine X.again 0 ?_
          refine V.seq ?_
          refine V.seq ?_
          refine V.region ?_
          refine O.p rfl rfl rfl (Pu.move rfl rfl) ?_
          refine O.p rfl rfl rfl (Pu.isF (by decide) (Pu.lss rfl rfl rfl)) ?_
          refine O.nil ?_
          refine X.next ?_
          refine V.condF rfl ?_
          refine V.exit ?_
          refine X.thenExit ?_
          refine X.thenExit ?_
          refine X.blockHit ?_
          refine X.blockNormal ?_
          refine X.next ?_
          refine V.region ?_
          refine O.p rfl rfl rfl (Pu.move rfl rfl) ?_
          refine O.p rfl rfl rfl (Pu.add64 (r := ((k + 1 : Nat) : Int)) rfl (by omega) rfl rfl rfl) ?_
          refine O.p rfl rfl rfl (Pu.assign rfl rfl) ?_
          refine O.nil ?_
          exact X.back2 (k + 1) (by omega) (by omega) (Ent.cons rfl (Ent.cons' rfl (iv (by omega)) (Ent.nil _))) (Ent.cons (t := 0) rfl (Ent.nil _)) (Sub.nil _)
  · skip
    refine V.exit ?_
    refine X.thenExit ?_
    refine X.thenExit ?_
    refine X.blockHit ?_
    refine X.next ?_
    refine V.seq ?_
    refine V.region ?_
    refine O.p rfl rfl rfl (Pu.move rfl rfl) ?_
    refine O.p rfl rfl rfl (Pu.assign rfl rfl) ?_
    refine O.nil ?_
    refine X.next ?_
    refine V.ret ?_
    refine X.ret1 rfl rfl ?_
    exact fun w hw => St.retP (iv (by omega)) hw
def layI_ren : Go.Shelf.Ren := ⟨fun | 5 => 97 | 8 => 124 | 7 => 123 | 19 => 145 | 20 => 146 | 10 => 136 | 11 => 137 | 12 => 138 | 13 => 139 | 14 => 140 | 15 => 141 | 16 => 142 | 17 => 143 | 18 => 144 | 30 => 149 | 31 => 150 | 32 => 151 | 33 => 152 | 34 => 153 | 35 => 102 | 40 => 155 | n => n, fun | 23 => 54 | 25 => 2 | 3 => 3 | 32 => 148 | 22 => 54 | 0 => 0 | 44 => 169 | 46 => 94 | 4 => 4 | 36 => 161 | 35 => 160 | 41 => 166 | 5 => 5 | 9 => 9 | 53 => 177 | 57 => 181 | 63 => 184 | 64 => 185 | n => n, fun | n => n⟩
theorem layI : SlLaysM.n5 Try.prog layI_ren where
  mixed := by kernel_rfl
  f5 := ⟨Try.f97.name, by decide, Try.func97.trans (congrArg some (by kernel_rfl))⟩
  f7 := ⟨Try.f123.name, by decide, Try.func123.trans (congrArg some (by kernel_rfl))⟩
  f8 := Try.func124.trans (congrArg some (by kernel_rfl))
  f10 := ⟨Try.f136.name, by decide, Try.func136.trans (congrArg some (by kernel_rfl))⟩
  f11 := ⟨Try.f137.name, by decide, Try.func137.trans (congrArg some (by kernel_rfl))⟩
  f12 := ⟨Try.f138.name, by decide, Try.func138.trans (congrArg some (by kernel_rfl))⟩
  f13 := ⟨Try.f139.name, by decide, Try.func139.trans (congrArg some (by kernel_rfl))⟩
  f14 := ⟨Try.f140.name, by decide, Try.func140.trans (congrArg some (by kernel_rfl))⟩
  f15 := ⟨Try.f141.name, by decide, Try.func141.trans (congrArg some (by kernel_rfl))⟩
  f16 := ⟨Try.f142.name, by decide, Try.func142.trans (congrArg some (by kernel_rfl))⟩
  f17 := ⟨Try.f143.name, by decide, Try.func143.trans (congrArg some (by kernel_rfl))⟩
  f18 := ⟨Try.f144.name, by decide, Try.func144.trans (congrArg some (by kernel_rfl))⟩
  f19 := Try.func145.trans (congrArg some (by kernel_rfl))
  f20 := Try.func146.trans (congrArg some (by kernel_rfl))
  f30 := ⟨Try.f149.name, by decide, Try.func149.trans (congrArg some (by kernel_rfl))⟩
  f31 := Try.func150.trans (congrArg some (by kernel_rfl))
  f32 := Try.func151.trans (congrArg some (by kernel_rfl))
  f33 := ⟨Try.f152.name, by decide, Try.func152.trans (congrArg some (by kernel_rfl))⟩
  f34 := ⟨Try.f153.name, by decide, Try.func153.trans (congrArg some (by kernel_rfl))⟩
  f35 := ⟨Try.f102.name, by decide, Try.func102.trans (congrArg some (by kernel_rfl))⟩
  f40 := ⟨Try.f155.name, by decide, Try.func155.trans (congrArg some (by kernel_rfl))⟩
  t0 := Try.underlying0
  a0 := Try.isAgg0
  z0 := Try.sizeOf0
  v0 := Try.zeroValue0
  t3 := Try.underlying3
  a3 := Try.isAgg3
  z3 := Try.sizeOf3
  v3 := Try.zeroValue3
  t4 := Try.underlying4
  a4 := Try.isAgg4
  z4 := Try.sizeOf4
  v4 := Try.zeroValue4
  t5 := Try.underlying5
  a5 := Try.isAgg5
  z5 := Try.sizeOf5
  v5 := Try.zeroValue5
  t9 := Try.underlying9
  a9 := Try.isAgg9
  z9 := Try.sizeOf9
  v9 := Try.zeroValue9
  t22 := Try.underlying54
  a22 := Try.isAgg54
  z22 := Try.sizeOf54
  v22 := Try.zeroValue54
  t23 := Try.underlying54
  a23 := Try.isAgg54
  z23 := Try.sizeOf54
  v23 := Try.zeroValue54
  t25 := Try.underlying2
  a25 := Try.isAgg2
  z25 := Try.sizeOf2
  v25 := Try.zeroValue2
  t32 := Try.underlying148
  a32 := Try.isAgg148
  z32 := Try.sizeOf148
  v32 := Try.zeroValue148
  t35 := Try.underlying160
  a35 := Try.isAgg160
  z35 := Try.sizeOf160
  v35 := Try.zeroValue160
  t36 := Try.underlying161
  a36 := Try.isAgg161
  z36 := Try.sizeOf161
  v36 := Try.zeroValue161
  t41 := Try.underlying166
  a41 := Try.isAgg166
  z41 := Try.sizeOf166
  v41 := Try.zeroValue166
  t44 := Try.underlying169
  a44 := Try.isAgg169
  z44 := Try.sizeOf169
  v44 := Try.zeroValue169
  t46 := Try.underlying94
  a46 := Try.isAgg94
  z46 := Try.sizeOf94
  v46 := Try.zeroValue94
  t53 := Try.underlying177
  a53 := Try.isAgg177
  z53 := Try.sizeOf177
  v53 := Try.zeroValue177
  t57 := Try.underlying181
  a57 := Try.isAgg181
  z57 := Try.sizeOf181
  v57 := Try.zeroValue181
  t63 := Try.underlying184
  a63 := Try.isAgg184
  z63 := Try.sizeOf184
  v63 := Try.zeroValue184
  t64 := Try.underlying185
  a64 := Try.isAgg185
  z64 := Try.sizeOf185
  v64 := Try.zeroValue185
theorem sort3_ok (x y z : Int) (g c T : Nat) (w0 : World) (H : List Assn) : Does Try.prog 97 [.slice (some ⟨g, 0, none⟩) 3 c] w0 (Blk g [.int .i64 x, .int .i64 y, .int .i64 z] T :: H) (fun v => [.sep (.pur (v = .tuple #[])) (Blk g [.int .i64 (lo3 x y z), .int .i64 (mi3 x y z), .int .i64 (hi3 x y z)] T)] ++ H) :=
  sort3_blk layI x y z
def layB_ren : Go.Shelf.Ren := ⟨fun | 6 => 148 | 15 => 124 | 14 => 154 | 28 => 145 | 29 => 146 | 20 => 156 | 21 => 157 | 22 => 158 | 23 => 159 | 24 => 160 | 25 => 161 | 26 => 162 | 27 => 163 | 46 => 164 | 47 => 150 | 48 => 151 | 49 => 165 | 50 => 166 | 57 => 167 | n => n, fun | 22 => 28 | 24 => 67 | 25 => 176 | 3 => 3 | 39 => 148 | 0 => 0 | 53 => 169 | 55 => 94 | 4 => 4 | 46 => 161 | 45 => 160 | 50 => 166 | 5 => 5 | 9 => 9 | 66 => 177 | 70 => 181 | 76 => 184 | 77 => 185 | n => n, fun | n => n⟩
theorem layB : SlLaysF0.n6 Try.prog layB_ren where
  mixed := by kernel_rfl
  f6 := ⟨Try.f148.name, by decide, Try.func148.trans (congrArg some (by kernel_rfl))⟩
  f14 := ⟨Try.f154.name, by decide, Try.func154.trans (congrArg some (by kernel_rfl))⟩
  f15 := Try.func124.trans (congrArg some (by kernel_rfl))
  f20 := ⟨Try.f156.name, by decide, Try.func156.trans (congrArg some (by kernel_rfl))⟩
  f21 := ⟨Try.f157.name, by decide, Try.func157.trans (congrArg some (by kernel_rfl))⟩
  f22 := ⟨Try.f158.name, by decide, Try.func158.trans (congrArg some (by kernel_rfl))⟩
  f23 := ⟨Try.f159.name, by decide, Try.func159.trans (congrArg some (by kernel_rfl))⟩
  f24 := ⟨Try.f160.name, by decide, Try.func160.trans (congrArg some (by kernel_rfl))⟩
  f25 := ⟨Try.f161.name, by decide, Try.func161.trans (congrArg some (by kernel_rfl))⟩
  f26 := ⟨Try.f162.name, by decide, Try.func162.trans (congrArg some (by kernel_rfl))⟩
  f27 := ⟨Try.f163.name, by decide, Try.func163.trans (congrArg some (by kernel_rfl))⟩
  f28 := Try.func145.trans (congrArg some (by kernel_rfl))
  f29 := Try.func146.trans (congrArg some (by kernel_rfl))
  f46 := ⟨Try.f164.name, by decide, Try.func164.trans (congrArg some (by kernel_rfl))⟩
  f47 := Try.func150.trans (congrArg some (by kernel_rfl))
  f48 := Try.func151.trans (congrArg some (by kernel_rfl))
  f49 := ⟨Try.f165.name, by decide, Try.func165.trans (congrArg some (by kernel_rfl))⟩
  f50 := ⟨Try.f166.name, by decide, Try.func166.trans (congrArg some (by kernel_rfl))⟩
  f57 := ⟨Try.f167.name, by decide, Try.func167.trans (congrArg some (by kernel_rfl))⟩
  t0 := Try.underlying0
  a0 := Try.isAgg0
  z0 := Try.sizeOf0
  v0 := Try.zeroValue0
  t3 := Try.underlying3
  a3 := Try.isAgg3
  z3 := Try.sizeOf3
  v3 := Try.zeroValue3
  t4 := Try.underlying4
  a4 := Try.isAgg4
  z4 := Try.sizeOf4
  v4 := Try.zeroValue4
  t5 := Try.underlying5
  a5 := Try.isAgg5
  z5 := Try.sizeOf5
  v5 := Try.zeroValue5
  t9 := Try.underlying9
  a9 := Try.isAgg9
  z9 := Try.sizeOf9
  v9 := Try.zeroValue9
  t22 := Try.underlying28
  a22 := Try.isAgg28
  z22 := Try.sizeOf28
  v22 := Try.zeroValue28
  t25 := Try.underlying176
  a25 := Try.isAgg176
  z25 := Try.sizeOf176
  v25 := Try.zeroValue176
  t39 := Try.underlying148
  a39 := Try.isAgg148
  z39 := Try.sizeOf148
  v39 := Try.zeroValue148
  t45 := Try.underlying160
  a45 := Try.isAgg160
  z45 := Try.sizeOf160
  v45 := Try.zeroValue160
  t46 := Try.underlying161
  a46 := Try.isAgg161
  z46 := Try.sizeOf161
  v46 := Try.zeroValue161
  t50 := Try.underlying166
  a50 := Try.isAgg166
  z50 := Try.sizeOf166
  v50 := Try.zeroValue166
  t53 := Try.underlying169
  a53 := Try.isAgg169
  z53 := Try.sizeOf169
  v53 := Try.zeroValue169
  t55 := Try.underlying94
  a55 := Try.isAgg94
  z55 := Try.sizeOf94
  v55 := Try.zeroValue94
  t66 := Try.underlying177
  a66 := Try.isAgg177
  z66 := Try.sizeOf177
  v66 := Try.zeroValue177
  t70 := Try.underlying181
  a70 := Try.isAgg181
  z70 := Try.sizeOf181
  v70 := Try.zeroValue181
  t76 := Try.underlying184
  a76 := Try.isAgg184
  z76 := Try.sizeOf184
  v76 := Try.zeroValue184
  t77 := Try.underlying185
  a77 := Try.isAgg185
  z77 := Try.sizeOf185
  v77 := Try.zeroValue185
theorem sortB_ok (xs : List B3) (xsA : Option Addr) (xsc : Nat) (w0 : World) (H : List Assn) (lxs : xs.length ≤ 1099511627776) : Does Try.prog 148 [.slice xsA xs.length xsc, .func (.func 107) #[] #[]] w0 (Own 67 B3C xsA xsc xs :: H) (fun v => [.exi fun ys : List B3 => .sep (.pur (v = .tuple #[] ∧ ys.Perm xs ∧ SrtB ys)) (Own 67 B3C xsA xsc ys)] ++ H) :=
  (sortK_does (C := B3C) layB Try.isAgg67 Try.sizeOf67 (fun x y => cmpL (bl x) (bl y)) swoB call107 (fun zs W _ x y => compare_ok x y W) (by omega)).mono (fun v w hs => by
    obtain ⟨ys, hs⟩ := St.exi hs
    obtain ⟨⟨h1, h2, h3⟩, h4⟩ := hs.sep.pur
    exact St.mkExi ys (St.unsep (St.addPur ⟨h1, h2, srt_of h3⟩ h4)))
set_option maxRecDepth 100000 in
set_option maxHeartbeats 1000000 in
theorem blockOf_ok (a : Int) (b : Int) (c_ : Int) (w : World) : Does Try.prog 131 [.int .i64 a, .int .i64 b, .int .i64 c_] w [] (fun r => [.pur (r = B3.v (bk3 a b c_))]) := by
  refine Does.enter Try.func131 rfl rfl [(0, .int .i64 a), (1, .int .i64 b), (2, .int .i64 c_)] rfl ?_
  refine V.seq ?_
  refine V.region ?_
  refine O.e rfl rfl rfl (Ef.alloc rfl zr67 rfl) ?_
  rintro _ _ ⟨b1, rfl, rfl⟩
  refine O.nil ?_
  refine X.next ?_
  refine V.seq ?_
  refine V.region ?_
  refine O.p rfl rfl rfl (Pu.move rfl rfl) ?_
  refine O.p rfl rfl rfl (Pu.move rfl rfl) ?_
  refine O.p rfl rfl rfl (Pu.move rfl rfl) ?_
  refine O.p rfl rfl rfl (Pu.buildA (cs := [.int .i64 a, .int .i64 b, .int .i64 c_]) (v := B3.v (a, b, c_)) rfl rfl Try.underlying67 zr67 sz2 rfl (by kernel_rfl)) ?_
  refine O.e rfl rfl rfl (Ef.alloc rfl zr67 rfl) ?_
  rintro _ _ ⟨b2, rfl, rfl⟩
  refine O.s rfl rfl (Ef.storeAll 0 rfl sz67 rfl rfl rfl rfl (by simp [Value.oneCell']) rfl) ?_
  rintro _ _ rfl
  refine O.nil ?_
  refine X.next ?_
  refine V.seq ?_
  refine V.region ?_
  refine O.p rfl rfl rfl (Pu.slicePtr rfl Try.underlying67 sz2 rfl) ?_
  refine O.e rfl rfl rfl (Ef.call call97 rfl rfl (Does.pre (fun w hw => hw.sub (Sub.keep 0 rfl (Sub.keep 0 rfl (Sub.nil _)))) (sort3_ok a b c_ _ _ _ w _))) ?_
  rintro _ _ rfl
  refine O.sep ?_
  refine O.pur ?_
  rintro rfl
  refine O.nil ?_
  refine X.next ?_
  refine V.seq ?_
  refine V.region ?_
  refine O.p rfl rfl rfl (Pu.loadAgg' (v := B3.v (bk3 a b c_)) rfl rfl ag67 sz67 rfl rfl (Ld.whole 0 rfl)) ?_
  refine O.s rfl rfl (Ef.storeAll 1 rfl sz67 rfl rfl rfl rfl (by simp [Value.oneCell']) rfl) ?_
  rintro _ _ rfl
  refine O.nil ?_
  refine X.next ?_
  refine V.ret ?_
  refine X.retCell rfl ag67 sz67 rfl rfl (Ld.whole 1 rfl) ?_
  exact fun w hw => St.retP (rfl) hw
set_option maxRecDepth 100000 in
set_option maxHeartbeats 1000000 in
theorem sorted_ok (blocks : List B3) (blocksA : Option Addr) (blocksc : Nat) (w : World) (hblocks : Rd B3C w blocksA blocks) (lblocks : blocks.length ≤ 1099511627776) (lb : blocks.length ≤ 1000000) : Does Try.prog 132 [.slice blocksA blocks.length blocksc] w [] (fun rv_ => [.exi fun (rA : Option Addr) => .exi fun (rc : Nat) => .exi fun (r : List B3) => .sep (.pur (rv_ = .slice rA r.length rc ∧ r.Perm blocks ∧ SrtB r)) (Own 67 B3C rA rc r)]) := by
  refine Does.enter Try.func132 rfl rfl [(0, .slice blocksA blocks.length blocksc)] rfl ?_
  refine V.seq ?_
  refine V.region ?_
  refine O.p rfl rfl rfl (Pu.assign rfl rfl) ?_
  refine O.nil ?_
  refine X.next ?_
  refine V.seq ?_
  refine V.region ?_
  refine O.p rfl rfl rfl (Pu.move rfl rfl) ?_
  refine O.e rfl rfl rfl (Ef.call1 call36 rfl rfl (fun w hw => cloneB_ok blocks _ _ w ((Ld.old hblocks) w hw) (by first | omega | (simp only [tops_len] at *; omega)))) ?_
  rintro _ _ rfl
  refine O.exi (fun p1 => ?_)
  refine O.sep ?_
  refine O.pur ?_
  rintro ⟨rfl, hp1⟩
  refine O.p rfl rfl rfl (Pu.assign rfl rfl) ?_
  refine O.nil ?_
  refine X.next ?_
  refine V.seq ?_
  refine V.region ?_
  refine O.p rfl rfl rfl (Pu.move rfl rfl) ?_
  refine O.e rfl rfl rfl (Ef.call call148 rfl rfl (Does.pre (fun w hw => hw.sub (Sub.keep 0 rfl (Sub.nil _))) (sortB_ok  (p1.2) _ _ w _   (by rw [hp1]; omega)))) ?_
  rintro _ _ rfl
  refine O.exi (fun ys1 => ?_)
  refine O.sep ?_
  refine O.pur ?_
  rintro ⟨rfl, hys1_1, hys1_2⟩
  refine O.nil ?_
  refine X.next ?_
  refine V.seq ?_
  refine V.region ?_
  refine O.p rfl rfl rfl (Pu.move rfl rfl) ?_
  refine O.p rfl rfl rfl (Pu.assign rfl rfl) ?_
  refine O.nil ?_
  refine X.next ?_
  refine V.ret ?_
  refine X.ret1 rfl rfl ?_
  exact fun w hw => St.mkExi (p1.1.1) (St.mkExi (p1.1.2) (St.mkExi ys1 (St.unsep (St.addPur ⟨(by rw [hys1_1.length_eq]), hys1_1.trans (by rw [hp1]), hys1_2⟩ (hw.sub (Sub.keep 0 rfl (Sub.nil _)))))))
set_option maxRecDepth 100000 in
set_option maxHeartbeats 1000000 in
theorem l01Sort_ok (blocks : List B3) (blocksA : Option Addr) (blocksc : Nat) (w : World) (hblocks : Rd B3C w blocksA blocks) (lblocks : blocks.length ≤ 1099511627776) (lb : blocks.length ≤ 1000000) : Does Try.prog 104 [.slice blocksA blocks.length blocksc] w [] (fun rv_ => [.exi fun (rA : Option Addr) => .exi fun (rc : Nat) => .exi fun (r : List B3) => .sep (.pur (rv_ = .slice rA r.length rc ∧ r.Perm blocks ∧ SrtB r)) (Own 67 B3C rA rc r)]) := by
  refine Does.enter Try.func104 rfl rfl [(0, .slice blocksA blocks.length blocksc)] rfl ?_
  refine V.seq ?_
  refine V.region ?_
  refine O.p rfl rfl rfl (Pu.assign rfl rfl) ?_
  refine O.nil ?_
  refine X.next ?_
  refine V.seq ?_
  refine V.region ?_
  refine O.e rfl rfl rfl (Ef.build B3C ([] : List B3) rfl Try.underlying28 inf67 rfl rfl rfl (by first | decide | (simp; done)) (by kernel_rfl)) ?_
  rintro _ _ ⟨A1, hA1, rfl, rfl⟩
  refine O.p rfl rfl rfl (Pu.assign rfl rfl) ?_
  refine O.nil ?_
  refine X.next ?_
  refine V.seq ?_
  refine V.seq ?_
  refine V.region ?_
  refine O.p rfl rfl rfl (Pu.assign rfl rfl) ?_
  refine O.nil ?_
  refine X.next ?_
  refine V.block ?_
  refine V.loop2 (β := (Option Addr) × Nat × (List B3) × Nat) (fun x => [(3, .slice x.1 x.2.2.1.length x.2.1), (4, .int .i64 (x.2.2.2 : Int))]) _ (fun x => [Own 67 B3C x.1 x.2.1 x.2.2.1]) (fun x => x.2.2.2 ≤ blocks.length ∧ x.2.2.1.Perm (blocks.take x.2.2.2) ∧ SrtB x.2.2.1) (fun x => blocks.length - x.2.2.2) (A1, 0, ([] : List B3), 0) (by (try dsimp only); exact ⟨by omega, by simp, List.Pairwise.nil⟩) (Ent.cons rfl (Ent.cons rfl (Ent.nil _))) (Ent.cons (t := 0) rfl (Ent.nil _)) (Sub.keep 0 rfl (Sub.nil _)) ?_
  rintro ⟨outA, outc, out, i⟩ ⟨hi, hp, hsr⟩
  dsimp only at hi hp hsr ⊢
  have hol : out.length = i := by rw [hp.length_eq, List.length_take]; omega
  refine V.seq ?_
  refine V.seq ?_
  refine V.region ?_
  refine O.p rfl rfl rfl (Pu.move rfl rfl) ?_
  refine O.p rfl rfl rfl (Pu.move rfl rfl) ?_
  refine O.p rfl rfl rfl (Pu.len rfl Try.underlying28 rfl) ?_
  refine O.p rfl rfl rfl (Pu.lss rfl rfl rfl) ?_
  refine O.nil ?_
  refine X.next ?_
  refine V.condD rfl (fun c1 => ?_) (fun c1 => ?_)
  · skip
    refine V.skip ?_
    refine X.next ?_
    refine V.seq ?_
    refine V.block ?_
    refine V.seq ?_
    refine V.region ?_
    refine O.p rfl rfl rfl (Pu.move rfl rfl) ?_
    refine O.p rfl rfl rfl (Pu.len rfl Try.underlying28 rfl) ?_
    refine O.p rfl rfl rfl (Pu.assign rfl rfl) ?_
    refine O.nil ?_
    refine X.next ?_
    refine V.seq ?_
    refine V.region ?_
    refine O.p rfl rfl rfl (Pu.move rfl rfl) ?_
    refine O.p rfl rfl rfl (Pu.move rfl rfl) ?_
    refine O.p rfl rfl rfl (Pu.move rfl rfl) ?_
    refine O.p rfl rfl rfl (Pu.indexAddr (i) rfl Try.underlying28 sz67 rfl rfl (by omega) (by omega) (hblocks.some (by omega))) ?_
    have e1 : i < blocks.length := by omega
    refine O.p rfl rfl rfl (Pu.loadAgg' (v := B3.v (blocks[i]'e1)) rfl rfl ag67 sz67 rfl rfl (Ld.rds (Ld.old hblocks) (k := i) e1 rfl)) ?_
    refine O.e rfl rfl rfl (Ef.build B3C ([(blocks[i]'e1)] : List B3) rfl Try.underlying28 inf67 rfl rfl rfl (by first | decide | (simp; done)) (by kernel_rfl)) ?_
    rintro _ _ ⟨A2, hA2, rfl, rfl⟩
    refine O.e rfl rfl rfl (Ef.append (xs := out) (ys := ([(blocks[i]'e1)] : List B3)) 1 rfl Try.underlying28 inf67 rfl rfl rfl rfl rfl rfl hA2 (Ld.own 0 (by exact rfl)) (by simp only [List.length_append, List.length_cons, List.length_nil] at *; omega) (by decide)) ?_
    rintro _ _ ⟨A3, k1, rfl, rfl, hA3⟩
    replace hA3 := hA3 (.inr (by simp))
    refine O.p rfl rfl rfl (Pu.assign rfl rfl) ?_
    refine O.nil ?_
    refine X.next ?_
    refine V.seq ?_
    refine V.block ?_
    refine V.loop3 (β := Nat × (List B3)) (fun x => [(5, .int .i64 (x.1 : Int))]) _ (fun x => [Own 67 B3C A3 k1 x.2]) _ (fun x => x.1 ≤ out.length ∧ x.2 = shiftAt out (blocks[i]'e1) x.1 ∧ ∀ j (hj : j < out.length), x.1 ≤ j → B3.lt (blocks[i]'e1) out[j]) (fun x => x.1) (out.length, (out ++ ([(blocks[i]'e1)] : List B3))) (by (try dsimp only); exact ⟨by omega, shiftAt_start.symm, fun j hj h => by omega⟩) (Ent.cons rfl (Ent.nil _)) (Ent.cons (t := 0) rfl (Ent.cons (t := 3) rfl (Ent.cons (t := 4) rfl (Ent.nil _)))) (Sub.keep 1 rfl (Sub.keep 0 rfl (Sub.nil _))) ?_
    rintro ⟨y, z⟩ ⟨hy, hz, hz2⟩
    dsimp only at hy hz hz2 ⊢
    have hzl : z.length = out.length + 1 := by rw [hz]; exact shiftAt_len hy
    have hoa : (out ++ [(blocks[i]'e1)]).length = out.length + 1 := by simp
    refine V.seq ?_
    refine V.seq ?_
    refine V.draw mo (by kernel_rfl) (fun hwf => ?_)
    refine D.p 0 rfl rfl rfl rfl rfl rfl (Pu.move rfl rfl) ?_
    refine D.p 1 rfl rfl rfl rfl rfl rfl (Pu.gtr rfl rfl rfl) ?_
    refine D.p 2 rfl rfl rfl rfl rfl rfl (Pu.move rfl rfl) ?_
    refine D.splitD 24 rfl (fun c2 => ?_) (fun c2 => ?_)
    · skip
      refine D.gp 3 rfl rfl rfl rfl rfl rfl rfl rfl (Pu.move rfl rfl) ?_
      refine D.gp 4 rfl rfl rfl rfl rfl rfl rfl rfl (Pu.move rfl rfl) ?_
      refine D.gp 5 rfl rfl rfl rfl rfl rfl rfl rfl (Pu.indexAddr (i) rfl Try.underlying28 sz67 rfl rfl (by omega) (by omega) (hblocks.some (by omega))) ?_
      refine D.gp 6 rfl rfl rfl rfl rfl rfl rfl rfl (Pu.loadAgg' (v := B3.v (blocks[i]'e1)) rfl rfl ag67 sz67 rfl rfl (Ld.rds (Ld.old hblocks) (k := i) e1 rfl)) ?_
      refine D.gp 7 rfl rfl rfl rfl rfl rfl rfl rfl (Pu.move rfl rfl) ?_
      refine D.gp 8 rfl rfl rfl rfl rfl rfl rfl rfl (Pu.move rfl rfl) ?_
      refine D.gp 9 rfl rfl rfl rfl rfl rfl rfl rfl (Pu.sub64 (r := ((y - 1 : Nat) : Int)) (by omega) (by omega) rfl rfl rfl) ?_
      refine D.gp 10 rfl rfl rfl rfl rfl rfl rfl rfl (Pu.indexAddrS (y - 1) rfl Try.underlying28 sz67 rfl rfl (by omega) (by omega) (fun w hw => Own.some hw (i := 0) (by exact rfl) (by omega))) ?_
      have e2 : y - 1 < z.length := by omega
      refine D.gp 11 rfl rfl rfl rfl rfl rfl rfl rfl (Pu.loadAgg' (v := B3.v (z[y - 1]'e2)) rfl rfl ag67 sz67 rfl rfl (Ld.rds (C := B3C) (Ld.own 0 (by exact rfl)) (k := y - 1) e2 rfl)) ?_
      refine D.geff hwf (e := 12) rfl rfl rfl rfl rfl rfl (Ef.callP call72 rfl rfl (fun w hw => l01Before_ok _ _ _)) rfl rfl rfl ?_
      rintro _ _ ⟨rfl, rfl⟩ hs
      refine ⟨fun w hw => hw, ?_⟩
      refine D.p 13 rfl rfl rfl rfl rfl rfl (Pu.pickT rfl rfl rfl) ?_
      refine D.done hwf rfl ?_
      refine X.next ?_
      refine V.condD rfl (fun c3 => ?_) (fun c3 => ?_)
      · skip
        refine V.skip ?_
        refine X.next ?_
        refine V.block ?_
        refine V.seq ?_
        refine V.region ?_
        refine O.p rfl rfl rfl (Pu.move rfl rfl) ?_
        refine O.p rfl rfl rfl (Pu.move rfl rfl) ?_
        refine O.p rfl rfl rfl (Pu.move rfl rfl) ?_
        refine O.p rfl rfl rfl (Pu.move rfl rfl) ?_
        refine O.p rfl rfl rfl (Pu.sub64 (r := ((y - 1 : Nat) : Int)) (by omega) (by omega) rfl rfl rfl) ?_
        refine O.p rfl rfl rfl (Pu.indexAddrS (y - 1) rfl Try.underlying28 sz67 rfl rfl (by omega) (by omega) (fun w hw => Own.some hw (i := 0) (by exact rfl) (by omega))) ?_
        refine O.p rfl rfl rfl (Pu.loadAgg' (v := B3.v (z[y - 1]'e2)) rfl rfl ag67 sz67 rfl rfl (Ld.rds (C := B3C) (Ld.own 0 (by exact rfl)) (k := y - 1) e2 rfl)) ?_
        refine O.p rfl rfl rfl (Pu.indexAddrS (y) rfl Try.underlying28 sz67 rfl rfl (by omega) (by omega) (fun w hw => Own.some hw (i := 0) (by exact rfl) (by omega))) ?_
        refine O.s rfl rfl (Ef.storeOwn 0 (y) (z[y - 1]'e2) rfl sz67 rfl rfl rfl rfl (by omega) rfl) ?_
        rintro _ _ rfl
        refine O.nil ?_
        refine X.next ?_
        refine V.region ?_
        refine O.p rfl rfl rfl (Pu.move rfl rfl) ?_
        refine O.p rfl rfl rfl (Pu.sub64 (r := ((y - 1 : Nat) : Int)) (by omega) (by omega) rfl rfl rfl) ?_
        refine O.p rfl rfl rfl (Pu.assign rfl rfl) ?_
        refine O.nil ?_
        refine X.blockNormal ?_
        exact X.back3 (y - 1, (z.set (y) (z[y - 1]'e2))) (by (try dsimp only); exact ⟨by omega, by subst hz; exact shiftAt_step hy (by omega) _, fun j hj h => by by_cases e : j = y - 1; (· subst e; have e4 : z[y - 1]'(by omega) = out[y - 1]'(by omega) := (by subst hz; exact shiftAt_lt hy (by omega) _); rw [← e4]; exact c3); (· exact hz2 j hj (by omega))⟩) (by first | omega | (dsimp only; omega)) (Ent.cons rfl (Ent.nil _)) (Ent.cons (t := 0) rfl (Ent.cons (t := 3) rfl (Ent.cons (t := 4) rfl (Ent.nil _)))) (Sub.keep 0 rfl (Sub.keep 0 rfl (Sub.nil _)))
      · skip
        refine V.exit ?_
        refine X.thenExit ?_
        refine X.thenExit ?_
        refine X.blockHit ?_
        refine X.next ?_
        refine V.region ?_
        refine O.p rfl rfl rfl (Pu.move rfl rfl) ?_
        refine O.p rfl rfl rfl (Pu.move rfl rfl) ?_
        refine O.p rfl rfl rfl (Pu.move rfl rfl) ?_
        refine O.p rfl rfl rfl (Pu.move rfl rfl) ?_
        refine O.p rfl rfl rfl (Pu.indexAddr (i) rfl Try.underlying28 sz67 rfl rfl (by omega) (by omega) (hblocks.some (by omega))) ?_
        refine O.p rfl rfl rfl (Pu.loadAgg' (v := B3.v (blocks[i]'e1)) rfl rfl ag67 sz67 rfl rfl (Ld.rds (Ld.old hblocks) (k := i) e1 rfl)) ?_
        refine O.p rfl rfl rfl (Pu.indexAddrS (y) rfl Try.underlying28 sz67 rfl rfl (by omega) (by omega) (fun w hw => Own.some hw (i := 0) (by exact rfl) (by omega))) ?_
        refine O.s rfl rfl (Ef.storeOwn 0 (y) (blocks[i]'e1) rfl sz67 rfl rfl rfl rfl (by omega) rfl) ?_
        rintro _ _ rfl
        refine O.nil ?_
        refine X.blockNormal ?_
        refine X.next ?_
        refine V.region ?_
        refine O.p rfl rfl rfl (Pu.move rfl rfl) ?_
        refine O.p rfl rfl rfl (Pu.add64 (r := ((i + 1 : Nat) : Int)) rfl (by omega) rfl rfl rfl) ?_
        refine O.p rfl rfl rfl (Pu.assign rfl rfl) ?_
        refine O.nil ?_
        exact X.back2 (A3, k1, (out.take y ++ (blocks[i]'e1) :: out.drop y), i + 1) (by (try dsimp only); exact ⟨by omega, ((ins_perm (y := y)).trans ((hp.append_right _).trans (by rw [take_snoc e1]))), ins_sorted hsr hy hz2 (fun h0 => by have e4 : z[y - 1]'(by omega) = out[y - 1]'(by omega) := (by subst hz; exact shiftAt_lt hy (by omega) _); rw [← e4]; exact c3)⟩) (by first | omega | (dsimp only; omega)) (Ent.cons' rfl (by rw [(ins_perm (y := y)).length_eq]) (Ent.cons rfl (Ent.nil _))) (Ent.cons (t := 0) rfl (Ent.nil _)) (Sub.cons 0 rfl (fun w F h => by rw [hz, shiftAt_done hy] at h; exact h) (Sub.nil _))
    · skip
      refine D.gs 3 rfl rfl rfl rfl rfl rfl rfl rfl rfl ?_
      refine D.gs 4 rfl rfl rfl rfl rfl rfl rfl rfl rfl ?_
      refine D.gs 5 rfl rfl rfl rfl rfl rfl rfl rfl rfl ?_
      refine D.gs 6 rfl rfl rfl rfl rfl rfl rfl rfl rfl ?_
      refine D.gs 7 rfl rfl rfl rfl rfl rfl rfl rfl rfl ?_
      refine D.gs 8 rfl rfl rfl rfl rfl rfl rfl rfl rfl ?_
      refine D.gs 9 rfl rfl rfl rfl rfl rfl rfl rfl rfl ?_
      refine D.gs 10 rfl rfl rfl rfl rfl rfl rfl rfl rfl ?_
      refine D.gs 11 rfl rfl rfl rfl rfl rfl rfl rfl rfl ?_
      refine D.gs 12 rfl rfl rfl rfl rfl rfl rfl rfl rfl ?_
      refine D.p 13 rfl rfl rfl rfl rfl rfl (Pu.pickF rfl rfl rfl) ?_
      refine D.done hwf rfl ?_
      refine X.next ?_
      refine V.condF rfl ?_
      refine V.exit ?_
      refine X.thenExit ?_
      refine X.thenExit ?_
      refine X.blockHit ?_
      refine X.next ?_
      refine V.region ?_
      refine O.p rfl rfl rfl (Pu.move rfl rfl) ?_
      refine O.p rfl rfl rfl (Pu.move rfl rfl) ?_
      refine O.p rfl rfl rfl (Pu.move rfl rfl) ?_
      refine O.p rfl rfl rfl (Pu.move rfl rfl) ?_
      refine O.p rfl rfl rfl (Pu.indexAddr (i) rfl Try.underlying28 sz67 rfl rfl (by omega) (by omega) (hblocks.some (by omega))) ?_
      refine O.p rfl rfl rfl (Pu.loadAgg' (v := B3.v (blocks[i]'e1)) rfl rfl ag67 sz67 rfl rfl (Ld.rds (Ld.old hblocks) (k := i) e1 rfl)) ?_
      refine O.p rfl rfl rfl (Pu.indexAddrS (y) rfl Try.underlying28 sz67 rfl rfl (by omega) (by omega) (fun w hw => Own.some hw (i := 0) (by exact rfl) (by omega))) ?_
      refine O.s rfl rfl (Ef.storeOwn 0 (y) (blocks[i]'e1) rfl sz67 rfl rfl rfl rfl (by omega) rfl) ?_
      rintro _ _ rfl
      refine O.nil ?_
      refine X.blockNormal ?_
      refine X.next ?_
      refine V.region ?_
      refine O.p rfl rfl rfl (Pu.move rfl rfl) ?_
      refine O.p rfl rfl rfl (Pu.add64 (r := ((i + 1 : Nat) : Int)) rfl (by omega) rfl rfl rfl) ?_
      refine O.p rfl rfl rfl (Pu.assign rfl rfl) ?_
      refine O.nil ?_
      exact X.back2 (A3, k1, (out.take y ++ (blocks[i]'e1) :: out.drop y), i + 1) (by (try dsimp only); exact ⟨by omega, ((ins_perm (y := y)).trans ((hp.append_right _).trans (by rw [take_snoc e1]))), ins_sorted hsr hy hz2 (fun h0 => by omega)⟩) (by first | omega | (dsimp only; omega)) (Ent.cons' rfl (by rw [(ins_perm (y := y)).length_eq]) (Ent.cons rfl (Ent.nil _))) (Ent.cons (t := 0) rfl (Ent.nil _)) (Sub.cons 0 rfl (fun w F h => by rw [hz, shiftAt_done hy] at h; exact h) (Sub.nil _))
  · skip
    refine V.exit ?_
    refine X.thenExit ?_
    refine X.thenExit ?_
    refine X.blockHit ?_
    refine X.next ?_
    refine V.seq ?_
    refine V.region ?_
    refine O.p rfl rfl rfl (Pu.move rfl rfl) ?_
    refine O.p rfl rfl rfl (Pu.assign rfl rfl) ?_
    refine O.nil ?_
    refine X.next ?_
    refine V.ret ?_
    refine X.ret1 rfl rfl ?_
    exact fun w hw => St.mkExi outA (St.mkExi outc (St.mkExi out (St.unsep (St.addPur ⟨rfl, by rw [List.take_of_length_le (by omega)] at hp; exact hp, hsr⟩ (hw.sub (Sub.keep 0 rfl (Sub.nil _)))))))
set_option maxRecDepth 100000 in
set_option maxHeartbeats 1000000 in
theorem l01BlockG_ok (a : Int) (b : Int) (c_ : Int) (w : World) (ha : (-1000000 ≤ a ∧ a ≤ 1000000)) (hb : (-1000000 ≤ b ∧ b ≤ 1000000)) (hc : (-1000000 ≤ c_ ∧ c_ ≤ 1000000)) : Does Try.prog 103 [.int .i64 a, .int .i64 b, .int .i64 c_] w [] (fun r => [.pur (r = B3.v (bk3 a b c_))]) := by
  refine Does.enter Try.func103 rfl rfl [(0, .int .i64 a), (1, .int .i64 b), (2, .int .i64 c_)] rfl ?_
  refine V.seq ?_
  refine V.region ?_
  refine O.e rfl rfl rfl (Ef.alloc rfl zr67 rfl) ?_
  rintro _ _ ⟨b1, rfl, rfl⟩
  refine O.nil ?_
  refine X.next ?_
  refine V.seq ?_
  refine V.region ?_
  refine O.p rfl rfl rfl (Pu.move rfl rfl) ?_
  refine O.p rfl rfl rfl (Pu.move rfl rfl) ?_
  refine O.p rfl rfl rfl (Pu.move rfl rfl) ?_
  refine O.p rfl rfl rfl (Pu.min3 (r := (min (min a b) c_)) (by omega) rfl rfl rfl rfl) ?_
  refine O.p rfl rfl rfl (Pu.move rfl rfl) ?_
  refine O.p rfl rfl rfl (Pu.move rfl rfl) ?_
  refine O.p rfl rfl rfl (Pu.move rfl rfl) ?_
  refine O.p rfl rfl rfl (Pu.max3 (r := (max (max a b) c_)) (by omega) rfl rfl rfl rfl) ?_
  refine O.p rfl rfl rfl (Pu.assign rfl rfl) ?_
  refine O.p rfl rfl rfl (Pu.assign rfl rfl) ?_
  refine O.nil ?_
  refine X.next ?_
  refine V.seq ?_
  refine V.region ?_
  refine O.p rfl rfl rfl (Pu.move rfl rfl) ?_
  refine O.p rfl rfl rfl (Pu.move rfl rfl) ?_
  refine O.p rfl rfl rfl (Pu.move rfl rfl) ?_
  refine O.p rfl rfl rfl (Pu.add64 rfl (by omega) rfl rfl rfl) ?_
  refine O.p rfl rfl rfl (Pu.move rfl rfl) ?_
  refine O.p rfl rfl rfl (Pu.add64 rfl (by omega) rfl rfl rfl) ?_
  refine O.p rfl rfl rfl (Pu.move rfl rfl) ?_
  refine O.p rfl rfl rfl (Pu.sub64 rfl (by omega) rfl rfl rfl) ?_
  refine O.p rfl rfl rfl (Pu.move rfl rfl) ?_
  refine O.p rfl rfl rfl (Pu.sub64 rfl (by omega) rfl rfl rfl) ?_
  refine O.p rfl rfl rfl (Pu.move rfl rfl) ?_
  refine O.p rfl rfl rfl (Pu.buildA (cs := [.int .i64 (min (min a b) c_), .int .i64 ((((a + b) + c_) - (min (min a b) c_)) - (max (max a b) c_)), .int .i64 (max (max a b) c_)]) (v := B3.v ((min (min a b) c_), ((((a + b) + c_) - (min (min a b) c_)) - (max (max a b) c_)), (max (max a b) c_))) rfl rfl Try.underlying67 zr67 sz2 rfl (by kernel_rfl)) ?_
  refine O.s rfl rfl (Ef.storeAll 0 rfl sz67 rfl rfl rfl rfl (by simp [Value.oneCell']) rfl) ?_
  rintro _ _ rfl
  refine O.nil ?_
  refine X.next ?_
  refine V.ret ?_
  refine X.retCell rfl ag67 sz67 rfl rfl (Ld.whole 0 rfl) ?_
  exact fun w hw => St.retP (rfl) hw
set_option maxRecDepth 100000 in
theorem eqTrade_ok (v u : Int) (xs ys zs ts : List B3) (A1 A2 B1 B2 : Option Addr) (k1 k2 k3 k4 : Nat) (w : World) (hx : Rd B3C w A1 xs) (hy : Rd B3C w A2 ys) (hz : Rd B3C w B1 zs) (ht : Rd B3C w B2 ts) (lx : xs.length ≤ 4611686018427387904) (ly : ys.length ≤ 4611686018427387904) (lz : zs.length ≤ 4611686018427387904) (lt : ts.length ≤ 4611686018427387904) : Does Try.prog 46 [.agg #[.int .i64 v, .slice A1 xs.length k1, .slice A2 ys.length k2], .agg #[.int .i64 u, .slice B1 zs.length k3, .slice B2 ts.length k4]] w [] (fun rv => [.pur (rv = .bool (decide (v = u ∧ xs = zs ∧ ys = ts)))]) := by
  refine Does.enter Try.func46 rfl rfl [(0, .agg #[.int .i64 v, .slice A1 xs.length k1, .slice A2 ys.length k2]), (1, .agg #[.int .i64 u, .slice B1 zs.length k3, .slice B2 ts.length k4])] rfl ?_
  refine V.seq ?_
  refine V.region ?_
  refine O.e rfl rfl rfl (Ef.box rfl rfl rfl) ?_
  rintro _ _ ⟨b1, rfl, rfl⟩
  refine O.e rfl rfl rfl (Ef.box rfl rfl rfl) ?_
  rintro _ _ ⟨b2, rfl, rfl⟩
  refine O.p rfl rfl rfl (Pu.assign rfl rfl) ?_
  refine O.nil ?_
  refine X.next ?_
  refine V.seq ?_
  refine V.seq ?_
  refine V.region ?_
  refine O.p rfl rfl rfl (Pu.fieldAddr 0 rfl Try.underlying74 rfl sz2 rfl rfl) ?_
  refine O.p rfl rfl rfl (Pu.load rfl pl2 rfl (Ld.blk 1 rfl rfl)) ?_
  refine O.p rfl rfl rfl (Pu.fieldAddr 0 rfl Try.underlying74 rfl sz2 rfl rfl) ?_
  refine O.p rfl rfl rfl (Pu.load rfl pl2 rfl (Ld.blk 0 rfl rfl)) ?_
  refine O.p rfl rfl rfl (Pu.neq rfl rfl rfl) ?_
  refine O.nil ?_
  refine X.next ?_
  refine V.condNot rfl (fun c1 => ?_) (fun c1 => ?_)
  · skip
    refine V.seq ?_
    refine V.region ?_
    refine O.p rfl rfl rfl (Pu.assign rfl rfl) ?_
    refine O.nil ?_
    refine X.next ?_
    refine V.ret ?_
    refine X.thenRet ?_
    refine X.ret1 rfl rfl ?_
    exact fun w hw => St.retP (boolF (fun h => c1 h.1)) hw
  · skip
    refine V.skip ?_
    refine X.next ?_
    refine V.seq ?_
    refine V.seq ?_
    refine V.region ?_
    refine O.p rfl rfl rfl (Pu.fieldAddr 1 rfl Try.underlying74 rfl sz28 rfl rfl) ?_
    refine O.p rfl rfl rfl (Pu.load rfl pl28 rfl (Ld.blk 1 rfl rfl)) ?_
    refine O.p rfl rfl rfl (Pu.fieldAddr 1 rfl Try.underlying74 rfl sz28 rfl rfl) ?_
    refine O.p rfl rfl rfl (Pu.load rfl pl28 rfl (Ld.blk 0 rfl rfl)) ?_
    refine O.e rfl rfl rfl (Ef.callP call34 rfl rfl (fun w hw => eqBlockS_ok xs zs _ _ _ _ w ((Ld.old hx) w hw) ((Ld.old hz) w hw) (by omega) (by omega))) ?_
    rintro _ _ ⟨rfl, rfl⟩
    refine O.p rfl rfl rfl (Pu.not rfl rfl) ?_
    refine O.nil ?_
    refine X.next ?_
    refine V.condNot rfl (fun c2 => ?_) (fun c2 => ?_)
    · skip
      refine V.seq ?_
      refine V.region ?_
      refine O.p rfl rfl rfl (Pu.assign rfl rfl) ?_
      refine O.nil ?_
      refine X.next ?_
      refine V.ret ?_
      refine X.thenRet ?_
      refine X.ret1 rfl rfl ?_
      exact fun w hw => St.retP (boolF (fun h => c2 h.2.1)) hw
    · skip
      refine V.skip ?_
      refine X.next ?_
      refine V.seq ?_
      refine V.seq ?_
      refine V.region ?_
      refine O.p rfl rfl rfl (Pu.fieldAddr 2 rfl Try.underlying74 rfl sz28 rfl rfl) ?_
      refine O.p rfl rfl rfl (Pu.load rfl pl28 rfl (Ld.blk 1 rfl rfl)) ?_
      refine O.p rfl rfl rfl (Pu.fieldAddr 2 rfl Try.underlying74 rfl sz28 rfl rfl) ?_
      refine O.p rfl rfl rfl (Pu.load rfl pl28 rfl (Ld.blk 0 rfl rfl)) ?_
      refine O.e rfl rfl rfl (Ef.callP call34 rfl rfl (fun w hw => eqBlockS_ok ys ts _ _ _ _ w ((Ld.old hy) w hw) ((Ld.old ht) w hw) (by omega) (by omega))) ?_
      rintro _ _ ⟨rfl, rfl⟩
      refine O.p rfl rfl rfl (Pu.not rfl rfl) ?_
      refine O.nil ?_
      refine X.next ?_
      refine V.condNot rfl (fun c3 => ?_) (fun c3 => ?_)
      · skip
        refine V.seq ?_
        refine V.region ?_
        refine O.p rfl rfl rfl (Pu.assign rfl rfl) ?_
        refine O.nil ?_
        refine X.next ?_
        refine V.ret ?_
        refine X.thenRet ?_
        refine X.ret1 rfl rfl ?_
        exact fun w hw => St.retP (boolF (fun h => c3 h.2.2)) hw
      · skip
        refine V.skip ?_
        refine X.next ?_
        refine V.seq ?_
        refine V.region ?_
        refine O.p rfl rfl rfl (Pu.assign rfl rfl) ?_
        refine O.nil ?_
        refine X.next ?_
        refine V.ret ?_
        refine X.ret1 rfl rfl ?_
        exact fun w hw => St.retP (boolT ⟨c1, c2, c3⟩) hw
end Go.Proofs.Ytphgcnegmkafiaa
