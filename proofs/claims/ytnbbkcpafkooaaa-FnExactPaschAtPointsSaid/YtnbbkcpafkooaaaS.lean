/-
  The list of Pasch, of the program.
-/
import Derived.Test.YtnbbkcpafkooaaaJ
import Derived.Test.YtnbbkcpafkooaaaL
import Derived.Test.YtnbbkcpafkooaaaR
set_option linter.unusedVariables false
set_option linter.unusedSimpArgs false
namespace Go.Proofs.Ytnbbkcpafkooaaa
open Go Go.RowKit Go.Vc Go.Proofs
set_option maxRecDepth 100000 in
set_option maxHeartbeats 1000000 in
theorem paschs_ok (v : Int) (bs : List B3) (A : Option Addr) (c : Nat) (w : World) (hx : Rd B3C w A bs) (lx : bs.length ≤ 4611686018427387904) (hS : STS v bs) : Does Try.prog 47 [.agg #[.int .i64 v, .slice A bs.length c]] w [] (fun r => [.exi fun (pA : Option Addr) => .exi fun (pc : Nat) => .exi fun (p : List (Sl × List Int)) => .sep (.pur (r = .slice pA (tops p).length pc ∧ IsList (PQ bs) (conts p) ∧ p.length ≤ 1500625)) (.sep (Own 47 SlC pA pc (tops p)) (RowsA 2 I64 p))]) := by
  refine Does.enter Try.func47 rfl rfl [(0, .agg #[.int .i64 v, .slice A bs.length c])] rfl ?_
  have hfew := hS.few
  have hg : ∀ b ∈ bs, good 15 b := fun b h => (hS.good b h).mono hS.hi
  refine V.seq ?_
  refine V.region ?_
  refine O.e rfl rfl rfl (Ef.box rfl rfl rfl) ?_
  rintro _ _ ⟨b1, rfl, rfl⟩
  refine O.p rfl rfl rfl (Pu.assign rfl rfl) ?_
  refine O.nil ?_
  refine X.next ?_
  refine V.seq ?_
  refine V.region ?_
  refine O.p rfl rfl rfl (Pu.assign rfl rfl) ?_
  refine O.nil ?_
  refine X.next ?_
  refine V.seq ?_
  refine V.region ?_
  refine O.p rfl rfl rfl (Pu.fieldAddr 1 rfl Try.underlying31 rfl sz29 rfl rfl) ?_
  refine O.p rfl rfl rfl (Pu.load rfl pl29 rfl (Ld.blk 0 rfl rfl)) ?_
  refine O.p rfl rfl rfl (Pu.assign rfl rfl) ?_
  refine O.nil ?_
  refine X.next ?_
  refine V.seq ?_
  refine V.seq ?_
  refine V.region ?_
  refine O.p rfl rfl rfl (Pu.move rfl rfl) ?_
  refine O.p rfl rfl rfl (Pu.len rfl Try.underlying29 rfl) ?_
  refine O.p rfl rfl rfl (Pu.move rfl rfl) ?_
  refine O.nil ?_
  refine X.next ?_
  refine V.block ?_
  refine V.map (fun w hw => St.addNil (T := 47) (C := SlC) (RowsA.nil (T := 2) (C := I64) hw)) ?_
  refine V.loop3 (β := (Option Addr) × Nat × (List (Sl × List Int)) × Nat) (fun x => [(3, .slice x.1 (tops x.2.2.1).length x.2.1), (13, .int .i64 (x.2.2.2 : Int))]) _ (fun x => [Own 47 SlC x.1 x.2.1 (tops x.2.2.1), RowsA 2 I64 x.2.2.1]) _ (fun x => x.2.2.2 ≤ bs.length ∧ IsList (PreB (PQ bs) [] x.2.2.2) (conts x.2.2.1) ∧ x.2.2.1.length ≤ x.2.2.2 * 42875) (fun x => bs.length - x.2.2.2) (none, 0, [], 0) (by (try dsimp only); exact ⟨by omega, pas0, by simp⟩) (Ent.cons rfl (Ent.cons rfl (Ent.nil _))) (Ent.cons (t := 2) rfl (Ent.cons (t := 4) rfl (Ent.cons (t := 12) rfl (Ent.nil _)))) (Sub.keep 0 rfl (Sub.keep 0 rfl (Sub.keep 0 rfl (Sub.nil _)))) ?_
  rintro ⟨outA, outc, out, i⟩ ⟨hi, g0, b0⟩
  dsimp only at hi g0 b0 ⊢
  refine V.fact (RowsA.len 1 rfl) (fun hn_out => ?_)
  have htl_out := tops_len out
  refine V.seq ?_
  refine V.region ?_
  refine O.p rfl rfl rfl (Pu.lss rfl rfl rfl) ?_
  refine O.nil ?_
  refine X.next ?_
  refine V.seq ?_
  refine V.condD rfl (fun c1 => ?_) (fun c1 => ?_)
  · skip
    refine V.skip ?_
    refine X.next ?_
    refine V.seq ?_
    refine V.block ?_
    refine V.seq ?_
    refine V.region ?_
    refine O.p rfl rfl rfl (Pu.move rfl rfl) ?_
    refine O.p rfl rfl rfl (Pu.assign rfl rfl) ?_
    refine O.nil ?_
    refine X.next ?_
    refine V.seq ?_
    refine V.region ?_
    refine O.p rfl rfl rfl (Pu.move rfl rfl) ?_
    refine O.p rfl rfl rfl (Pu.add64 (r := ((i + 1 : Nat) : Int)) rfl (by omega) rfl rfl rfl) ?_
    refine O.p rfl rfl rfl (Pu.assign rfl rfl) ?_
    refine O.nil ?_
    refine X.next ?_
    refine V.block ?_
    refine V.loop3 (β := (Option Addr) × Nat × (List (Sl × List Int)) × Nat) (fun x => [(3, .slice x.1 (tops x.2.2.1).length x.2.1), (6, .int .i64 (x.2.2.2 : Int))]) _ (fun x => [Own 47 SlC x.1 x.2.1 (tops x.2.2.1), RowsA 2 I64 x.2.2.1]) _ (fun x => i < x.2.2.2 ∧ x.2.2.2 ≤ bs.length ∧ (∃ ls, conts x.2.2.1 = conts out ++ ls ∧ IsList (PreB (PQ bs) [(i : Int)] x.2.2.2) ls) ∧ x.2.2.1.length ≤ i * 42875 + x.2.2.2 * 1225) (fun x => bs.length - x.2.2.2) (outA, outc, out, i + 1) (by (try dsimp only); exact ⟨by omega, by omega, ⟨[], by simp, pas1⟩, by omega⟩) (Ent.cons rfl (Ent.cons rfl (Ent.nil _))) (Ent.cons (t := 2) rfl (Ent.cons (t := 4) rfl (Ent.cons (t := 5) rfl (Ent.cons (t := 12) rfl (Ent.cons (t := 13) rfl (Ent.nil _)))))) (Sub.keep 0 rfl (Sub.keep 0 rfl (Sub.keep 0 rfl (Sub.nil _)))) ?_
    rintro ⟨o1A, o1c, o1, j⟩ ⟨hij, hj, ⟨ls1, q1, g1⟩, b1⟩
    dsimp only at hij hj ls1 q1 g1 b1 ⊢
    refine V.fact (RowsA.len 1 rfl) (fun hn_o1 => ?_)
    have htl_o1 := tops_len o1
    refine V.seq ?_
    refine V.seq ?_
    refine V.region ?_
    refine O.p rfl rfl rfl (Pu.move rfl rfl) ?_
    refine O.p rfl rfl rfl (Pu.move rfl rfl) ?_
    refine O.p rfl rfl rfl (Pu.len rfl Try.underlying29 rfl) ?_
    refine O.p rfl rfl rfl (Pu.lss rfl rfl rfl) ?_
    refine O.nil ?_
    refine X.next ?_
    refine V.condD rfl (fun c2 => ?_) (fun c2 => ?_)
    · skip
      refine V.skip ?_
      refine X.next ?_
      refine V.seq ?_
      refine V.block ?_
      refine V.seq ?_
      refine V.seq ?_
      refine V.draw mo (by kernel_rfl) (fun hwf => ?_)
      refine D.p 0 rfl rfl rfl rfl rfl rfl (Pu.move rfl rfl) ?_
      refine D.p 1 rfl rfl rfl rfl rfl rfl (Pu.move rfl rfl) ?_
      refine D.p 2 rfl rfl rfl rfl rfl rfl (Pu.indexAddr (i) rfl Try.underlying29 sz66 rfl rfl (by omega) (by omega) (hx.some (by omega))) ?_
      have e1 : i < bs.length := by omega
      refine D.p 3 rfl rfl rfl rfl rfl rfl (Pu.loadAgg' (v := B3.v (bs[i]'e1)) rfl rfl ag66 sz66 rfl rfl (Ld.rds (Ld.old hx) (k := i) e1 rfl)) ?_
      refine D.p 4 rfl rfl rfl rfl rfl rfl (Pu.move rfl rfl) ?_
      refine D.p 5 rfl rfl rfl rfl rfl rfl (Pu.move rfl rfl) ?_
      refine D.p 6 rfl rfl rfl rfl rfl rfl (Pu.indexAddr (j) rfl Try.underlying29 sz66 rfl rfl (by omega) (by omega) (hx.some (by omega))) ?_
      have e2 : j < bs.length := by omega
      refine D.p 7 rfl rfl rfl rfl rfl rfl (Pu.loadAgg' (v := B3.v (bs[j]'e2)) rfl rfl ag66 sz66 rfl rfl (Ld.rds (Ld.old hx) (k := j) e2 rfl)) ?_
      refine D.eff hwf (e := 8) rfl rfl rfl rfl (Ef.callP call74 rfl rfl (fun w hw => meets_ok (bs[i]'e1) (bs[j]'e2) w)) rfl rfl rfl ?_
      rintro _ _ ⟨rfl, rfl⟩ hs
      refine ⟨fun w hw => hw, ?_⟩
      refine D.p 9 rfl rfl rfl rfl rfl rfl (Pu.not rfl rfl) ?_
      refine D.done hwf rfl ?_
      refine X.next ?_
      refine V.condNot rfl (fun c3 => ?_) (fun c3 => ?_)
      · skip
        refine V.exit ?_
        refine X.thenExit ?_
        refine X.blockHit ?_
        refine X.next ?_
        refine V.region ?_
        refine O.p rfl rfl rfl (Pu.move rfl rfl) ?_
        refine O.p rfl rfl rfl (Pu.add64 (r := ((j + 1 : Nat) : Int)) rfl (by omega) rfl rfl rfl) ?_
        refine O.p rfl rfl rfl (Pu.assign rfl rfl) ?_
        refine O.nil ?_
        exact X.back3 (o1A, o1c, o1, j + 1) (by (try dsimp only); exact ⟨by omega, by omega, ⟨ls1, q1, pas_skip1 hS hij (by omega) c3 g1⟩, by omega⟩) (by first | omega | (dsimp only; omega)) (Ent.cons' rfl (by first | rfl | (simp only [tops_append]; rfl)) (Ent.cons rfl (Ent.nil _))) (Ent.cons (t := 2) rfl (Ent.cons (t := 4) rfl (Ent.cons (t := 5) rfl (Ent.cons (t := 12) rfl (Ent.cons (t := 13) rfl (Ent.nil _)))))) (Sub.keep 0 rfl (Sub.keep 0 rfl (Sub.keep 0 rfl (Sub.nil _))))
      · skip
        refine V.skip ?_
        refine X.next ?_
        refine V.seq ?_
        refine V.region ?_
        refine O.p rfl rfl rfl (Pu.move rfl rfl) ?_
        refine O.p rfl rfl rfl (Pu.add64 (r := ((j + 1 : Nat) : Int)) rfl (by omega) rfl rfl rfl) ?_
        refine O.p rfl rfl rfl (Pu.assign rfl rfl) ?_
        refine O.nil ?_
        refine X.next ?_
        refine V.block ?_
        refine V.loop3 (β := (Option Addr) × Nat × (List (Sl × List Int)) × Nat) (fun x => [(3, .slice x.1 (tops x.2.2.1).length x.2.1), (7, .int .i64 (x.2.2.2 : Int))]) _ (fun x => [Own 47 SlC x.1 x.2.1 (tops x.2.2.1), RowsA 2 I64 x.2.2.1]) _ (fun x => j < x.2.2.2 ∧ x.2.2.2 ≤ bs.length ∧ (∃ ls, conts x.2.2.1 = conts o1 ++ ls ∧ IsList (PreB (PQ bs) [(i : Int), (j : Int)] x.2.2.2) ls) ∧ x.2.2.1.length ≤ i * 42875 + j * 1225 + x.2.2.2 * 35) (fun x => bs.length - x.2.2.2) (o1A, o1c, o1, j + 1) (by (try dsimp only); exact ⟨by omega, by omega, ⟨[], by simp, pas2⟩, by omega⟩) (Ent.cons rfl (Ent.cons rfl (Ent.nil _))) (Ent.cons (t := 2) rfl (Ent.cons (t := 4) rfl (Ent.cons (t := 5) rfl (Ent.cons (t := 6) rfl (Ent.cons (t := 12) rfl (Ent.cons (t := 13) rfl (Ent.nil _))))))) (Sub.keep 0 rfl (Sub.keep 0 rfl (Sub.keep 0 rfl (Sub.nil _)))) ?_
        rintro ⟨o2A, o2c, o2, k⟩ ⟨hjk, hk, ⟨ls2, q2, g2⟩, b2⟩
        dsimp only at hjk hk ls2 q2 g2 b2 ⊢
        refine V.fact (RowsA.len 1 rfl) (fun hn_o2 => ?_)
        have htl_o2 := tops_len o2
        refine V.seq ?_
        refine V.seq ?_
        refine V.region ?_
        refine O.p rfl rfl rfl (Pu.move rfl rfl) ?_
        refine O.p rfl rfl rfl (Pu.move rfl rfl) ?_
        refine O.p rfl rfl rfl (Pu.len rfl Try.underlying29 rfl) ?_
        refine O.p rfl rfl rfl (Pu.lss rfl rfl rfl) ?_
        refine O.nil ?_
        refine X.next ?_
        refine V.condD rfl (fun c4 => ?_) (fun c4 => ?_)
        · skip
          refine V.skip ?_
          refine X.next ?_
          refine V.seq ?_
          refine V.block ?_
          refine V.seq ?_
          refine V.seq ?_
          refine V.draw mo (by kernel_rfl) (fun hwf => ?_)
          refine D.p 0 rfl rfl rfl rfl rfl rfl (Pu.move rfl rfl) ?_
          refine D.p 1 rfl rfl rfl rfl rfl rfl (Pu.move rfl rfl) ?_
          refine D.p 2 rfl rfl rfl rfl rfl rfl (Pu.indexAddr (i) rfl Try.underlying29 sz66 rfl rfl (by omega) (by omega) (hx.some (by omega))) ?_
          refine D.p 3 rfl rfl rfl rfl rfl rfl (Pu.loadAgg' (v := B3.v (bs[i]'e1)) rfl rfl ag66 sz66 rfl rfl (Ld.rds (Ld.old hx) (k := i) e1 rfl)) ?_
          refine D.p 4 rfl rfl rfl rfl rfl rfl (Pu.move rfl rfl) ?_
          refine D.p 5 rfl rfl rfl rfl rfl rfl (Pu.move rfl rfl) ?_
          refine D.p 6 rfl rfl rfl rfl rfl rfl (Pu.indexAddr (k) rfl Try.underlying29 sz66 rfl rfl (by omega) (by omega) (hx.some (by omega))) ?_
          have e3 : k < bs.length := by omega
          refine D.p 7 rfl rfl rfl rfl rfl rfl (Pu.loadAgg' (v := B3.v (bs[k]'e3)) rfl rfl ag66 sz66 rfl rfl (Ld.rds (Ld.old hx) (k := k) e3 rfl)) ?_
          refine D.eff hwf (e := 8) rfl rfl rfl rfl (Ef.callP call74 rfl rfl (fun w hw => meets_ok (bs[i]'e1) (bs[k]'e3) w)) rfl rfl rfl ?_
          rintro _ _ ⟨rfl, rfl⟩ hs
          refine ⟨fun w hw => hw, ?_⟩
          refine D.p 9 rfl rfl rfl rfl rfl rfl (Pu.not rfl rfl) ?_
          refine D.p 10 rfl rfl rfl rfl rfl rfl (Pu.move rfl rfl) ?_
          refine D.splitN 52 rfl (fun c5 => ?_) (fun c5 => ?_)
          · skip
            refine D.gs 11 rfl rfl rfl rfl rfl rfl rfl rfl rfl ?_
            refine D.gs 12 rfl rfl rfl rfl rfl rfl rfl rfl rfl ?_
            refine D.gs 13 rfl rfl rfl rfl rfl rfl rfl rfl rfl ?_
            refine D.gs 14 rfl rfl rfl rfl rfl rfl rfl rfl rfl ?_
            refine D.gs 15 rfl rfl rfl rfl rfl rfl rfl rfl rfl ?_
            refine D.gs 16 rfl rfl rfl rfl rfl rfl rfl rfl rfl ?_
            refine D.gs 17 rfl rfl rfl rfl rfl rfl rfl rfl rfl ?_
            refine D.gs 18 rfl rfl rfl rfl rfl rfl rfl rfl rfl ?_
            refine D.gs 19 rfl rfl rfl rfl rfl rfl rfl rfl rfl ?_
            refine D.gs 20 rfl rfl rfl rfl rfl rfl rfl rfl rfl ?_
            refine D.p 21 rfl rfl rfl rfl rfl rfl (Pu.pickT rfl rfl rfl) ?_
            refine D.done hwf rfl ?_
            refine X.next ?_
            refine V.condT rfl ?_
            refine V.exit ?_
            refine X.thenExit ?_
            refine X.blockHit ?_
            refine X.next ?_
            refine V.region ?_
            refine O.p rfl rfl rfl (Pu.move rfl rfl) ?_
            refine O.p rfl rfl rfl (Pu.add64 (r := ((k + 1 : Nat) : Int)) rfl (by omega) rfl rfl rfl) ?_
            refine O.p rfl rfl rfl (Pu.assign rfl rfl) ?_
            refine O.nil ?_
            exact X.back3 (o2A, o2c, o2, k + 1) (by (try dsimp only); exact ⟨by omega, by omega, ⟨ls2, q2, pas_skip2 hS hij hjk (by omega) (.inl c5) g2⟩, by omega⟩) (by first | omega | (dsimp only; omega)) (Ent.cons' rfl (by first | rfl | (simp only [tops_append]; rfl)) (Ent.cons rfl (Ent.nil _))) (Ent.cons (t := 2) rfl (Ent.cons (t := 4) rfl (Ent.cons (t := 5) rfl (Ent.cons (t := 6) rfl (Ent.cons (t := 12) rfl (Ent.cons (t := 13) rfl (Ent.nil _))))))) (Sub.keep 0 rfl (Sub.keep 0 rfl (Sub.keep 0 rfl (Sub.nil _))))
          · skip
            refine D.gp 11 rfl rfl rfl rfl rfl rfl rfl rfl (Pu.move rfl rfl) ?_
            refine D.gp 12 rfl rfl rfl rfl rfl rfl rfl rfl (Pu.move rfl rfl) ?_
            refine D.gp 13 rfl rfl rfl rfl rfl rfl rfl rfl (Pu.indexAddr (j) rfl Try.underlying29 sz66 rfl rfl (by omega) (by omega) (hx.some (by omega))) ?_
            refine D.gp 14 rfl rfl rfl rfl rfl rfl rfl rfl (Pu.loadAgg' (v := B3.v (bs[j]'e2)) rfl rfl ag66 sz66 rfl rfl (Ld.rds (Ld.old hx) (k := j) e2 rfl)) ?_
            refine D.gp 15 rfl rfl rfl rfl rfl rfl rfl rfl (Pu.move rfl rfl) ?_
            refine D.gp 16 rfl rfl rfl rfl rfl rfl rfl rfl (Pu.move rfl rfl) ?_
            refine D.gp 17 rfl rfl rfl rfl rfl rfl rfl rfl (Pu.indexAddr (k) rfl Try.underlying29 sz66 rfl rfl (by omega) (by omega) (hx.some (by omega))) ?_
            refine D.gp 18 rfl rfl rfl rfl rfl rfl rfl rfl (Pu.loadAgg' (v := B3.v (bs[k]'e3)) rfl rfl ag66 sz66 rfl rfl (Ld.rds (Ld.old hx) (k := k) e3 rfl)) ?_
            refine D.geff hwf (e := 19) rfl rfl rfl rfl rfl rfl (Ef.callP call74 rfl rfl (fun w hw => meets_ok (bs[j]'e2) (bs[k]'e3) w)) rfl rfl rfl ?_
            rintro _ _ ⟨rfl, rfl⟩ hs
            refine ⟨fun w hw => hw, ?_⟩
            refine D.gp 20 rfl rfl rfl rfl rfl rfl rfl rfl (Pu.not rfl rfl) ?_
            refine D.p 21 rfl rfl rfl rfl rfl rfl (Pu.pickF rfl rfl rfl) ?_
            refine D.done hwf rfl ?_
            refine X.next ?_
            refine V.condNot rfl (fun c6 => ?_) (fun c6 => ?_)
            · skip
              refine V.exit ?_
              refine X.thenExit ?_
              refine X.blockHit ?_
              refine X.next ?_
              refine V.region ?_
              refine O.p rfl rfl rfl (Pu.move rfl rfl) ?_
              refine O.p rfl rfl rfl (Pu.add64 (r := ((k + 1 : Nat) : Int)) rfl (by omega) rfl rfl rfl) ?_
              refine O.p rfl rfl rfl (Pu.assign rfl rfl) ?_
              refine O.nil ?_
              exact X.back3 (o2A, o2c, o2, k + 1) (by (try dsimp only); exact ⟨by omega, by omega, ⟨ls2, q2, pas_skip2 hS hij hjk (by omega) (.inr c6) g2⟩, by omega⟩) (by first | omega | (dsimp only; omega)) (Ent.cons' rfl (by first | rfl | (simp only [tops_append]; rfl)) (Ent.cons rfl (Ent.nil _))) (Ent.cons (t := 2) rfl (Ent.cons (t := 4) rfl (Ent.cons (t := 5) rfl (Ent.cons (t := 6) rfl (Ent.cons (t := 12) rfl (Ent.cons (t := 13) rfl (Ent.nil _))))))) (Sub.keep 0 rfl (Sub.keep 0 rfl (Sub.keep 0 rfl (Sub.nil _))))
            · skip
              refine V.skip ?_
              refine X.next ?_
              refine V.seq ?_
              refine V.region ?_
              refine O.p rfl rfl rfl (Pu.move rfl rfl) ?_
              refine O.p rfl rfl rfl (Pu.add64 (r := ((k + 1 : Nat) : Int)) rfl (by omega) rfl rfl rfl) ?_
              refine O.p rfl rfl rfl (Pu.assign rfl rfl) ?_
              refine O.nil ?_
              refine X.next ?_
              refine V.block ?_
              refine V.loop3 (β := (Option Addr) × Nat × (List (Sl × List Int)) × Nat) (fun x => [(3, .slice x.1 (tops x.2.2.1).length x.2.1), (8, .int .i64 (x.2.2.2 : Int))]) _ (fun x => [Own 47 SlC x.1 x.2.1 (tops x.2.2.1), RowsA 2 I64 x.2.2.1]) _ (fun x => k < x.2.2.2 ∧ x.2.2.2 ≤ bs.length ∧ (∃ ls, conts x.2.2.1 = conts o2 ++ ls ∧ IsList (PreB (PQ bs) [(i : Int), (j : Int), (k : Int)] x.2.2.2) ls) ∧ x.2.2.1.length ≤ i * 42875 + j * 1225 + k * 35 + x.2.2.2) (fun x => bs.length - x.2.2.2) (o2A, o2c, o2, k + 1) (by (try dsimp only); exact ⟨by omega, by omega, ⟨[], by simp, pas3⟩, by omega⟩) (Ent.cons rfl (Ent.cons rfl (Ent.nil _))) (Ent.cons (t := 2) rfl (Ent.cons (t := 4) rfl (Ent.cons (t := 5) rfl (Ent.cons (t := 6) rfl (Ent.cons (t := 7) rfl (Ent.cons (t := 12) rfl (Ent.cons (t := 13) rfl (Ent.nil _)))))))) (Sub.keep 0 rfl (Sub.keep 0 rfl (Sub.keep 0 rfl (Sub.nil _)))) ?_
              rintro ⟨o3A, o3c, o3, m⟩ ⟨hkm, hm, ⟨ls3, q3, g3⟩, b3⟩
              dsimp only at hkm hm ls3 q3 g3 b3 ⊢
              refine V.fact (RowsA.len 1 rfl) (fun hn_o3 => ?_)
              have htl_o3 := tops_len o3
              refine V.seq ?_
              refine V.seq ?_
              refine V.region ?_
              refine O.p rfl rfl rfl (Pu.move rfl rfl) ?_
              refine O.p rfl rfl rfl (Pu.move rfl rfl) ?_
              refine O.p rfl rfl rfl (Pu.len rfl Try.underlying29 rfl) ?_
              refine O.p rfl rfl rfl (Pu.lss rfl rfl rfl) ?_
              refine O.nil ?_
              refine X.next ?_
              refine V.condD rfl (fun c7 => ?_) (fun c7 => ?_)
              · skip
                refine V.skip ?_
                refine X.next ?_
                refine V.seq ?_
                refine V.block ?_
                refine V.seq ?_
                refine V.draw mo (by kernel_rfl) (fun hwf => ?_)
                refine D.p 0 rfl rfl rfl rfl rfl rfl (Pu.move rfl rfl) ?_
                refine D.p 1 rfl rfl rfl rfl rfl rfl (Pu.move rfl rfl) ?_
                refine D.p 2 rfl rfl rfl rfl rfl rfl (Pu.indexAddr (i) rfl Try.underlying29 sz66 rfl rfl (by omega) (by omega) (hx.some (by omega))) ?_
                refine D.p 3 rfl rfl rfl rfl rfl rfl (Pu.loadAgg' (v := B3.v (bs[i]'e1)) rfl rfl ag66 sz66 rfl rfl (Ld.rds (Ld.old hx) (k := i) e1 rfl)) ?_
                refine D.p 4 rfl rfl rfl rfl rfl rfl (Pu.move rfl rfl) ?_
                refine D.p 5 rfl rfl rfl rfl rfl rfl (Pu.move rfl rfl) ?_
                refine D.p 6 rfl rfl rfl rfl rfl rfl (Pu.indexAddr (j) rfl Try.underlying29 sz66 rfl rfl (by omega) (by omega) (hx.some (by omega))) ?_
                refine D.p 7 rfl rfl rfl rfl rfl rfl (Pu.loadAgg' (v := B3.v (bs[j]'e2)) rfl rfl ag66 sz66 rfl rfl (Ld.rds (Ld.old hx) (k := j) e2 rfl)) ?_
                refine D.p 8 rfl rfl rfl rfl rfl rfl (Pu.move rfl rfl) ?_
                refine D.p 9 rfl rfl rfl rfl rfl rfl (Pu.move rfl rfl) ?_
                refine D.p 10 rfl rfl rfl rfl rfl rfl (Pu.indexAddr (k) rfl Try.underlying29 sz66 rfl rfl (by omega) (by omega) (hx.some (by omega))) ?_
                refine D.p 11 rfl rfl rfl rfl rfl rfl (Pu.loadAgg' (v := B3.v (bs[k]'e3)) rfl rfl ag66 sz66 rfl rfl (Ld.rds (Ld.old hx) (k := k) e3 rfl)) ?_
                refine D.p 12 rfl rfl rfl rfl rfl rfl (Pu.move rfl rfl) ?_
                refine D.p 13 rfl rfl rfl rfl rfl rfl (Pu.move rfl rfl) ?_
                refine D.p 14 rfl rfl rfl rfl rfl rfl (Pu.indexAddr (m) rfl Try.underlying29 sz66 rfl rfl (by omega) (by omega) (hx.some (by omega))) ?_
                have e4 : m < bs.length := by omega
                refine D.p 15 rfl rfl rfl rfl rfl rfl (Pu.loadAgg' (v := B3.v (bs[m]'e4)) rfl rfl ag66 sz66 rfl rfl (Ld.rds (Ld.old hx) (k := m) e4 rfl)) ?_
                refine D.eff hwf (e := 16) rfl rfl rfl rfl (Ef.build B3C ([(bs[i]'e1), (bs[j]'e2), (bs[k]'e3), (bs[m]'e4)] : List B3) rfl Try.underlying29 inf66 rfl rfl rfl (by decide) (by kernel_rfl)) rfl rfl rfl ?_
                rintro _ _ ⟨A1, hA1, rfl, rfl⟩ hs
                refine ⟨fun w hw => hw.sub (Sub.keep 1 rfl (Sub.keep 1 rfl (Sub.keep 1 rfl (Sub.nil _)))), ?_⟩
                refine D.eff hwf (e := 17) rfl rfl rfl rfl (Ef.callP call75 rfl rfl (fun w hw => isPasch_ok  ([(bs[i]'e1), (bs[j]'e2), (bs[k]'e3), (bs[m]'e4)] : List B3) _ _ w ((Ld.own 0 (by exact rfl)) w hw) (by first | omega | (simp only [tops_len, conts_len, bl, List.length_append, List.length_cons, List.length_nil] at *; omega)) (fun b hb => by simp only [List.mem_cons, List.not_mem_nil, or_false] at hb; rcases hb with rfl | rfl | rfl | rfl <;> exact hg _ (List.getElem_mem _)) (by rfl))) rfl rfl rfl ?_
                rintro _ _ ⟨rfl, rfl⟩ hs
                refine ⟨fun w hw => hw.sub (Sub.keep 1 rfl (Sub.keep 1 rfl (Sub.keep 1 rfl (Sub.nil _)))), ?_⟩
                refine D.done hwf rfl ?_
                refine X.next ?_
                refine V.condD rfl (fun c8 => ?_) (fun c8 => ?_)
                · skip
                  refine V.region ?_
                  refine O.p rfl rfl rfl (Pu.move rfl rfl) ?_
                  refine O.p rfl rfl rfl (Pu.move rfl rfl) ?_
                  refine O.p rfl rfl rfl (Pu.move rfl rfl) ?_
                  refine O.p rfl rfl rfl (Pu.move rfl rfl) ?_
                  refine O.p rfl rfl rfl (Pu.move rfl rfl) ?_
                  refine O.e rfl rfl rfl (Ef.build I64 ([(↑i : Int), (↑j : Int), (↑k : Int), (↑m : Int)] : List Int) rfl Try.underlying47 inf2 rfl rfl rfl (by decide) (by kernel_rfl)) ?_
                  rintro _ _ ⟨A2, hA2, rfl, rfl⟩
                  refine O.e rfl rfl rfl (Ef.build SlC ([⟨A2, 4, 4⟩] : List Sl) rfl Try.underlying38 inf47 rfl rfl rfl (by decide) (by kernel_rfl)) ?_
                  rintro _ _ ⟨A3, hA3, rfl, rfl⟩
                  refine O.e rfl rfl rfl (Ef.append (xs := (tops o3)) (ys := ([⟨A2, 4, 4⟩] : List Sl)) 3 rfl Try.underlying38 inf47 rfl rfl rfl rfl rfl rfl hA3 (Ld.own 0 (by exact rfl)) (by simp only [List.length_append, List.length_cons, List.length_nil] at *; omega) (by decide)) ?_
                  rintro _ _ ⟨A4, k1, rfl, rfl, hA4⟩
                  replace hA4 := hA4 (.inr (by simp))
                  refine O.map (fun w hw => snoc_heap (ps := o3) (xs := ([(↑i : Int), (↑j : Int), (↑k : Int), (↑m : Int)] : List Int)) (hw.sub (Sub.keep 3 rfl (Sub.keep 3 rfl (Sub.keep 1 rfl (Sub.keep 0 rfl (Sub.keep 0 rfl (Sub.keep 0 rfl (Sub.nil _))))))))) ?_
                  refine O.p rfl rfl rfl (Pu.assign rfl rfl) ?_
                  refine O.nil ?_
                  refine X.blockNormal ?_
                  refine X.next ?_
                  refine V.region ?_
                  refine O.p rfl rfl rfl (Pu.move rfl rfl) ?_
                  refine O.p rfl rfl rfl (Pu.add64 (r := ((m + 1 : Nat) : Int)) rfl (by omega) rfl rfl rfl) ?_
                  refine O.p rfl rfl rfl (Pu.assign rfl rfl) ?_
                  refine O.nil ?_
                  exact X.back3 (A4, k1, (o3 ++ [((⟨A2, 4, 4⟩ : Sl), ([(↑i : Int), (↑j : Int), (↑k : Int), (↑m : Int)] : List Int))]), m + 1) (by (try dsimp only); exact ⟨by omega, by omega, ⟨ls3 ++ [[(i : Int), (j : Int), (k : Int), (m : Int)]], by rw [conts_append, q3, List.append_assoc]; rfl, pas_yes hij hjk hkm (by omega) ((pasB_four (hg _ (List.getElem_mem _)) (hg _ (List.getElem_mem _)) (hg _ (List.getElem_mem _)) (hg _ (List.getElem_mem _))).1 c8) g3⟩, by simp only [List.length_append, List.length_singleton]; omega⟩) (by first | omega | (dsimp only; omega)) (Ent.cons' rfl (by first | rfl | (simp only [tops_append]; rfl)) (Ent.cons rfl (Ent.nil _))) (Ent.cons (t := 2) rfl (Ent.cons (t := 4) rfl (Ent.cons (t := 5) rfl (Ent.cons (t := 6) rfl (Ent.cons (t := 7) rfl (Ent.cons (t := 12) rfl (Ent.cons (t := 13) rfl (Ent.nil _)))))))) (Sub.keep 0 rfl (Sub.keep 0 rfl (Sub.keep 2 rfl (Sub.nil _))))
                · skip
                  refine V.skip ?_
                  refine X.blockNormal ?_
                  refine X.next ?_
                  refine V.region ?_
                  refine O.p rfl rfl rfl (Pu.move rfl rfl) ?_
                  refine O.p rfl rfl rfl (Pu.add64 (r := ((m + 1 : Nat) : Int)) rfl (by omega) rfl rfl rfl) ?_
                  refine O.p rfl rfl rfl (Pu.assign rfl rfl) ?_
                  refine O.nil ?_
                  exact X.back3 (o3A, o3c, o3, m + 1) (by (try dsimp only); exact ⟨by omega, by omega, ⟨ls3, q3, pas_no hij hjk hkm (by omega) (fun h => c8 ((pasB_four (hg _ (List.getElem_mem _)) (hg _ (List.getElem_mem _)) (hg _ (List.getElem_mem _)) (hg _ (List.getElem_mem _))).2 h)) g3⟩, by omega⟩) (by first | omega | (dsimp only; omega)) (Ent.cons' rfl (by first | rfl | (simp only [tops_append]; rfl)) (Ent.cons rfl (Ent.nil _))) (Ent.cons (t := 2) rfl (Ent.cons (t := 4) rfl (Ent.cons (t := 5) rfl (Ent.cons (t := 6) rfl (Ent.cons (t := 7) rfl (Ent.cons (t := 12) rfl (Ent.cons (t := 13) rfl (Ent.nil _)))))))) (Sub.keep 1 rfl (Sub.keep 1 rfl (Sub.keep 1 rfl (Sub.nil _))))
              · skip
                refine V.exit ?_
                refine X.thenExit ?_
                refine X.thenExit ?_
                refine X.blockHit ?_
                refine X.blockNormal ?_
                refine X.next ?_
                refine V.region ?_
                refine O.p rfl rfl rfl (Pu.move rfl rfl) ?_
                refine O.p rfl rfl rfl (Pu.add64 (r := ((k + 1 : Nat) : Int)) rfl (by omega) rfl rfl rfl) ?_
                refine O.p rfl rfl rfl (Pu.assign rfl rfl) ?_
                refine O.nil ?_
                exact X.back3 (o3A, o3c, o3, k + 1) (by (try dsimp only); exact ⟨by omega, by omega, ⟨ls2 ++ ls3, by rw [q3, q2, List.append_assoc], preB_step g2 (pas3_all (by omega) g3)⟩, by omega⟩) (by first | omega | (dsimp only; omega)) (Ent.cons' rfl (by first | rfl | (simp only [tops_append]; rfl)) (Ent.cons rfl (Ent.nil _))) (Ent.cons (t := 2) rfl (Ent.cons (t := 4) rfl (Ent.cons (t := 5) rfl (Ent.cons (t := 6) rfl (Ent.cons (t := 12) rfl (Ent.cons (t := 13) rfl (Ent.nil _))))))) (Sub.keep 0 rfl (Sub.keep 0 rfl (Sub.keep 0 rfl (Sub.nil _))))
        · skip
          refine V.exit ?_
          refine X.thenExit ?_
          refine X.thenExit ?_
          refine X.blockHit ?_
          refine X.blockNormal ?_
          refine X.next ?_
          refine V.region ?_
          refine O.p rfl rfl rfl (Pu.move rfl rfl) ?_
          refine O.p rfl rfl rfl (Pu.add64 (r := ((j + 1 : Nat) : Int)) rfl (by omega) rfl rfl rfl) ?_
          refine O.p rfl rfl rfl (Pu.assign rfl rfl) ?_
          refine O.nil ?_
          exact X.back3 (o2A, o2c, o2, j + 1) (by (try dsimp only); exact ⟨by omega, by omega, ⟨ls1 ++ ls2, by rw [q2, q1, List.append_assoc], preB_step g1 (pas2_all (by omega) g2)⟩, by omega⟩) (by first | omega | (dsimp only; omega)) (Ent.cons' rfl (by first | rfl | (simp only [tops_append]; rfl)) (Ent.cons rfl (Ent.nil _))) (Ent.cons (t := 2) rfl (Ent.cons (t := 4) rfl (Ent.cons (t := 5) rfl (Ent.cons (t := 12) rfl (Ent.cons (t := 13) rfl (Ent.nil _)))))) (Sub.keep 0 rfl (Sub.keep 0 rfl (Sub.keep 0 rfl (Sub.nil _))))
    · skip
      refine V.exit ?_
      refine X.thenExit ?_
      refine X.thenExit ?_
      refine X.blockHit ?_
      refine X.blockNormal ?_
      refine X.next ?_
      refine V.region ?_
      refine O.p rfl rfl rfl (Pu.add64 (r := ((i + 1 : Nat) : Int)) rfl (by omega) rfl rfl rfl) ?_
      refine O.p rfl rfl rfl (Pu.move rfl rfl) ?_
      refine O.nil ?_
      exact X.back3 (o1A, o1c, o1, i + 1) (by (try dsimp only); exact ⟨by omega, by rw [q1]; exact preB_step g0 (pas1_all (by omega) g1), by omega⟩) (by first | omega | (dsimp only; omega)) (Ent.cons' rfl (by first | rfl | (simp only [tops_append]; rfl)) (Ent.cons rfl (Ent.nil _))) (Ent.cons (t := 2) rfl (Ent.cons (t := 4) rfl (Ent.cons (t := 12) rfl (Ent.nil _)))) (Sub.keep 0 rfl (Sub.keep 0 rfl (Sub.keep 0 rfl (Sub.nil _))))
  · skip
    refine V.exit ?_
    refine X.thenExit ?_
    refine X.thenExit ?_
    refine X.blockHit ?_
    refine X.next ?_
    refine V.seq ?_
    refine V.region ?_
    refine O.p rfl rfl rfl (Pu.move rfl rfl) ?_
    refine O.p rfl rfl rfl (Pu.assign rfl rfl) ?_
    refine O.nil ?_
    refine X.next ?_
    refine V.ret ?_
    refine X.ret1 rfl rfl ?_
    exact fun w hw => St.mkExi outA (St.mkExi outc (St.mkExi out (St.unsep (St.addPur ⟨(by first | rfl | (simp only [tops_append]; rfl)), pas0_all (by omega) g0, by omega⟩ (St.unsep (hw.sub (Sub.keep 0 rfl (Sub.keep 0 rfl (Sub.nil _)))))))))

set_option maxRecDepth 100000 in
set_option maxHeartbeats 1000000 in
theorem implPaschList_ok (v : Int) (bs : List B3) (A : Option Addr) (c : Nat) (w : World) (hx : Rd B3C w A bs) (lx : bs.length ≤ 4611686018427387904) : Does Try.prog 30 [.agg #[.int .i64 v, .slice A bs.length c]] w [] (fun r => [.exi fun (pA : Option Addr) => .exi fun (pc : Nat) => .exi fun (p : List (Sl × List Int)) => .sep (.pur (r = .tuple #[.slice pA (tops p).length pc, .int .i64 (if STS v bs then 0 else 1)] ∧ ResL (STS v bs) (PQ bs) (conts p) ∧ p.length ≤ 1500625)) (.sep (Own 47 SlC pA pc (tops p)) (RowsA 2 I64 p))]) := by
  refine Does.enter Try.func30 rfl rfl [(0, .agg #[.int .i64 v, .slice A bs.length c])] rfl ?_
  refine V.seq ?_
  refine V.region ?_
  refine O.e rfl rfl rfl (Ef.box rfl rfl rfl) ?_
  rintro _ _ ⟨b1, rfl, rfl⟩
  refine O.p rfl rfl rfl (Pu.assign rfl rfl) ?_
  refine O.p rfl rfl rfl (Pu.assign rfl rfl) ?_
  refine O.nil ?_
  refine X.next ?_
  refine V.seq ?_
  refine V.seq ?_
  refine V.region ?_
  refine O.p rfl rfl rfl (Pu.loadAgg rfl ag31 sz31 rfl rfl (Ld.whole 0 rfl)) ?_
  refine O.e rfl rfl rfl (Ef.callP call32 rfl rfl (fun w hw => IsSystem_ok _ bs _ _ w ((Ld.old hx) w hw) (by omega))) ?_
  rintro _ _ ⟨rfl, rfl⟩
  refine O.p rfl rfl rfl (Pu.not rfl rfl) ?_
  refine O.nil ?_
  refine X.next ?_
  refine V.condNot rfl (fun c1 => ?_) (fun c1 => ?_)
  · skip
    refine V.seq ?_
    refine V.region ?_
    refine O.p rfl rfl rfl (Pu.assign rfl rfl) ?_
    refine O.p rfl rfl rfl (Pu.assign rfl rfl) ?_
    refine O.nil ?_
    refine X.next ?_
    refine V.ret ?_
    refine X.thenRet ?_
    refine X.ret2 rfl rfl rfl ?_
    exact fun w hw => St.mkExi none (St.mkExi 0 (St.mkExi [] (St.unsep (St.addPur ⟨by rw [if_neg c1]; rfl, ⟨fun h => absurd h c1, fun _ => rfl⟩, by simp⟩ (St.unsep (St.addNil (T := 47) (C := SlC) (RowsA.nil (T := 2) (C := I64) (hw.sub (Sub.nil _)))))))))
  · skip
    refine V.skip ?_
    refine X.next ?_
    refine V.seq ?_
    refine V.region ?_
    refine O.p rfl rfl rfl (Pu.loadAgg rfl ag31 sz31 rfl rfl (Ld.whole 0 rfl)) ?_
    refine O.e rfl rfl rfl (Ef.call1 call47 rfl rfl (fun w hw => paschs_ok  v bs _ _ w ((Ld.old hx) w hw) (by first | omega | (simp only [tops_len, conts_len, bl, List.length_append, List.length_cons, List.length_nil] at *; omega)) (by first | assumption | omega | (try dsimp only at *; omega)))) ?_
    rintro _ _ rfl
    refine O.exi (fun p1A => ?_)
    refine O.exi (fun p1c => ?_)
    refine O.exi (fun p1 => ?_)
    refine O.sep ?_
    refine O.pur ?_
    rintro ⟨rfl, hp1_1, hp1_2⟩
    refine O.sep ?_
    refine O.fact (RowsA.len 1 rfl) (fun hn_p1 => ?_)
    have htl_p1 := tops_len p1
    refine O.p rfl rfl rfl (Pu.assign rfl rfl) ?_
    refine O.p rfl rfl rfl (Pu.assign rfl rfl) ?_
    refine O.nil ?_
    refine X.next ?_
    refine V.ret ?_
    refine X.ret2 rfl rfl rfl ?_
    exact fun w hw => St.mkExi p1A (St.mkExi p1c (St.mkExi p1 (St.unsep (St.addPur ⟨by rw [if_pos c1], ⟨fun _ => hp1_1, fun h => absurd c1 h⟩, hp1_2⟩ (St.unsep (hw.sub (Sub.keep 0 rfl (Sub.keep 0 rfl (Sub.nil _)))))))))
end Go.Proofs.Ytnbbkcpafkooaaa
