/-
  Contracts, part 8.
-/
import Derived.Test.YtgjfcepnkllklaaKb7
set_option linter.unusedVariables false
set_option linter.unusedSimpArgs false
namespace Go.Proofs.Ytgjfcepnkllklaa
open Go Go.RowKit Go.Vc Go.Proofs
set_option maxRecDepth 100000 in
set_option maxHeartbeats 1000000 in
theorem l01NamedD2_ok (w : World) : Does Try.prog 48 [.string (ByteArray.mk #[97, 102, 102, 105, 110, 101])] w [] (fun rv_ => [.exi fun (rA : Option Addr) => .exi fun (rc : Nat) => .exi fun (r : List B3) => .sep (.pur (rv_ = .tuple #[.agg #[.int .i64 9, .slice rA r.length rc], .bool true] ∧ DrS 4000 9 r)) (Own 56 B3C rA rc r)]) := by
  refine Does.enter Try.func48 rfl rfl [(0, .string (ByteArray.mk #[97, 102, 102, 105, 110, 101]))] rfl ?_
  refine V.seq ?_
  refine V.region ?_
  refine O.e rfl rfl rfl (Ef.alloc rfl zr26 rfl) ?_
  rintro _ _ ⟨b1, rfl, rfl⟩
  refine O.p rfl rfl rfl (Pu.assign rfl rfl) ?_
  refine O.nil ?_
  refine X.next ?_
  refine V.seq ?_
  refine V.region ?_
  refine O.e rfl rfl rfl (Ef.build B3C ([] : List B3) rfl Try.underlying24 inf56 rfl rfl rfl (by first | decide | (simp; done)) (by kernel_rfl)) ?_
  rintro _ _ ⟨A1, hA1, rfl, rfl⟩
  refine O.p rfl rfl rfl (Pu.assign rfl rfl) ?_
  refine O.nil ?_
  refine X.next ?_
  refine V.seq ?_
  refine V.seq ?_
  refine V.region ?_
  refine O.p rfl rfl rfl (Pu.move rfl rfl) ?_
  refine O.nil ?_
  refine X.next ?_
  refine V.block ?_
  refine V.seq ?_
  refine V.region ?_
  refine O.p rfl rfl rfl (Pu.eqlStr (b := false) (by kernel_rfl) rfl rfl rfl) ?_
  refine O.p rfl rfl rfl (Pu.assign rfl rfl) ?_
  refine O.nil ?_
  refine X.next ?_
  refine V.condF rfl ?_
  refine V.seq ?_
  refine V.region ?_
  refine O.p rfl rfl rfl (Pu.eqlStr (b := false) (by kernel_rfl) rfl rfl rfl) ?_
  refine O.p rfl rfl rfl (Pu.assign rfl rfl) ?_
  refine O.nil ?_
  refine X.next ?_
  refine V.condF rfl ?_
  refine V.seq ?_
  refine V.region ?_
  refine O.p rfl rfl rfl (Pu.eqlStr (b := false) (by kernel_rfl) rfl rfl rfl) ?_
  refine O.p rfl rfl rfl (Pu.assign rfl rfl) ?_
  refine O.nil ?_
  refine X.next ?_
  refine V.condF rfl ?_
  refine V.seq ?_
  refine V.region ?_
  refine O.p rfl rfl rfl (Pu.eqlStr (b := false) (by kernel_rfl) rfl rfl rfl) ?_
  refine O.p rfl rfl rfl (Pu.assign rfl rfl) ?_
  refine O.nil ?_
  refine X.next ?_
  refine V.condF rfl ?_
  refine V.seq ?_
  refine V.seq ?_
  refine V.region ?_
  refine O.p rfl rfl rfl (Pu.eqlStr (b := true) (by kernel_rfl) rfl rfl rfl) ?_
  refine O.p rfl rfl rfl (Pu.assign rfl rfl) ?_
  refine O.nil ?_
  refine X.next ?_
  refine V.condT rfl ?_
  refine V.skip ?_
  refine X.next ?_
  refine V.condT rfl ?_
  refine V.seq ?_
  refine V.region ?_
  refine O.p rfl rfl rfl (Pu.assign rfl rfl) ?_
  refine O.nil ?_
  refine X.next ?_
  refine V.seq ?_
  refine V.seq ?_
  refine V.region ?_
  refine O.p rfl rfl rfl (Pu.move rfl rfl) ?_
  refine O.p rfl rfl rfl (Pu.eqlStr (b := false) (by kernel_rfl) rfl rfl rfl) ?_
  refine O.nil ?_
  refine X.next ?_
  refine V.condF rfl ?_
  refine V.skip ?_
  refine X.next ?_
  refine V.seq ?_
  refine V.seq ?_
  refine V.region ?_
  refine O.p rfl rfl rfl (Pu.assign rfl rfl) ?_
  refine O.nil ?_
  refine X.next ?_
  refine V.block ?_
  refine V.loop3 (β := (Option Addr) × Nat × (List B3) × Nat) (fun x => [(4, .slice x.1 x.2.2.1.length x.2.1), (6, .int .i64 (x.2.2.2 : Int))]) _ (fun x => [Own 56 B3C x.1 x.2.1 x.2.2.1]) _ (fun x => x.2.2.2 ≤ 9 ∧ (∀ d ∈ x.2.2.1, good 9 d) ∧ x.2.2.1.length ≤ 225 * x.2.2.2) (fun x => 9 - x.2.2.2) (A1, 0, ([] : List B3), 0) (by (try dsimp only); exact ⟨by omega, by simp, by simp⟩) (Ent.cons rfl (Ent.cons rfl (Ent.nil _))) (Ent.cons (t := 2) rfl (Ent.cons (t := 5) rfl (Ent.nil _))) (Sub.keep 0 rfl (Sub.keep 0 rfl (Sub.nil _))) ?_
  rintro ⟨z0A, z0c, z0, a⟩ ⟨ha, hg0, hl0⟩
  dsimp only at ha hg0 hl0 ⊢
  refine V.seq ?_
  refine V.seq ?_
  refine V.region ?_
  refine O.p rfl rfl rfl (Pu.move rfl rfl) ?_
  refine O.p rfl rfl rfl (Pu.move rfl rfl) ?_
  refine O.p rfl rfl rfl (Pu.lss rfl rfl rfl) ?_
  refine O.nil ?_
  refine X.next ?_
  refine V.condD rfl (fun c1 => ?_) (fun c1 => ?_)
  · skip
    refine V.skip ?_
    refine X.next ?_
    refine V.seq ?_
    refine V.block ?_
    refine V.seq ?_
    refine V.region ?_
    refine O.p rfl rfl rfl (Pu.move rfl rfl) ?_
    refine O.p rfl rfl rfl (Pu.add64 (r := ((a + 1 : Nat) : Int)) rfl (by omega) rfl rfl rfl) ?_
    refine O.p rfl rfl rfl (Pu.assign rfl rfl) ?_
    refine O.nil ?_
    refine X.next ?_
    refine V.block ?_
    refine V.loop3 (β := (Option Addr) × Nat × (List B3) × Nat) (fun x => [(4, .slice x.1 x.2.2.1.length x.2.1), (7, .int .i64 (x.2.2.2 : Int))]) _ (fun x => [Own 56 B3C x.1 x.2.1 x.2.2.1]) _ (fun x => a < x.2.2.2 ∧ x.2.2.2 ≤ 9 ∧ (∀ d ∈ x.2.2.1, good 9 d) ∧ x.2.2.1.length ≤ 225 * a + 15 * x.2.2.2) (fun x => 9 - x.2.2.2) (z0A, z0c, z0, a + 1) (by (try dsimp only); exact ⟨by omega, by omega, hg0, by omega⟩) (Ent.cons rfl (Ent.cons rfl (Ent.nil _))) (Ent.cons (t := 2) rfl (Ent.cons (t := 5) rfl (Ent.cons (t := 6) rfl (Ent.nil _)))) (Sub.keep 0 rfl (Sub.keep 0 rfl (Sub.nil _))) ?_
    rintro ⟨z1A, z1c, z1, b⟩ ⟨hab, hb, hg1, hl1⟩
    dsimp only at hab hb hg1 hl1 ⊢
    refine V.seq ?_
    refine V.seq ?_
    refine V.region ?_
    refine O.p rfl rfl rfl (Pu.move rfl rfl) ?_
    refine O.p rfl rfl rfl (Pu.move rfl rfl) ?_
    refine O.p rfl rfl rfl (Pu.lss rfl rfl rfl) ?_
    refine O.nil ?_
    refine X.next ?_
    refine V.condD rfl (fun c2 => ?_) (fun c2 => ?_)
    · skip
      refine V.skip ?_
      refine X.next ?_
      refine V.seq ?_
      refine V.block ?_
      refine V.seq ?_
      refine V.region ?_
      refine O.p rfl rfl rfl (Pu.move rfl rfl) ?_
      refine O.p rfl rfl rfl (Pu.add64 (r := ((b + 1 : Nat) : Int)) rfl (by omega) rfl rfl rfl) ?_
      refine O.p rfl rfl rfl (Pu.assign rfl rfl) ?_
      refine O.nil ?_
      refine X.next ?_
      refine V.block ?_
      refine V.loop3 (β := (Option Addr) × Nat × (List B3) × Nat) (fun x => [(4, .slice x.1 x.2.2.1.length x.2.1), (8, .int .i64 (x.2.2.2 : Int))]) _ (fun x => [Own 56 B3C x.1 x.2.1 x.2.2.1]) _ (fun x => b < x.2.2.2 ∧ x.2.2.2 ≤ 9 ∧ (∀ d ∈ x.2.2.1, good 9 d) ∧ x.2.2.1.length ≤ 225 * a + 15 * b + x.2.2.2) (fun x => 9 - x.2.2.2) (z1A, z1c, z1, b + 1) (by (try dsimp only); exact ⟨by omega, by omega, hg1, by omega⟩) (Ent.cons rfl (Ent.cons rfl (Ent.nil _))) (Ent.cons (t := 2) rfl (Ent.cons (t := 5) rfl (Ent.cons (t := 6) rfl (Ent.cons (t := 7) rfl (Ent.nil _))))) (Sub.keep 0 rfl (Sub.keep 0 rfl (Sub.nil _))) ?_
      rintro ⟨z2A, z2c, z2, e⟩ ⟨hbe, he, hg2, hl2⟩
      dsimp only at hbe he hg2 hl2 ⊢
      refine V.seq ?_
      refine V.seq ?_
      refine V.region ?_
      refine O.p rfl rfl rfl (Pu.move rfl rfl) ?_
      refine O.p rfl rfl rfl (Pu.move rfl rfl) ?_
      refine O.p rfl rfl rfl (Pu.lss rfl rfl rfl) ?_
      refine O.nil ?_
      refine X.next ?_
      refine V.condD rfl (fun c3 => ?_) (fun c3 => ?_)
      · skip
        refine V.skip ?_
        refine X.next ?_
        refine V.seq ?_
        refine V.block ?_
        refine V.seq ?_
        refine V.region ?_
        refine O.p rfl rfl rfl (Pu.move rfl rfl) ?_
        refine O.p rfl rfl rfl (Pu.isT (by decide) (Pu.eql rfl rfl rfl)) ?_
        refine O.p rfl rfl rfl (Pu.move rfl rfl) ?_
        refine O.gp rfl rfl rfl rfl rfl (Pu.move rfl rfl) ?_
        refine O.gp rfl rfl rfl rfl rfl (Pu.quo64 (by omega) (by omega) (by omega) rfl rfl rfl) ?_
        refine O.gp rfl rfl rfl rfl rfl (Pu.move rfl rfl) ?_
        refine O.gp rfl rfl rfl rfl rfl (Pu.quo64 (by omega) (by omega) (by omega) rfl rfl rfl) ?_
        refine O.gp rfl rfl rfl rfl rfl (Pu.add64 rfl (by omega) rfl rfl rfl) ?_
        refine O.gp rfl rfl rfl rfl rfl (Pu.move rfl rfl) ?_
        refine O.gp rfl rfl rfl rfl rfl (Pu.quo64 (by omega) (by omega) (by omega) rfl rfl rfl) ?_
        refine O.gp rfl rfl rfl rfl rfl (Pu.add64 rfl (by omega) rfl rfl rfl) ?_
        refine O.gp rfl rfl rfl rfl rfl (Pu.rem64 (by omega) (by omega) rfl rfl rfl) ?_
        refine O.gp rfl rfl rfl rfl rfl (Pu.eql rfl rfl rfl) ?_
        refine O.p rfl rfl rfl (Pu.pickT rfl rfl rfl) ?_
        refine O.p rfl rfl rfl (Pu.move rfl rfl) ?_
        refine O.splitD 72 rfl (fun c4 => ?_) (fun c4 => ?_)
        · skip
          refine O.gp rfl rfl rfl rfl rfl (Pu.move rfl rfl) ?_
          refine O.gp rfl rfl rfl rfl rfl (Pu.rem64 (by omega) (by omega) rfl rfl rfl) ?_
          refine O.gp rfl rfl rfl rfl rfl (Pu.move rfl rfl) ?_
          refine O.gp rfl rfl rfl rfl rfl (Pu.rem64 (by omega) (by omega) rfl rfl rfl) ?_
          refine O.gp rfl rfl rfl rfl rfl (Pu.add64 rfl (by omega) rfl rfl rfl) ?_
          refine O.gp rfl rfl rfl rfl rfl (Pu.move rfl rfl) ?_
          refine O.gp rfl rfl rfl rfl rfl (Pu.rem64 (by omega) (by omega) rfl rfl rfl) ?_
          refine O.gp rfl rfl rfl rfl rfl (Pu.add64 rfl (by omega) rfl rfl rfl) ?_
          refine O.gp rfl rfl rfl rfl rfl (Pu.rem64 (by omega) (by omega) rfl rfl rfl) ?_
          refine O.gp rfl rfl rfl rfl rfl (Pu.eql rfl rfl rfl) ?_
          refine O.p rfl rfl rfl (Pu.pickT rfl rfl rfl) ?_
          refine O.p rfl rfl rfl (Pu.move rfl rfl) ?_
          refine O.splitD 84 rfl (fun c5 => ?_) (fun c5 => ?_)
          · skip
            refine O.gs rfl rfl rfl rfl rfl rfl ?_
            refine O.gs rfl rfl rfl rfl rfl rfl ?_
            refine O.gs rfl rfl rfl rfl rfl rfl ?_
            refine O.gs rfl rfl rfl rfl rfl rfl ?_
            refine O.gs rfl rfl rfl rfl rfl rfl ?_
            refine O.gs rfl rfl rfl rfl rfl rfl ?_
            refine O.gs rfl rfl rfl rfl rfl rfl ?_
            refine O.gs rfl rfl rfl rfl rfl rfl ?_
            refine O.gs rfl rfl rfl rfl rfl rfl ?_
            refine O.gs rfl rfl rfl rfl rfl rfl ?_
            refine O.gs rfl rfl rfl rfl rfl rfl ?_
            refine O.gs rfl rfl rfl rfl rfl rfl ?_
            refine O.gs rfl rfl rfl rfl rfl rfl ?_
            refine O.p rfl rfl rfl (Pu.pickT rfl rfl rfl) ?_
            refine O.nil ?_
            refine X.next ?_
            refine V.condT rfl ?_
            refine V.region ?_
            refine O.p rfl rfl rfl (Pu.move rfl rfl) ?_
            refine O.p rfl rfl rfl (Pu.move rfl rfl) ?_
            refine O.p rfl rfl rfl (Pu.move rfl rfl) ?_
            refine O.p rfl rfl rfl (Pu.move rfl rfl) ?_
            refine O.p rfl rfl rfl (Pu.buildA (cs := [.int .i64 (↑a : Int), .int .i64 (↑b : Int), .int .i64 (↑e : Int)]) (v := B3.v ((↑a : Int), (↑b : Int), (↑e : Int))) rfl rfl Try.underlying56 zr56 sz2 rfl (by kernel_rfl)) ?_
            refine O.e rfl rfl rfl (Ef.build B3C ([((↑a : Int), (↑b : Int), (↑e : Int))] : List B3) rfl Try.underlying24 inf56 rfl rfl rfl (by first | decide | (simp; done)) (by kernel_rfl)) ?_
            rintro _ _ ⟨A2, hA2, rfl, rfl⟩
            refine O.e rfl rfl rfl (Ef.append (xs := z2) (ys := ([((↑a : Int), (↑b : Int), (↑e : Int))] : List B3)) 1 rfl Try.underlying24 inf56 rfl rfl rfl rfl rfl rfl hA2 (Ld.own 0 (by exact rfl)) (by simp only [List.length_append, List.length_cons, List.length_nil] at *; omega) (by decide)) ?_
            rintro _ _ ⟨A3, k1, rfl, rfl, hA3⟩
            replace hA3 := hA3 (.inr (by simp))
            refine O.p rfl rfl rfl (Pu.assign rfl rfl) ?_
            refine O.nil ?_
            refine X.blockNormal ?_
            refine X.next ?_
            refine V.region ?_
            refine O.p rfl rfl rfl (Pu.move rfl rfl) ?_
            refine O.p rfl rfl rfl (Pu.add64 (r := ((e + 1 : Nat) : Int)) rfl (by omega) rfl rfl rfl) ?_
            refine O.p rfl rfl rfl (Pu.assign rfl rfl) ?_
            refine O.nil ?_
            exact X.back3 (A3, k1, (z2 ++ ([((↑a : Int), (↑b : Int), (↑e : Int))] : List B3)), e + 1) (by (try dsimp only); exact ⟨by omega, by omega, (by first | exact hg2 | exact good_snoc hg2 (by unfold good; simp only; omega)), (by first | omega | (simp only [List.length_append, List.length_singleton]; omega))⟩) (by first | omega | (dsimp only; omega)) (Ent.cons rfl (Ent.cons rfl (Ent.nil _))) (Ent.cons (t := 2) rfl (Ent.cons (t := 5) rfl (Ent.cons (t := 6) rfl (Ent.cons (t := 7) rfl (Ent.nil _))))) (Sub.keep 1 rfl (Sub.keep 1 rfl (Sub.nil _)))
          · skip
            refine O.gp rfl rfl rfl rfl rfl (Pu.move rfl rfl) ?_
            refine O.gp rfl rfl rfl rfl rfl (Pu.isF (by decide) (Pu.eql rfl rfl rfl)) ?_
            refine O.gp rfl rfl rfl rfl rfl (Pu.move rfl rfl) ?_
            refine O.gs rfl rfl rfl rfl rfl rfl ?_
            refine O.gs rfl rfl rfl rfl rfl rfl ?_
            refine O.gs rfl rfl rfl rfl rfl rfl ?_
            refine O.gs rfl rfl rfl rfl rfl rfl ?_
            refine O.gs rfl rfl rfl rfl rfl rfl ?_
            refine O.gs rfl rfl rfl rfl rfl rfl ?_
            refine O.gs rfl rfl rfl rfl rfl rfl ?_
            refine O.gs rfl rfl rfl rfl rfl rfl ?_
            refine O.gs rfl rfl rfl rfl rfl rfl ?_
            refine O.gp rfl rfl rfl rfl rfl (Pu.pickF rfl rfl rfl) ?_
            refine O.p rfl rfl rfl (Pu.pickF rfl rfl rfl) ?_
            refine O.nil ?_
            refine X.next ?_
            refine V.condF rfl ?_
            refine V.skip ?_
            refine X.blockNormal ?_
            refine X.next ?_
            refine V.region ?_
            refine O.p rfl rfl rfl (Pu.move rfl rfl) ?_
            refine O.p rfl rfl rfl (Pu.add64 (r := ((e + 1 : Nat) : Int)) rfl (by omega) rfl rfl rfl) ?_
            refine O.p rfl rfl rfl (Pu.assign rfl rfl) ?_
            refine O.nil ?_
            exact X.back3 (z2A, z2c, z2, e + 1) (by (try dsimp only); exact ⟨by omega, by omega, (by first | exact hg2 | exact good_snoc hg2 (by unfold good; simp only; omega)), (by first | omega | (simp only [List.length_append, List.length_singleton]; omega))⟩) (by first | omega | (dsimp only; omega)) (Ent.cons rfl (Ent.cons rfl (Ent.nil _))) (Ent.cons (t := 2) rfl (Ent.cons (t := 5) rfl (Ent.cons (t := 6) rfl (Ent.cons (t := 7) rfl (Ent.nil _))))) (Sub.keep 0 rfl (Sub.keep 0 rfl (Sub.nil _)))
        · skip
          refine O.gs rfl rfl rfl rfl rfl rfl ?_
          refine O.gs rfl rfl rfl rfl rfl rfl ?_
          refine O.gs rfl rfl rfl rfl rfl rfl ?_
          refine O.gs rfl rfl rfl rfl rfl rfl ?_
          refine O.gs rfl rfl rfl rfl rfl rfl ?_
          refine O.gs rfl rfl rfl rfl rfl rfl ?_
          refine O.gs rfl rfl rfl rfl rfl rfl ?_
          refine O.gs rfl rfl rfl rfl rfl rfl ?_
          refine O.gs rfl rfl rfl rfl rfl rfl ?_
          refine O.gs rfl rfl rfl rfl rfl rfl ?_
          refine O.p rfl rfl rfl (Pu.pickF rfl rfl rfl) ?_
          refine O.p rfl rfl rfl (Pu.move rfl rfl) ?_
          refine O.gp rfl rfl rfl rfl rfl (Pu.move rfl rfl) ?_
          refine O.gp rfl rfl rfl rfl rfl (Pu.isF (by decide) (Pu.eql rfl rfl rfl)) ?_
          refine O.gp rfl rfl rfl rfl rfl (Pu.move rfl rfl) ?_
          refine O.gs rfl rfl rfl rfl rfl rfl ?_
          refine O.gs rfl rfl rfl rfl rfl rfl ?_
          refine O.gs rfl rfl rfl rfl rfl rfl ?_
          refine O.gs rfl rfl rfl rfl rfl rfl ?_
          refine O.gs rfl rfl rfl rfl rfl rfl ?_
          refine O.gs rfl rfl rfl rfl rfl rfl ?_
          refine O.gs rfl rfl rfl rfl rfl rfl ?_
          refine O.gs rfl rfl rfl rfl rfl rfl ?_
          refine O.gs rfl rfl rfl rfl rfl rfl ?_
          refine O.gp rfl rfl rfl rfl rfl (Pu.pickF rfl rfl rfl) ?_
          refine O.p rfl rfl rfl (Pu.pickF rfl rfl rfl) ?_
          refine O.nil ?_
          refine X.next ?_
          refine V.condF rfl ?_
          refine V.skip ?_
          refine X.blockNormal ?_
          refine X.next ?_
          refine V.region ?_
          refine O.p rfl rfl rfl (Pu.move rfl rfl) ?_
          refine O.p rfl rfl rfl (Pu.add64 (r := ((e + 1 : Nat) : Int)) rfl (by omega) rfl rfl rfl) ?_
          refine O.p rfl rfl rfl (Pu.assign rfl rfl) ?_
          refine O.nil ?_
          exact X.back3 (z2A, z2c, z2, e + 1) (by (try dsimp only); exact ⟨by omega, by omega, (by first | exact hg2 | exact good_snoc hg2 (by unfold good; simp only; omega)), (by first | omega | (simp only [List.length_append, List.length_singleton]; omega))⟩) (by first | omega | (dsimp only; omega)) (Ent.cons rfl (Ent.cons rfl (Ent.nil _))) (Ent.cons (t := 2) rfl (Ent.cons (t := 5) rfl (Ent.cons (t := 6) rfl (Ent.cons (t := 7) rfl (Ent.nil _))))) (Sub.keep 0 rfl (Sub.keep 0 rfl (Sub.nil _)))
      · skip
        refine V.exit ?_
        refine X.thenExit ?_
        refine X.thenExit ?_
        refine X.blockHit ?_
        refine X.blockNormal ?_
        refine X.next ?_
        refine V.region ?_
        refine O.p rfl rfl rfl (Pu.move rfl rfl) ?_
        refine O.p rfl rfl rfl (Pu.add64 (r := ((b + 1 : Nat) : Int)) rfl (by omega) rfl rfl rfl) ?_
        refine O.p rfl rfl rfl (Pu.assign rfl rfl) ?_
        refine O.nil ?_
        exact X.back3 (z2A, z2c, z2, b + 1) (by (try dsimp only); exact ⟨by omega, by omega, hg2, by omega⟩) (by first | omega | (dsimp only; omega)) (Ent.cons rfl (Ent.cons rfl (Ent.nil _))) (Ent.cons (t := 2) rfl (Ent.cons (t := 5) rfl (Ent.cons (t := 6) rfl (Ent.nil _)))) (Sub.keep 0 rfl (Sub.keep 0 rfl (Sub.nil _)))
    · skip
      refine V.exit ?_
      refine X.thenExit ?_
      refine X.thenExit ?_
      refine X.blockHit ?_
      refine X.blockNormal ?_
      refine X.next ?_
      refine V.region ?_
      refine O.p rfl rfl rfl (Pu.move rfl rfl) ?_
      refine O.p rfl rfl rfl (Pu.add64 (r := ((a + 1 : Nat) : Int)) rfl (by omega) rfl rfl rfl) ?_
      refine O.p rfl rfl rfl (Pu.assign rfl rfl) ?_
      refine O.nil ?_
      exact X.back3 (z1A, z1c, z1, a + 1) (by (try dsimp only); exact ⟨by omega, hg1, by omega⟩) (by first | omega | (dsimp only; omega)) (Ent.cons rfl (Ent.cons rfl (Ent.nil _))) (Ent.cons (t := 2) rfl (Ent.cons (t := 5) rfl (Ent.nil _))) (Sub.keep 0 rfl (Sub.keep 0 rfl (Sub.nil _)))
  · skip
    refine V.exit ?_
    refine X.thenExit ?_
    refine X.thenExit ?_
    refine X.blockHit ?_
    refine X.next ?_
    refine V.seq ?_
    refine V.region ?_
    refine O.p rfl rfl rfl (Pu.move rfl rfl) ?_
    refine O.p rfl rfl rfl (Pu.move rfl rfl) ?_
    refine O.e rfl rfl rfl (Ef.call1 call62 rfl rfl (fun w hw => l01Made_ok  (9 : Int) z0 _ _ w ((Ld.own 0 (by exact rfl)) w hw) (by first | omega | (simp only [tops_len, conts_len, bl, List.length_append, List.length_cons, List.length_nil] at *; omega)) (by first | assumption | omega | (try dsimp only at *; omega)))) ?_
    rintro _ _ rfl
    refine O.exi (fun r1A => ?_)
    refine O.exi (fun r1c => ?_)
    refine O.exi (fun r1 => ?_)
    refine O.sep ?_
    refine O.pur ?_
    rintro ⟨rfl, hr1_1, hr1_2⟩
    refine O.s rfl rfl (Ef.storeAll 2 rfl sz26 rfl rfl rfl rfl (by simp [Value.oneCell']) rfl) ?_
    rintro _ _ rfl
    refine O.p rfl rfl rfl (Pu.assign rfl rfl) ?_
    refine O.nil ?_
    refine X.next ?_
    refine V.ret ?_
    refine X.blockRet ?_
    refine X.thenRet ?_
    refine X.retCell2 rfl ag26 sz26 rfl rfl rfl (Ld.whole 2 rfl) ?_
    exact fun w hw => St.mkExi r1A (St.mkExi r1c (St.mkExi r1 (St.unsep (St.addPur ⟨rfl, DrS.perm ⟨by decide, hg0, by omega⟩ hr1_1⟩ (hw.sub (Sub.keep 0 rfl (Sub.nil _)))))))
set_option maxRecDepth 100000 in
set_option maxHeartbeats 1000000 in
theorem l01NamedD3_ok (w : World) : Does Try.prog 48 [.string (ByteArray.mk #[99, 121, 99, 108, 105, 99, 49, 51])] w [] (fun rv_ => [.exi fun (rA : Option Addr) => .exi fun (rc : Nat) => .exi fun (r : List B3) => .sep (.pur (rv_ = .tuple #[.agg #[.int .i64 13, .slice rA r.length rc], .bool true] ∧ DrS 4000 13 r)) (Own 56 B3C rA rc r)]) := by
  refine Does.enter Try.func48 rfl rfl [(0, .string (ByteArray.mk #[99, 121, 99, 108, 105, 99, 49, 51]))] rfl ?_
  refine V.seq ?_
  refine V.region ?_
  refine O.e rfl rfl rfl (Ef.alloc rfl zr26 rfl) ?_
  rintro _ _ ⟨b1, rfl, rfl⟩
  refine O.p rfl rfl rfl (Pu.assign rfl rfl) ?_
  refine O.nil ?_
  refine X.next ?_
  refine V.seq ?_
  refine V.region ?_
  refine O.e rfl rfl rfl (Ef.build B3C ([] : List B3) rfl Try.underlying24 inf56 rfl rfl rfl (by first | decide | (simp; done)) (by kernel_rfl)) ?_
  rintro _ _ ⟨A1, hA1, rfl, rfl⟩
  refine O.p rfl rfl rfl (Pu.assign rfl rfl) ?_
  refine O.nil ?_
  refine X.next ?_
  refine V.seq ?_
  refine V.seq ?_
  refine V.region ?_
  refine O.p rfl rfl rfl (Pu.move rfl rfl) ?_
  refine O.nil ?_
  refine X.next ?_
  refine V.block ?_
  refine V.seq ?_
  refine V.region ?_
  refine O.p rfl rfl rfl (Pu.eqlStr (b := false) (by kernel_rfl) rfl rfl rfl) ?_
  refine O.p rfl rfl rfl (Pu.assign rfl rfl) ?_
  refine O.nil ?_
  refine X.next ?_
  refine V.condF rfl ?_
  refine V.seq ?_
  refine V.region ?_
  refine O.p rfl rfl rfl (Pu.eqlStr (b := false) (by kernel_rfl) rfl rfl rfl) ?_
  refine O.p rfl rfl rfl (Pu.assign rfl rfl) ?_
  refine O.nil ?_
  refine X.next ?_
  refine V.condF rfl ?_
  refine V.seq ?_
  refine V.region ?_
  refine O.p rfl rfl rfl (Pu.eqlStr (b := true) (by kernel_rfl) rfl rfl rfl) ?_
  refine O.p rfl rfl rfl (Pu.assign rfl rfl) ?_
  refine O.nil ?_
  refine X.next ?_
  refine V.condT rfl ?_
  refine V.seq ?_
  refine V.region ?_
  refine O.p rfl rfl rfl (Pu.move rfl rfl) ?_
  refine O.e rfl rfl rfl (Ef.call call65 rfl rfl (Does.pre (fun w hw => hw.sub (Sub.keep 0 rfl (Sub.keep 0 rfl (Sub.nil _)))) (l01Turned_ok  ([] : List B3) (13 : Int) (0 : Int) (1 : Int) (4 : Int) _ _ w _   (by decide) (by decide) (by decide) (by decide) (by first | (simp; done) | (rw [hr1_1]; decide +kernel) | (rw [hr2_1, hr1_1]; decide +kernel))))) ?_
  rintro _ _ rfl
  refine O.exi (fun r1A => ?_)
  refine O.exi (fun r1c => ?_)
  refine O.exi (fun r1 => ?_)
  refine O.sep ?_
  refine O.pur ?_
  rintro ⟨rfl, hr1_1⟩
  refine O.e rfl rfl rfl (Ef.call call65 rfl rfl (Does.pre (fun w hw => hw.sub (Sub.keep 0 rfl (Sub.keep 0 rfl (Sub.nil _)))) (l01Turned_ok  r1 (13 : Int) (0 : Int) (2 : Int) (7 : Int) _ _ w _   (by decide) (by decide) (by decide) (by decide) (by first | (simp; done) | (rw [hr1_1]; decide +kernel) | (rw [hr2_1, hr1_1]; decide +kernel))))) ?_
  rintro _ _ rfl
  refine O.exi (fun r2A => ?_)
  refine O.exi (fun r2c => ?_)
  refine O.exi (fun r2 => ?_)
  refine O.sep ?_
  refine O.pur ?_
  rintro ⟨rfl, hr2_1⟩
  refine O.e rfl rfl rfl (Ef.call1 call62 rfl rfl (fun w hw => l01Made_ok  (13 : Int) r2 _ _ w ((Ld.own 0 (by exact rfl)) w hw) (by rw [hr2_1, hr1_1]; decide +kernel) (by rw [hr2_1, hr1_1]; decide +kernel))) ?_
  rintro _ _ rfl
  refine O.exi (fun r3A => ?_)
  refine O.exi (fun r3c => ?_)
  refine O.exi (fun r3 => ?_)
  refine O.sep ?_
  refine O.pur ?_
  rintro ⟨rfl, hr3_1, hr3_2⟩
  refine O.s rfl rfl (Ef.storeAll 2 rfl sz26 rfl rfl rfl rfl (by simp [Value.oneCell']) rfl) ?_
  rintro _ _ rfl
  refine O.p rfl rfl rfl (Pu.assign rfl rfl) ?_
  refine O.nil ?_
  refine X.next ?_
  refine V.ret ?_
  refine X.blockRet ?_
  refine X.thenRet ?_
  refine X.retCell2 rfl ag26 sz26 rfl rfl rfl (Ld.whole 2 rfl) ?_
  exact fun w hw => St.mkExi r3A (St.mkExi r3c (St.mkExi r3 (St.unsep (St.addPur ⟨rfl, DrS.perm (bs := r2) (by rw [hr2_1, hr1_1]; exact ⟨by decide, by decide +kernel, by decide +kernel⟩) hr3_1⟩ (hw.sub (Sub.keep 0 rfl (Sub.nil _)))))))
set_option maxRecDepth 100000 in
set_option maxHeartbeats 1000000 in
theorem l01NamedD4_ok (w : World) : Does Try.prog 48 [.string (ByteArray.mk #[99, 121, 99, 108, 105, 99, 49, 53])] w [] (fun rv_ => [.exi fun (rA : Option Addr) => .exi fun (rc : Nat) => .exi fun (r : List B3) => .sep (.pur (rv_ = .tuple #[.agg #[.int .i64 15, .slice rA r.length rc], .bool true] ∧ DrS 4000 15 r)) (Own 56 B3C rA rc r)]) := by
  refine Does.enter Try.func48 rfl rfl [(0, .string (ByteArray.mk #[99, 121, 99, 108, 105, 99, 49, 53]))] rfl ?_
  refine V.seq ?_
  refine V.region ?_
  refine O.e rfl rfl rfl (Ef.alloc rfl zr26 rfl) ?_
  rintro _ _ ⟨b1, rfl, rfl⟩
  refine O.p rfl rfl rfl (Pu.assign rfl rfl) ?_
  refine O.nil ?_
  refine X.next ?_
  refine V.seq ?_
  refine V.region ?_
  refine O.e rfl rfl rfl (Ef.build B3C ([] : List B3) rfl Try.underlying24 inf56 rfl rfl rfl (by first | decide | (simp; done)) (by kernel_rfl)) ?_
  rintro _ _ ⟨A1, hA1, rfl, rfl⟩
  refine O.p rfl rfl rfl (Pu.assign rfl rfl) ?_
  refine O.nil ?_
  refine X.next ?_
  refine V.seq ?_
  refine V.seq ?_
  refine V.region ?_
  refine O.p rfl rfl rfl (Pu.move rfl rfl) ?_
  refine O.nil ?_
  refine X.next ?_
  refine V.block ?_
  refine V.seq ?_
  refine V.region ?_
  refine O.p rfl rfl rfl (Pu.eqlStr (b := false) (by kernel_rfl) rfl rfl rfl) ?_
  refine O.p rfl rfl rfl (Pu.assign rfl rfl) ?_
  refine O.nil ?_
  refine X.next ?_
  refine V.condF rfl ?_
  refine V.seq ?_
  refine V.region ?_
  refine O.p rfl rfl rfl (Pu.eqlStr (b := false) (by kernel_rfl) rfl rfl rfl) ?_
  refine O.p rfl rfl rfl (Pu.assign rfl rfl) ?_
  refine O.nil ?_
  refine X.next ?_
  refine V.condF rfl ?_
  refine V.seq ?_
  refine V.region ?_
  refine O.p rfl rfl rfl (Pu.eqlStr (b := false) (by kernel_rfl) rfl rfl rfl) ?_
  refine O.p rfl rfl rfl (Pu.assign rfl rfl) ?_
  refine O.nil ?_
  refine X.next ?_
  refine V.condF rfl ?_
  refine V.seq ?_
  refine V.region ?_
  refine O.p rfl rfl rfl (Pu.eqlStr (b := true) (by kernel_rfl) rfl rfl rfl) ?_
  refine O.p rfl rfl rfl (Pu.assign rfl rfl) ?_
  refine O.nil ?_
  refine X.next ?_
  refine V.condT rfl ?_
  refine V.seq ?_
  refine V.region ?_
  refine O.p rfl rfl rfl (Pu.move rfl rfl) ?_
  refine O.e rfl rfl rfl (Ef.call call65 rfl rfl (Does.pre (fun w hw => hw.sub (Sub.keep 0 rfl (Sub.keep 0 rfl (Sub.nil _)))) (l01Turned_ok  ([] : List B3) (15 : Int) (0 : Int) (1 : Int) (4 : Int) _ _ w _   (by decide) (by decide) (by decide) (by decide) (by first | (simp; done) | (rw [hr1_1]; decide +kernel) | (rw [hr2_1, hr1_1]; decide +kernel))))) ?_
  rintro _ _ rfl
  refine O.exi (fun r1A => ?_)
  refine O.exi (fun r1c => ?_)
  refine O.exi (fun r1 => ?_)
  refine O.sep ?_
  refine O.pur ?_
  rintro ⟨rfl, hr1_1⟩
  refine O.e rfl rfl rfl (Ef.call call65 rfl rfl (Does.pre (fun w hw => hw.sub (Sub.keep 0 rfl (Sub.keep 0 rfl (Sub.nil _)))) (l01Turned_ok  r1 (15 : Int) (0 : Int) (2 : Int) (8 : Int) _ _ w _   (by decide) (by decide) (by decide) (by decide) (by first | (simp; done) | (rw [hr1_1]; decide +kernel) | (rw [hr2_1, hr1_1]; decide +kernel))))) ?_
  rintro _ _ rfl
  refine O.exi (fun r2A => ?_)
  refine O.exi (fun r2c => ?_)
  refine O.exi (fun r2 => ?_)
  refine O.sep ?_
  refine O.pur ?_
  rintro ⟨rfl, hr2_1⟩
  refine O.e rfl rfl rfl (Ef.call call65 rfl rfl (Does.pre (fun w hw => hw.sub (Sub.keep 0 rfl (Sub.keep 0 rfl (Sub.nil _)))) (l01Turned_ok  r2 (15 : Int) (0 : Int) (5 : Int) (10 : Int) _ _ w _   (by decide) (by decide) (by decide) (by decide) (by first | (simp; done) | (rw [hr1_1]; decide +kernel) | (rw [hr2_1, hr1_1]; decide +kernel))))) ?_
  rintro _ _ rfl
  refine O.exi (fun r3A => ?_)
  refine O.exi (fun r3c => ?_)
  refine O.exi (fun r3 => ?_)
  refine O.sep ?_
  refine O.pur ?_
  rintro ⟨rfl, hr3_1⟩
  refine O.e rfl rfl rfl (Ef.call1 call62 rfl rfl (fun w hw => l01Made_ok  (15 : Int) r3 _ _ w ((Ld.own 0 (by exact rfl)) w hw) (by rw [hr3_1, hr2_1, hr1_1]; decide +kernel) (by rw [hr3_1, hr2_1, hr1_1]; decide +kernel))) ?_
  rintro _ _ rfl
  refine O.exi (fun r4A => ?_)
  refine O.exi (fun r4c => ?_)
  refine O.exi (fun r4 => ?_)
  refine O.sep ?_
  refine O.pur ?_
  rintro ⟨rfl, hr4_1, hr4_2⟩
  refine O.s rfl rfl (Ef.storeAll 2 rfl sz26 rfl rfl rfl rfl (by simp [Value.oneCell']) rfl) ?_
  rintro _ _ rfl
  refine O.p rfl rfl rfl (Pu.assign rfl rfl) ?_
  refine O.nil ?_
  refine X.next ?_
  refine V.ret ?_
  refine X.blockRet ?_
  refine X.thenRet ?_
  refine X.retCell2 rfl ag26 sz26 rfl rfl rfl (Ld.whole 2 rfl) ?_
  exact fun w hw => St.mkExi r4A (St.mkExi r4c (St.mkExi r4 (St.unsep (St.addPur ⟨rfl, DrS.perm (bs := r3) (by rw [hr3_1, hr2_1, hr1_1]; exact ⟨by decide, by decide +kernel, by decide +kernel⟩) hr4_1⟩ (hw.sub (Sub.keep 0 rfl (Sub.nil _)))))))
set_option maxRecDepth 100000 in
set_option maxHeartbeats 1000000 in
theorem l01NamedD5_ok (w : World) : Does Try.prog 48 [.string (ByteArray.mk #[112, 114, 111, 106, 101, 99, 116, 105, 118, 101, 49, 53])] w [] (fun rv_ => [.exi fun (rA : Option Addr) => .exi fun (rc : Nat) => .exi fun (r : List B3) => .sep (.pur (rv_ = .tuple #[.agg #[.int .i64 15, .slice rA r.length rc], .bool true] ∧ DrS 4000 15 r)) (Own 56 B3C rA rc r)]) := by
  refine Does.enter Try.func48 rfl rfl [(0, .string (ByteArray.mk #[112, 114, 111, 106, 101, 99, 116, 105, 118, 101, 49, 53]))] rfl ?_
  refine V.seq ?_
  refine V.region ?_
  refine O.e rfl rfl rfl (Ef.alloc rfl zr26 rfl) ?_
  rintro _ _ ⟨b1, rfl, rfl⟩
  refine O.p rfl rfl rfl (Pu.assign rfl rfl) ?_
  refine O.nil ?_
  refine X.next ?_
  refine V.seq ?_
  refine V.region ?_
  refine O.e rfl rfl rfl (Ef.build B3C ([] : List B3) rfl Try.underlying24 inf56 rfl rfl rfl (by first | decide | (simp; done)) (by kernel_rfl)) ?_
  rintro _ _ ⟨A1, hA1, rfl, rfl⟩
  refine O.p rfl rfl rfl (Pu.assign rfl rfl) ?_
  refine O.nil ?_
  refine X.next ?_
  refine V.seq ?_
  refine V.seq ?_
  refine V.region ?_
  refine O.p rfl rfl rfl (Pu.move rfl rfl) ?_
  refine O.nil ?_
  refine X.next ?_
  refine V.block ?_
  refine V.seq ?_
  refine V.region ?_
  refine O.p rfl rfl rfl (Pu.eqlStr (b := false) (by kernel_rfl) rfl rfl rfl) ?_
  refine O.p rfl rfl rfl (Pu.assign rfl rfl) ?_
  refine O.nil ?_
  refine X.next ?_
  refine V.condF rfl ?_
  refine V.seq ?_
  refine V.region ?_
  refine O.p rfl rfl rfl (Pu.eqlStr (b := false) (by kernel_rfl) rfl rfl rfl) ?_
  refine O.p rfl rfl rfl (Pu.assign rfl rfl) ?_
  refine O.nil ?_
  refine X.next ?_
  refine V.condF rfl ?_
  refine V.seq ?_
  refine V.region ?_
  refine O.p rfl rfl rfl (Pu.eqlStr (b := false) (by kernel_rfl) rfl rfl rfl) ?_
  refine O.p rfl rfl rfl (Pu.assign rfl rfl) ?_
  refine O.nil ?_
  refine X.next ?_
  refine V.condF rfl ?_
  refine V.seq ?_
  refine V.region ?_
  refine O.p rfl rfl rfl (Pu.eqlStr (b := false) (by kernel_rfl) rfl rfl rfl) ?_
  refine O.p rfl rfl rfl (Pu.assign rfl rfl) ?_
  refine O.nil ?_
  refine X.next ?_
  refine V.condF rfl ?_
  refine V.seq ?_
  refine V.seq ?_
  refine V.region ?_
  refine O.p rfl rfl rfl (Pu.eqlStr (b := false) (by kernel_rfl) rfl rfl rfl) ?_
  refine O.p rfl rfl rfl (Pu.assign rfl rfl) ?_
  refine O.nil ?_
  refine X.next ?_
  refine V.condF rfl ?_
  refine V.region ?_
  refine O.p rfl rfl rfl (Pu.eqlStr (b := true) (by kernel_rfl) rfl rfl rfl) ?_
  refine O.p rfl rfl rfl (Pu.assign rfl rfl) ?_
  refine O.nil ?_
  refine X.next ?_
  refine V.condT rfl ?_
  refine V.seq ?_
  refine V.region ?_
  refine O.p rfl rfl rfl (Pu.assign rfl rfl) ?_
  refine O.nil ?_
  refine X.next ?_
  refine V.seq ?_
  refine V.seq ?_
  refine V.region ?_
  refine O.p rfl rfl rfl (Pu.move rfl rfl) ?_
  refine O.p rfl rfl rfl (Pu.eqlStr (b := true) (by kernel_rfl) rfl rfl rfl) ?_
  refine O.nil ?_
  refine X.next ?_
  refine V.condT rfl ?_
  refine V.region ?_
  refine O.p rfl rfl rfl (Pu.assign rfl rfl) ?_
  refine O.nil ?_
  refine X.next ?_
  refine V.seq ?_
  refine V.seq ?_
  refine V.region ?_
  refine O.p rfl rfl rfl (Pu.assign rfl rfl) ?_
  refine O.nil ?_
  refine X.next ?_
  refine V.block ?_
  refine V.loop3 (β := (Option Addr) × Nat × (List B3) × Nat) (fun x => [(4, .slice x.1 x.2.2.1.length x.2.1), (6, .int .i64 (x.2.2.2 : Int))]) _ (fun x => [Own 56 B3C x.1 x.2.1 x.2.2.1]) _ (fun x => x.2.2.2 ≤ 15 ∧ (∀ d ∈ x.2.2.1, good 15 d) ∧ x.2.2.1.length ≤ 225 * x.2.2.2) (fun x => 15 - x.2.2.2) (A1, 0, ([] : List B3), 0) (by (try dsimp only); exact ⟨by omega, by simp, by simp⟩) (Ent.cons rfl (Ent.cons rfl (Ent.nil _))) (Ent.cons (t := 2) rfl (Ent.cons (t := 5) rfl (Ent.nil _))) (Sub.keep 0 rfl (Sub.keep 0 rfl (Sub.nil _))) ?_
  rintro ⟨z0A, z0c, z0, a⟩ ⟨ha, hg0, hl0⟩
  dsimp only at ha hg0 hl0 ⊢
  refine V.seq ?_
  refine V.seq ?_
  refine V.region ?_
  refine O.p rfl rfl rfl (Pu.move rfl rfl) ?_
  refine O.p rfl rfl rfl (Pu.move rfl rfl) ?_
  refine O.p rfl rfl rfl (Pu.lss rfl rfl rfl) ?_
  refine O.nil ?_
  refine X.next ?_
  refine V.condD rfl (fun c1 => ?_) (fun c1 => ?_)
  · skip
    refine V.skip ?_
    refine X.next ?_
    refine V.seq ?_
    refine V.block ?_
    refine V.seq ?_
    refine V.region ?_
    refine O.p rfl rfl rfl (Pu.move rfl rfl) ?_
    refine O.p rfl rfl rfl (Pu.add64 (r := ((a + 1 : Nat) : Int)) rfl (by omega) rfl rfl rfl) ?_
    refine O.p rfl rfl rfl (Pu.assign rfl rfl) ?_
    refine O.nil ?_
    refine X.next ?_
    refine V.block ?_
    refine V.loop3 (β := (Option Addr) × Nat × (List B3) × Nat) (fun x => [(4, .slice x.1 x.2.2.1.length x.2.1), (7, .int .i64 (x.2.2.2 : Int))]) _ (fun x => [Own 56 B3C x.1 x.2.1 x.2.2.1]) _ (fun x => a < x.2.2.2 ∧ x.2.2.2 ≤ 15 ∧ (∀ d ∈ x.2.2.1, good 15 d) ∧ x.2.2.1.length ≤ 225 * a + 15 * x.2.2.2) (fun x => 15 - x.2.2.2) (z0A, z0c, z0, a + 1) (by (try dsimp only); exact ⟨by omega, by omega, hg0, by omega⟩) (Ent.cons rfl (Ent.cons rfl (Ent.nil _))) (Ent.cons (t := 2) rfl (Ent.cons (t := 5) rfl (Ent.cons (t := 6) rfl (Ent.nil _)))) (Sub.keep 0 rfl (Sub.keep 0 rfl (Sub.nil _))) ?_
    rintro ⟨z1A, z1c, z1, b⟩ ⟨hab, hb, hg1, hl1⟩
    dsimp only at hab hb hg1 hl1 ⊢
    refine V.seq ?_
    refine V.seq ?_
    refine V.region ?_
    refine O.p rfl rfl rfl (Pu.move rfl rfl) ?_
    refine O.p rfl rfl rfl (Pu.move rfl rfl) ?_
    refine O.p rfl rfl rfl (Pu.lss rfl rfl rfl) ?_
    refine O.nil ?_
    refine X.next ?_
    refine V.condD rfl (fun c2 => ?_) (fun c2 => ?_)
    · skip
      refine V.skip ?_
      refine X.next ?_
      refine V.seq ?_
      refine V.block ?_
      refine V.seq ?_
      refine V.region ?_
      refine O.p rfl rfl rfl (Pu.move rfl rfl) ?_
      refine O.p rfl rfl rfl (Pu.add64 (r := ((b + 1 : Nat) : Int)) rfl (by omega) rfl rfl rfl) ?_
      refine O.p rfl rfl rfl (Pu.assign rfl rfl) ?_
      refine O.nil ?_
      refine X.next ?_
      refine V.block ?_
      refine V.loop3 (β := (Option Addr) × Nat × (List B3) × Nat) (fun x => [(4, .slice x.1 x.2.2.1.length x.2.1), (8, .int .i64 (x.2.2.2 : Int))]) _ (fun x => [Own 56 B3C x.1 x.2.1 x.2.2.1]) _ (fun x => b < x.2.2.2 ∧ x.2.2.2 ≤ 15 ∧ (∀ d ∈ x.2.2.1, good 15 d) ∧ x.2.2.1.length ≤ 225 * a + 15 * b + x.2.2.2) (fun x => 15 - x.2.2.2) (z1A, z1c, z1, b + 1) (by (try dsimp only); exact ⟨by omega, by omega, hg1, by omega⟩) (Ent.cons rfl (Ent.cons rfl (Ent.nil _))) (Ent.cons (t := 2) rfl (Ent.cons (t := 5) rfl (Ent.cons (t := 6) rfl (Ent.cons (t := 7) rfl (Ent.nil _))))) (Sub.keep 0 rfl (Sub.keep 0 rfl (Sub.nil _))) ?_
      rintro ⟨z2A, z2c, z2, e⟩ ⟨hbe, he, hg2, hl2⟩
      dsimp only at hbe he hg2 hl2 ⊢
      refine V.seq ?_
      refine V.seq ?_
      refine V.region ?_
      refine O.p rfl rfl rfl (Pu.move rfl rfl) ?_
      refine O.p rfl rfl rfl (Pu.move rfl rfl) ?_
      refine O.p rfl rfl rfl (Pu.lss rfl rfl rfl) ?_
      refine O.nil ?_
      refine X.next ?_
      refine V.condD rfl (fun c3 => ?_) (fun c3 => ?_)
      · skip
        refine V.skip ?_
        refine X.next ?_
        refine V.seq ?_
        refine V.block ?_
        refine V.seq ?_
        refine V.region ?_
        refine O.p rfl rfl rfl (Pu.move rfl rfl) ?_
        refine O.p rfl rfl rfl (Pu.isF (by decide) (Pu.eql rfl rfl rfl)) ?_
        refine O.p rfl rfl rfl (Pu.move rfl rfl) ?_
        refine O.gs rfl rfl rfl rfl rfl rfl ?_
        refine O.gs rfl rfl rfl rfl rfl rfl ?_
        refine O.gs rfl rfl rfl rfl rfl rfl ?_
        refine O.gs rfl rfl rfl rfl rfl rfl ?_
        refine O.gs rfl rfl rfl rfl rfl rfl ?_
        refine O.gs rfl rfl rfl rfl rfl rfl ?_
        refine O.gs rfl rfl rfl rfl rfl rfl ?_
        refine O.gs rfl rfl rfl rfl rfl rfl ?_
        refine O.gs rfl rfl rfl rfl rfl rfl ?_
        refine O.gs rfl rfl rfl rfl rfl rfl ?_
        refine O.p rfl rfl rfl (Pu.pickF rfl rfl rfl) ?_
        refine O.p rfl rfl rfl (Pu.move rfl rfl) ?_
        refine O.gs rfl rfl rfl rfl rfl rfl ?_
        refine O.gs rfl rfl rfl rfl rfl rfl ?_
        refine O.gs rfl rfl rfl rfl rfl rfl ?_
        refine O.gs rfl rfl rfl rfl rfl rfl ?_
        refine O.gs rfl rfl rfl rfl rfl rfl ?_
        refine O.gs rfl rfl rfl rfl rfl rfl ?_
        refine O.gs rfl rfl rfl rfl rfl rfl ?_
        refine O.gs rfl rfl rfl rfl rfl rfl ?_
        refine O.gs rfl rfl rfl rfl rfl rfl ?_
        refine O.gs rfl rfl rfl rfl rfl rfl ?_
        refine O.p rfl rfl rfl (Pu.pickF rfl rfl rfl) ?_
        refine O.p rfl rfl rfl (Pu.move rfl rfl) ?_
        refine O.gp rfl rfl rfl rfl rfl (Pu.move rfl rfl) ?_
        refine O.gp rfl rfl rfl rfl rfl (Pu.isT (by decide) (Pu.eql rfl rfl rfl)) ?_
        refine O.gp rfl rfl rfl rfl rfl (Pu.move rfl rfl) ?_
        refine O.gp rfl rfl rfl rfl rfl (Pu.move rfl rfl) ?_
        refine O.gp rfl rfl rfl rfl rfl (Pu.add64 (r := ((a + 1 : Nat) : Int)) rfl (by omega) rfl rfl rfl) ?_
        refine O.gp rfl rfl rfl rfl rfl (Pu.move rfl rfl) ?_
        refine O.gp rfl rfl rfl rfl rfl (Pu.add64 (r := ((b + 1 : Nat) : Int)) rfl (by omega) rfl rfl rfl) ?_
        refine O.gp rfl rfl rfl rfl rfl (Pu.xor (m := a + 1) (n := b + 1) K64.i (by omega) (by omega) rfl rfl rfl) ?_
        refine O.gp rfl rfl rfl rfl rfl (Pu.move rfl rfl) ?_
        refine O.gp rfl rfl rfl rfl rfl (Pu.add64 (r := ((e + 1 : Nat) : Int)) rfl (by omega) rfl rfl rfl) ?_
        refine O.gp rfl rfl rfl rfl rfl (Pu.xor (m := (a + 1 ^^^ b + 1)) (n := e + 1) K64.i (xor_lt (by omega) (by omega)) (by omega) rfl rfl rfl) ?_
        refine O.gp rfl rfl rfl rfl rfl (Pu.eql rfl rfl rfl) ?_
        refine O.gp rfl rfl rfl rfl rfl (Pu.pickT rfl rfl rfl) ?_
        refine O.p rfl rfl rfl (Pu.pickF rfl rfl rfl) ?_
        refine O.nil ?_
        refine X.next ?_
        refine V.condD rfl (fun c4 => ?_) (fun c4 => ?_)
        · skip
          refine V.region ?_
          refine O.p rfl rfl rfl (Pu.move rfl rfl) ?_
          refine O.p rfl rfl rfl (Pu.move rfl rfl) ?_
          refine O.p rfl rfl rfl (Pu.move rfl rfl) ?_
          refine O.p rfl rfl rfl (Pu.move rfl rfl) ?_
          refine O.p rfl rfl rfl (Pu.buildA (cs := [.int .i64 (↑a : Int), .int .i64 (↑b : Int), .int .i64 (↑e : Int)]) (v := B3.v ((↑a : Int), (↑b : Int), (↑e : Int))) rfl rfl Try.underlying56 zr56 sz2 rfl (by kernel_rfl)) ?_
          refine O.e rfl rfl rfl (Ef.build B3C ([((↑a : Int), (↑b : Int), (↑e : Int))] : List B3) rfl Try.underlying24 inf56 rfl rfl rfl (by first | decide | (simp; done)) (by kernel_rfl)) ?_
          rintro _ _ ⟨A2, hA2, rfl, rfl⟩
          refine O.e rfl rfl rfl (Ef.append (xs := z2) (ys := ([((↑a : Int), (↑b : Int), (↑e : Int))] : List B3)) 1 rfl Try.underlying24 inf56 rfl rfl rfl rfl rfl rfl hA2 (Ld.own 0 (by exact rfl)) (by simp only [List.length_append, List.length_cons, List.length_nil] at *; omega) (by decide)) ?_
          rintro _ _ ⟨A3, k1, rfl, rfl, hA3⟩
          replace hA3 := hA3 (.inr (by simp))
          refine O.p rfl rfl rfl (Pu.assign rfl rfl) ?_
          refine O.nil ?_
          refine X.blockNormal ?_
          refine X.next ?_
          refine V.region ?_
          refine O.p rfl rfl rfl (Pu.move rfl rfl) ?_
          refine O.p rfl rfl rfl (Pu.add64 (r := ((e + 1 : Nat) : Int)) rfl (by omega) rfl rfl rfl) ?_
          refine O.p rfl rfl rfl (Pu.assign rfl rfl) ?_
          refine O.nil ?_
          exact X.back3 (A3, k1, (z2 ++ ([((↑a : Int), (↑b : Int), (↑e : Int))] : List B3)), e + 1) (by (try dsimp only); exact ⟨by omega, by omega, (by first | exact hg2 | exact good_snoc hg2 (by unfold good; simp only; omega)), (by first | omega | (simp only [List.length_append, List.length_singleton]; omega))⟩) (by first | omega | (dsimp only; omega)) (Ent.cons rfl (Ent.cons rfl (Ent.nil _))) (Ent.cons (t := 2) rfl (Ent.cons (t := 5) rfl (Ent.cons (t := 6) rfl (Ent.cons (t := 7) rfl (Ent.nil _))))) (Sub.keep 1 rfl (Sub.keep 1 rfl (Sub.nil _)))
        · skip
          refine V.skip ?_
          refine X.blockNormal ?_
          refine X.next ?_
          refine V.region ?_
          refine O.p rfl rfl rfl (Pu.move rfl rfl) ?_
          refine O.p rfl rfl rfl (Pu.add64 (r := ((e + 1 : Nat) : Int)) rfl (by omega) rfl rfl rfl) ?_
          refine O.p rfl rfl rfl (Pu.assign rfl rfl) ?_
          refine O.nil ?_
          exact X.back3 (z2A, z2c, z2, e + 1) (by (try dsimp only); exact ⟨by omega, by omega, (by first | exact hg2 | exact good_snoc hg2 (by unfold good; simp only; omega)), (by first | omega | (simp only [List.length_append, List.length_singleton]; omega))⟩) (by first | omega | (dsimp only; omega)) (Ent.cons rfl (Ent.cons rfl (Ent.nil _))) (Ent.cons (t := 2) rfl (Ent.cons (t := 5) rfl (Ent.cons (t := 6) rfl (Ent.cons (t := 7) rfl (Ent.nil _))))) (Sub.keep 0 rfl (Sub.keep 0 rfl (Sub.nil _)))
      · skip
        refine V.exit ?_
        refine X.thenExit ?_
        refine X.thenExit ?_
        refine X.blockHit ?_
        refine X.blockNormal ?_
        refine X.next ?_
        refine V.region ?_
        refine O.p rfl rfl rfl (Pu.move rfl rfl) ?_
        refine O.p rfl rfl rfl (Pu.add64 (r := ((b + 1 : Nat) : Int)) rfl (by omega) rfl rfl rfl) ?_
        refine O.p rfl rfl rfl (Pu.assign rfl rfl) ?_
        refine O.nil ?_
        exact X.back3 (z2A, z2c, z2, b + 1) (by (try dsimp only); exact ⟨by omega, by omega, hg2, by omega⟩) (by first | omega | (dsimp only; omega)) (Ent.cons rfl (Ent.cons rfl (Ent.nil _))) (Ent.cons (t := 2) rfl (Ent.cons (t := 5) rfl (Ent.cons (t := 6) rfl (Ent.nil _)))) (Sub.keep 0 rfl (Sub.keep 0 rfl (Sub.nil _)))
    · skip
      refine V.exit ?_
      refine X.thenExit ?_
      refine X.thenExit ?_
      refine X.blockHit ?_
      refine X.blockNormal ?_
      refine X.next ?_
      refine V.region ?_
      refine O.p rfl rfl rfl (Pu.move rfl rfl) ?_
      refine O.p rfl rfl rfl (Pu.add64 (r := ((a + 1 : Nat) : Int)) rfl (by omega) rfl rfl rfl) ?_
      refine O.p rfl rfl rfl (Pu.assign rfl rfl) ?_
      refine O.nil ?_
      exact X.back3 (z1A, z1c, z1, a + 1) (by (try dsimp only); exact ⟨by omega, hg1, by omega⟩) (by first | omega | (dsimp only; omega)) (Ent.cons rfl (Ent.cons rfl (Ent.nil _))) (Ent.cons (t := 2) rfl (Ent.cons (t := 5) rfl (Ent.nil _))) (Sub.keep 0 rfl (Sub.keep 0 rfl (Sub.nil _)))
  · skip
    refine V.exit ?_
    refine X.thenExit ?_
    refine X.thenExit ?_
    refine X.blockHit ?_
    refine X.next ?_
    refine V.seq ?_
    refine V.region ?_
    refine O.p rfl rfl rfl (Pu.move rfl rfl) ?_
    refine O.p rfl rfl rfl (Pu.move rfl rfl) ?_
    refine O.e rfl rfl rfl (Ef.call1 call62 rfl rfl (fun w hw => l01Made_ok  (15 : Int) z0 _ _ w ((Ld.own 0 (by exact rfl)) w hw) (by first | omega | (simp only [tops_len, conts_len, bl, List.length_append, List.length_cons, List.length_nil] at *; omega)) (by first | assumption | omega | (try dsimp only at *; omega)))) ?_
    rintro _ _ rfl
    refine O.exi (fun r1A => ?_)
    refine O.exi (fun r1c => ?_)
    refine O.exi (fun r1 => ?_)
    refine O.sep ?_
    refine O.pur ?_
    rintro ⟨rfl, hr1_1, hr1_2⟩
    refine O.s rfl rfl (Ef.storeAll 2 rfl sz26 rfl rfl rfl rfl (by simp [Value.oneCell']) rfl) ?_
    rintro _ _ rfl
    refine O.p rfl rfl rfl (Pu.assign rfl rfl) ?_
    refine O.nil ?_
    refine X.next ?_
    refine V.ret ?_
    refine X.blockRet ?_
    refine X.thenRet ?_
    refine X.retCell2 rfl ag26 sz26 rfl rfl rfl (Ld.whole 2 rfl) ?_
    exact fun w hw => St.mkExi r1A (St.mkExi r1c (St.mkExi r1 (St.unsep (St.addPur ⟨rfl, DrS.perm ⟨by decide, hg0, by omega⟩ hr1_1⟩ (hw.sub (Sub.keep 0 rfl (Sub.nil _)))))))
theorem l01NamedAny_ok (x : ByteArray) (w : World) (hx : x ∈ nmL) : Does Try.prog 48 [.string x] w [] (fun v => [.exi fun pv : Int => .exi fun rA : Option Addr => .exi fun rc : Nat => .exi fun r : List B3 => .sep (.pur (v = .tuple #[.agg #[.int .i64 pv, .slice rA r.length rc], .bool true] ∧ DrS 4000 pv r)) (Own 56 B3C rA rc r)]) := by
  unfold nmL at hx
  simp only [List.mem_cons, List.not_mem_nil, or_false] at hx
  rcases hx with rfl | rfl | rfl | rfl | rfl | rfl
  · exact (l01NamedD0_ok w).mono (fun v w hs => St.mkExi 3 hs)
  · exact (l01NamedD1_ok w).mono (fun v w hs => St.mkExi 7 hs)
  · exact (l01NamedD2_ok w).mono (fun v w hs => St.mkExi 9 hs)
  · exact (l01NamedD3_ok w).mono (fun v w hs => St.mkExi 13 hs)
  · exact (l01NamedD4_ok w).mono (fun v w hs => St.mkExi 15 hs)
  · exact (l01NamedD5_ok w).mono (fun v w hs => St.mkExi 15 hs)
theorem l01OwnN_ok (xs : List Int) (n : Nat) (A : Option Addr) (c : Nat) (w : World) (hn : n = xs.length) (hx : Rd I64 w A xs) (hA : A.isSome = true) (lx : xs.length ≤ 1099511627776) : Does Try.prog 63 [.slice A n c] w [] (fun v => [.exi fun p : (Option Addr × Nat) × List Int => .sep (.pur (v = .slice p.1.1 p.2.length p.1.2 ∧ p.2 = xs)) (Own 2 I64 p.1.1 p.1.2 p.2)]) := by
  subst hn
  exact l01Own_ok xs A c w hx hA lx
set_option maxRecDepth 100000 in
set_option maxHeartbeats 1000000 in
theorem l01DrawOrder_ok (cA : Option Addr) (cc : Nat) (code : List UInt8) (s : Nat) (n : Int) (w0 : World) (H : List Assn) (hc : Rd U8C w0 cA code) (lc : code.length ≤ 1048576) (hn : 0 ≤ n ∧ n ≤ 1000) : Does Try.prog 45 [.pointer (some ⟨s, 0, none⟩), .int .i64 n] w0 (SrcK 73 cA cc code s :: H) (fun rv_ => [.exi fun (rA : Option Addr) => .exi fun (rc : Nat) => .exi fun (r : List Int) => .sep (.pur (rv_ = .slice rA r.length rc ∧ OrdP n r)) (.sep (Own 2 I64 rA rc r) (SrcK 73 cA cc code s))] ++ H) := by
  refine Does.enter Try.func45 rfl rfl [(0, .pointer (some ⟨s, 0, none⟩)), (1, .int .i64 n)] rfl ?_
  refine V.seq ?_
  refine V.region ?_
  refine O.p rfl rfl rfl (Pu.assign rfl rfl) ?_
  refine O.nil ?_
  refine X.next ?_
  refine V.seq ?_
  refine V.region ?_
  refine O.e rfl rfl rfl (Ef.build I64 ([] : List Int) rfl Try.underlying34 inf2 rfl rfl rfl (by first | decide | (simp; done)) (by kernel_rfl)) ?_
  rintro _ _ ⟨A1, hA1, rfl, rfl⟩
  refine O.p rfl rfl rfl (Pu.assign rfl rfl) ?_
  refine O.nil ?_
  refine X.next ?_
  refine V.seq ?_
  refine V.seq ?_
  refine V.region ?_
  refine O.p rfl rfl rfl (Pu.assign rfl rfl) ?_
  refine O.nil ?_
  refine X.next ?_
  refine V.block ?_
  refine V.loop3 (β := (Option Addr) × Nat × (List Int) × Nat) (fun x => [(5, .slice x.1 x.2.2.1.length x.2.1), (6, .int .i64 (x.2.2.2 : Int))]) _ (fun x => [Own 2 I64 x.1 x.2.1 x.2.2.1]) _ (fun x => x.2.2.2 ≤ n.toNat ∧ OrdP (x.2.2.2 : Int) x.2.2.1 ∧ x.1.isSome = true) (fun x => n.toNat - x.2.2.2) (A1, 0, ([] : List Int), 0) (by (try dsimp only); exact ⟨by omega, ord_nil, hA1⟩) (Ent.cons rfl (Ent.cons rfl (Ent.nil _))) (Ent.cons (t := 0) rfl (Ent.cons (t := 1) rfl (Ent.nil _))) (Sub.keep 0 rfl (Sub.keep 0 rfl (Sub.refl _))) ?_
  rintro ⟨outA, outc, out, i⟩ ⟨hi, ho, hoS⟩
  dsimp only at hi ho hoS ⊢
  have hol := ho.1
  refine V.seq ?_
  refine V.seq ?_
  refine V.region ?_
  refine O.p rfl rfl rfl (Pu.move rfl rfl) ?_
  refine O.p rfl rfl rfl (Pu.move rfl rfl) ?_
  refine O.p rfl rfl rfl (Pu.lss rfl rfl rfl) ?_
  refine O.nil ?_
  refine X.next ?_
  refine V.condD rfl (fun c1 => ?_) (fun c1 => ?_)
  · skip
    refine V.skip ?_
    refine X.next ?_
    refine V.seq ?_
    refine V.block ?_
    refine V.seq ?_
    refine V.region ?_
    refine O.p rfl rfl rfl (Pu.move rfl rfl) ?_
    refine O.p rfl rfl rfl (Pu.move rfl rfl) ?_
    refine O.p rfl rfl rfl (Pu.add64 (r := ((i + 1 : Nat) : Int)) rfl (by omega) rfl rfl rfl) ?_
    refine O.e rfl rfl rfl (Ef.call call35 rfl rfl (Does.pre (fun w hw => hw.sub (Sub.keep 1 rfl (Sub.keep 0 rfl (Sub.refl _)))) (l01Next_ok _ _ _ s (↑(i + 1) : Int) w0 _   (by first | assumption | omega | (try dsimp only at *; omega)) (by first | assumption | omega | (try dsimp only at *; omega))))) ?_
    rintro _ _ rfl
    refine O.exi (fun r1 => ?_)
    refine O.sep ?_
    refine O.pur ?_
    rintro ⟨rfl, hr1_1, hr1_2, hr1_3⟩
    refine O.p rfl rfl rfl (Pu.assign rfl rfl) ?_
    refine O.nil ?_
    refine X.next ?_
    refine V.fact (fun w hw => Own.cap hw (i := 1) rfl) (fun hcap => ?_)
    have hol := ho.1
    have hdl : (out.drop r1.toNat).length = out.length - r1.toNat := List.length_drop
    refine V.draw mo (by kernel_rfl) (fun hwf => ?_)
    refine D.p 0 rfl rfl rfl rfl rfl rfl (Pu.move rfl rfl) ?_
    refine D.p 1 rfl rfl rfl rfl rfl rfl (Pu.move rfl rfl) ?_
    refine D.p 2 rfl rfl rfl rfl rfl rfl (Pu.sliceH ((r1).toNat) rfl Try.underlying34 sz2 rfl rfl (by omega) (by omega)) ?_
    refine D.p 4 rfl rfl rfl rfl rfl rfl (Pu.move rfl rfl) ?_
    refine D.p 7 rfl rfl rfl rfl rfl rfl (Pu.move rfl rfl) ?_
    refine D.p 8 rfl rfl rfl rfl rfl rfl (Pu.move rfl rfl) ?_
    refine D.p 9 rfl rfl rfl rfl rfl rfl (Pu.sliceL ((r1).toNat) rfl Try.underlying34 sz2 rfl rfl (by omega) (by omega)) ?_
    refine D.twoBC hwf (e1 := 5) (e2 := 3) rfl rfl rfl rfl rfl rfl rfl rfl rfl rfl rfl rfl rfl rfl rfl rfl rfl (fun H hs => Ef.build I64 ([(↑i : Int)] : List Int) rfl Try.underlying34 inf2 rfl rfl rfl (by first | decide | (simp; done)) (by kernel_rfl)) (fun H hs => Ef.call1 call63 rfl rfl (fun w hw => l01OwnN_ok (out.take ((r1).toNat)) _ _ _ w (by rw [List.length_take]; omega) (((Ld.own 1 (by exact rfl)) w (hs w hw)).take ((r1).toNat)) hoS (by rw [List.length_take]; omega))) ?_
    rintro A2 _ hA2
    refine D.exi (fun p1 => ?_)
    refine D.sep ?_
    refine D.pur1 ?_
    rintro ⟨rfl, hp1⟩
    have hpl : p1.2.length = r1.toNat := by rw [hp1, List.length_take]; omega
    refine D.eff hwf (e := 6) rfl rfl rfl rfl (Ef.append (xs := p1.2) (ys := ([(↑i : Int)] : List Int)) 0 rfl Try.underlying34 inf2 rfl rfl rfl rfl rfl rfl hA2 (Ld.own 1 (by exact rfl)) (by simp only [List.length_append, List.length_cons, List.length_nil] at *; omega) (by decide)) rfl rfl rfl ?_
    rintro _ _ ⟨A3, k1, rfl, rfl, hA3⟩ hs
    replace hA3 := hA3 (.inr (by simp))
    refine ⟨fun w hw => hw.sub (Sub.keep 2 rfl (Sub.keep 2 rfl (Sub.drop (Sub.drop (Sub.refl _))))), ?_⟩
    refine D.eff hwf (e := 10) rfl rfl rfl rfl (Ef.append (xs := (p1.2 ++ ([(↑i : Int)] : List Int))) (ys := (out.drop ((r1).toNat))) 0 rfl Try.underlying34 inf2 rfl rfl rfl rfl rfl (by first | (simp only [List.length_take, List.length_drop]; done) | (simp only [List.length_take, List.length_drop]; omega)) (by split <;> simp [hoS]) (fun w hw => ((Ld.own 3 (by exact rfl)) w hw).drop rfl (Own.cap hw (i := 3) (by exact rfl))) (by simp only [List.length_append, List.length_cons, List.length_nil] at *; omega) (by decide)) rfl rfl rfl ?_
    rintro _ _ ⟨A4, k2, rfl, rfl, hA4⟩ hs
    replace hA4 := hA4 (.inl hA3)
    refine ⟨fun w hw => hw.sub (Sub.keep 2 rfl (Sub.keep 2 rfl (Sub.drop (Sub.drop (Sub.refl _))))), ?_⟩
    refine D.last hwf (e := 11) rfl rfl rfl rfl rfl rfl (Pu.assign rfl rfl) ?_
    refine X.blockNormal ?_
    refine X.next ?_
    refine V.region ?_
    refine O.p rfl rfl rfl (Pu.move rfl rfl) ?_
    refine O.p rfl rfl rfl (Pu.add64 (r := ((i + 1 : Nat) : Int)) rfl (by omega) rfl rfl rfl) ?_
    refine O.p rfl rfl rfl (Pu.assign rfl rfl) ?_
    refine O.nil ?_
    exact X.back3 (A4, k2, ((p1.2 ++ ([(↑i : Int)] : List Int)) ++ (out.drop ((r1).toNat))), i + 1) (by (try dsimp only); exact ⟨by omega, by rw [hp1]; exact ord_ins ho, hA4⟩) (by first | omega | (dsimp only; omega)) (Ent.cons rfl (Ent.cons rfl (Ent.nil _))) (Ent.cons (t := 0) rfl (Ent.cons (t := 1) rfl (Ent.nil _))) (Sub.keep 0 rfl (Sub.keep 1 rfl (Sub.drop (Sub.drop (Sub.refl _)))))
  · skip
    refine V.exit ?_
    refine X.thenExit ?_
    refine X.thenExit ?_
    refine X.blockHit ?_
    refine X.next ?_
    refine V.seq ?_
    refine V.region ?_
    refine O.p rfl rfl rfl (Pu.move rfl rfl) ?_
    refine O.p rfl rfl rfl (Pu.assign rfl rfl) ?_
    refine O.nil ?_
    refine X.next ?_
    refine V.ret ?_
    refine X.ret1 rfl rfl ?_
    exact fun w hw => St.mkExi outA (St.mkExi outc (St.mkExi out (St.unsep (St.addPur ⟨rfl, (by have e : (i : Int) = n := (by omega); rw [← e]; exact ho)⟩ (St.unsep (hw.sub (Sub.keep 0 rfl (Sub.keep 0 rfl (Sub.refl _)))))))))
set_option maxRecDepth 100000 in
set_option maxHeartbeats 1000000 in
theorem l01Free_ok (v : Int) (bs : List B3) (b : B3) (A : Option Addr) (c : Nat) (w : World) (hx : Rd B3C w A bs) (lx : bs.length ≤ 4611686018427387904) : Does Try.prog 86 [.agg #[.int .i64 v, .slice A bs.length c], B3.v b] w [] (fun r => [.pur (r = .bool (decide (∀ d ∈ bs, common d b ≤ 1)))]) := by
  refine Does.enter Try.func86 rfl rfl [(0, .agg #[.int .i64 v, .slice A bs.length c]), (1, B3.v b)] rfl ?_
  refine V.seq ?_
  refine V.region ?_
  refine O.e rfl rfl rfl (Ef.box rfl rfl rfl) ?_
  rintro _ _ ⟨b1, rfl, rfl⟩
  refine O.e rfl rfl rfl (Ef.box rfl rfl rfl) ?_
  rintro _ _ ⟨b2, rfl, rfl⟩
  refine O.p rfl rfl rfl (Pu.assign rfl rfl) ?_
  refine O.nil ?_
  refine X.next ?_
  refine V.seq ?_
  refine V.seq ?_
  refine V.region ?_
  refine O.p rfl rfl rfl (Pu.assign rfl rfl) ?_
  refine O.nil ?_
  refine X.next ?_
  refine V.block ?_
  refine V.loop3 (β := Nat) (fun i => [(5, .int .i64 (i : Int))]) _ (fun i => []) _ (fun i => i ≤ bs.length ∧ ∀ j (hj : j < bs.length), j < i → common bs[j] b ≤ 1) (fun i => bs.length - i) 0 ⟨by omega, fun j hj h => by omega⟩ (Ent.cons rfl (Ent.nil _)) (Ent.cons (t := 2) rfl (Ent.cons (t := 3) rfl (Ent.nil _))) (Sub.keep 0 rfl (Sub.keep 0 rfl (Sub.nil _))) ?_
  rintro i ⟨hi, hn⟩
  refine V.seq ?_
  refine V.seq ?_
  refine V.region ?_
  refine O.p rfl rfl rfl (Pu.move rfl rfl) ?_
  refine O.p rfl rfl rfl (Pu.fieldAddr 1 rfl Try.underlying26 rfl sz24 rfl rfl) ?_
  refine O.p rfl rfl rfl (Pu.load rfl pl24 rfl (Ld.blk 1 rfl rfl)) ?_
  refine O.p rfl rfl rfl (Pu.len rfl Try.underlying24 rfl) ?_
  refine O.p rfl rfl rfl (Pu.lss rfl rfl rfl) ?_
  refine O.nil ?_
  refine X.next ?_
  refine V.condD rfl (fun c1 => ?_) (fun c1 => ?_)
  · skip
    refine V.skip ?_
    refine X.next ?_
    refine V.seq ?_
    refine V.block ?_
    refine V.seq ?_
    refine V.draw mo (by kernel_rfl) (fun hwf => ?_)
    refine D.p 0 rfl rfl rfl rfl rfl rfl (Pu.fieldAddr 1 rfl Try.underlying26 rfl sz24 rfl rfl) ?_
    refine D.p 1 rfl rfl rfl rfl rfl rfl (Pu.load rfl pl24 rfl (Ld.blk 1 rfl rfl)) ?_
    refine D.p 2 rfl rfl rfl rfl rfl rfl (Pu.move rfl rfl) ?_
    refine D.p 3 rfl rfl rfl rfl rfl rfl (Pu.indexAddr (i) rfl Try.underlying24 sz56 rfl rfl (by omega) (by omega) (hx.some (by omega))) ?_
    have e1 : i < bs.length := by omega
    refine D.p 4 rfl rfl rfl rfl rfl rfl (Pu.loadAgg' (v := B3.v (bs[i]'e1)) rfl rfl ag56 sz56 rfl rfl (Ld.rds (Ld.old hx) (k := i) e1 rfl)) ?_
    refine D.p 5 rfl rfl rfl rfl rfl rfl (Pu.loadAgg' (v := B3.v b) rfl rfl ag56 sz56 rfl rfl (Ld.whole 0 rfl)) ?_
    refine D.eff hwf (e := 6) rfl rfl rfl rfl (Ef.callP call74 rfl rfl (fun w hw => l01Common_ok _ _ _)) rfl rfl rfl ?_
    rintro _ _ ⟨rfl, rfl⟩ hs
    refine ⟨fun w hw => hw, ?_⟩
    refine D.p 7 rfl rfl rfl rfl rfl rfl (Pu.gtr rfl rfl rfl) ?_
    refine D.done hwf rfl ?_
    refine X.next ?_
    refine V.condD rfl (fun c2 => ?_) (fun c2 => ?_)
    · skip
      refine V.seq ?_
      refine V.region ?_
      refine O.p rfl rfl rfl (Pu.assign rfl rfl) ?_
      refine O.nil ?_
      refine X.next ?_
      refine V.ret ?_
      refine X.blockRet ?_
      refine X.thenRet ?_
      refine X.thenRet ?_
      refine X.blockRet ?_
      refine X.thenRet ?_
      refine X.ret1 rfl rfl ?_
      exact fun w hw => St.retP (boolF (fun h => by have := h _ (List.getElem_mem e1); omega)) hw
    · skip
      refine V.skip ?_
      refine X.blockNormal ?_
      refine X.next ?_
      refine V.region ?_
      refine O.p rfl rfl rfl (Pu.move rfl rfl) ?_
      refine O.p rfl rfl rfl (Pu.add64 (r := ((i + 1 : Nat) : Int)) rfl (by omega) rfl rfl rfl) ?_
      refine O.p rfl rfl rfl (Pu.assign rfl rfl) ?_
      refine O.nil ?_
      exact X.back3 (i + 1) ⟨by omega, fun j hj h => by by_cases e : j = i; (· subst e; omega); (· exact hn j hj (by omega))⟩ (by first | omega | (dsimp only; omega)) (Ent.cons rfl (Ent.nil _)) (Ent.cons (t := 2) rfl (Ent.cons (t := 3) rfl (Ent.nil _))) (Sub.keep 0 rfl (Sub.keep 0 rfl (Sub.nil _)))
  · skip
    refine V.exit ?_
    refine X.thenExit ?_
    refine X.thenExit ?_
    refine X.blockHit ?_
    refine X.next ?_
    refine V.seq ?_
    refine V.region ?_
    refine O.p rfl rfl rfl (Pu.assign rfl rfl) ?_
    refine O.nil ?_
    refine X.next ?_
    refine V.ret ?_
    refine X.ret1 rfl rfl ?_
    exact fun w hw => St.retP (boolT (fun d hd => by obtain ⟨j, hj, rfl⟩ := List.getElem_of_mem hd; exact hn j hj (by omega))) hw
set_option maxRecDepth 100000 in
set_option maxHeartbeats 1000000 in
theorem l01DrawOf_ok (cA : Option Addr) (cc : Nat) (code : List UInt8) (s : Nat) (v_ : Int) (w0 : World) (H : List Assn) (hc : Rd U8C w0 cA code) (lc : code.length ≤ 1048576) (hv : 3 ≤ v_ ∧ v_ ≤ 15) : Does Try.prog 73 [.pointer (some ⟨s, 0, none⟩), .int .i64 v_] w0 (SrcK 73 cA cc code s :: H) (fun rv_ => [.exi fun (rA : Option Addr) => .exi fun (rc : Nat) => .exi fun (r : List B3) => .sep (.pur (rv_ = .agg #[.int .i64 v_, .slice rA r.length rc] ∧ DrS 40 v_ r)) (.sep (Own 56 B3C rA rc r) (SrcK 73 cA cc code s))] ++ H) := by
  refine Does.enter Try.func73 rfl rfl [(0, .pointer (some ⟨s, 0, none⟩)), (1, .int .i64 v_)] rfl ?_
  refine V.seq ?_
  refine V.region ?_
  refine O.e rfl rfl rfl (Ef.alloc rfl zr26 rfl) ?_
  rintro _ _ ⟨b1, rfl, rfl⟩
  refine O.nil ?_
  refine X.next ?_
  refine V.seq ?_
  refine V.region ?_
  refine O.p rfl rfl rfl (Pu.move rfl rfl) ?_
  refine O.e rfl rfl rfl (Ef.build B3C ([] : List B3) rfl Try.underlying24 inf56 rfl rfl rfl (by first | decide | (simp; done)) (by kernel_rfl)) ?_
  rintro _ _ ⟨A1, hA1, rfl, rfl⟩
  refine O.p rfl rfl rfl (Pu.buildS (cs := [.int .i64 v_, .slice A1 0 0]) rfl rfl Try.underlying26 zr26 (by kernel_rfl) rfl (by kernel_rfl)) ?_
  refine O.e rfl rfl rfl (Ef.alloc rfl zr26 rfl) ?_
  rintro _ _ ⟨b2, rfl, rfl⟩
  refine O.s rfl rfl (Ef.storeAll 0 rfl sz26 rfl rfl rfl rfl (by simp [Value.oneCell']) rfl) ?_
  rintro _ _ rfl
  refine O.nil ?_
  refine X.next ?_
  refine V.seq ?_
  refine V.seq ?_
  refine V.region ?_
  refine O.p rfl rfl rfl (Pu.move rfl rfl) ?_
  refine O.p rfl rfl rfl (Pu.move rfl rfl) ?_
  refine O.e rfl rfl rfl (Ef.build I64 ([(4 : Int), (12 : Int), (40 : Int)] : List Int) rfl Try.underlying34 inf2 rfl rfl rfl (by first | decide | (simp; done)) (by kernel_rfl)) ?_
  rintro _ _ ⟨A2, hA2, rfl, rfl⟩
  refine O.e rfl rfl rfl (Ef.call call34 rfl rfl (Does.pre (fun w hw => hw.sub (Sub.keep 4 rfl (Sub.keep 0 rfl (Sub.keep 0 rfl (Sub.keep 0 rfl (Sub.keep 0 rfl (Sub.refl _))))))) (l01Pick_ok _ _ _ s ([(4 : Int), (12 : Int), (40 : Int)] : List Int) _ _ w0 _ (Ld.own 0 (by exact rfl)) (by first | omega | (simp only [tops_len, conts_len, bl, List.length_append, List.length_cons, List.length_nil] at *; omega)) (by first | assumption | omega | (try dsimp only at *; omega)) (by first | assumption | omega | (try dsimp only at *; omega)) (by first | (simp; done) | omega)))) ?_
  rintro _ _ rfl
  refine O.exi (fun r1 => ?_)
  refine O.sep ?_
  refine O.pur ?_
  rintro ⟨rfl, hr1_1⟩
  have hp40 : 0 ≤ r1 ∧ r1 ≤ 40 := by simp only [List.mem_cons, List.not_mem_nil, or_false] at hr1_1; omega
  refine O.e rfl rfl rfl (Ef.call call35 rfl rfl (Does.pre (fun w hw => hw.sub (Sub.keep 0 rfl (Sub.keep 0 rfl (Sub.keep 0 rfl (Sub.keep 0 rfl (Sub.keep 0 rfl (Sub.refl _))))))) (l01Next_ok _ _ _ s r1 w0 _   (by first | assumption | omega | (try dsimp only at *; omega)) (by first | assumption | omega | (try dsimp only at *; omega))))) ?_
  rintro _ _ rfl
  refine O.exi (fun r2 => ?_)
  refine O.sep ?_
  refine O.pur ?_
  rintro ⟨rfl, hr2_1, hr2_2, hr2_3⟩
  refine O.p rfl rfl rfl (Pu.assign rfl rfl) ?_
  refine O.nil ?_
  refine X.next ?_
  refine V.block ?_
  refine V.loop3 (β := Int × (Option Addr) × Nat × (List B3)) (fun x => [(6, .int .i64 (x.1 : Int))]) _ (fun x => [Blk b2 [.int .i64 v_, .slice x.2.1 x.2.2.2.length x.2.2.1] 26, Own 56 B3C x.2.1 x.2.2.1 x.2.2.2]) _ (fun x => (∀ b ∈ x.2.2.2, good v_ b) ∧ x.2.2.2.length + x.1.toNat ≤ 40) (fun x => x.1.toNat) (r2, A1, 0, ([] : List B3)) (by (try dsimp only); exact ⟨by simp, by simp only [List.length_nil]; omega⟩) (Ent.cons rfl (Ent.nil _)) (Ent.cons (t := 0) rfl (Ent.cons (t := 1) rfl (Ent.cons (t := 4) rfl (Ent.cons (t := 5) rfl (Ent.nil _))))) (Sub.keep 2 rfl (Sub.keep 2 rfl (Sub.keep 0 rfl (Sub.keep 0 rfl (Sub.keep 0 rfl (Sub.refl _)))))) ?_
  rintro ⟨k, xsA, xsc, xs⟩ ⟨hg, hl⟩
  dsimp only at hg hl ⊢
  refine V.seq ?_
  refine V.seq ?_
  refine V.region ?_
  refine O.p rfl rfl rfl (Pu.move rfl rfl) ?_
  refine O.p rfl rfl rfl (Pu.gtr rfl rfl rfl) ?_
  refine O.nil ?_
  refine X.next ?_
  refine V.condD rfl (fun c1 => ?_) (fun c1 => ?_)
  · skip
    refine V.skip ?_
    refine X.next ?_
    refine V.seq ?_
    refine V.block ?_
    refine V.seq ?_
    refine V.region ?_
    refine O.p rfl rfl rfl (Pu.move rfl rfl) ?_
    refine O.p rfl rfl rfl (Pu.move rfl rfl) ?_
    refine O.e rfl rfl rfl (Ef.call call45 rfl rfl (Does.pre (fun w hw => hw.sub (Sub.keep 2 rfl (Sub.keep 0 rfl (Sub.keep 0 rfl (Sub.keep 0 rfl (Sub.keep 0 rfl (Sub.refl _))))))) (l01DrawOrder_ok _ _ _ s v_ w0 _   (by first | assumption | omega | (try dsimp only at *; omega)) (by first | assumption | omega | (try dsimp only at *; omega)) (by omega)))) ?_
    rintro _ _ rfl
    refine O.exi (fun r3A => ?_)
    refine O.exi (fun r3c => ?_)
    refine O.exi (fun r3 => ?_)
    refine O.sep ?_
    refine O.pur ?_
    rintro ⟨rfl, hr3_1⟩
    refine O.sep ?_
    refine O.p rfl rfl rfl (Pu.assign rfl rfl) ?_
    refine O.nil ?_
    refine X.next ?_
    refine V.seq ?_
    have hol := hr3_1.1
    have g0 := ord_at hr3_1 (i := 0) (by omega)
    have g1 := ord_at hr3_1 (i := 1) (by omega)
    have g2 := ord_at hr3_1 (i := 2) (by omega)
    have hgb := good_bk3 g0 g1 g2 (ord_ne hr3_1 (by omega) (by omega) (by decide)) (ord_ne hr3_1 (by omega) (by omega) (by decide)) (ord_ne hr3_1 (by omega) (by omega) (by decide))
    refine V.draw mo (by kernel_rfl) (fun hwf => ?_)
    refine D.p 0 rfl rfl rfl rfl rfl rfl (Pu.move rfl rfl) ?_
    refine D.p 1 rfl rfl rfl rfl rfl rfl (Pu.indexAddrS (0) rfl Try.underlying34 sz2 rfl rfl (by omega) (by omega) (fun w hw => Own.some hw (i := 0) (by exact rfl) (by omega))) ?_
    have e1 : 0 < r3.length := by omega
    refine D.p 2 rfl rfl rfl rfl rfl rfl (Pu.load rfl pl2 rfl (Ld.rd (Ld.own 0 (by exact rfl)) (k := 0) e1 rfl rfl)) ?_
    refine D.p 3 rfl rfl rfl rfl rfl rfl (Pu.move rfl rfl) ?_
    refine D.p 4 rfl rfl rfl rfl rfl rfl (Pu.indexAddrS (1) rfl Try.underlying34 sz2 rfl rfl (by omega) (by omega) (fun w hw => Own.some hw (i := 0) (by exact rfl) (by omega))) ?_
    have e2 : 1 < r3.length := by omega
    refine D.p 5 rfl rfl rfl rfl rfl rfl (Pu.load rfl pl2 rfl (Ld.rd (Ld.own 0 (by exact rfl)) (k := 1) e2 rfl rfl)) ?_
    refine D.p 6 rfl rfl rfl rfl rfl rfl (Pu.move rfl rfl) ?_
    refine D.p 7 rfl rfl rfl rfl rfl rfl (Pu.indexAddrS (2) rfl Try.underlying34 sz2 rfl rfl (by omega) (by omega) (fun w hw => Own.some hw (i := 0) (by exact rfl) (by omega))) ?_
    have e3 : 2 < r3.length := by omega
    refine D.p 8 rfl rfl rfl rfl rfl rfl (Pu.load rfl pl2 rfl (Ld.rd (Ld.own 0 (by exact rfl)) (k := 2) e3 rfl rfl)) ?_
    refine D.either hwf (e1 := 9) (e2 := 10) rfl ?_ ?_
    · skip
      refine ⟨_, _, rfl, rfl, fun _ _ => wanted_none rfl _, Ef.callP call61 rfl rfl (fun w hw => l01BlockD_ok  (r3[0]'e1) (r3[1]'e2) (r3[2]'e3) w   (by first | assumption | omega | (try dsimp only at *; omega)) (by first | assumption | omega | (try dsimp only at *; omega)) (by first | assumption | omega | (try dsimp only at *; omega))), rfl, rfl, ?_⟩
      rintro _ _ ⟨rfl, rfl⟩ hs
      refine ⟨fun w hw => hw, ?_⟩
      refine D.eff hwf (e := 10) rfl rfl rfl rfl (Ef.alloc rfl zr56 rfl) rfl rfl rfl ?_
      rintro _ _ ⟨b3, rfl, rfl⟩ hs
      refine ⟨fun w hw => hw.sub (Sub.keep 1 rfl (Sub.keep 1 rfl (Sub.keep 1 rfl (Sub.keep 1 rfl (Sub.keep 1 rfl (Sub.keep 1 rfl (Sub.drop (Sub.refl _)))))))), ?_⟩
      refine D.eff hwf (e := 11) rfl rfl rfl rfl (Ef.storeAll 0 rfl sz56 rfl rfl rfl rfl (by simp [Value.oneCell']) rfl) rfl rfl rfl ?_
      rintro _ _ rfl hs
      refine ⟨fun w hw => hw.sub (Sub.keep 1 rfl (Sub.keep 1 rfl (Sub.keep 1 rfl (Sub.keep 1 rfl (Sub.keep 1 rfl (Sub.keep 1 rfl (Sub.drop (Sub.refl _)))))))), ?_⟩
      refine D.done hwf rfl ?_
      refine X.next ?_
      refine V.seq ?_
      refine V.region ?_
      refine O.p rfl rfl rfl (Pu.loadAgg rfl ag26 sz26 rfl rfl (Ld.whole 3 rfl)) ?_
      refine O.p rfl rfl rfl (Pu.loadAgg' (v := B3.v (bk3 (r3[0]'e1) (r3[1]'e2) (r3[2]'e3))) rfl rfl ag56 sz56 rfl rfl (Ld.whole 0 rfl)) ?_
      refine O.e rfl rfl rfl (Ef.callP call86 rfl rfl (fun w hw => l01Free_ok  v_ xs (bk3 (r3[0]'e1) (r3[1]'e2) (r3[2]'e3)) _ _ w ((Ld.own 4 (by exact rfl)) w hw) (by first | omega | (simp only [tops_len, conts_len, bl, List.length_append, List.length_cons, List.length_nil] at *; omega)) )) ?_
      rintro _ _ ⟨rfl, rfl⟩
      refine O.nil ?_
      refine X.next ?_
      refine V.condD rfl (fun c2 => ?_) (fun c2 => ?_)
      · skip
        refine V.draw mo (by kernel_rfl) (fun hwf => ?_)
        refine D.p 0 rfl rfl rfl rfl rfl rfl (Pu.move rfl rfl) ?_
        refine D.p 2 rfl rfl rfl rfl rfl rfl (Pu.fieldAddr 1 rfl Try.underlying26 rfl sz24 rfl rfl) ?_
        refine D.p 3 rfl rfl rfl rfl rfl rfl (Pu.load rfl pl24 rfl (Ld.blk 3 rfl rfl)) ?_
        refine D.p 5 rfl rfl rfl rfl rfl rfl (Pu.loadAgg' (v := B3.v (bk3 (r3[0]'e1) (r3[1]'e2) (r3[2]'e3))) rfl rfl ag56 sz56 rfl rfl (Ld.whole 0 rfl)) ?_
        refine D.either hwf (e1 := 1) (e2 := 6) rfl ?_ ?_
        · skip
          refine ⟨_, _, rfl, rfl, fun _ _ => wanted_none rfl _, Ef.build B3C ([] : List B3) rfl Try.underlying24 inf56 rfl rfl rfl (by first | decide | (simp; done)) (by kernel_rfl), rfl, rfl, ?_⟩
          rintro _ _ ⟨A3, hA3, rfl, rfl⟩ hs
          refine ⟨fun w hw => hw.sub (Sub.keep 1 rfl (Sub.keep 1 rfl (Sub.keep 1 rfl (Sub.keep 1 rfl (Sub.keep 1 rfl (Sub.keep 1 rfl (Sub.keep 1 rfl (Sub.drop (Sub.refl _))))))))), ?_⟩
          refine D.either hwf (e1 := 4) (e2 := 6) rfl ?_ ?_
          · skip
            refine ⟨_, _, rfl, rfl, fun _ _ => wanted_none rfl _, Ef.appendN (xs := ([] : List B3)) (ys := xs) 0 rfl Try.underlying24 inf56 rfl rfl rfl rfl rfl rfl (fun w hw h => Own.nilc hw (i := 5) (by exact rfl) h) (Ld.own 5 (by exact rfl)) (by simp only [List.length_append, List.length_cons, List.length_nil] at *; omega) (by decide), rfl, rfl, ?_⟩
            rintro _ _ ⟨A4, k1, rfl, rfl, hA4⟩ hs
            replace hA4 := hA4 (.inl hA3)
            refine ⟨fun w hw => hw.sub (Sub.keep 1 rfl (Sub.keep 1 rfl (Sub.keep 1 rfl (Sub.keep 1 rfl (Sub.keep 1 rfl (Sub.keep 1 rfl (Sub.keep 1 rfl (Sub.drop (Sub.refl _))))))))), ?_⟩
            refine D.eff hwf (e := 6) rfl rfl rfl rfl (Ef.build B3C ([(bk3 (r3[0]'e1) (r3[1]'e2) (r3[2]'e3))] : List B3) rfl Try.underlying24 inf56 rfl rfl rfl (by first | decide | (simp; done)) (by kernel_rfl)) rfl rfl rfl ?_
            rintro _ _ ⟨A5, hA5, rfl, rfl⟩ hs
            refine ⟨fun w hw => hw.sub (Sub.keep 2 rfl (Sub.keep 2 rfl (Sub.keep 2 rfl (Sub.keep 2 rfl (Sub.keep 2 rfl (Sub.keep 2 rfl (Sub.keep 2 rfl (Sub.drop (Sub.drop (Sub.refl _)))))))))), ?_⟩
            refine D.eff hwf (e := 7) rfl rfl rfl rfl (Ef.append (xs := (([] : List B3) ++ xs)) (ys := ([(bk3 (r3[0]'e1) (r3[1]'e2) (r3[2]'e3))] : List B3)) 1 rfl Try.underlying24 inf56 rfl rfl rfl rfl rfl rfl hA5 (Ld.own 0 (by exact rfl)) (by simp only [List.length_append, List.length_cons, List.length_nil] at *; omega) (by decide)) rfl rfl rfl ?_
            rintro _ _ ⟨A6, k2, rfl, rfl, hA6⟩ hs
            replace hA6 := hA6 (.inr (by simp))
            refine ⟨fun w hw => hw.sub (Sub.keep 2 rfl (Sub.keep 2 rfl (Sub.keep 2 rfl (Sub.keep 2 rfl (Sub.keep 2 rfl (Sub.keep 2 rfl (Sub.keep 2 rfl (Sub.drop (Sub.drop (Sub.refl _)))))))))), ?_⟩
            refine D.eff hwf (e := 8) rfl rfl rfl rfl (Ef.call1 call62 rfl rfl (fun w hw => l01Made_ok  v_ ((([] : List B3) ++ xs) ++ ([(bk3 (r3[0]'e1) (r3[1]'e2) (r3[2]'e3))] : List B3)) _ _ w ((Ld.own 1 (by exact rfl)) w hw) (by first | omega | (simp only [List.length_append, List.length_cons, List.length_nil, List.length_take, List.length_drop]; omega)) (by first | omega | (simp only [List.length_append, List.length_cons, List.length_nil, List.length_take, List.length_drop]; omega)))) rfl rfl rfl ?_
            rintro _ _ rfl hs
            refine ⟨fun w hw => hs w hw.tail, ?_⟩
            refine D.exi (fun r4A => ?_)
            refine D.exi (fun r4c => ?_)
            refine D.exi (fun r4 => ?_)
            refine D.sep ?_
            refine D.pur1 ?_
            rintro ⟨rfl, hr4_1, hr4_2⟩
            refine D.effX (Hs' := []) hwf (e := 9) rfl rfl rfl rfl (Ef.storeAll 6 rfl sz26 rfl rfl rfl rfl (by simp [Value.oneCell']) rfl) rfl [] rfl (List.forall_mem_nil _) ?_
            rintro _ _ rfl
            refine ⟨fun w hw => hw.sub (Sub.nil _), ?_⟩
            refine D.done hwf rfl ?_
            refine X.blockNormal ?_
            refine X.next ?_
            refine V.region ?_
            refine O.p rfl rfl rfl (Pu.move rfl rfl) ?_
            refine O.p rfl rfl rfl (Pu.sub64 rfl (by omega) rfl rfl rfl) ?_
            refine O.p rfl rfl rfl (Pu.assign rfl rfl) ?_
            refine O.nil ?_
            exact X.back3 ((k - (1 : Int)), r4A, r4c, r4) (by (try dsimp only); exact ⟨fun d hd => good_snoc hg hgb d (hr4_1.mem_iff.1 hd), by have h := hr4_1.length_eq; simp only [List.length_append, List.length_singleton, List.length_nil] at h; omega⟩) (by first | omega | (dsimp only; omega)) (Ent.cons rfl (Ent.nil _)) (Ent.cons (t := 0) rfl (Ent.cons (t := 1) rfl (Ent.cons (t := 4) rfl (Ent.cons (t := 5) rfl (Ent.nil _))))) (Sub.keep 6 rfl (Sub.keep 0 rfl (Sub.keep 4 rfl (Sub.keep 5 rfl (Sub.keep 5 rfl (Sub.drop (Sub.drop (Sub.drop (Sub.drop (Sub.drop (Sub.refl _)))))))))))
          · skip
            refine ⟨_, _, rfl, rfl, fun _ _ => wanted_none rfl _, Ef.build B3C ([(bk3 (r3[0]'e1) (r3[1]'e2) (r3[2]'e3))] : List B3) rfl Try.underlying24 inf56 rfl rfl rfl (by first | decide | (simp; done)) (by kernel_rfl), rfl, rfl, ?_⟩
            rintro _ _ ⟨A4, hA4, rfl, rfl⟩ hs
            refine ⟨fun w hw => hw.sub (Sub.keep 2 rfl (Sub.keep 2 rfl (Sub.keep 2 rfl (Sub.keep 2 rfl (Sub.keep 2 rfl (Sub.keep 2 rfl (Sub.keep 2 rfl (Sub.drop (Sub.drop (Sub.refl _)))))))))), ?_⟩
            refine D.eff hwf (e := 4) rfl rfl rfl rfl (Ef.appendN (xs := ([] : List B3)) (ys := xs) 1 rfl Try.underlying24 inf56 rfl rfl rfl rfl rfl rfl (fun w hw h => Own.nilc hw (i := 6) (by exact rfl) h) (Ld.own 6 (by exact rfl)) (by simp only [List.length_append, List.length_cons, List.length_nil] at *; omega) (by decide)) rfl rfl rfl ?_
            rintro _ _ ⟨A5, k1, rfl, rfl, hA5⟩ hs
            replace hA5 := hA5 (.inl hA3)
            refine ⟨fun w hw => hw.sub (Sub.keep 2 rfl (Sub.keep 2 rfl (Sub.keep 2 rfl (Sub.keep 2 rfl (Sub.keep 2 rfl (Sub.keep 2 rfl (Sub.keep 2 rfl (Sub.drop (Sub.drop (Sub.refl _)))))))))), ?_⟩
            refine D.eff hwf (e := 7) rfl rfl rfl rfl (Ef.append (xs := (([] : List B3) ++ xs)) (ys := ([(bk3 (r3[0]'e1) (r3[1]'e2) (r3[2]'e3))] : List B3)) 1 rfl Try.underlying24 inf56 rfl rfl rfl rfl rfl rfl hA4 (Ld.own 0 (by exact rfl)) (by simp only [List.length_append, List.length_cons, List.length_nil] at *; omega) (by decide)) rfl rfl rfl ?_
            rintro _ _ ⟨A6, k2, rfl, rfl, hA6⟩ hs
            replace hA6 := hA6 (.inr (by simp))
            refine ⟨fun w hw => hw.sub (Sub.keep 2 rfl (Sub.keep 2 rfl (Sub.keep 2 rfl (Sub.keep 2 rfl (Sub.keep 2 rfl (Sub.keep 2 rfl (Sub.keep 2 rfl (Sub.drop (Sub.drop (Sub.refl _)))))))))), ?_⟩
            refine D.eff hwf (e := 8) rfl rfl rfl rfl (Ef.call1 call62 rfl rfl (fun w hw => l01Made_ok  v_ ((([] : List B3) ++ xs) ++ ([(bk3 (r3[0]'e1) (r3[1]'e2) (r3[2]'e3))] : List B3)) _ _ w ((Ld.own 1 (by exact rfl)) w hw) (by first | omega | (simp only [List.length_append, List.length_cons, List.length_nil, List.length_take, List.length_drop]; omega)) (by first | omega | (simp only [List.length_append, List.length_cons, List.length_nil, List.length_take, List.length_drop]; omega)))) rfl rfl rfl ?_
            rintro _ _ rfl hs
            refine ⟨fun w hw => hs w hw.tail, ?_⟩
            refine D.exi (fun r4A => ?_)
            refine D.exi (fun r4c => ?_)
            refine D.exi (fun r4 => ?_)
            refine D.sep ?_
            refine D.pur1 ?_
            rintro ⟨rfl, hr4_1, hr4_2⟩
            refine D.effX (Hs' := []) hwf (e := 9) rfl rfl rfl rfl (Ef.storeAll 6 rfl sz26 rfl rfl rfl rfl (by simp [Value.oneCell']) rfl) rfl [] rfl (List.forall_mem_nil _) ?_
            rintro _ _ rfl
            refine ⟨fun w hw => hw.sub (Sub.nil _), ?_⟩
            refine D.done hwf rfl ?_
            refine X.blockNormal ?_
            refine X.next ?_
            refine V.region ?_
            refine O.p rfl rfl rfl (Pu.move rfl rfl) ?_
            refine O.p rfl rfl rfl (Pu.sub64 rfl (by omega) rfl rfl rfl) ?_
            refine O.p rfl rfl rfl (Pu.assign rfl rfl) ?_
            refine O.nil ?_
            exact X.back3 ((k - (1 : Int)), r4A, r4c, r4) (by (try dsimp only); exact ⟨fun d hd => good_snoc hg hgb d (hr4_1.mem_iff.1 hd), by have h := hr4_1.length_eq; simp only [List.length_append, List.length_singleton, List.length_nil] at h; omega⟩) (by first | omega | (dsimp only; omega)) (Ent.cons rfl (Ent.nil _)) (Ent.cons (t := 0) rfl (Ent.cons (t := 1) rfl (Ent.cons (t := 4) rfl (Ent.cons (t := 5) rfl (Ent.nil _))))) (Sub.keep 6 rfl (Sub.keep 0 rfl (Sub.keep 4 rfl (Sub.keep 5 rfl (Sub.keep 5 rfl (Sub.drop (Sub.drop (Sub.drop (Sub.drop (Sub.drop (Sub.refl _)))))))))))
        · skip
          refine ⟨_, _, rfl, rfl, fun _ _ => wanted_none rfl _, Ef.build B3C ([(bk3 (r3[0]'e1) (r3[1]'e2) (r3[2]'e3))] : List B3) rfl Try.underlying24 inf56 rfl rfl rfl (by first | decide | (simp; done)) (by kernel_rfl), rfl, rfl, ?_⟩
          rintro _ _ ⟨A3, hA3, rfl, rfl⟩ hs
          refine ⟨fun w hw => hw.sub (Sub.keep 1 rfl (Sub.keep 1 rfl (Sub.keep 1 rfl (Sub.keep 1 rfl (Sub.keep 1 rfl (Sub.keep 1 rfl (Sub.keep 1 rfl (Sub.drop (Sub.refl _))))))))), ?_⟩
          refine D.eff hwf (e := 1) rfl rfl rfl rfl (Ef.build B3C ([] : List B3) rfl Try.underlying24 inf56 rfl rfl rfl (by first | decide | (simp; done)) (by kernel_rfl)) rfl rfl rfl ?_
          rintro _ _ ⟨A4, hA4, rfl, rfl⟩ hs
          refine ⟨fun w hw => hw.sub (Sub.keep 2 rfl (Sub.keep 2 rfl (Sub.keep 2 rfl (Sub.keep 2 rfl (Sub.keep 2 rfl (Sub.keep 2 rfl (Sub.keep 2 rfl (Sub.drop (Sub.drop (Sub.refl _)))))))))), ?_⟩
          refine D.eff hwf (e := 4) rfl rfl rfl rfl (Ef.appendN (xs := ([] : List B3)) (ys := xs) 0 rfl Try.underlying24 inf56 rfl rfl rfl rfl rfl rfl (fun w hw h => Own.nilc hw (i := 6) (by exact rfl) h) (Ld.own 6 (by exact rfl)) (by simp only [List.length_append, List.length_cons, List.length_nil] at *; omega) (by decide)) rfl rfl rfl ?_
          rintro _ _ ⟨A5, k1, rfl, rfl, hA5⟩ hs
          replace hA5 := hA5 (.inl hA4)
          refine ⟨fun w hw => hw.sub (Sub.keep 2 rfl (Sub.keep 2 rfl (Sub.keep 2 rfl (Sub.keep 2 rfl (Sub.keep 2 rfl (Sub.keep 2 rfl (Sub.keep 2 rfl (Sub.drop (Sub.drop (Sub.refl _)))))))))), ?_⟩
          refine D.eff hwf (e := 7) rfl rfl rfl rfl (Ef.append (xs := (([] : List B3) ++ xs)) (ys := ([(bk3 (r3[0]'e1) (r3[1]'e2) (r3[2]'e3))] : List B3)) 0 rfl Try.underlying24 inf56 rfl rfl rfl rfl rfl rfl hA3 (Ld.own 1 (by exact rfl)) (by simp only [List.length_append, List.length_cons, List.length_nil] at *; omega) (by decide)) rfl rfl rfl ?_
          rintro _ _ ⟨A6, k2, rfl, rfl, hA6⟩ hs
          replace hA6 := hA6 (.inr (by simp))
          refine ⟨fun w hw => hw.sub (Sub.keep 2 rfl (Sub.keep 2 rfl (Sub.keep 2 rfl (Sub.keep 2 rfl (Sub.keep 2 rfl (Sub.keep 2 rfl (Sub.keep 2 rfl (Sub.drop (Sub.drop (Sub.refl _)))))))))), ?_⟩
          refine D.eff hwf (e := 8) rfl rfl rfl rfl (Ef.call1 call62 rfl rfl (fun w hw => l01Made_ok  v_ ((([] : List B3) ++ xs) ++ ([(bk3 (r3[0]'e1) (r3[1]'e2) (r3[2]'e3))] : List B3)) _ _ w ((Ld.own 0 (by exact rfl)) w hw) (by first | omega | (simp only [List.length_append, List.length_cons, List.length_nil, List.length_take, List.length_drop]; omega)) (by first | omega | (simp only [List.length_append, List.length_cons, List.length_nil, List.length_take, List.length_drop]; omega)))) rfl rfl rfl ?_
          rintro _ _ rfl hs
          refine ⟨fun w hw => hs w hw.tail, ?_⟩
          refine D.exi (fun r4A => ?_)
          refine D.exi (fun r4c => ?_)
          refine D.exi (fun r4 => ?_)
          refine D.sep ?_
          refine D.pur1 ?_
          rintro ⟨rfl, hr4_1, hr4_2⟩
          refine D.effX (Hs' := []) hwf (e := 9) rfl rfl rfl rfl (Ef.storeAll 6 rfl sz26 rfl rfl rfl rfl (by simp [Value.oneCell']) rfl) rfl [] rfl (List.forall_mem_nil _) ?_
          rintro _ _ rfl
          refine ⟨fun w hw => hw.sub (Sub.nil _), ?_⟩
          refine D.done hwf rfl ?_
          refine X.blockNormal ?_
          refine X.next ?_
          refine V.region ?_
          refine O.p rfl rfl rfl (Pu.move rfl rfl) ?_
          refine O.p rfl rfl rfl (Pu.sub64 rfl (by omega) rfl rfl rfl) ?_
          refine O.p rfl rfl rfl (Pu.assign rfl rfl) ?_
          refine O.nil ?_
          exact X.back3 ((k - (1 : Int)), r4A, r4c, r4) (by (try dsimp only); exact ⟨fun d hd => good_snoc hg hgb d (hr4_1.mem_iff.1 hd), by have h := hr4_1.length_eq; simp only [List.length_append, List.length_singleton, List.length_nil] at h; omega⟩) (by first | omega | (dsimp only; omega)) (Ent.cons rfl (Ent.nil _)) (Ent.cons (t := 0) rfl (Ent.cons (t := 1) rfl (Ent.cons (t := 4) rfl (Ent.cons (t := 5) rfl (Ent.nil _))))) (Sub.keep 6 rfl (Sub.keep 0 rfl (Sub.keep 4 rfl (Sub.keep 5 rfl (Sub.keep 5 rfl (Sub.drop (Sub.drop (Sub.drop (Sub.drop (Sub.drop (Sub.refl _)))))))))))
      · skip
        refine V.skip ?_
        refine X.blockNormal ?_
        refine X.next ?_
        refine V.region ?_
        refine O.p rfl rfl rfl (Pu.move rfl rfl) ?_
        refine O.p rfl rfl rfl (Pu.sub64 rfl (by omega) rfl rfl rfl) ?_
        refine O.p rfl rfl rfl (Pu.assign rfl rfl) ?_
        refine O.nil ?_
        exact X.back3 ((k - (1 : Int)), xsA, xsc, xs) (by (try dsimp only); exact ⟨hg, by omega⟩) (by first | omega | (dsimp only; omega)) (Ent.cons rfl (Ent.nil _)) (Ent.cons (t := 0) rfl (Ent.cons (t := 1) rfl (Ent.cons (t := 4) rfl (Ent.cons (t := 5) rfl (Ent.nil _))))) (Sub.keep 3 rfl (Sub.keep 3 rfl (Sub.keep 2 rfl (Sub.keep 2 rfl (Sub.keep 2 rfl (Sub.drop (Sub.drop (Sub.refl _))))))))
    · skip
      refine ⟨_, _, rfl, rfl, fun _ _ => wanted_none rfl _, Ef.alloc rfl zr56 rfl, rfl, rfl, ?_⟩
      rintro _ _ ⟨b3, rfl, rfl⟩ hs
      refine ⟨fun w hw => hw.sub (Sub.keep 1 rfl (Sub.keep 1 rfl (Sub.keep 1 rfl (Sub.keep 1 rfl (Sub.keep 1 rfl (Sub.keep 1 rfl (Sub.drop (Sub.refl _)))))))), ?_⟩
      refine D.eff hwf (e := 9) rfl rfl rfl rfl (Ef.callP call61 rfl rfl (fun w hw => l01BlockD_ok  (r3[0]'e1) (r3[1]'e2) (r3[2]'e3) w   (by first | assumption | omega | (try dsimp only at *; omega)) (by first | assumption | omega | (try dsimp only at *; omega)) (by first | assumption | omega | (try dsimp only at *; omega)))) rfl rfl rfl ?_
      rintro _ _ ⟨rfl, rfl⟩ hs
      refine ⟨fun w hw => hw.sub (Sub.keep 1 rfl (Sub.keep 1 rfl (Sub.keep 1 rfl (Sub.keep 1 rfl (Sub.keep 1 rfl (Sub.keep 1 rfl (Sub.drop (Sub.refl _)))))))), ?_⟩
      refine D.eff hwf (e := 11) rfl rfl rfl rfl (Ef.storeAll 0 rfl sz56 rfl rfl rfl rfl (by simp [Value.oneCell']) rfl) rfl rfl rfl ?_
      rintro _ _ rfl hs
      refine ⟨fun w hw => hw.sub (Sub.keep 1 rfl (Sub.keep 1 rfl (Sub.keep 1 rfl (Sub.keep 1 rfl (Sub.keep 1 rfl (Sub.keep 1 rfl (Sub.drop (Sub.refl _)))))))), ?_⟩
      refine D.done hwf rfl ?_
      refine X.next ?_
      refine V.seq ?_
      refine V.region ?_
      refine O.p rfl rfl rfl (Pu.loadAgg rfl ag26 sz26 rfl rfl (Ld.whole 3 rfl)) ?_
      refine O.p rfl rfl rfl (Pu.loadAgg' (v := B3.v (bk3 (r3[0]'e1) (r3[1]'e2) (r3[2]'e3))) rfl rfl ag56 sz56 rfl rfl (Ld.whole 0 rfl)) ?_
      refine O.e rfl rfl rfl (Ef.callP call86 rfl rfl (fun w hw => l01Free_ok  v_ xs (bk3 (r3[0]'e1) (r3[1]'e2) (r3[2]'e3)) _ _ w ((Ld.own 4 (by exact rfl)) w hw) (by first | omega | (simp only [tops_len, conts_len, bl, List.length_append, List.length_cons, List.length_nil] at *; omega)) )) ?_
      rintro _ _ ⟨rfl, rfl⟩
      refine O.nil ?_
      refine X.next ?_
      refine V.condD rfl (fun c2 => ?_) (fun c2 => ?_)
      · skip
        refine V.draw mo (by kernel_rfl) (fun hwf => ?_)
        refine D.p 0 rfl rfl rfl rfl rfl rfl (Pu.move rfl rfl) ?_
        refine D.p 2 rfl rfl rfl rfl rfl rfl (Pu.fieldAddr 1 rfl Try.underlying26 rfl sz24 rfl rfl) ?_
        refine D.p 3 rfl rfl rfl rfl rfl rfl (Pu.load rfl pl24 rfl (Ld.blk 3 rfl rfl)) ?_
        refine D.p 5 rfl rfl rfl rfl rfl rfl (Pu.loadAgg' (v := B3.v (bk3 (r3[0]'e1) (r3[1]'e2) (r3[2]'e3))) rfl rfl ag56 sz56 rfl rfl (Ld.whole 0 rfl)) ?_
        refine D.either hwf (e1 := 1) (e2 := 6) rfl ?_ ?_
        · skip
          refine ⟨_, _, rfl, rfl, fun _ _ => wanted_none rfl _, Ef.build B3C ([] : List B3) rfl Try.underlying24 inf56 rfl rfl rfl (by first | decide | (simp; done)) (by kernel_rfl), rfl, rfl, ?_⟩
          rintro _ _ ⟨A3, hA3, rfl, rfl⟩ hs
          refine ⟨fun w hw => hw.sub (Sub.keep 1 rfl (Sub.keep 1 rfl (Sub.keep 1 rfl (Sub.keep 1 rfl (Sub.keep 1 rfl (Sub.keep 1 rfl (Sub.keep 1 rfl (Sub.drop (Sub.refl _))))))))), ?_⟩
          refine D.either hwf (e1 := 4) (e2 := 6) rfl ?_ ?_
          · skip
            refine ⟨_, _, rfl, rfl, fun _ _ => wanted_none rfl _, Ef.appendN (xs := ([] : List B3)) (ys := xs) 0 rfl Try.underlying24 inf56 rfl rfl rfl rfl rfl rfl (fun w hw h => Own.nilc hw (i := 5) (by exact rfl) h) (Ld.own 5 (by exact rfl)) (by simp only [List.length_append, List.length_cons, List.length_nil] at *; omega) (by decide), rfl, rfl, ?_⟩
            rintro _ _ ⟨A4, k1, rfl, rfl, hA4⟩ hs
            replace hA4 := hA4 (.inl hA3)
            refine ⟨fun w hw => hw.sub (Sub.keep 1 rfl (Sub.keep 1 rfl (Sub.keep 1 rfl (Sub.keep 1 rfl (Sub.keep 1 rfl (Sub.keep 1 rfl (Sub.keep 1 rfl (Sub.drop (Sub.refl _))))))))), ?_⟩
            refine D.eff hwf (e := 6) rfl rfl rfl rfl (Ef.build B3C ([(bk3 (r3[0]'e1) (r3[1]'e2) (r3[2]'e3))] : List B3) rfl Try.underlying24 inf56 rfl rfl rfl (by first | decide | (simp; done)) (by kernel_rfl)) rfl rfl rfl ?_
            rintro _ _ ⟨A5, hA5, rfl, rfl⟩ hs
            refine ⟨fun w hw => hw.sub (Sub.keep 2 rfl (Sub.keep 2 rfl (Sub.keep 2 rfl (Sub.keep 2 rfl (Sub.keep 2 rfl (Sub.keep 2 rfl (Sub.keep 2 rfl (Sub.drop (Sub.drop (Sub.refl _)))))))))), ?_⟩
            refine D.eff hwf (e := 7) rfl rfl rfl rfl (Ef.append (xs := (([] : List B3) ++ xs)) (ys := ([(bk3 (r3[0]'e1) (r3[1]'e2) (r3[2]'e3))] : List B3)) 1 rfl Try.underlying24 inf56 rfl rfl rfl rfl rfl rfl hA5 (Ld.own 0 (by exact rfl)) (by simp only [List.length_append, List.length_cons, List.length_nil] at *; omega) (by decide)) rfl rfl rfl ?_
            rintro _ _ ⟨A6, k2, rfl, rfl, hA6⟩ hs
            replace hA6 := hA6 (.inr (by simp))
            refine ⟨fun w hw => hw.sub (Sub.keep 2 rfl (Sub.keep 2 rfl (Sub.keep 2 rfl (Sub.keep 2 rfl (Sub.keep 2 rfl (Sub.keep 2 rfl (Sub.keep 2 rfl (Sub.drop (Sub.drop (Sub.refl _)))))))))), ?_⟩
            refine D.eff hwf (e := 8) rfl rfl rfl rfl (Ef.call1 call62 rfl rfl (fun w hw => l01Made_ok  v_ ((([] : List B3) ++ xs) ++ ([(bk3 (r3[0]'e1) (r3[1]'e2) (r3[2]'e3))] : List B3)) _ _ w ((Ld.own 1 (by exact rfl)) w hw) (by first | omega | (simp only [List.length_append, List.length_cons, List.length_nil, List.length_take, List.length_drop]; omega)) (by first | omega | (simp only [List.length_append, List.length_cons, List.length_nil, List.length_take, List.length_drop]; omega)))) rfl rfl rfl ?_
            rintro _ _ rfl hs
            refine ⟨fun w hw => hs w hw.tail, ?_⟩
            refine D.exi (fun r4A => ?_)
            refine D.exi (fun r4c => ?_)
            refine D.exi (fun r4 => ?_)
            refine D.sep ?_
            refine D.pur1 ?_
            rintro ⟨rfl, hr4_1, hr4_2⟩
            refine D.effX (Hs' := []) hwf (e := 9) rfl rfl rfl rfl (Ef.storeAll 6 rfl sz26 rfl rfl rfl rfl (by simp [Value.oneCell']) rfl) rfl [] rfl (List.forall_mem_nil _) ?_
            rintro _ _ rfl
            refine ⟨fun w hw => hw.sub (Sub.nil _), ?_⟩
            refine D.done hwf rfl ?_
            refine X.blockNormal ?_
            refine X.next ?_
            refine V.region ?_
            refine O.p rfl rfl rfl (Pu.move rfl rfl) ?_
            refine O.p rfl rfl rfl (Pu.sub64 rfl (by omega) rfl rfl rfl) ?_
            refine O.p rfl rfl rfl (Pu.assign rfl rfl) ?_
            refine O.nil ?_
            exact X.back3 ((k - (1 : Int)), r4A, r4c, r4) (by (try dsimp only); exact ⟨fun d hd => good_snoc hg hgb d (hr4_1.mem_iff.1 hd), by have h := hr4_1.length_eq; simp only [List.length_append, List.length_singleton, List.length_nil] at h; omega⟩) (by first | omega | (dsimp only; omega)) (Ent.cons rfl (Ent.nil _)) (Ent.cons (t := 0) rfl (Ent.cons (t := 1) rfl (Ent.cons (t := 4) rfl (Ent.cons (t := 5) rfl (Ent.nil _))))) (Sub.keep 6 rfl (Sub.keep 0 rfl (Sub.keep 4 rfl (Sub.keep 5 rfl (Sub.keep 5 rfl (Sub.drop (Sub.drop (Sub.drop (Sub.drop (Sub.drop (Sub.refl _)))))))))))
          · skip
            refine ⟨_, _, rfl, rfl, fun _ _ => wanted_none rfl _, Ef.build B3C ([(bk3 (r3[0]'e1) (r3[1]'e2) (r3[2]'e3))] : List B3) rfl Try.underlying24 inf56 rfl rfl rfl (by first | decide | (simp; done)) (by kernel_rfl), rfl, rfl, ?_⟩
            rintro _ _ ⟨A4, hA4, rfl, rfl⟩ hs
            refine ⟨fun w hw => hw.sub (Sub.keep 2 rfl (Sub.keep 2 rfl (Sub.keep 2 rfl (Sub.keep 2 rfl (Sub.keep 2 rfl (Sub.keep 2 rfl (Sub.keep 2 rfl (Sub.drop (Sub.drop (Sub.refl _)))))))))), ?_⟩
            refine D.eff hwf (e := 4) rfl rfl rfl rfl (Ef.appendN (xs := ([] : List B3)) (ys := xs) 1 rfl Try.underlying24 inf56 rfl rfl rfl rfl rfl rfl (fun w hw h => Own.nilc hw (i := 6) (by exact rfl) h) (Ld.own 6 (by exact rfl)) (by simp only [List.length_append, List.length_cons, List.length_nil] at *; omega) (by decide)) rfl rfl rfl ?_
            rintro _ _ ⟨A5, k1, rfl, rfl, hA5⟩ hs
            replace hA5 := hA5 (.inl hA3)
            refine ⟨fun w hw => hw.sub (Sub.keep 2 rfl (Sub.keep 2 rfl (Sub.keep 2 rfl (Sub.keep 2 rfl (Sub.keep 2 rfl (Sub.keep 2 rfl (Sub.keep 2 rfl (Sub.drop (Sub.drop (Sub.refl _)))))))))), ?_⟩
            refine D.eff hwf (e := 7) rfl rfl rfl rfl (Ef.append (xs := (([] : List B3) ++ xs)) (ys := ([(bk3 (r3[0]'e1) (r3[1]'e2) (r3[2]'e3))] : List B3)) 1 rfl Try.underlying24 inf56 rfl rfl rfl rfl rfl rfl hA4 (Ld.own 0 (by exact rfl)) (by simp only [List.length_append, List.length_cons, List.length_nil] at *; omega) (by decide)) rfl rfl rfl ?_
            rintro _ _ ⟨A6, k2, rfl, rfl, hA6⟩ hs
            replace hA6 := hA6 (.inr (by simp))
            refine ⟨fun w hw => hw.sub (Sub.keep 2 rfl (Sub.keep 2 rfl (Sub.keep 2 rfl (Sub.keep 2 rfl (Sub.keep 2 rfl (Sub.keep 2 rfl (Sub.keep 2 rfl (Sub.drop (Sub.drop (Sub.refl _)))))))))), ?_⟩
            refine D.eff hwf (e := 8) rfl rfl rfl rfl (Ef.call1 call62 rfl rfl (fun w hw => l01Made_ok  v_ ((([] : List B3) ++ xs) ++ ([(bk3 (r3[0]'e1) (r3[1]'e2) (r3[2]'e3))] : List B3)) _ _ w ((Ld.own 1 (by exact rfl)) w hw) (by first | omega | (simp only [List.length_append, List.length_cons, List.length_nil, List.length_take, List.length_drop]; omega)) (by first | omega | (simp only [List.length_append, List.length_cons, List.length_nil, List.length_take, List.length_drop]; omega)))) rfl rfl rfl ?_
            rintro _ _ rfl hs
            refine ⟨fun w hw => hs w hw.tail, ?_⟩
            refine D.exi (fun r4A => ?_)
            refine D.exi (fun r4c => ?_)
            refine D.exi (fun r4 => ?_)
            refine D.sep ?_
            refine D.pur1 ?_
            rintro ⟨rfl, hr4_1, hr4_2⟩
            refine D.effX (Hs' := []) hwf (e := 9) rfl rfl rfl rfl (Ef.storeAll 6 rfl sz26 rfl rfl rfl rfl (by simp [Value.oneCell']) rfl) rfl [] rfl (List.forall_mem_nil _) ?_
            rintro _ _ rfl
            refine ⟨fun w hw => hw.sub (Sub.nil _), ?_⟩
            refine D.done hwf rfl ?_
            refine X.blockNormal ?_
            refine X.next ?_
            refine V.region ?_
            refine O.p rfl rfl rfl (Pu.move rfl rfl) ?_
            refine O.p rfl rfl rfl (Pu.sub64 rfl (by omega) rfl rfl rfl) ?_
            refine O.p rfl rfl rfl (Pu.assign rfl rfl) ?_
            refine O.nil ?_
            exact X.back3 ((k - (1 : Int)), r4A, r4c, r4) (by (try dsimp only); exact ⟨fun d hd => good_snoc hg hgb d (hr4_1.mem_iff.1 hd), by have h := hr4_1.length_eq; simp only [List.length_append, List.length_singleton, List.length_nil] at h; omega⟩) (by first | omega | (dsimp only; omega)) (Ent.cons rfl (Ent.nil _)) (Ent.cons (t := 0) rfl (Ent.cons (t := 1) rfl (Ent.cons (t := 4) rfl (Ent.cons (t := 5) rfl (Ent.nil _))))) (Sub.keep 6 rfl (Sub.keep 0 rfl (Sub.keep 4 rfl (Sub.keep 5 rfl (Sub.keep 5 rfl (Sub.drop (Sub.drop (Sub.drop (Sub.drop (Sub.drop (Sub.refl _)))))))))))
        · skip
          refine ⟨_, _, rfl, rfl, fun _ _ => wanted_none rfl _, Ef.build B3C ([(bk3 (r3[0]'e1) (r3[1]'e2) (r3[2]'e3))] : List B3) rfl Try.underlying24 inf56 rfl rfl rfl (by first | decide | (simp; done)) (by kernel_rfl), rfl, rfl, ?_⟩
          rintro _ _ ⟨A3, hA3, rfl, rfl⟩ hs
          refine ⟨fun w hw => hw.sub (Sub.keep 1 rfl (Sub.keep 1 rfl (Sub.keep 1 rfl (Sub.keep 1 rfl (Sub.keep 1 rfl (Sub.keep 1 rfl (Sub.keep 1 rfl (Sub.drop (Sub.refl _))))))))), ?_⟩
          refine D.eff hwf (e := 1) rfl rfl rfl rfl (Ef.build B3C ([] : List B3) rfl Try.underlying24 inf56 rfl rfl rfl (by first | decide | (simp; done)) (by kernel_rfl)) rfl rfl rfl ?_
          rintro _ _ ⟨A4, hA4, rfl, rfl⟩ hs
          refine ⟨fun w hw => hw.sub (Sub.keep 2 rfl (Sub.keep 2 rfl (Sub.keep 2 rfl (Sub.keep 2 rfl (Sub.keep 2 rfl (Sub.keep 2 rfl (Sub.keep 2 rfl (Sub.drop (Sub.drop (Sub.refl _)))))))))), ?_⟩
          refine D.eff hwf (e := 4) rfl rfl rfl rfl (Ef.appendN (xs := ([] : List B3)) (ys := xs) 0 rfl Try.underlying24 inf56 rfl rfl rfl rfl rfl rfl (fun w hw h => Own.nilc hw (i := 6) (by exact rfl) h) (Ld.own 6 (by exact rfl)) (by simp only [List.length_append, List.length_cons, List.length_nil] at *; omega) (by decide)) rfl rfl rfl ?_
          rintro _ _ ⟨A5, k1, rfl, rfl, hA5⟩ hs
          replace hA5 := hA5 (.inl hA4)
          refine ⟨fun w hw => hw.sub (Sub.keep 2 rfl (Sub.keep 2 rfl (Sub.keep 2 rfl (Sub.keep 2 rfl (Sub.keep 2 rfl (Sub.keep 2 rfl (Sub.keep 2 rfl (Sub.drop (Sub.drop (Sub.refl _)))))))))), ?_⟩
          refine D.eff hwf (e := 7) rfl rfl rfl rfl (Ef.append (xs := (([] : List B3) ++ xs)) (ys := ([(bk3 (r3[0]'e1) (r3[1]'e2) (r3[2]'e3))] : List B3)) 0 rfl Try.underlying24 inf56 rfl rfl rfl rfl rfl rfl hA3 (Ld.own 1 (by exact rfl)) (by simp only [List.length_append, List.length_cons, List.length_nil] at *; omega) (by decide)) rfl rfl rfl ?_
          rintro _ _ ⟨A6, k2, rfl, rfl, hA6⟩ hs
          replace hA6 := hA6 (.inr (by simp))
          refine ⟨fun w hw => hw.sub (Sub.keep 2 rfl (Sub.keep 2 rfl (Sub.keep 2 rfl (Sub.keep 2 rfl (Sub.keep 2 rfl (Sub.keep 2 rfl (Sub.keep 2 rfl (Sub.drop (Sub.drop (Sub.refl _)))))))))), ?_⟩
          refine D.eff hwf (e := 8) rfl rfl rfl rfl (Ef.call1 call62 rfl rfl (fun w hw => l01Made_ok  v_ ((([] : List B3) ++ xs) ++ ([(bk3 (r3[0]'e1) (r3[1]'e2) (r3[2]'e3))] : List B3)) _ _ w ((Ld.own 0 (by exact rfl)) w hw) (by first | omega | (simp only [List.length_append, List.length_cons, List.length_nil, List.length_take, List.length_drop]; omega)) (by first | omega | (simp only [List.length_append, List.length_cons, List.length_nil, List.length_take, List.length_drop]; omega)))) rfl rfl rfl ?_
          rintro _ _ rfl hs
          refine ⟨fun w hw => hs w hw.tail, ?_⟩
          refine D.exi (fun r4A => ?_)
          refine D.exi (fun r4c => ?_)
          refine D.exi (fun r4 => ?_)
          refine D.sep ?_
          refine D.pur1 ?_
          rintro ⟨rfl, hr4_1, hr4_2⟩
          refine D.effX (Hs' := []) hwf (e := 9) rfl rfl rfl rfl (Ef.storeAll 6 rfl sz26 rfl rfl rfl rfl (by simp [Value.oneCell']) rfl) rfl [] rfl (List.forall_mem_nil _) ?_
          rintro _ _ rfl
          refine ⟨fun w hw => hw.sub (Sub.nil _), ?_⟩
          refine D.done hwf rfl ?_
          refine X.blockNormal ?_
          refine X.next ?_
          refine V.region ?_
          refine O.p rfl rfl rfl (Pu.move rfl rfl) ?_
          refine O.p rfl rfl rfl (Pu.sub64 rfl (by omega) rfl rfl rfl) ?_
          refine O.p rfl rfl rfl (Pu.assign rfl rfl) ?_
          refine O.nil ?_
          exact X.back3 ((k - (1 : Int)), r4A, r4c, r4) (by (try dsimp only); exact ⟨fun d hd => good_snoc hg hgb d (hr4_1.mem_iff.1 hd), by have h := hr4_1.length_eq; simp only [List.length_append, List.length_singleton, List.length_nil] at h; omega⟩) (by first | omega | (dsimp only; omega)) (Ent.cons rfl (Ent.nil _)) (Ent.cons (t := 0) rfl (Ent.cons (t := 1) rfl (Ent.cons (t := 4) rfl (Ent.cons (t := 5) rfl (Ent.nil _))))) (Sub.keep 6 rfl (Sub.keep 0 rfl (Sub.keep 4 rfl (Sub.keep 5 rfl (Sub.keep 5 rfl (Sub.drop (Sub.drop (Sub.drop (Sub.drop (Sub.drop (Sub.refl _)))))))))))
      · skip
        refine V.skip ?_
        refine X.blockNormal ?_
        refine X.next ?_
        refine V.region ?_
        refine O.p rfl rfl rfl (Pu.move rfl rfl) ?_
        refine O.p rfl rfl rfl (Pu.sub64 rfl (by omega) rfl rfl rfl) ?_
        refine O.p rfl rfl rfl (Pu.assign rfl rfl) ?_
        refine O.nil ?_
        exact X.back3 ((k - (1 : Int)), xsA, xsc, xs) (by (try dsimp only); exact ⟨hg, by omega⟩) (by first | omega | (dsimp only; omega)) (Ent.cons rfl (Ent.nil _)) (Ent.cons (t := 0) rfl (Ent.cons (t := 1) rfl (Ent.cons (t := 4) rfl (Ent.cons (t := 5) rfl (Ent.nil _))))) (Sub.keep 3 rfl (Sub.keep 3 rfl (Sub.keep 2 rfl (Sub.keep 2 rfl (Sub.keep 2 rfl (Sub.drop (Sub.drop (Sub.refl _))))))))
  · skip
    refine V.exit ?_
    refine X.thenExit ?_
    refine X.thenExit ?_
    refine X.blockHit ?_
    refine X.next ?_
    refine V.seq ?_
    refine V.region ?_
    refine O.p rfl rfl rfl (Pu.loadAgg rfl ag26 sz26 rfl rfl (Ld.whole 0 rfl)) ?_
    refine O.s rfl rfl (Ef.storeAll 4 rfl sz26 rfl rfl rfl rfl (by simp [Value.oneCell']) rfl) ?_
    rintro _ _ rfl
    refine O.nil ?_
    refine X.next ?_
    refine V.ret ?_
    refine X.retCell rfl ag26 sz26 rfl rfl (Ld.whole 4 rfl) ?_
    exact fun w hw => St.mkExi xsA (St.mkExi xsc (St.mkExi xs (St.unsep (St.addPur ⟨rfl, ⟨hv, hg, by omega⟩⟩ (St.unsep (hw.sub (Sub.keep 1 rfl (Sub.keep 1 rfl (Sub.drop (Sub.drop (Sub.drop (Sub.refl _))))))))))))
end Go.Proofs.Ytgjfcepnkllklaa
