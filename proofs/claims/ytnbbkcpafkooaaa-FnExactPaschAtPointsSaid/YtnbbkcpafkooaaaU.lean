/-
  Pasch, of the reference.
-/
import Derived.Test.YtnbbkcpafkooaaaL
import Derived.Test.YtnbbkcpafkooaaaT
set_option linter.unusedVariables false
set_option linter.unusedSimpArgs false
namespace Go.Proofs.Ytnbbkcpafkooaaa
open Go Go.RowKit Go.Vc Go.Proofs
set_option maxRecDepth 100000 in
set_option maxHeartbeats 1000000 in
theorem l03Pasch_ok (v : Int) (bs : List B3) (A : Option Addr) (c : Nat) (w : World) (hx : Rd B3C w A bs) (lx : bs.length ≤ 4611686018427387904) (hS : STS v bs) : Does Try.prog 45 [.agg #[.int .i64 v, .slice A bs.length c]] w [] (fun r => [.exi fun (pA : Option Addr) => .exi fun (pc : Nat) => .exi fun (p : List (Sl × List Int)) => .sep (.pur (r = .slice pA (tops p).length pc ∧ IsList (PQ bs) (conts p) ∧ p.length ≤ 2450)) (.sep (Own 47 SlC pA pc (tops p)) (RowsA 2 I64 p))]) := by
  refine Does.enter Try.func45 rfl rfl [(0, .agg #[.int .i64 v, .slice A bs.length c])] rfl ?_
  have hfew := hS.few
  have hg : ∀ b ∈ bs, good 15 b := fun b h => (hS.good b h).mono hS.hi
  refine V.seq ?_
  refine V.region ?_
  refine O.e rfl rfl rfl (Ef.box rfl rfl rfl) ?_
  rintro _ _ ⟨b1, rfl, rfl⟩
  refine O.p rfl rfl rfl (Pu.assign rfl rfl) ?_
  refine O.nil ?_
  refine X.next ?_
  refine V.seq ?_
  refine V.region ?_
  refine O.e rfl rfl rfl (Ef.build SlC ([] : List Sl) rfl Try.underlying38 inf47 rfl rfl rfl (by decide) (by kernel_rfl)) ?_
  rintro _ _ ⟨A1, hA1, rfl, rfl⟩
  refine O.p rfl rfl rfl (Pu.assign rfl rfl) ?_
  refine O.nil ?_
  refine X.next ?_
  refine V.seq ?_
  refine V.seq ?_
  refine V.region ?_
  refine O.p rfl rfl rfl (Pu.assign rfl rfl) ?_
  refine O.nil ?_
  refine X.next ?_
  refine V.block ?_
  refine V.map (fun w hw => RowsA.nil (T := 2) (C := I64) hw) ?_
  refine V.loop3 (β := (Option Addr) × Nat × (List (Sl × List Int)) × Nat) (fun x => [(3, .slice x.1 (tops x.2.2.1).length x.2.1), (4, .int .i64 (x.2.2.2 : Int))]) _ (fun x => [Own 47 SlC x.1 x.2.1 (tops x.2.2.1), RowsA 2 I64 x.2.2.1]) _ (fun x => x.2.2.2 ≤ bs.length ∧ SrtL (conts x.2.2.1) ∧ (∀ r, r ∈ conts x.2.2.1 ↔ SeenP bs x.2.2.2 0 r) ∧ x.2.2.1.length ≤ x.2.2.2 * 70) (fun x => bs.length - x.2.2.2) (A1, 0, [], 0) (by (try dsimp only); exact ⟨by omega, SrtL.nil, fun r => by simp only [conts, List.map_nil, List.not_mem_nil, false_iff]; exact seen_zero, by simp⟩) (Ent.cons rfl (Ent.cons rfl (Ent.nil _))) (Ent.cons (t := 1) rfl (Ent.cons (t := 2) rfl (Ent.nil _))) (Sub.keep 1 rfl (Sub.keep 0 rfl (Sub.keep 0 rfl (Sub.nil _)))) ?_
  rintro ⟨outA, outc, out, i⟩ ⟨hi, hs0, hm0, b0⟩
  dsimp only at hi hs0 hm0 b0 ⊢
  refine V.fact (RowsA.len 1 rfl) (fun hn_out => ?_)
  have htl_out := tops_len out
  refine V.seq ?_
  refine V.seq ?_
  refine V.region ?_
  refine O.p rfl rfl rfl (Pu.move rfl rfl) ?_
  refine O.p rfl rfl rfl (Pu.fieldAddr 1 rfl Try.underlying31 rfl sz29 rfl rfl) ?_
  refine O.p rfl rfl rfl (Pu.load rfl pl29 rfl (Ld.blk 2 rfl rfl)) ?_
  refine O.p rfl rfl rfl (Pu.len rfl Try.underlying29 rfl) ?_
  refine O.p rfl rfl rfl (Pu.lss rfl rfl rfl) ?_
  refine O.nil ?_
  refine X.next ?_
  refine V.condD rfl (fun c1 => ?_) (fun c1 => ?_)
  · skip
    refine V.skip ?_
    refine X.next ?_
    refine V.seq ?_
    refine V.block ?_
    refine V.seq ?_
    refine V.region ?_
    refine O.p rfl rfl rfl (Pu.assign rfl rfl) ?_
    refine O.nil ?_
    refine X.next ?_
    refine V.block ?_
    refine V.loop3 (β := (Option Addr) × Nat × (List (Sl × List Int)) × Nat) (fun x => [(3, .slice x.1 (tops x.2.2.1).length x.2.1), (5, .int .i64 (x.2.2.2 : Int))]) _ (fun x => [Own 47 SlC x.1 x.2.1 (tops x.2.2.1), RowsA 2 I64 x.2.2.1]) _ (fun x => x.2.2.2 ≤ i ∧ SrtL (conts x.2.2.1) ∧ (∀ r, r ∈ conts x.2.2.1 ↔ SeenP bs i x.2.2.2 r) ∧ x.2.2.1.length ≤ i * 70 + x.2.2.2 * 2) (fun x => i - x.2.2.2) (outA, outc, out, 0) (by (try dsimp only); exact ⟨by omega, hs0, hm0, by omega⟩) (Ent.cons rfl (Ent.cons rfl (Ent.nil _))) (Ent.cons (t := 1) rfl (Ent.cons (t := 2) rfl (Ent.cons (t := 4) rfl (Ent.nil _)))) (Sub.keep 0 rfl (Sub.keep 0 rfl (Sub.keep 0 rfl (Sub.nil _)))) ?_
    rintro ⟨o1A, o1c, o1, j⟩ ⟨hj, hs1, hm1, b1⟩
    dsimp only at hj hs1 hm1 b1 ⊢
    refine V.fact (RowsA.len 1 rfl) (fun hn_o1 => ?_)
    have htl_o1 := tops_len o1
    refine V.seq ?_
    refine V.seq ?_
    refine V.region ?_
    refine O.p rfl rfl rfl (Pu.move rfl rfl) ?_
    refine O.p rfl rfl rfl (Pu.move rfl rfl) ?_
    refine O.p rfl rfl rfl (Pu.lss rfl rfl rfl) ?_
    refine O.nil ?_
    refine X.next ?_
    refine V.condD rfl (fun c2 => ?_) (fun c2 => ?_)
    · skip
      refine V.skip ?_
      refine X.next ?_
      refine V.seq ?_
      refine V.block ?_
      refine V.seq ?_
      refine V.draw mo (by kernel_rfl) (fun hwf => ?_)
      refine D.p 0 rfl rfl rfl rfl rfl rfl (Pu.fieldAddr 1 rfl Try.underlying31 rfl sz29 rfl rfl) ?_
      refine D.p 1 rfl rfl rfl rfl rfl rfl (Pu.load rfl pl29 rfl (Ld.blk 2 rfl rfl)) ?_
      refine D.p 2 rfl rfl rfl rfl rfl rfl (Pu.move rfl rfl) ?_
      refine D.p 3 rfl rfl rfl rfl rfl rfl (Pu.indexAddr (i) rfl Try.underlying29 sz66 rfl rfl (by omega) (by omega) (hx.some (by omega))) ?_
      have e1 : i < bs.length := by omega
      refine D.p 4 rfl rfl rfl rfl rfl rfl (Pu.loadAgg' (v := B3.v (bs[i]'e1)) rfl rfl ag66 sz66 rfl rfl (Ld.rds (Ld.old hx) (k := i) e1 rfl)) ?_
      refine D.p 5 rfl rfl rfl rfl rfl rfl (Pu.fieldAddr 1 rfl Try.underlying31 rfl sz29 rfl rfl) ?_
      refine D.p 6 rfl rfl rfl rfl rfl rfl (Pu.load rfl pl29 rfl (Ld.blk 2 rfl rfl)) ?_
      refine D.p 7 rfl rfl rfl rfl rfl rfl (Pu.move rfl rfl) ?_
      refine D.p 8 rfl rfl rfl rfl rfl rfl (Pu.indexAddr (j) rfl Try.underlying29 sz66 rfl rfl (by omega) (by omega) (hx.some (by omega))) ?_
      have e2 : j < bs.length := by omega
      refine D.p 9 rfl rfl rfl rfl rfl rfl (Pu.loadAgg' (v := B3.v (bs[j]'e2)) rfl rfl ag66 sz66 rfl rfl (Ld.rds (Ld.old hx) (k := j) e2 rfl)) ?_
      refine D.eff hwf (e := 10) rfl rfl rfl rfl (Ef.callP call69 rfl rfl (fun w hw => l03Meet_ok  (bs[i]'e1) (bs[j]'e2) w   )) rfl rfl rfl ?_
      rintro _ _ ⟨rfl, rfl⟩ hs
      refine ⟨fun w hw => hw, ?_⟩
      refine D.p 11 rfl rfl rfl rfl rfl rfl (Pu.assign rfl rfl) ?_
      refine D.done hwf rfl ?_
      refine X.next ?_
      refine V.seq ?_
      refine V.seq ?_
      refine V.region ?_
      refine O.p rfl rfl rfl (Pu.move rfl rfl) ?_
      refine O.p rfl rfl rfl (Pu.lss rfl rfl rfl) ?_
      refine O.nil ?_
      refine X.next ?_
      refine V.condD rfl (fun c3 => ?_) (fun c3 => ?_)
      · skip
        refine V.exit ?_
        refine X.thenExit ?_
        refine X.blockHit ?_
        refine X.next ?_
        refine V.region ?_
        refine O.p rfl rfl rfl (Pu.move rfl rfl) ?_
        refine O.p rfl rfl rfl (Pu.add64 (r := ((j + 1 : Nat) : Int)) rfl (by omega) rfl rfl rfl) ?_
        refine O.p rfl rfl rfl (Pu.assign rfl rfl) ?_
        refine O.nil ?_
        exact X.back3 (o1A, o1c, o1, j + 1) (by (try dsimp only); exact ⟨by omega, hs1, fun r => by rw [hm1 r, seen_skip hS (by omega) e1 (cpt_no (hS.good _ (List.getElem_mem e1)) c3)], by omega⟩) (by first | omega | (dsimp only; omega)) (Ent.cons' rfl (by first | rfl | (simp only [tops_append]; rfl)) (Ent.cons rfl (Ent.nil _))) (Ent.cons (t := 1) rfl (Ent.cons (t := 2) rfl (Ent.cons (t := 4) rfl (Ent.nil _)))) (Sub.keep 0 rfl (Sub.keep 0 rfl (Sub.keep 0 rfl (Sub.nil _))))
      · skip
        have hm := cpt_yes (hS.good _ (List.getElem_mem e1)) c3
        refine V.skip ?_
        refine X.next ?_
        refine V.seq ?_
        refine V.region ?_
        refine O.p rfl rfl rfl (Pu.fieldAddr 1 rfl Try.underlying31 rfl sz29 rfl rfl) ?_
        refine O.p rfl rfl rfl (Pu.load rfl pl29 rfl (Ld.blk 2 rfl rfl)) ?_
        refine O.p rfl rfl rfl (Pu.move rfl rfl) ?_
        refine O.p rfl rfl rfl (Pu.indexAddr (i) rfl Try.underlying29 sz66 rfl rfl (by omega) (by omega) (hx.some (by omega))) ?_
        refine O.p rfl rfl rfl (Pu.loadAgg' (v := B3.v (bs[i]'e1)) rfl rfl ag66 sz66 rfl rfl (Ld.rds (Ld.old hx) (k := i) e1 rfl)) ?_
        refine O.p rfl rfl rfl (Pu.move rfl rfl) ?_
        refine O.e rfl rfl rfl (Ef.callP call70 rfl rfl (fun w hw => l03Others_ok  (bs[i]'e1) (cpt (bs[i]'e1) (bs[j]'e2)) w   )) ?_
        rintro _ _ ⟨rfl, rfl⟩
        have tr1 := tri_oth (hS.good _ (List.getElem_mem e1)) hm.1
        have pc := good_lt (hg _ (List.getElem_mem e1)) tr1.h2
        have pe := good_lt (hg _ (List.getElem_mem e1)) tr1.h3
        refine O.p rfl rfl rfl (Pu.move rfl rfl) ?_
        refine O.p rfl rfl rfl (Pu.extract rfl rfl rfl) ?_
        refine O.p rfl rfl rfl (Pu.extract rfl rfl rfl) ?_
        refine O.p rfl rfl rfl (Pu.assign rfl rfl) ?_
        refine O.p rfl rfl rfl (Pu.assign rfl rfl) ?_
        refine O.nil ?_
        refine X.next ?_
        refine V.seq ?_
        refine V.region ?_
        refine O.p rfl rfl rfl (Pu.fieldAddr 1 rfl Try.underlying31 rfl sz29 rfl rfl) ?_
        refine O.p rfl rfl rfl (Pu.load rfl pl29 rfl (Ld.blk 2 rfl rfl)) ?_
        refine O.p rfl rfl rfl (Pu.move rfl rfl) ?_
        refine O.p rfl rfl rfl (Pu.indexAddr (j) rfl Try.underlying29 sz66 rfl rfl (by omega) (by omega) (hx.some (by omega))) ?_
        refine O.p rfl rfl rfl (Pu.loadAgg' (v := B3.v (bs[j]'e2)) rfl rfl ag66 sz66 rfl rfl (Ld.rds (Ld.old hx) (k := j) e2 rfl)) ?_
        refine O.p rfl rfl rfl (Pu.move rfl rfl) ?_
        refine O.e rfl rfl rfl (Ef.callP call70 rfl rfl (fun w hw => l03Others_ok  (bs[j]'e2) (cpt (bs[i]'e1) (bs[j]'e2)) w   )) ?_
        rintro _ _ ⟨rfl, rfl⟩
        have tr2 := tri_oth (hS.good _ (List.getElem_mem e2)) hm.2
        have pd := good_lt (hg _ (List.getElem_mem e2)) tr2.h2
        have pf := good_lt (hg _ (List.getElem_mem e2)) tr2.h3
        refine O.p rfl rfl rfl (Pu.move rfl rfl) ?_
        refine O.p rfl rfl rfl (Pu.extract rfl rfl rfl) ?_
        refine O.p rfl rfl rfl (Pu.extract rfl rfl rfl) ?_
        refine O.p rfl rfl rfl (Pu.assign rfl rfl) ?_
        refine O.p rfl rfl rfl (Pu.assign rfl rfl) ?_
        refine O.nil ?_
        refine X.next ?_
        refine V.seq ?_
        refine V.region ?_
        refine O.p rfl rfl rfl (Pu.assign rfl rfl) ?_
        refine O.nil ?_
        refine X.next ?_
        refine V.block ?_
        refine V.loop3 (β := (Option Addr) × Nat × (List (Sl × List Int)) × Int × Int × Nat) (fun x => [(3, .slice x.1 (tops x.2.2.1).length x.2.1), (9, .int .i64 (x.2.2.2.1 : Int)), (10, .int .i64 (x.2.2.2.2.1 : Int)), (11, .int .i64 (x.2.2.2.2.2 : Int))]) _ (fun x => [Own 47 SlC x.1 x.2.1 (tops x.2.2.1), RowsA 2 I64 x.2.2.1]) _ (fun x => x.2.2.2.2.2 ≤ 2 ∧ (x.2.2.2.2.2 % 2 = 0 → x.2.2.2.1 = (oth1 (bs[j]'e2) (cpt (bs[i]'e1) (bs[j]'e2))) ∧ x.2.2.2.2.1 = (oth2 (bs[j]'e2) (cpt (bs[i]'e1) (bs[j]'e2)))) ∧ (x.2.2.2.2.2 % 2 = 1 → x.2.2.2.1 = (oth2 (bs[j]'e2) (cpt (bs[i]'e1) (bs[j]'e2))) ∧ x.2.2.2.2.1 = (oth1 (bs[j]'e2) (cpt (bs[i]'e1) (bs[j]'e2)))) ∧ SrtL (conts x.2.2.1) ∧ (∀ r, r ∈ conts x.2.2.1 ↔ r ∈ conts o1 ∨ HitT bs i j (oth1 (bs[i]'e1) (cpt (bs[i]'e1) (bs[j]'e2))) (oth2 (bs[i]'e1) (cpt (bs[i]'e1) (bs[j]'e2))) (oth1 (bs[j]'e2) (cpt (bs[i]'e1) (bs[j]'e2))) (oth2 (bs[j]'e2) (cpt (bs[i]'e1) (bs[j]'e2))) x.2.2.2.2.2 r) ∧ x.2.2.1.length ≤ i * 70 + j * 2 + x.2.2.2.2.2) (fun x => 2 - x.2.2.2.2.2) (o1A, o1c, o1, (oth1 (bs[j]'e2) (cpt (bs[i]'e1) (bs[j]'e2))), (oth2 (bs[j]'e2) (cpt (bs[i]'e1) (bs[j]'e2))), 0) (by (try dsimp only); exact ⟨by omega, fun _ => ⟨rfl, rfl⟩, fun h => by omega, hs1, fun r => ⟨.inl, fun h => h.elim id (fun h => (hitT_zero h).elim)⟩, by omega⟩) (Ent.cons rfl (Ent.cons rfl (Ent.cons rfl (Ent.cons rfl (Ent.nil _))))) (Ent.cons (t := 1) rfl (Ent.cons (t := 2) rfl (Ent.cons (t := 4) rfl (Ent.cons (t := 5) rfl (Ent.cons (t := 7) rfl (Ent.cons (t := 8) rfl (Ent.nil _))))))) (Sub.keep 0 rfl (Sub.keep 0 rfl (Sub.keep 0 rfl (Sub.nil _)))) ?_
        rintro ⟨o2A, o2c, o2, d, f, turn⟩ ⟨ht, hT0, hT1, hs2, hm2, b2⟩
        dsimp only at ht hT0 hT1 hs2 hm2 b2 ⊢
        have hdf : (0 ≤ d ∧ d < 15) ∧ (0 ≤ f ∧ f < 15) := by rcases Nat.mod_two_eq_zero_or_one turn with h | h; (· rw [(hT0 h).1, (hT0 h).2]; exact ⟨pd, pf⟩); (· rw [(hT1 h).1, (hT1 h).2]; exact ⟨pf, pd⟩)
        refine V.fact (RowsA.len 1 rfl) (fun hn_o2 => ?_)
        have htl_o2 := tops_len o2
        refine V.seq ?_
        refine V.seq ?_
        refine V.region ?_
        refine O.p rfl rfl rfl (Pu.move rfl rfl) ?_
        refine O.p rfl rfl rfl (Pu.lss rfl rfl rfl) ?_
        refine O.nil ?_
        refine X.next ?_
        refine V.condD rfl (fun c4 => ?_) (fun c4 => ?_)
        · skip
          refine V.skip ?_
          refine X.next ?_
          refine V.seq ?_
          refine V.block ?_
          refine V.seq ?_
          refine V.region ?_
          refine O.p rfl rfl rfl (Pu.loadAgg rfl ag31 sz31 rfl rfl (Ld.whole 2 rfl)) ?_
          refine O.p rfl rfl rfl (Pu.move rfl rfl) ?_
          refine O.p rfl rfl rfl (Pu.move rfl rfl) ?_
          refine O.e rfl rfl rfl (Ef.callP call71 rfl rfl (fun w hw => l01Third_ok  v bs (oth1 (bs[i]'e1) (cpt (bs[i]'e1) (bs[j]'e2))) f _ _ w ((Ld.old hx) w hw) (by first | omega | (simp only [tops_len, conts_len, bl, List.length_append, List.length_cons, List.length_nil] at *; omega)) hg (by omega) (by omega))) ?_
          rintro _ _ ⟨rfl, rfl⟩
          refine O.p rfl rfl rfl (Pu.assign rfl rfl) ?_
          refine O.nil ?_
          refine X.next ?_
          refine V.seq ?_
          refine V.seq ?_
          refine V.region ?_
          refine O.p rfl rfl rfl (Pu.move rfl rfl) ?_
          refine O.p rfl rfl rfl (Pu.geq rfl rfl rfl) ?_
          refine O.p rfl rfl rfl (Pu.move rfl rfl) ?_
          refine O.splitD 69 rfl (fun c5 => ?_) (fun c5 => ?_)
          · skip
            refine O.gp rfl rfl rfl rfl rfl (Pu.loadAgg rfl ag31 sz31 rfl rfl (Ld.whole 2 rfl)) ?_
            refine O.gp rfl rfl rfl rfl rfl (Pu.move rfl rfl) ?_
            refine O.gp rfl rfl rfl rfl rfl (Pu.move rfl rfl) ?_
            refine O.ge rfl rfl rfl rfl rfl (Ef.callP call71 rfl rfl (fun w hw => l01Third_ok  v bs d (oth2 (bs[i]'e1) (cpt (bs[i]'e1) (bs[j]'e2))) _ _ w ((Ld.old hx) w hw) (by first | omega | (simp only [tops_len, conts_len, bl, List.length_append, List.length_cons, List.length_nil] at *; omega)) hg (by omega) (by omega))) ?_
            rintro _ _ ⟨rfl, rfl⟩
            refine O.gp rfl rfl rfl rfl rfl (Pu.move rfl rfl) ?_
            refine O.gp rfl rfl rfl rfl rfl (Pu.eql rfl rfl rfl) ?_
            refine O.p rfl rfl rfl (Pu.pickT rfl rfl rfl) ?_
            refine O.nil ?_
            refine X.next ?_
            refine V.condD rfl (fun c6 => ?_) (fun c6 => ?_)
            · skip
              refine V.drawS mo (by kernel_rfl) (Sub.keep 2 rfl (Sub.nil _)) (fun hwf => ?_)
              refine D.p 0 rfl rfl rfl rfl rfl rfl (Pu.move rfl rfl) ?_
              refine D.p 1 rfl rfl rfl rfl rfl rfl (Pu.move rfl rfl) ?_
              refine D.p 2 rfl rfl rfl rfl rfl rfl (Pu.move rfl rfl) ?_
              refine D.p 3 rfl rfl rfl rfl rfl rfl (Pu.loadAgg rfl ag31 sz31 rfl rfl (Ld.whole 0 rfl)) ?_
              refine D.p 4 rfl rfl rfl rfl rfl rfl (Pu.move rfl rfl) ?_
              refine D.p 5 rfl rfl rfl rfl rfl rfl (Pu.move rfl rfl) ?_
              refine D.p 7 rfl rfl rfl rfl rfl rfl (Pu.loadAgg rfl ag31 sz31 rfl rfl (Ld.whole 0 rfl)) ?_
              refine D.p 8 rfl rfl rfl rfl rfl rfl (Pu.move rfl rfl) ?_
              refine D.p 9 rfl rfl rfl rfl rfl rfl (Pu.move rfl rfl) ?_
              refine D.eff hwf (e := 6) rfl rfl rfl rfl (Ef.callP call73 rfl rfl (fun w hw => l03Number_ok  v bs (oth1 (bs[i]'e1) (cpt (bs[i]'e1) (bs[j]'e2))) f _ _ w ((Ld.old hx) w hw) (by first | omega | (simp only [tops_len, conts_len, bl, List.length_append, List.length_cons, List.length_nil] at *; omega)) )) rfl rfl rfl ?_
              rintro _ _ ⟨rfl, rfl⟩ hs
              refine ⟨fun w hw => hw.sub (Sub.keep 2 rfl (Sub.nil _)), ?_⟩
              refine D.eff hwf (e := 10) rfl rfl rfl rfl (Ef.callP call73 rfl rfl (fun w hw => l03Number_ok  v bs d (oth2 (bs[i]'e1) (cpt (bs[i]'e1) (bs[j]'e2))) _ _ w ((Ld.old hx) w hw) (by first | omega | (simp only [tops_len, conts_len, bl, List.length_append, List.length_cons, List.length_nil] at *; omega)) )) rfl rfl rfl ?_
              rintro _ _ ⟨rfl, rfl⟩ hs
              refine ⟨fun w hw => hw.sub (Sub.keep 2 rfl (Sub.nil _)), ?_⟩
              refine D.eff hwf (e := 11) rfl rfl rfl rfl (Ef.build I64 ([(↑i : Int), (↑j : Int), (num bs (oth1 (bs[i]'e1) (cpt (bs[i]'e1) (bs[j]'e2))) f), (num bs d (oth2 (bs[i]'e1) (cpt (bs[i]'e1) (bs[j]'e2))))] : List Int) rfl Try.underlying47 inf2 rfl rfl rfl (by decide) (by kernel_rfl)) rfl rfl rfl ?_
              rintro _ _ ⟨A2, hA2, rfl, rfl⟩ hs
              refine ⟨fun w hw => hw.sub (Sub.keep 3 rfl (Sub.nil _)), ?_⟩
              refine D.eff hwf (e := 12) rfl rfl rfl rfl (Ef.call1 call72 rfl rfl (fun w hw => l03Ascending_ok ([(↑i : Int), (↑j : Int), (num bs (oth1 (bs[i]'e1) (cpt (bs[i]'e1) (bs[j]'e2))) f), (num bs d (oth2 (bs[i]'e1) (cpt (bs[i]'e1) (bs[j]'e2))))] : List Int) _ _ w ((Ld.own 0 (by exact rfl)) w hw) (by first | omega | (simp only [List.length_cons, List.length_nil]; omega)))) rfl rfl rfl ?_
              rintro _ _ rfl hs
              refine ⟨fun w hw => hs w hw.tail, ?_⟩
              refine D.exi (fun p1 => ?_)
              refine D.sep ?_
              refine D.pur1 ?_
              rintro ⟨rfl, hp1⟩
              refine D.eff hwf (e := 13) rfl rfl rfl rfl (Ef.call call57 rfl rfl (Does.pre (fun w hw => hw.sub (Sub.keep 2 rfl (Sub.keep 2 rfl (Sub.keep 0 rfl (Sub.keep 0 rfl (Sub.keep 0 rfl (Sub.nil _))))))) (l03Put_ok o2 _ _ _ _ _ _ _ hs2 (by omega)))) rfl rfl rfl ?_
              rintro _ _ rfl hs
              refine ⟨fun w hw => hw.tail.sub (Sub.keep 1 rfl (Sub.nil _)), ?_⟩
              refine D.exi (fun p2 => ?_)
              refine D.sep ?_
              refine D.pur1 ?_
              rintro ⟨rfl, hp2_1, hp2_2, hp2_3⟩
              refine D.sep ?_
              refine D.last hwf (e := 14) rfl rfl rfl rfl rfl rfl (Pu.assign rfl rfl) ?_
              refine X.next ?_
              refine V.region ?_
              refine O.p rfl rfl rfl (Pu.move rfl rfl) ?_
              refine O.p rfl rfl rfl (Pu.move rfl rfl) ?_
              refine O.p rfl rfl rfl (Pu.assign rfl rfl) ?_
              refine O.p rfl rfl rfl (Pu.assign rfl rfl) ?_
              refine O.nil ?_
              refine X.blockNormal ?_
              refine X.next ?_
              refine V.region ?_
              refine O.p rfl rfl rfl (Pu.move rfl rfl) ?_
              refine O.p rfl rfl rfl (Pu.add64 (r := ((turn + 1 : Nat) : Int)) rfl (by omega) rfl rfl rfl) ?_
              refine O.p rfl rfl rfl (Pu.assign rfl rfl) ?_
              refine O.nil ?_
              exact X.back3 (p2.1.1, p2.1.2, p2.2, f, d, turn + 1) (by (try dsimp only); exact ⟨by omega, fun h => ⟨(hT1 (by omega)).2, (hT1 (by omega)).1⟩, fun h => ⟨(hT0 (by omega)).2, (hT0 (by omega)).1⟩, hp2_1, fun r => by rw [hp2_2 r, hm2 r, hitT_step (by omega) hT0 hT1, hit_eq (by omega) c6 hp1.1 hp1.2, or_assoc], by omega⟩) (by first | omega | (dsimp only; omega)) (Ent.cons' rfl (by first | rfl | (simp only [tops_append]; rfl)) (Ent.cons rfl (Ent.cons rfl (Ent.cons rfl (Ent.nil _))))) (Ent.cons (t := 1) rfl (Ent.cons (t := 2) rfl (Ent.cons (t := 4) rfl (Ent.cons (t := 5) rfl (Ent.cons (t := 7) rfl (Ent.cons (t := 8) rfl (Ent.nil _))))))) (Sub.keep 0 rfl (Sub.keep 0 rfl (Sub.keep 1 rfl (Sub.nil _))))
            · skip
              refine V.skip ?_
              refine X.next ?_
              refine V.region ?_
              refine O.p rfl rfl rfl (Pu.move rfl rfl) ?_
              refine O.p rfl rfl rfl (Pu.move rfl rfl) ?_
              refine O.p rfl rfl rfl (Pu.assign rfl rfl) ?_
              refine O.p rfl rfl rfl (Pu.assign rfl rfl) ?_
              refine O.nil ?_
              refine X.blockNormal ?_
              refine X.next ?_
              refine V.region ?_
              refine O.p rfl rfl rfl (Pu.move rfl rfl) ?_
              refine O.p rfl rfl rfl (Pu.add64 (r := ((turn + 1 : Nat) : Int)) rfl (by omega) rfl rfl rfl) ?_
              refine O.p rfl rfl rfl (Pu.assign rfl rfl) ?_
              refine O.nil ?_
              exact X.back3 (o2A, o2c, o2, f, d, turn + 1) (by (try dsimp only); exact ⟨by omega, fun h => ⟨(hT1 (by omega)).2, (hT1 (by omega)).1⟩, fun h => ⟨(hT0 (by omega)).2, (hT0 (by omega)).1⟩, hs2, fun r => by rw [hm2 r, hitT_step (by omega) hT0 hT1]; exact ⟨fun h => h.imp id .inl, fun h => h.imp id (fun h => h.elim id (fun h => (c6 h.2.1).elim))⟩, by omega⟩) (by first | omega | (dsimp only; omega)) (Ent.cons' rfl (by first | rfl | (simp only [tops_append]; rfl)) (Ent.cons rfl (Ent.cons rfl (Ent.cons rfl (Ent.nil _))))) (Ent.cons (t := 1) rfl (Ent.cons (t := 2) rfl (Ent.cons (t := 4) rfl (Ent.cons (t := 5) rfl (Ent.cons (t := 7) rfl (Ent.cons (t := 8) rfl (Ent.nil _))))))) (Sub.keep 0 rfl (Sub.keep 0 rfl (Sub.keep 0 rfl (Sub.nil _))))
          · skip
            refine O.gs rfl rfl rfl rfl rfl rfl ?_
            refine O.gs rfl rfl rfl rfl rfl rfl ?_
            refine O.gs rfl rfl rfl rfl rfl rfl ?_
            refine O.gs rfl rfl rfl rfl rfl rfl ?_
            refine O.gs rfl rfl rfl rfl rfl rfl ?_
            refine O.gs rfl rfl rfl rfl rfl rfl ?_
            refine O.p rfl rfl rfl (Pu.pickF rfl rfl rfl) ?_
            refine O.nil ?_
            refine X.next ?_
            refine V.condF rfl ?_
            refine V.skip ?_
            refine X.next ?_
            refine V.region ?_
            refine O.p rfl rfl rfl (Pu.move rfl rfl) ?_
            refine O.p rfl rfl rfl (Pu.move rfl rfl) ?_
            refine O.p rfl rfl rfl (Pu.assign rfl rfl) ?_
            refine O.p rfl rfl rfl (Pu.assign rfl rfl) ?_
            refine O.nil ?_
            refine X.blockNormal ?_
            refine X.next ?_
            refine V.region ?_
            refine O.p rfl rfl rfl (Pu.move rfl rfl) ?_
            refine O.p rfl rfl rfl (Pu.add64 (r := ((turn + 1 : Nat) : Int)) rfl (by omega) rfl rfl rfl) ?_
            refine O.p rfl rfl rfl (Pu.assign rfl rfl) ?_
            refine O.nil ?_
            exact X.back3 (o2A, o2c, o2, f, d, turn + 1) (by (try dsimp only); exact ⟨by omega, fun h => ⟨(hT1 (by omega)).2, (hT1 (by omega)).1⟩, fun h => ⟨(hT0 (by omega)).2, (hT0 (by omega)).1⟩, hs2, fun r => by rw [hm2 r, hitT_step (by omega) hT0 hT1]; exact ⟨fun h => h.imp id .inl, fun h => h.imp id (fun h => h.elim id (fun h => (h.1 (by omega)).elim))⟩, by omega⟩) (by first | omega | (dsimp only; omega)) (Ent.cons' rfl (by first | rfl | (simp only [tops_append]; rfl)) (Ent.cons rfl (Ent.cons rfl (Ent.cons rfl (Ent.nil _))))) (Ent.cons (t := 1) rfl (Ent.cons (t := 2) rfl (Ent.cons (t := 4) rfl (Ent.cons (t := 5) rfl (Ent.cons (t := 7) rfl (Ent.cons (t := 8) rfl (Ent.nil _))))))) (Sub.keep 0 rfl (Sub.keep 0 rfl (Sub.keep 0 rfl (Sub.nil _))))
        · skip
          refine V.exit ?_
          refine X.thenExit ?_
          refine X.thenExit ?_
          refine X.blockHit ?_
          refine X.blockNormal ?_
          refine X.next ?_
          refine V.region ?_
          refine O.p rfl rfl rfl (Pu.move rfl rfl) ?_
          refine O.p rfl rfl rfl (Pu.add64 (r := ((j + 1 : Nat) : Int)) rfl (by omega) rfl rfl rfl) ?_
          refine O.p rfl rfl rfl (Pu.assign rfl rfl) ?_
          refine O.nil ?_
          exact X.back3 (o2A, o2c, o2, j + 1) (by (try dsimp only); exact ⟨by omega, hs2, fun r => by rw [hm2 r, seen_step (by omega), ← hit_iff hS e1 e2 (by omega) tr1 tr2 r, ← hitT_end (show 2 ≤ turn by omega), hm1 r], by omega⟩) (by first | omega | (dsimp only; omega)) (Ent.cons' rfl (by first | rfl | (simp only [tops_append]; rfl)) (Ent.cons rfl (Ent.nil _))) (Ent.cons (t := 1) rfl (Ent.cons (t := 2) rfl (Ent.cons (t := 4) rfl (Ent.nil _)))) (Sub.keep 0 rfl (Sub.keep 0 rfl (Sub.keep 0 rfl (Sub.nil _))))
    · skip
      refine V.exit ?_
      refine X.thenExit ?_
      refine X.thenExit ?_
      refine X.blockHit ?_
      refine X.blockNormal ?_
      refine X.next ?_
      refine V.region ?_
      refine O.p rfl rfl rfl (Pu.move rfl rfl) ?_
      refine O.p rfl rfl rfl (Pu.add64 (r := ((i + 1 : Nat) : Int)) rfl (by omega) rfl rfl rfl) ?_
      refine O.p rfl rfl rfl (Pu.assign rfl rfl) ?_
      refine O.nil ?_
      exact X.back3 (o1A, o1c, o1, i + 1) (by (try dsimp only); exact ⟨by omega, hs1, fun r => by rw [hm1 r, ← seen_row, show j = i by omega], by omega⟩) (by first | omega | (dsimp only; omega)) (Ent.cons' rfl (by first | rfl | (simp only [tops_append]; rfl)) (Ent.cons rfl (Ent.nil _))) (Ent.cons (t := 1) rfl (Ent.cons (t := 2) rfl (Ent.nil _))) (Sub.keep 0 rfl (Sub.keep 0 rfl (Sub.keep 0 rfl (Sub.nil _))))
  · skip
    refine V.exit ?_
    refine X.thenExit ?_
    refine X.thenExit ?_
    refine X.blockHit ?_
    refine X.next ?_
    refine V.seq ?_
    refine V.region ?_
    refine O.p rfl rfl rfl (Pu.move rfl rfl) ?_
    refine O.p rfl rfl rfl (Pu.assign rfl rfl) ?_
    refine O.nil ?_
    refine X.next ?_
    refine V.ret ?_
    refine X.ret1 rfl rfl ?_
    exact fun w hw => St.mkExi outA (St.mkExi outc (St.mkExi out (St.unsep (St.addPur ⟨(by first | rfl | (simp only [tops_append]; rfl)), ⟨hs0, fun r => by rw [hm0 r, show i = bs.length by omega, seen_all]⟩, by omega⟩ (St.unsep (hw.sub (Sub.keep 0 rfl (Sub.keep 0 rfl (Sub.nil _)))))))))

set_option maxRecDepth 100000 in
set_option maxHeartbeats 1000000 in
theorem specPaschList_ok (v : Int) (bs : List B3) (A : Option Addr) (c : Nat) (w : World) (hx : Rd B3C w A bs) (lx : bs.length ≤ 4611686018427387904) : Does Try.prog 29 [.agg #[.int .i64 v, .slice A bs.length c]] w [] (fun r => [.exi fun (pA : Option Addr) => .exi fun (pc : Nat) => .exi fun (p : List (Sl × List Int)) => .sep (.pur (r = .tuple #[.slice pA (tops p).length pc, .int .i64 (if STS v bs then 0 else 1)] ∧ ResL (STS v bs) (PQ bs) (conts p) ∧ p.length ≤ 1500625)) (.sep (Own 47 SlC pA pc (tops p)) (RowsA 2 I64 p))]) := by
  refine Does.enter Try.func29 rfl rfl [(0, .agg #[.int .i64 v, .slice A bs.length c])] rfl ?_
  refine V.seq ?_
  refine V.region ?_
  refine O.e rfl rfl rfl (Ef.box rfl rfl rfl) ?_
  rintro _ _ ⟨b1, rfl, rfl⟩
  refine O.p rfl rfl rfl (Pu.assign rfl rfl) ?_
  refine O.p rfl rfl rfl (Pu.assign rfl rfl) ?_
  refine O.nil ?_
  refine X.next ?_
  refine V.seq ?_
  refine V.seq ?_
  refine V.region ?_
  refine O.p rfl rfl rfl (Pu.loadAgg rfl ag31 sz31 rfl rfl (Ld.whole 0 rfl)) ?_
  refine O.e rfl rfl rfl (Ef.callP call31 rfl rfl (fun w hw => l01Is_ok _ bs _ _ w ((Ld.old hx) w hw) (by omega))) ?_
  rintro _ _ ⟨rfl, rfl⟩
  refine O.p rfl rfl rfl (Pu.not rfl rfl) ?_
  refine O.nil ?_
  refine X.next ?_
  refine V.condNot rfl (fun c1 => ?_) (fun c1 => ?_)
  · skip
    refine V.seq ?_
    refine V.region ?_
    refine O.p rfl rfl rfl (Pu.assign rfl rfl) ?_
    refine O.p rfl rfl rfl (Pu.assign rfl rfl) ?_
    refine O.nil ?_
    refine X.next ?_
    refine V.ret ?_
    refine X.thenRet ?_
    refine X.ret2 rfl rfl rfl ?_
    exact fun w hw => St.mkExi none (St.mkExi 0 (St.mkExi [] (St.unsep (St.addPur ⟨by rw [if_neg c1]; rfl, ⟨fun h => absurd h c1, fun _ => rfl⟩, by simp⟩ (St.unsep (St.addNil (T := 47) (C := SlC) (RowsA.nil (T := 2) (C := I64) (hw.sub (Sub.nil _)))))))))
  · skip
    refine V.skip ?_
    refine X.next ?_
    refine V.seq ?_
    refine V.region ?_
    refine O.p rfl rfl rfl (Pu.loadAgg rfl ag31 sz31 rfl rfl (Ld.whole 0 rfl)) ?_
    refine O.e rfl rfl rfl (Ef.call1 call45 rfl rfl (fun w hw => l03Pasch_ok  v bs _ _ w ((Ld.old hx) w hw) (by first | omega | (simp only [tops_len, conts_len, bl, List.length_append, List.length_cons, List.length_nil] at *; omega)) (by first | assumption | omega | (try dsimp only at *; omega)))) ?_
    rintro _ _ rfl
    refine O.exi (fun p1A => ?_)
    refine O.exi (fun p1c => ?_)
    refine O.exi (fun p1 => ?_)
    refine O.sep ?_
    refine O.pur ?_
    rintro ⟨rfl, hp1_1, hp1_2⟩
    refine O.sep ?_
    refine O.fact (RowsA.len 1 rfl) (fun hn_p1 => ?_)
    have htl_p1 := tops_len p1
    refine O.p rfl rfl rfl (Pu.assign rfl rfl) ?_
    refine O.p rfl rfl rfl (Pu.assign rfl rfl) ?_
    refine O.nil ?_
    refine X.next ?_
    refine V.ret ?_
    refine X.ret2 rfl rfl rfl ?_
    exact fun w hw => St.mkExi p1A (St.mkExi p1c (St.mkExi p1 (St.unsep (St.addPur ⟨by rw [if_pos c1], ⟨fun _ => hp1_1, fun h => absurd c1 h⟩, by omega⟩ (St.unsep (hw.sub (Sub.keep 0 rfl (Sub.keep 0 rfl (Sub.nil _)))))))))
end Go.Proofs.Ytnbbkcpafkooaaa
