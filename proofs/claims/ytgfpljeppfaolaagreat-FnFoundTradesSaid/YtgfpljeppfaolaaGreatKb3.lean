/-
  Contracts, part 3.
-/
import Derived.Test.YtgfpljeppfaolaaGreatKb2
set_option linter.unusedVariables false
set_option linter.unusedSimpArgs false
namespace Go.Proofs.YtgfpljeppfaolaaGreat
open Go Go.RowKit Go.Vc Go.Proofs
set_option maxRecDepth 100000 in
set_option maxHeartbeats 1000000 in
theorem paschs_ok (v : Int) (bs : List B3) (A : Option Addr) (c : Nat) (w : World) (hx : Rd B3C w A bs) (lx : bs.length ≤ 4611686018427387904) (hS : STS v bs) : Does Tryz.prog 136 [.agg #[.int .i64 v, .slice A bs.length c]] w [] (fun r => [.exi fun (pA : Option Addr) => .exi fun (pc : Nat) => .exi fun (p : List (Sl × List Int)) => .sep (.pur (r = .slice pA (tops p).length pc ∧ IsList (PQ bs) (conts p) ∧ p.length ≤ 1500625)) (.sep (Own 49 SlC pA pc (tops p)) (RowsA 2 I64 p))]) := by
 refine Does.enter Tryz.func136 rfl rfl [(0, .agg #[.int .i64 v, .slice A bs.length c])] rfl ?_
 have hfew := hS.few
 have hg : ∀ b ∈ bs, good 15 b := fun b h => (hS.good b h).mono hS.hi
 refine Za (O.f rfl (Ef.box rfl rfl rfl) ?_)
 rintro _ _ ⟨b1, rfl, rfl⟩
 refine O.m rfl (Zb (O.m rfl (Zb (O.q rfl (Pu.fieldAddr 1 rfl ut26 rfl sz24 rfl rfl) (O.q rfl (Pu.load rfl pl24 rfl (Ld.blk 0 rfl rfl)) ?_)))))
 refine O.m rfl (Zc (O.m rfl (O.q rfl (Pu.len rfl ut24 rfl) (O.m rfl (Zi ?_)))))
 refine V.map (fun w hw => St.addNil (T := 49) (C := SlC) (RowsA.nil (T := 2) (C := I64) hw)) (V.loop3 (β := (Option Addr) × Nat × (List (Sl × List Int)) × Nat) (fun x => [(3, .slice x.1 (tops x.2.2.1).length x.2.1), (13, .int .i64 (x.2.2.2 : Int))]) _ (fun x => [Own 49 SlC x.1 x.2.1 (tops x.2.2.1), RowsA 2 I64 x.2.2.1]) _ (fun x => x.2.2.2 ≤ bs.length ∧ IsList (PreB (PQ bs) [] x.2.2.2) (conts x.2.2.1) ∧ x.2.2.1.length ≤ x.2.2.2 * 42875) (fun x => bs.length - x.2.2.2) (none, 0, [], 0) (by (try dsimp only); exact ⟨by omega, pas0, by simp⟩) (Ent.cons rfl (Ent.cons rfl (Ent.nil _))) (Ent.cons (t := 4) rfl (Ent.cons (t := 12) rfl (Ent.nil _))) (Sub.s [0,0,0] rfl) ?_)
 rintro ⟨outA, outc, out, i⟩ ⟨hi, g0, b0⟩
 dsimp only at hi g0 b0 ⊢
 refine V.fact (RowsA.len 1 rfl) (fun hn_out => ?_)
 have htl_out := tops_len out
 refine Za (O.q rfl (Pu.lss rfl rfl rfl) (Zf (Vs (V.condD rfl (fun c1 => ?_) (fun c1 => ?_)))))
 ·refine Zh (O.m rfl (O.m rfl (Zb ?_)))
  refine O.m rfl (O.q rfl (Pu.add64 (r := ((i + 1 : Nat) : Int)) rfl (by omega) rfl rfl rfl) (O.m rfl (Zi (V.loop3 (β := (Option Addr) × Nat × (List (Sl × List Int)) × Nat) (fun x => [(3, .slice x.1 (tops x.2.2.1).length x.2.1), (6, .int .i64 (x.2.2.2 : Int))]) _ (fun x => [Own 49 SlC x.1 x.2.1 (tops x.2.2.1), RowsA 2 I64 x.2.2.1]) _ (fun x => i < x.2.2.2 ∧ x.2.2.2 ≤ bs.length ∧ (∃ ls, conts x.2.2.1 = conts out ++ ls ∧ IsList (PreB (PQ bs) [(i : Int)] x.2.2.2) ls) ∧ x.2.2.1.length ≤ i * 42875 + x.2.2.2 * 1225) (fun x => bs.length - x.2.2.2) (outA, outc, out, i + 1) (by (try dsimp only); exact ⟨by omega, by omega, ⟨[], by simp, pas1⟩, by omega⟩) (Ent.cons rfl (Ent.cons rfl (Ent.nil _))) (Ent.cons (t := 4) rfl (Ent.cons (t := 5) rfl (Ent.cons (t := 12) rfl (Ent.cons (t := 13) rfl (Ent.nil _))))) (Sub.s [0,0,0] rfl) ?_))))
  rintro ⟨o1A, o1c, o1, j⟩ ⟨hij, hj, ⟨ls1, q1, g1⟩, b1⟩
  dsimp only at hij hj ls1 q1 g1 b1 ⊢
  refine V.fact (RowsA.len 1 rfl) (fun hn_o1 => ?_)
  have htl_o1 := tops_len o1
  refine Zj (O.m rfl (O.m rfl (O.q rfl (Pu.len rfl ut24 rfl) (O.q rfl (Pu.lss rfl rfl rfl) (Zf (V.condD rfl (fun c2 => ?_) (fun c2 => ?_)))))))
  ·refine Vk (Xn (Vs (Vb (Vs (Vs (V.draw mo (by kernel_rfl) (fun hwf => D.m 0 rfl (D.m 1 rfl (D.q 2 rfl (Pu.indexAddr (i) rfl ut24 sz81 rfl rfl (by omega) (by omega) (hx.some (by omega))) ?_)))))))))
   have e1 : i < bs.length := by omega
   refine D.q 3 rfl (Pu.loadAgg' (v := B3.v (bs[i]'e1)) rfl rfl ag81 sz81 rfl rfl (Ld.rds (Ld.old hx) (k := i) e1 rfl)) (D.m 4 rfl (D.m 5 rfl (D.q 6 rfl (Pu.indexAddr (j) rfl ut24 sz81 rfl rfl (by omega) (by omega) (hx.some (by omega))) ?_)))
   have e2 : j < bs.length := by omega
   refine D.q 7 rfl (Pu.loadAgg' (v := B3.v (bs[j]'e2)) rfl rfl ag81 sz81 rfl rfl (Ld.rds (Ld.old hx) (k := j) e2 rfl)) (D.f hwf 8 rfl (Ef.callP call134 rfl rfl (fun w hw => meets_ok (bs[i]'e1) (bs[j]'e2) w)) ?_)
   rintro _ _ ⟨rfl, rfl⟩ hs
   refine ⟨fun w hw => hw, (D.q 9 rfl (Pu.not rfl rfl) (D.done hwf rfl (Xn (V.condNot rfl (fun c3 => ?_) (fun c3 => ?_)))))⟩
   ·exact Ve (Xe (Xh (Xn (Vr (O.m rfl (O.q rfl (Pu.add64 (r := ((j + 1 : Nat) : Int)) rfl (by omega) rfl rfl rfl) (O.m rfl (On (X.back3 (o1A, o1c, o1, j + 1) (by (try dsimp only); exact ⟨by omega, by omega, ⟨ls1, q1, pas_skip1 hS hij (by omega) c3 g1⟩, by omega⟩) (by first | omega | (dsimp only; omega)) (Ent.cons' rfl (by first | rfl | (simp only [tops_append]; done) | (simp only [tops_append]; rfl)) (Ent.cons rfl (Ent.nil _))) (Ent.cons (t := 4) rfl (Ent.cons (t := 5) rfl (Ent.cons (t := 12) rfl (Ent.cons (t := 13) rfl (Ent.nil _))))) (Sub.s [0,0,0] rfl))))))))))
   ·refine Vk (Xn (Za (O.m rfl (O.q rfl (Pu.add64 (r := ((j + 1 : Nat) : Int)) rfl (by omega) rfl rfl rfl) (O.m rfl (Zi (V.loop3 (β := (Option Addr) × Nat × (List (Sl × List Int)) × Nat) (fun x => [(3, .slice x.1 (tops x.2.2.1).length x.2.1), (7, .int .i64 (x.2.2.2 : Int))]) _ (fun x => [Own 49 SlC x.1 x.2.1 (tops x.2.2.1), RowsA 2 I64 x.2.2.1]) _ (fun x => j < x.2.2.2 ∧ x.2.2.2 ≤ bs.length ∧ (∃ ls, conts x.2.2.1 = conts o1 ++ ls ∧ IsList (PreB (PQ bs) [(i : Int), (j : Int)] x.2.2.2) ls) ∧ x.2.2.1.length ≤ i * 42875 + j * 1225 + x.2.2.2 * 35) (fun x => bs.length - x.2.2.2) (o1A, o1c, o1, j + 1) (by (try dsimp only); exact ⟨by omega, by omega, ⟨[], by simp, pas2⟩, by omega⟩) (Ent.cons rfl (Ent.cons rfl (Ent.nil _))) (Ent.cons (t := 4) rfl (Ent.cons (t := 5) rfl (Ent.cons (t := 6) rfl (Ent.cons (t := 12) rfl (Ent.cons (t := 13) rfl (Ent.nil _)))))) (Sub.s [0,0,0] rfl) ?_)))))))
    rintro ⟨o2A, o2c, o2, k⟩ ⟨hjk, hk, ⟨ls2, q2, g2⟩, b2⟩
    dsimp only at hjk hk ls2 q2 g2 b2 ⊢
    refine V.fact (RowsA.len 1 rfl) (fun hn_o2 => ?_)
    have htl_o2 := tops_len o2
    refine Zj (O.m rfl (O.m rfl (O.q rfl (Pu.len rfl ut24 rfl) (O.q rfl (Pu.lss rfl rfl rfl) (Zf (V.condD rfl (fun c4 => ?_) (fun c4 => ?_)))))))
    ·refine Vk (Xn (Vs (Vb (Vs (Vs (V.draw mo (by kernel_rfl) (fun hwf => D.m 0 rfl (D.m 1 rfl (D.q 2 rfl (Pu.indexAddr (i) rfl ut24 sz81 rfl rfl (by omega) (by omega) (hx.some (by omega))) (D.q 3 rfl (Pu.loadAgg' (v := B3.v (bs[i]'e1)) rfl rfl ag81 sz81 rfl rfl (Ld.rds (Ld.old hx) (k := i) e1 rfl)) (D.m 4 rfl ?_)))))))))))
     refine D.m 5 rfl (D.q 6 rfl (Pu.indexAddr (k) rfl ut24 sz81 rfl rfl (by omega) (by omega) (hx.some (by omega))) ?_)
     have e3 : k < bs.length := by omega
     refine D.q 7 rfl (Pu.loadAgg' (v := B3.v (bs[k]'e3)) rfl rfl ag81 sz81 rfl rfl (Ld.rds (Ld.old hx) (k := k) e3 rfl)) (D.f hwf 8 rfl (Ef.callP call134 rfl rfl (fun w hw => meets_ok (bs[i]'e1) (bs[k]'e3) w)) ?_)
     rintro _ _ ⟨rfl, rfl⟩ hs
     refine ⟨fun w hw => hw, (D.q 9 rfl (Pu.not rfl rfl) (D.m 10 rfl (D.splitN 52 rfl (fun c5 => ?_) (fun c5 => ?_))))⟩
     ·refine D.g 11 rfl (D.g 12 rfl (D.g 13 rfl (D.g 14 rfl (D.g 15 rfl (D.g 16 rfl (D.g 17 rfl (D.g 18 rfl (D.g 19 rfl (D.g 20 rfl (D.m 21 rfl (D.done hwf rfl ?_)))))))))))
      exact Xn (V.condT rfl (Ve (Xe (Xh (Xn (Vr (O.m rfl (O.q rfl (Pu.add64 (r := ((k + 1 : Nat) : Int)) rfl (by omega) rfl rfl rfl) (O.m rfl (On (X.back3 (o2A, o2c, o2, k + 1) (by (try dsimp only); exact ⟨by omega, by omega, ⟨ls2, q2, pas_skip2 hS hij hjk (by omega) (.inl c5) g2⟩, by omega⟩) (by first | omega | (dsimp only; omega)) (Ent.cons' rfl (by first | rfl | (simp only [tops_append]; done) | (simp only [tops_append]; rfl)) (Ent.cons rfl (Ent.nil _))) (Ent.cons (t := 4) rfl (Ent.cons (t := 5) rfl (Ent.cons (t := 6) rfl (Ent.cons (t := 12) rfl (Ent.cons (t := 13) rfl (Ent.nil _)))))) (Sub.s [0,0,0] rfl))))))))))))
     ·refine D.gm 11 rfl (D.gm 12 rfl (D.gq 13 rfl (Pu.indexAddr (j) rfl ut24 sz81 rfl rfl (by omega) (by omega) (hx.some (by omega))) (D.gq 14 rfl (Pu.loadAgg' (v := B3.v (bs[j]'e2)) rfl rfl ag81 sz81 rfl rfl (Ld.rds (Ld.old hx) (k := j) e2 rfl)) (D.gm 15 rfl (D.gm 16 rfl (D.gq 17 rfl (Pu.indexAddr (k) rfl ut24 sz81 rfl rfl (by omega) (by omega) (hx.some (by omega))) (D.gq 18 rfl (Pu.loadAgg' (v := B3.v (bs[k]'e3)) rfl rfl ag81 sz81 rfl rfl (Ld.rds (Ld.old hx) (k := k) e3 rfl)) (D.geff hwf (e := 19) rfl rfl rfl rfl rfl rfl (Ef.callP call134 rfl rfl (fun w hw => meets_ok (bs[j]'e2) (bs[k]'e3) w)) rfl rfl rfl ?_))))))))
      rintro _ _ ⟨rfl, rfl⟩ hs
      refine ⟨fun w hw => hw, (D.gq 20 rfl (Pu.not rfl rfl) (D.m 21 rfl (D.done hwf rfl (Xn (V.condNot rfl (fun c6 => ?_) (fun c6 => ?_))))))⟩
      ·exact Ve (Xe (Xh (Xn (Vr (O.m rfl (O.q rfl (Pu.add64 (r := ((k + 1 : Nat) : Int)) rfl (by omega) rfl rfl rfl) (O.m rfl (On (X.back3 (o2A, o2c, o2, k + 1) (by (try dsimp only); exact ⟨by omega, by omega, ⟨ls2, q2, pas_skip2 hS hij hjk (by omega) (.inr c6) g2⟩, by omega⟩) (by first | omega | (dsimp only; omega)) (Ent.cons' rfl (by first | rfl | (simp only [tops_append]; done) | (simp only [tops_append]; rfl)) (Ent.cons rfl (Ent.nil _))) (Ent.cons (t := 4) rfl (Ent.cons (t := 5) rfl (Ent.cons (t := 6) rfl (Ent.cons (t := 12) rfl (Ent.cons (t := 13) rfl (Ent.nil _)))))) (Sub.s [0,0,0] rfl))))))))))
      ·refine Vk (Xn (Za (O.m rfl (O.q rfl (Pu.add64 (r := ((k + 1 : Nat) : Int)) rfl (by omega) rfl rfl rfl) (O.m rfl (Zi (V.loop3 (β := (Option Addr) × Nat × (List (Sl × List Int)) × Nat) (fun x => [(3, .slice x.1 (tops x.2.2.1).length x.2.1), (8, .int .i64 (x.2.2.2 : Int))]) _ (fun x => [Own 49 SlC x.1 x.2.1 (tops x.2.2.1), RowsA 2 I64 x.2.2.1]) _ (fun x => k < x.2.2.2 ∧ x.2.2.2 ≤ bs.length ∧ (∃ ls, conts x.2.2.1 = conts o2 ++ ls ∧ IsList (PreB (PQ bs) [(i : Int), (j : Int), (k : Int)] x.2.2.2) ls) ∧ x.2.2.1.length ≤ i * 42875 + j * 1225 + k * 35 + x.2.2.2) (fun x => bs.length - x.2.2.2) (o2A, o2c, o2, k + 1) (by (try dsimp only); exact ⟨by omega, by omega, ⟨[], by simp, pas3⟩, by omega⟩) (Ent.cons rfl (Ent.cons rfl (Ent.nil _))) (Ent.cons (t := 4) rfl (Ent.cons (t := 5) rfl (Ent.cons (t := 6) rfl (Ent.cons (t := 7) rfl (Ent.cons (t := 12) rfl (Ent.cons (t := 13) rfl (Ent.nil _))))))) (Sub.s [0,0,0] rfl) ?_)))))))
       rintro ⟨o3A, o3c, o3, m⟩ ⟨hkm, hm, ⟨ls3, q3, g3⟩, b3⟩
       dsimp only at hkm hm ls3 q3 g3 b3 ⊢
       refine V.fact (RowsA.len 1 rfl) (fun hn_o3 => ?_)
       have htl_o3 := tops_len o3
       refine Zj (O.m rfl (O.m rfl (O.q rfl (Pu.len rfl ut24 rfl) (O.q rfl (Pu.lss rfl rfl rfl) (Zf (V.condD rfl (fun c7 => ?_) (fun c7 => ?_)))))))
       ·refine Vk (Xn (Vs (Vb (Vs (V.draw mo (by kernel_rfl) (fun hwf => D.m 0 rfl (D.m 1 rfl (D.q 2 rfl (Pu.indexAddr (i) rfl ut24 sz81 rfl rfl (by omega) (by omega) (hx.some (by omega))) (D.q 3 rfl (Pu.loadAgg' (v := B3.v (bs[i]'e1)) rfl rfl ag81 sz81 rfl rfl (Ld.rds (Ld.old hx) (k := i) e1 rfl)) (D.m 4 rfl (D.m 5 rfl ?_)))))))))))
        refine D.q 6 rfl (Pu.indexAddr (j) rfl ut24 sz81 rfl rfl (by omega) (by omega) (hx.some (by omega))) (D.q 7 rfl (Pu.loadAgg' (v := B3.v (bs[j]'e2)) rfl rfl ag81 sz81 rfl rfl (Ld.rds (Ld.old hx) (k := j) e2 rfl)) (D.m 8 rfl (D.m 9 rfl (D.q 10 rfl (Pu.indexAddr (k) rfl ut24 sz81 rfl rfl (by omega) (by omega) (hx.some (by omega))) (D.q 11 rfl (Pu.loadAgg' (v := B3.v (bs[k]'e3)) rfl rfl ag81 sz81 rfl rfl (Ld.rds (Ld.old hx) (k := k) e3 rfl)) (D.m 12 rfl (D.m 13 rfl (D.q 14 rfl (Pu.indexAddr (m) rfl ut24 sz81 rfl rfl (by omega) (by omega) (hx.some (by omega))) ?_))))))))
        have e4 : m < bs.length := by omega
        refine D.q 15 rfl (Pu.loadAgg' (v := B3.v (bs[m]'e4)) rfl rfl ag81 sz81 rfl rfl (Ld.rds (Ld.old hx) (k := m) e4 rfl)) (D.f hwf 16 rfl (Ef.build B3C ([(bs[i]'e1), (bs[j]'e2), (bs[k]'e3), (bs[m]'e4)] : List B3) rfl ut24 inf81 rfl rfl rfl (by first | decide | (simp; done)) (by kernel_rfl)) ?_)
        rintro _ _ ⟨A1, hA1, rfl, rfl⟩ hs
        refine ⟨fun w hw => hw.sub (Sub.s [1,1,1] rfl), (D.f hwf 17 rfl (Ef.callP call184 rfl rfl (fun w hw => isPasch_ok  ([(bs[i]'e1), (bs[j]'e2), (bs[k]'e3), (bs[m]'e4)] : List B3) _ _ w ((Ld.own 0 (by exact rfl)) w hw) (by first | omega | (simp only [tops_len, conts_len, bl, List.length_append, List.length_cons, List.length_nil] at *; omega)) (fun b hb => by simp only [List.mem_cons, List.not_mem_nil, or_false] at hb; rcases hb with rfl | rfl | rfl | rfl <;> exact hg _ (List.getElem_mem _)) (by rfl))) ?_)⟩
        rintro _ _ ⟨rfl, rfl⟩ hs
        refine ⟨fun w hw => hw.sub (Sub.s [1,1,1] rfl), (D.done hwf rfl (Xn (V.condD rfl (fun c8 => ?_) (fun c8 => ?_))))⟩
        ·refine Vr (O.m rfl (O.m rfl (O.m rfl (O.m rfl (O.m rfl (O.f rfl (Ef.build I64 ([(↑i : Int), (↑j : Int), (↑k : Int), (↑m : Int)] : List Int) rfl ut49 inf2 rfl rfl rfl (by first | decide | (simp; done)) (by kernel_rfl)) ?_))))))
         rintro _ _ ⟨A2, hA2, rfl, rfl⟩
         refine O.f rfl (Ef.build SlC ([⟨A2, 4, 4⟩] : List Sl) rfl ut53 inf49 rfl rfl rfl (by first | decide | (simp; done)) (by kernel_rfl)) ?_
         rintro _ _ ⟨A3, hA3, rfl, rfl⟩
         refine O.f rfl (Ef.append (xs := (tops o3)) (ys := ([⟨A2, 4, 4⟩] : List Sl)) 3 rfl ut53 inf49 rfl rfl rfl rfl rfl rfl hA3 (Ld.own 0 (by exact rfl)) (by simp only [List.length_append, List.length_cons, List.length_nil] at *; omega) (by decide)) ?_
         rintro _ _ ⟨A4, k1, rfl, rfl, hA4⟩
         replace hA4 := hA4 (.inr (by simp))
         exact O.map (fun w hw => snoc_heap (ps := o3) (xs := ([(↑i : Int), (↑j : Int), (↑k : Int), (↑m : Int)] : List Int)) (hw.sub (Sub.s [3,3,1,0,0,0] rfl))) (O.m rfl (Zk (O.m rfl (O.q rfl (Pu.add64 (r := ((m + 1 : Nat) : Int)) rfl (by omega) rfl rfl rfl) (O.m rfl (On (X.back3 (A4, k1, (o3 ++ [((⟨A2, 4, 4⟩ : Sl), ([(↑i : Int), (↑j : Int), (↑k : Int), (↑m : Int)] : List Int))]), m + 1) (by (try dsimp only); exact ⟨by omega, by omega, ⟨ls3 ++ [[(i : Int), (j : Int), (k : Int), (m : Int)]], by rw [conts_append, q3, List.append_assoc]; rfl, pas_yes hij hjk hkm (by omega) ((pasB_four (hg _ (List.getElem_mem _)) (hg _ (List.getElem_mem _)) (hg _ (List.getElem_mem _)) (hg _ (List.getElem_mem _))).1 c8) g3⟩, by simp only [List.length_append, List.length_singleton]; omega⟩) (by first | omega | (dsimp only; omega)) (Ent.cons' rfl (by first | rfl | (simp only [tops_append]; done) | (simp only [tops_append]; rfl)) (Ent.cons rfl (Ent.nil _))) (Ent.cons (t := 4) rfl (Ent.cons (t := 5) rfl (Ent.cons (t := 6) rfl (Ent.cons (t := 7) rfl (Ent.cons (t := 12) rfl (Ent.cons (t := 13) rfl (Ent.nil _))))))) (Sub.s [0,0,2] rfl))))))))
        ·exact Zg (O.m rfl (O.q rfl (Pu.add64 (r := ((m + 1 : Nat) : Int)) rfl (by omega) rfl rfl rfl) (O.m rfl (On (X.back3 (o3A, o3c, o3, m + 1) (by (try dsimp only); exact ⟨by omega, by omega, ⟨ls3, q3, pas_no hij hjk hkm (by omega) (fun h => c8 ((pasB_four (hg _ (List.getElem_mem _)) (hg _ (List.getElem_mem _)) (hg _ (List.getElem_mem _)) (hg _ (List.getElem_mem _))).2 h)) g3⟩, by omega⟩) (by first | omega | (dsimp only; omega)) (Ent.cons' rfl (by first | rfl | (simp only [tops_append]; done) | (simp only [tops_append]; rfl)) (Ent.cons rfl (Ent.nil _))) (Ent.cons (t := 4) rfl (Ent.cons (t := 5) rfl (Ent.cons (t := 6) rfl (Ent.cons (t := 7) rfl (Ent.cons (t := 12) rfl (Ent.cons (t := 13) rfl (Ent.nil _))))))) (Sub.s [1,1,1] rfl))))))
       ·exact Ve (Xe (Xe (Xh (Xb (Xn (Vr (O.m rfl (O.q rfl (Pu.add64 (r := ((k + 1 : Nat) : Int)) rfl (by omega) rfl rfl rfl) (O.m rfl (On (X.back3 (o3A, o3c, o3, k + 1) (by (try dsimp only); exact ⟨by omega, by omega, ⟨ls2 ++ ls3, by rw [q3, q2, List.append_assoc], preB_step g2 (pas3_all (by omega) g3)⟩, by omega⟩) (by first | omega | (dsimp only; omega)) (Ent.cons' rfl (by first | rfl | (simp only [tops_append]; done) | (simp only [tops_append]; rfl)) (Ent.cons rfl (Ent.nil _))) (Ent.cons (t := 4) rfl (Ent.cons (t := 5) rfl (Ent.cons (t := 6) rfl (Ent.cons (t := 12) rfl (Ent.cons (t := 13) rfl (Ent.nil _)))))) (Sub.s [0,0,0] rfl))))))))))))
    ·exact Ve (Xe (Xe (Xh (Xb (Xn (Vr (O.m rfl (O.q rfl (Pu.add64 (r := ((j + 1 : Nat) : Int)) rfl (by omega) rfl rfl rfl) (O.m rfl (On (X.back3 (o2A, o2c, o2, j + 1) (by (try dsimp only); exact ⟨by omega, by omega, ⟨ls1 ++ ls2, by rw [q2, q1, List.append_assoc], preB_step g1 (pas2_all (by omega) g2)⟩, by omega⟩) (by first | omega | (dsimp only; omega)) (Ent.cons' rfl (by first | rfl | (simp only [tops_append]; done) | (simp only [tops_append]; rfl)) (Ent.cons rfl (Ent.nil _))) (Ent.cons (t := 4) rfl (Ent.cons (t := 5) rfl (Ent.cons (t := 12) rfl (Ent.cons (t := 13) rfl (Ent.nil _))))) (Sub.s [0,0,0] rfl))))))))))))
  ·exact Ve (Xe (Xe (Xh (Xb (Xn (Vr (O.q rfl (Pu.add64 (r := ((i + 1 : Nat) : Int)) rfl (by omega) rfl rfl rfl) (O.m rfl (On (X.back3 (o1A, o1c, o1, i + 1) (by (try dsimp only); exact ⟨by omega, by rw [q1]; exact preB_step g0 (pas1_all (by omega) g1), by omega⟩) (by first | omega | (dsimp only; omega)) (Ent.cons' rfl (by first | rfl | (simp only [tops_append]; done) | (simp only [tops_append]; rfl)) (Ent.cons rfl (Ent.nil _))) (Ent.cons (t := 4) rfl (Ent.cons (t := 12) rfl (Ent.nil _))) (Sub.s [0,0,0] rfl)))))))))))
 ·refine Zd (O.m rfl (O.m rfl (Ze ?_)))
  exact X.ret1 rfl rfl (fun w hw => St.mkExi outA (St.mkExi outc (St.mkExi out (St.unsep (St.addPur ⟨(by first | rfl | (simp only [tops_append]; done) | (simp only [tops_append]; rfl)), pas0_all (by omega) g0, by omega⟩ (St.unsep (hw.sub (Sub.s [0,0] rfl))))))))
set_option maxRecDepth 100000 in
set_option maxHeartbeats 1000000 in
theorem l01Third_ok (v : Int) (bs : List B3) (a : Int) (b : Int) (A : Option Addr) (c : Nat) (w : World) (hx : Rd B3C w A bs) (lx : bs.length ≤ 4611686018427387904) (hg : ∀ d ∈ bs, good 15 d) (hpa : 0 ≤ a ∧ a ≤ 15) (hpb : 0 ≤ b ∧ b ≤ 15) : Does Tryz.prog 78 [.agg #[.int .i64 v, .slice A bs.length c], .int .i64 a, .int .i64 b] w [] (fun r => [.pur (r = .int .i64 (third bs a b))]) := by
 refine Does.enter Tryz.func78 rfl rfl [(0, .agg #[.int .i64 v, .slice A bs.length c]), (1, .int .i64 a), (2, .int .i64 b)] rfl (Za (O.f rfl (Ef.box rfl rfl rfl) ?_))
 rintro _ _ ⟨b1, rfl, rfl⟩
 refine O.m rfl (Zc (O.m rfl (Zi (V.loop3 (β := Nat) (fun i => [(7, .int .i64 (i : Int))]) _ (fun i => []) _ (fun i => i ≤ bs.length ∧ ∀ j (hj : j < bs.length), j < i → ¬ (has bs[j] a ∧ has bs[j] b)) (fun i => bs.length - i) 0 ⟨by omega, fun j hj h => by omega⟩ (Ent.cons rfl (Ent.nil _)) (Ent.cons (t := 1) rfl (Ent.cons (t := 2) rfl (Ent.cons (t := 3) rfl (Ent.nil _)))) (Sub.s [0] rfl) ?_))))
 rintro i ⟨hi, hn⟩
 refine Zj (O.m rfl (O.q rfl (Pu.fieldAddr 1 rfl ut26 rfl sz24 rfl rfl) (O.q rfl (Pu.load rfl pl24 rfl (Ld.blk 0 rfl rfl)) (O.q rfl (Pu.len rfl ut24 rfl) (O.q rfl (Pu.lss rfl rfl rfl) (Zf (V.condD rfl (fun c1 => ?_) (fun c1 => ?_))))))))
 ·refine Zh (O.q rfl (Pu.fieldAddr 1 rfl ut26 rfl sz24 rfl rfl) (O.q rfl (Pu.load rfl pl24 rfl (Ld.blk 0 rfl rfl)) (O.m rfl (O.q rfl (Pu.indexAddr (i) rfl ut24 sz81 rfl rfl (by omega) (by omega) (hx.some (by omega))) ?_))))
  have e1 : i < bs.length := by omega
  refine O.q rfl (Pu.loadAgg' (v := B3.v (bs[i]'e1)) rfl rfl ag81 sz81 rfl rfl (Ld.rds (Ld.old hx) (k := i) e1 rfl)) (O.f rfl (Ef.alloc rfl zr81 rfl) ?_)
  rintro _ _ ⟨b2, rfl, rfl⟩
  refine O.s rfl rfl (Ef.storeAll 0 rfl sz81 rfl rfl rfl rfl (by simp [Value.oneCell']) rfl) ?_
  rintro _ _ rfl
  refine Zb (O.q rfl (Pu.loadAgg' (v := B3.v (bs[i]'e1)) rfl rfl ag81 sz81 rfl rfl (Ld.whole 0 rfl)) (O.m rfl (O.f rfl (Ef.callP call141 rfl rfl (fun w hw => l01With_ok (bs[i]'e1) _ w)) ?_)))
  rintro _ _ ⟨rfl, rfl⟩
  refine O.m rfl (O.splitD 24 rfl (fun c2 => ?_) (fun c2 => ?_))
  ·refine O.gq rfl (Pu.loadAgg' (v := B3.v (bs[i]'e1)) rfl rfl ag81 sz81 rfl rfl (Ld.whole 0 rfl)) (O.gm rfl (O.gf rfl (Ef.callP call141 rfl rfl (fun w hw => l01With_ok (bs[i]'e1) _ w)) ?_))
   rintro _ _ ⟨rfl, rfl⟩
   refine O.m rfl (Zf (V.condD rfl (fun c3 => ?_) (fun c3 => ?_)))
   ·have hgi := hg _ (List.getElem_mem e1)
    unfold good at hgi
    refine Za (O.q rfl (Pu.indexArr 0 0 rfl ut81 sz2 rfl rfl (by decide) (by decide) (by decide)) (O.q rfl (Pu.load rfl pl2 rfl (Ld.blk 0 rfl rfl)) (O.q rfl (Pu.indexArr 1 1 rfl ut81 sz2 rfl rfl (by decide) (by decide) (by decide)) (O.q rfl (Pu.load rfl pl2 rfl (Ld.blk 0 rfl rfl)) (O.q rfl (Pu.add64 rfl (by omega) rfl rfl rfl) (O.q rfl (Pu.indexArr 2 2 rfl ut81 sz2 rfl rfl (by decide) (by decide) (by decide)) (O.q rfl (Pu.load rfl pl2 rfl (Ld.blk 0 rfl rfl)) (O.q rfl (Pu.add64 rfl (by omega) rfl rfl rfl) (O.m rfl (O.q rfl (Pu.sub64 rfl (by omega) rfl rfl rfl) ?_))))))))))
    exact O.m rfl (O.q rfl (Pu.sub64 rfl (by omega) rfl rfl rfl) (O.m rfl (Ze (Xq (Xr (Xr (Xq (Xr (X.ret1 rfl rfl (fun w hw => St.retP (iv ((third_found e1 c2 c3 hn).2.symm)) hw))))))))))
   ·exact Zg (O.m rfl (O.q rfl (Pu.add64 (r := ((i + 1 : Nat) : Int)) rfl (by omega) rfl rfl rfl) (O.m rfl (On (X.back3 (i + 1) ⟨by omega, fun j hj h hh => by by_cases e : j = i; (· subst e; exact c3 hh.2); (· exact hn j hj (by omega) hh)⟩ (by first | omega | (dsimp only; omega)) (Ent.cons rfl (Ent.nil _)) (Ent.cons (t := 1) rfl (Ent.cons (t := 2) rfl (Ent.cons (t := 3) rfl (Ent.nil _)))) (Sub.s [1] rfl))))))
  ·refine O.g rfl (O.g rfl (O.g rfl (O.m rfl (Zf (V.condF rfl (Zg (O.m rfl ?_)))))))
   exact O.q rfl (Pu.add64 (r := ((i + 1 : Nat) : Int)) rfl (by omega) rfl rfl rfl) (O.m rfl (On (X.back3 (i + 1) ⟨by omega, fun j hj h hh => by by_cases e : j = i; (· subst e; exact c2 hh.1); (· exact hn j hj (by omega) hh)⟩ (by first | omega | (dsimp only; omega)) (Ent.cons rfl (Ent.nil _)) (Ent.cons (t := 1) rfl (Ent.cons (t := 2) rfl (Ent.cons (t := 3) rfl (Ent.nil _)))) (Sub.s [1] rfl))))
 ·exact Zd (O.m rfl (Ze (X.ret1 rfl rfl (fun w hw => St.retP (iv ((third_none (fun j hj => hn j hj (by omega))).2.symm)) hw))))
set_option maxRecDepth 100000 in
theorem cloneB_ok (xs : List B3) (A : Option Addr) (c : Nat) (w : World) (hx : Rd B3C w A xs) (lx : xs.length ≤ 1099511627776) : Does Tryz.prog 155 [.slice A xs.length c] w [] (fun v => [.exi fun p : (Option Addr × Nat) × List B3 => .sep (.pur (v = .slice p.1.1 p.2.length p.1.2 ∧ p.2 = xs)) (Own 81 B3C p.1.1 p.1.2 p.2)]) := by
 refine Does.enter Tryz.func155 rfl rfl [(0, .slice A xs.length c)] rfl (Za (O.m rfl (Zc (O.m rfl (O.q rfl (Pu.eqlNil ut24 rfl rfl rfl) (On ?_))))))
 refine Xn (V.cond rfl (fun c1 => ?_) (fun c1 => ?_))
 ·exact Za (O.m rfl (Ze (Xr (X.ret1 rfl rfl (fun w hw => St.retX ((none, 0), []) ⟨rfl, (Rd.none hx (none_of c1)).symm⟩ (St.addNil hw))))))
 ·refine Vk (Xn (Za (O.f rfl (Ef.build B3C ([] : List B3) rfl ut24 inf81 rfl rfl rfl (by first | decide | (simp; done)) (by kernel_rfl)) ?_)))
  rintro _ _ ⟨A1, hA1, rfl, rfl⟩
  refine O.m rfl (O.f rfl (Ef.append (xs := ([] : List B3)) (ys := xs) 0 rfl ut24 inf81 rfl rfl rfl rfl rfl rfl (some_of c1) (Ld.old hx) (by simp only [List.length_append, List.length_cons, List.length_nil] at *; omega) (by decide)) ?_)
  rintro _ _ ⟨A2, k1, rfl, rfl, hA2⟩
  replace hA2 := hA2 (.inl hA1)
  exact O.m rfl (Ze (X.ret1 rfl rfl (fun w hw => St.retX ((A2, k1), [] ++ xs) ⟨rfl, rfl⟩ (hw.sub (Sub.s [0] rfl)))))
set_option maxRecDepth 100000 in
set_option maxHeartbeats 1000000 in
theorem indexI_ok (s : List Int) (y : Int) (sA : Option Addr) (sc : Nat) (w : World) (hs : Rd I64 w sA s) (ls : s.length ≤ 1099511627776) : Does Tryz.prog 147 [.slice sA s.length sc, .int .i64 y] w [] (fun r => [.pur (r = .int .i64 (idxP (fun x => y = x) s))]) := by
 refine Does.enter Tryz.func147 rfl rfl [(0, .slice sA s.length sc), (1, .int .i64 y)] rfl (Za (O.m rfl (Zc (O.m rfl (O.q rfl (Pu.len rfl ut49 rfl) (O.m rfl ?_))))))
 refine Zi (V.loop2 (β := Nat) (fun i => [(8, .int .i64 (i : Int))]) _ (fun i => []) (fun i => i ≤ s.length ∧ ∀ j (hj : j < s.length), j < i → ¬ y = s[j]) (fun i => s.length - i) 0 ⟨by omega, fun j hj h => by omega⟩ (Ent.cons rfl (Ent.nil _)) (Ent.cons (t := 0) rfl (Ent.cons (t := 1) rfl (Ent.cons (t := 7) rfl (Ent.nil _)))) (Sub.nil _) ?_)
 rintro i ⟨hi, hn⟩
 refine Za (O.q rfl (Pu.lss rfl rfl rfl) (Zf (Vs (V.condD rfl (fun c1 => ?_) (fun c1 => ?_)))))
 ·refine Zh (O.m rfl (O.m rfl (Zb ?_)))
  refine O.m rfl (O.m rfl (O.m rfl (O.q rfl (Pu.indexAddr (i) rfl ut49 sz2 rfl rfl (by omega) (by omega) (hs.some (by omega))) ?_)))
  have e1 : i < s.length := by omega
  refine O.q rfl (Pu.load rfl pl2 rfl (Ld.rd (Ld.old hs) (k := i) e1 rfl rfl)) (O.q rfl (Pu.eql rfl rfl rfl) (Zf (V.condD rfl (fun c2 => ?_) (fun c2 => ?_))))
  ·refine Za (O.m rfl (O.m rfl (Ze (Xq (Xr (Xr (Xq (Xr ?_))))))))
   exact X.ret1 rfl rfl (fun w hw => St.retP (iv ((idxP_found (p := fun x => y = x) e1 c2 hn).symm)) hw)
  ·exact Zg (O.q rfl (Pu.add64 (r := ((i + 1 : Nat) : Int)) rfl (by omega) rfl rfl rfl) (O.m rfl (On (X.back2 (i + 1) ⟨by omega, fun j hj h => by by_cases e : j = i; (· subst e; exact c2); (· exact hn j hj (by omega))⟩ (by first | omega | (dsimp only; omega)) (Ent.cons rfl (Ent.nil _)) (Ent.cons (t := 0) rfl (Ent.cons (t := 1) rfl (Ent.cons (t := 7) rfl (Ent.nil _)))) (Sub.nil _)))))
 ·exact Zd (O.m rfl (Ze (X.ret1 rfl rfl (fun w hw => St.retP (iv ((idxP_none (p := fun x => y = x) (fun j hj => hn j hj (by omega))).symm)) hw))))
set_option maxRecDepth 100000 in
set_option maxHeartbeats 1000000 in
theorem containsI_ok (s : List Int) (y : Int) (sA : Option Addr) (sc : Nat) (w : World) (hs : Rd I64 w sA s) (ls : s.length ≤ 1099511627776) : Does Tryz.prog 74 [.slice sA s.length sc, .int .i64 y] w [] (fun r => [.pur (r = .bool (decide (y ∈ s)))]) := by
 refine Does.enter Tryz.func74 rfl rfl [(0, .slice sA s.length sc), (1, .int .i64 y)] rfl (Za (O.m rfl (Zb (O.m rfl (O.m rfl (O.f rfl (Ef.callP call147 rfl rfl (fun w hw => indexI_ok  s y _ _ w ((Ld.old hs) w hw) (by first | omega | (simp only [tops_len, conts_len, bl, List.length_append, List.length_cons, List.length_nil] at *; omega)) )) ?_))))))
 rintro _ _ ⟨rfl, rfl⟩
 exact O.q rfl (Pu.geq rfl rfl rfl) (O.m rfl (Ze (X.ret1 rfl rfl (fun w hw => St.retP (boolD (idxP_nonneg.trans ⟨fun ⟨x, hx, e⟩ => e ▸ hx, fun h => ⟨y, h, rfl⟩⟩)) hw))))
set_option maxRecDepth 100000 in
set_option maxHeartbeats 1000000 in
theorem indexBl_ok (s : List B3) (y : B3) (sA : Option Addr) (sc : Nat) (w : World) (hs : Rd B3C w sA s) (ls : s.length ≤ 1099511627776) : Does Tryz.prog 195 [.slice sA s.length sc, B3.v y] w [] (fun r => [.pur (r = .int .i64 (idxP (fun x => y = x) s))]) := by
 refine Does.enter Tryz.func195 rfl rfl [(0, .slice sA s.length sc), (1, B3.v y)] rfl (Za (O.f rfl (Ef.box rfl rfl rfl) ?_))
 rintro _ _ ⟨b1, rfl, rfl⟩
 refine O.m rfl (Zc (O.m rfl (O.q rfl (Pu.len rfl ut24 rfl) (O.m rfl (Zi ?_)))))
 refine V.loop3 (β := Nat) (fun i => [(8, .int .i64 (i : Int))]) _ (fun i => []) _ (fun i => i ≤ s.length ∧ ∀ j (hj : j < s.length), j < i → ¬ y = s[j]) (fun i => s.length - i) 0 ⟨by omega, fun j hj h => by omega⟩ (Ent.cons rfl (Ent.nil _)) (Ent.cons (t := 0) rfl (Ent.cons (t := 3) rfl (Ent.cons (t := 7) rfl (Ent.nil _)))) (Sub.s [0] rfl) ?_
 rintro i ⟨hi, hn⟩
 refine Za (O.q rfl (Pu.lss rfl rfl rfl) (Zf (Vs (V.condD rfl (fun c1 => ?_) (fun c1 => ?_)))))
 ·refine Zh (O.m rfl (O.m rfl (Zf (Vs (V.draw mo (by kernel_rfl) (fun hwf => ?_))))))
  refine D.q 0 rfl (Pu.loadAgg' (v := B3.v y) rfl rfl ag81 sz81 rfl rfl (Ld.whole 0 rfl)) (D.m 1 rfl (D.m 2 rfl (D.q 3 rfl (Pu.indexAddr (i) rfl ut24 sz81 rfl rfl (by omega) (by omega) (hs.some (by omega))) ?_)))
  have e1 : i < s.length := by omega
  refine D.q 4 rfl (Pu.loadAgg' (v := B3.v (s[i]'e1)) rfl rfl ag81 sz81 rfl rfl (Ld.rds (Ld.old hs) (k := i) e1 rfl)) (D.q 5 rfl (Pu.eqlB3 ut81 ut2 sz2 (by kernel_rfl) rfl rfl rfl) (D.done hwf rfl (Xn (V.condD rfl (fun c2 => ?_) (fun c2 => ?_)))))
  ·refine Za (O.m rfl (O.m rfl (Ze (Xq (Xr (Xr (Xq (Xr ?_))))))))
   exact X.ret1 rfl rfl (fun w hw => St.retP (iv ((idxP_found (p := fun x => y = x) e1 c2 hn).symm)) hw)
  ·exact Zg (O.q rfl (Pu.add64 (r := ((i + 1 : Nat) : Int)) rfl (by omega) rfl rfl rfl) (O.m rfl (On (X.back3 (i + 1) ⟨by omega, fun j hj h => by by_cases e : j = i; (· subst e; exact c2); (· exact hn j hj (by omega))⟩ (by first | omega | (dsimp only; omega)) (Ent.cons rfl (Ent.nil _)) (Ent.cons (t := 0) rfl (Ent.cons (t := 3) rfl (Ent.cons (t := 7) rfl (Ent.nil _)))) (Sub.s [0] rfl)))))
 ·exact Zd (O.m rfl (Ze (X.ret1 rfl rfl (fun w hw => St.retP (iv ((idxP_none (p := fun x => y = x) (fun j hj => hn j hj (by omega))).symm)) hw))))
set_option maxRecDepth 100000 in
set_option maxHeartbeats 1000000 in
theorem containsBl_ok (s : List B3) (y : B3) (sA : Option Addr) (sc : Nat) (w : World) (hs : Rd B3C w sA s) (ls : s.length ≤ 1099511627776) : Does Tryz.prog 157 [.slice sA s.length sc, B3.v y] w [] (fun r => [.pur (r = .bool (decide (y ∈ s)))]) := by
 refine Does.enter Tryz.func157 rfl rfl [(0, .slice sA s.length sc), (1, B3.v y)] rfl (Za (O.f rfl (Ef.box rfl rfl rfl) ?_))
 rintro _ _ ⟨b1, rfl, rfl⟩
 refine O.m rfl (Zb (O.m rfl (O.q rfl (Pu.loadAgg' (v := B3.v y) rfl rfl ag81 sz81 rfl rfl (Ld.whole 0 rfl)) (O.f rfl (Ef.callP call195 rfl rfl (fun w hw => indexBl_ok  s y _ _ w ((Ld.old hs) w hw) (by first | omega | (simp only [tops_len, conts_len, bl, List.length_append, List.length_cons, List.length_nil] at *; omega)) )) ?_))))
 rintro _ _ ⟨rfl, rfl⟩
 exact O.q rfl (Pu.geq rfl rfl rfl) (O.m rfl (Ze (X.ret1 rfl rfl (fun w hw => St.retP (boolD (idxP_nonneg.trans ⟨fun ⟨x, hx, e⟩ => e ▸ hx, fun h => ⟨y, h, rfl⟩⟩)) hw))))
theorem gridFit_ok (bs : List B3) (A : Option Addr) (c : Nat) (w : World) (hx : Rd B3C w A bs) (lx : bs.length ≤ 4611686018427387904) (hb : ∀ b ∈ bs, good 15 b) (hft : fitsAt bs bs.length) : Does Tryz.prog 146 [.slice A bs.length c] w [] (fun v => [.exi fun g : Nat => .sep (.pur (v = .tuple #[.pointer (some ⟨g, 0, none⟩), .bool true])) (Grid g (tab bs) 198)]) :=
  (gridOf_ok bs A c w hx lx hb).mono (fun v w hs => by
    obtain ⟨g, hs⟩ := hs.exi
    rcases g with _ | g
    · exact absurd hft hs.pur.1.2
    · have h := hs.sep.pur
      exact St.mkExi g (St.unsep (St.addPur h.1.1 h.2)))
set_option maxRecDepth 100000 in
set_option maxHeartbeats 1000000 in
theorem sysGrid_ok (v : Int) (bs : List B3) (A : Option Addr) (c : Nat) (w : World) (hx : Rd B3C w A bs) (lx : bs.length ≤ 4611686018427387904) (hb : ∀ b ∈ bs, good 15 b) (hft : fitsAt bs bs.length) : Does Tryz.prog 70 [.agg #[.int .i64 v, .slice A bs.length c]] w [] (fun r => [.exi fun (g : Nat) => .sep (.pur (r = .pointer (some ⟨g, 0, none⟩))) (Grid g (tab bs) 198)]) := by
 refine Does.enter Tryz.func70 rfl rfl [(0, .agg #[.int .i64 v, .slice A bs.length c])] rfl (Za (O.f rfl (Ef.box rfl rfl rfl) ?_))
 rintro _ _ ⟨b1, rfl, rfl⟩
 refine O.m rfl (Zb (O.q rfl (Pu.fieldAddr 1 rfl ut26 rfl sz24 rfl rfl) (O.q rfl (Pu.load rfl pl24 rfl (Ld.blk 0 rfl rfl)) (O.f rfl (Ef.call1 call146 rfl rfl (fun w hw => gridFit_ok bs _ _ w ((Ld.old hx) w hw) (by omega) hb hft)) ?_))))
 rintro _ _ rfl
 refine O.exi (fun g1 => O.sep (O.pur ?_))
 rintro rfl
 refine O.m rfl (O.m rfl (O.m rfl (O.m rfl (O.m rfl (Zb (O.m rfl (O.m rfl (On ?_))))))))
 exact Xn (Vt (X.ret1 rfl rfl (fun w hw => St.mkExi g1 (St.unsep (St.addPur rfl (hw.sub (Sub.s [0] rfl)))))))
set_option maxRecDepth 100000 in
set_option maxHeartbeats 1000000 in
theorem l04Pair_ok (a : Nat) (b : Nat) (w : World) (ha : a < 16) (hb : b < 16) : Does Tryz.prog 196 [.int .i64 (a : Int), .int .i64 (b : Int)] w [] (fun r => [.pur (r = .int .i64 ((prI a b : Nat) : Int))]) := by
 refine Does.enter Tryz.func196 rfl rfl [(0, .int .i64 (a : Int)), (1, .int .i64 (b : Int))] rfl (Za (O.m rfl (Zb (O.m rfl (O.m rfl (O.q rfl (Pu.min2 (r := (↑(min a b) : Int)) (by omega) rfl rfl rfl) (O.q rfl (Pu.mul64 rfl (by omega) rfl rfl rfl) ?_)))))))
 exact O.m rfl (O.m rfl (O.q rfl (Pu.max2 (r := (↑(max a b) : Int)) (by omega) rfl rfl rfl) (O.q rfl (Pu.add64 rfl (by omega) rfl rfl rfl) (O.m rfl (Ze (X.ret1 rfl rfl (fun w hw => St.retP (iv (by unfold prI; omega)) hw)))))))
set_option maxRecDepth 100000 in
set_option maxHeartbeats 1000000 in
theorem l04Member_ok (list : List B3) (b : B3) (listA : Option Addr) (listc : Nat) (w : World) (hlist : Rd B3C w listA list) (llist : list.length ≤ 1099511627776) : Does Tryz.prog 159 [.slice listA list.length listc, B3.v b] w [] (fun r => [.pur (r = .bool (decide (b ∈ list)))]) := by
 refine Does.enter Tryz.func159 rfl rfl [(0, .slice listA list.length listc), (1, B3.v b)] rfl (Za (O.f rfl (Ef.box rfl rfl rfl) ?_))
 rintro _ _ ⟨b1, rfl, rfl⟩
 refine O.m rfl (Zc (O.m rfl (Zi (V.loop3 (β := Nat) (fun i => [(5, .int .i64 (i : Int))]) _ (fun i => []) _ (fun i => i ≤ list.length ∧ ∀ j (hj : j < list.length), j < i → ¬ list[j] = b) (fun i => list.length - i) 0 ⟨by omega, fun j hj h => by omega⟩ (Ent.cons rfl (Ent.nil _)) (Ent.cons (t := 0) rfl (Ent.cons (t := 3) rfl (Ent.nil _))) (Sub.s [0] rfl) ?_))))
 rintro i ⟨hi, hn⟩
 refine Zj (O.m rfl (O.m rfl (O.q rfl (Pu.len rfl ut24 rfl) (O.q rfl (Pu.lss rfl rfl rfl) (Zf (V.condD rfl (fun c1 => ?_) (fun c1 => ?_)))))))
 ·refine Vk (Xn (Vs (Vb (Vs (V.draw mo (by kernel_rfl) (fun hwf => D.m 0 rfl (D.m 1 rfl (D.q 2 rfl (Pu.indexAddr (i) rfl ut24 sz81 rfl rfl (by omega) (by omega) (hlist.some (by omega))) ?_))))))))
  have e1 : i < list.length := by omega
  refine D.q 3 rfl (Pu.loadAgg' (v := B3.v (list[i]'e1)) rfl rfl ag81 sz81 rfl rfl (Ld.rds (Ld.old hlist) (k := i) e1 rfl)) (D.q 4 rfl (Pu.loadAgg' (v := B3.v b) rfl rfl ag81 sz81 rfl rfl (Ld.whole 0 rfl)) (D.q 5 rfl (Pu.eqlB3 ut81 ut2 sz2 (by kernel_rfl) rfl rfl rfl) (D.done hwf rfl (Xn (V.condD rfl (fun c2 => ?_) (fun c2 => ?_))))))
  ·exact Za (O.m rfl (Ze (Xq (Xr (Xr (Xq (Xr (X.ret1 rfl rfl (fun w hw => St.retP (boolT (c2 ▸ List.getElem_mem e1)) hw)))))))))
  ·exact Zg (O.m rfl (O.q rfl (Pu.add64 (r := ((i + 1 : Nat) : Int)) rfl (by omega) rfl rfl rfl) (O.m rfl (On (X.back3 (i + 1) ⟨by omega, fun j hj h => by by_cases e : j = i; (· subst e; exact c2); (· exact hn j hj (by omega))⟩ (by first | omega | (dsimp only; omega)) (Ent.cons rfl (Ent.nil _)) (Ent.cons (t := 0) rfl (Ent.cons (t := 3) rfl (Ent.nil _))) (Sub.s [0] rfl))))))
 ·exact Zd (O.m rfl (Ze (X.ret1 rfl rfl (fun w hw => St.retP (boolF (fun h => by obtain ⟨j, hj, e⟩ := List.getElem_of_mem h; exact hn j hj (by omega) e)) hw))))
set_option maxRecDepth 100000 in
set_option maxHeartbeats 1000000 in
theorem l01Sort_ok (blocks : List B3) (blocksA : Option Addr) (blocksc : Nat) (w : World) (hblocks : Rd B3C w blocksA blocks) (lblocks : blocks.length ≤ 1099511627776) (lb : blocks.length ≤ 1000000) : Does Tryz.prog 150 [.slice blocksA blocks.length blocksc] w [] (fun rv_ => [.exi fun (rA : Option Addr) => .exi fun (rc : Nat) => .exi fun (r : List B3) => .sep (.pur (rv_ = .slice rA r.length rc ∧ r.Perm blocks ∧ SrtB r)) (Own 81 B3C rA rc r)]) := by
 refine Does.enter Tryz.func150 rfl rfl [(0, .slice blocksA blocks.length blocksc)] rfl (Za (O.m rfl (Zb (O.f rfl (Ef.build B3C ([] : List B3) rfl ut24 inf81 rfl rfl rfl (by first | decide | (simp; done)) (by kernel_rfl)) ?_))))
 rintro _ _ ⟨A1, hA1, rfl, rfl⟩
 refine O.m rfl (Zc (O.m rfl (Zi (V.loop2 (β := (Option Addr) × Nat × (List B3) × Nat) (fun x => [(3, .slice x.1 x.2.2.1.length x.2.1), (4, .int .i64 (x.2.2.2 : Int))]) _ (fun x => [Own 81 B3C x.1 x.2.1 x.2.2.1]) (fun x => x.2.2.2 ≤ blocks.length ∧ x.2.2.1.Perm (blocks.take x.2.2.2) ∧ SrtB x.2.2.1) (fun x => blocks.length - x.2.2.2) (A1, 0, ([] : List B3), 0) (by (try dsimp only); exact ⟨by omega, by simp, List.Pairwise.nil⟩) (Ent.cons rfl (Ent.cons rfl (Ent.nil _))) (Ent.cons (t := 0) rfl (Ent.nil _)) (Sub.s [0] rfl) ?_))))
 rintro ⟨outA, outc, out, i⟩ ⟨hi, hp, hsr⟩
 dsimp only at hi hp hsr ⊢
 have hol : out.length = i := by rw [hp.length_eq, List.length_take]; omega
 refine Zj (O.m rfl (O.m rfl (O.q rfl (Pu.len rfl ut24 rfl) (O.q rfl (Pu.lss rfl rfl rfl) (Zf (V.condD rfl (fun c1 => ?_) (fun c1 => ?_)))))))
 ·refine Zh (O.m rfl (O.q rfl (Pu.len rfl ut24 rfl) (O.m rfl (Zf (Vs ?_)))))
  refine Vr (O.m rfl (O.m rfl (O.m rfl (O.q rfl (Pu.indexAddr (i) rfl ut24 sz81 rfl rfl (by omega) (by omega) (hblocks.some (by omega))) ?_))))
  have e1 : i < blocks.length := by omega
  refine O.q rfl (Pu.loadAgg' (v := B3.v (blocks[i]'e1)) rfl rfl ag81 sz81 rfl rfl (Ld.rds (Ld.old hblocks) (k := i) e1 rfl)) (O.f rfl (Ef.build B3C ([(blocks[i]'e1)] : List B3) rfl ut24 inf81 rfl rfl rfl (by first | decide | (simp; done)) (by kernel_rfl)) ?_)
  rintro _ _ ⟨A2, hA2, rfl, rfl⟩
  refine O.f rfl (Ef.append (xs := out) (ys := ([(blocks[i]'e1)] : List B3)) 1 rfl ut24 inf81 rfl rfl rfl rfl rfl rfl hA2 (Ld.own 0 (by exact rfl)) (by simp only [List.length_append, List.length_cons, List.length_nil] at *; omega) (by decide)) ?_
  rintro _ _ ⟨A3, k1, rfl, rfl, hA3⟩
  replace hA3 := hA3 (.inr (by simp))
  refine O.m rfl (Zf (Vs (Vb (V.loop3 (β := Nat × (List B3)) (fun x => [(5, .int .i64 (x.1 : Int))]) _ (fun x => [Own 81 B3C A3 k1 x.2]) _ (fun x => x.1 ≤ out.length ∧ x.2 = shiftAt out (blocks[i]'e1) x.1 ∧ ∀ j (hj : j < out.length), x.1 ≤ j → B3.lt (blocks[i]'e1) out[j]) (fun x => x.1) (out.length, (out ++ ([(blocks[i]'e1)] : List B3))) (by (try dsimp only); exact ⟨by omega, shiftAt_start.symm, fun j hj h => by omega⟩) (Ent.cons rfl (Ent.nil _)) (Ent.cons (t := 0) rfl (Ent.cons (t := 3) rfl (Ent.cons (t := 4) rfl (Ent.nil _)))) (Sub.s [1,0] rfl) ?_))))
  rintro ⟨y, z⟩ ⟨hy, hz, hz2⟩
  dsimp only at hy hz hz2 ⊢
  have hzl : z.length = out.length + 1 := by rw [hz]; exact shiftAt_len hy
  have hoa : (out ++ [(blocks[i]'e1)]).length = out.length + 1 := by simp
  refine Vs (Vs (V.draw mo (by kernel_rfl) (fun hwf => D.m 0 rfl (D.q 1 rfl (Pu.gtr rfl rfl rfl) (D.m 2 rfl (D.splitD 24 rfl (fun c2 => ?_) (fun c2 => ?_)))))))
  ·refine D.gm 3 rfl (D.gm 4 rfl (D.gq 5 rfl (Pu.indexAddr (i) rfl ut24 sz81 rfl rfl (by omega) (by omega) (hblocks.some (by omega))) (D.gq 6 rfl (Pu.loadAgg' (v := B3.v (blocks[i]'e1)) rfl rfl ag81 sz81 rfl rfl (Ld.rds (Ld.old hblocks) (k := i) e1 rfl)) (D.gm 7 rfl (D.gm 8 rfl (D.gq 9 rfl (Pu.sub64 (r := ((y - 1 : Nat) : Int)) (by omega) (by omega) rfl rfl rfl) (D.gq 10 rfl (Pu.indexAddrS (y - 1) rfl ut24 sz81 rfl rfl (by omega) (by omega) (fun w hw => Own.some hw (i := 0) (by exact rfl) (by omega))) ?_)))))))
   have e2 : y - 1 < z.length := by omega
   refine D.gq 11 rfl (Pu.loadAgg' (v := B3.v (z[y - 1]'e2)) rfl rfl ag81 sz81 rfl rfl (Ld.rds (C := B3C) (Ld.own 0 (by exact rfl)) (k := y - 1) e2 rfl)) (D.geff hwf (e := 12) rfl rfl rfl rfl rfl rfl (Ef.callP call139 rfl rfl (fun w hw => l01Before_ok _ _ _)) rfl rfl rfl ?_)
   rintro _ _ ⟨rfl, rfl⟩ hs
   refine ⟨fun w hw => hw, (D.m 13 rfl (D.done hwf rfl (Xn (V.condD rfl (fun c3 => ?_) (fun c3 => ?_)))))⟩
   ·refine Vk (Xn (Vb (Za (O.m rfl (O.m rfl (O.m rfl (O.m rfl (O.q rfl (Pu.sub64 (r := ((y - 1 : Nat) : Int)) (by omega) (by omega) rfl rfl rfl) (O.q rfl (Pu.indexAddrS (y - 1) rfl ut24 sz81 rfl rfl (by omega) (by omega) (fun w hw => Own.some hw (i := 0) (by exact rfl) (by omega))) (O.q rfl (Pu.loadAgg' (v := B3.v (z[y - 1]'e2)) rfl rfl ag81 sz81 rfl rfl (Ld.rds (C := B3C) (Ld.own 0 (by exact rfl)) (k := y - 1) e2 rfl)) ?_))))))))))
    refine O.q rfl (Pu.indexAddrS (y) rfl ut24 sz81 rfl rfl (by omega) (by omega) (fun w hw => Own.some hw (i := 0) (by exact rfl) (by omega))) (O.s rfl rfl (Ef.storeOwn 0 (y) (z[y - 1]'e2) rfl sz81 rfl rfl rfl rfl (by omega) rfl) ?_)
    rintro _ _ rfl
    exact Zf (Vr (O.m rfl (O.q rfl (Pu.sub64 (r := ((y - 1 : Nat) : Int)) (by omega) (by omega) rfl rfl rfl) (O.m rfl (On (Xb (X.back3 (y - 1, (z.set (y) (z[y - 1]'e2))) (by (try dsimp only); exact ⟨by omega, by subst hz; exact shiftAt_step hy (by omega) _, fun j hj h => by by_cases e : j = y - 1; (· subst e; have e4 : z[y - 1]'(by omega) = out[y - 1]'(by omega) := (by subst hz; exact shiftAt_lt hy (by omega) _); rw [← e4]; exact c3); (· exact hz2 j hj (by omega))⟩) (by first | omega | (dsimp only; omega)) (Ent.cons rfl (Ent.nil _)) (Ent.cons (t := 0) rfl (Ent.cons (t := 3) rfl (Ent.cons (t := 4) rfl (Ent.nil _)))) (Sub.s [0,0] rfl))))))))
   ·refine Ve (Xe (Xe (Xh (Xn (Vr (O.m rfl (O.m rfl (O.m rfl (O.m rfl (O.q rfl (Pu.indexAddr (i) rfl ut24 sz81 rfl rfl (by omega) (by omega) (hblocks.some (by omega))) (O.q rfl (Pu.loadAgg' (v := B3.v (blocks[i]'e1)) rfl rfl ag81 sz81 rfl rfl (Ld.rds (Ld.old hblocks) (k := i) e1 rfl)) ?_)))))))))))
    refine O.q rfl (Pu.indexAddrS (y) rfl ut24 sz81 rfl rfl (by omega) (by omega) (fun w hw => Own.some hw (i := 0) (by exact rfl) (by omega))) (O.s rfl rfl (Ef.storeOwn 0 (y) (blocks[i]'e1) rfl sz81 rfl rfl rfl rfl (by omega) rfl) ?_)
    rintro _ _ rfl
    exact Zk (O.m rfl (O.q rfl (Pu.add64 (r := ((i + 1 : Nat) : Int)) rfl (by omega) rfl rfl rfl) (O.m rfl (On (X.back2 (A3, k1, (out.take y ++ (blocks[i]'e1) :: out.drop y), i + 1) (by (try dsimp only); exact ⟨by omega, ((ins_perm (y := y)).trans ((hp.append_right _).trans (by rw [take_snoc e1]))), ins_sorted hsr hy hz2 (fun h0 => by have e4 : z[y - 1]'(by omega) = out[y - 1]'(by omega) := (by subst hz; exact shiftAt_lt hy (by omega) _); rw [← e4]; exact c3)⟩) (by first | omega | (dsimp only; omega)) (Ent.cons' rfl (by rw [(ins_perm (y := y)).length_eq]) (Ent.cons rfl (Ent.nil _))) (Ent.cons (t := 0) rfl (Ent.nil _)) (Sub.cons 0 rfl (fun w F h => by rw [hz, shiftAt_done hy] at h; exact h) (Sub.nil _)))))))
  ·refine D.g 3 rfl (D.g 4 rfl (D.g 5 rfl (D.g 6 rfl (D.g 7 rfl (D.g 8 rfl (D.g 9 rfl (D.g 10 rfl (D.g 11 rfl (D.g 12 rfl (D.m 13 rfl (D.done hwf rfl ?_)))))))))))
   refine Xn (V.condF rfl (Ve (Xe (Xe (Xh (Xn (Vr (O.m rfl (O.m rfl (O.m rfl (O.m rfl ?_)))))))))))
   refine O.q rfl (Pu.indexAddr (i) rfl ut24 sz81 rfl rfl (by omega) (by omega) (hblocks.some (by omega))) (O.q rfl (Pu.loadAgg' (v := B3.v (blocks[i]'e1)) rfl rfl ag81 sz81 rfl rfl (Ld.rds (Ld.old hblocks) (k := i) e1 rfl)) (O.q rfl (Pu.indexAddrS (y) rfl ut24 sz81 rfl rfl (by omega) (by omega) (fun w hw => Own.some hw (i := 0) (by exact rfl) (by omega))) (O.s rfl rfl (Ef.storeOwn 0 (y) (blocks[i]'e1) rfl sz81 rfl rfl rfl rfl (by omega) rfl) ?_)))
   rintro _ _ rfl
   exact Zk (O.m rfl (O.q rfl (Pu.add64 (r := ((i + 1 : Nat) : Int)) rfl (by omega) rfl rfl rfl) (O.m rfl (On (X.back2 (A3, k1, (out.take y ++ (blocks[i]'e1) :: out.drop y), i + 1) (by (try dsimp only); exact ⟨by omega, ((ins_perm (y := y)).trans ((hp.append_right _).trans (by rw [take_snoc e1]))), ins_sorted hsr hy hz2 (fun h0 => by omega)⟩) (by first | omega | (dsimp only; omega)) (Ent.cons' rfl (by rw [(ins_perm (y := y)).length_eq]) (Ent.cons rfl (Ent.nil _))) (Ent.cons (t := 0) rfl (Ent.nil _)) (Sub.cons 0 rfl (fun w F h => by rw [hz, shiftAt_done hy] at h; exact h) (Sub.nil _)))))))
 ·refine Zd (O.m rfl (O.m rfl (Ze ?_)))
  exact X.ret1 rfl rfl (fun w hw => St.mkExi outA (St.mkExi outc (St.mkExi out (St.unsep (St.addPur ⟨rfl, by rw [List.take_of_length_le (by omega)] at hp; exact hp, hsr⟩ (hw.sub (Sub.s [0] rfl)))))))
theorem l04PairI_ok (a b : Int) (w : World) (ha : 0 ≤ a ∧ a < 16) (hb : 0 ≤ b ∧ b < 16) : Does Tryz.prog 196 [.int .i64 a, .int .i64 b] w [] (fun v => [.pur (v = .int .i64 ((prI a.toNat b.toNat : Nat) : Int))]) := by
 obtain ⟨x, rfl⟩ := Int.eq_ofNat_of_zero_le ha.1
 obtain ⟨y, rfl⟩ := Int.eq_ofNat_of_zero_le hb.1
 exact l04Pair_ok x y w (by omega) (by omega)
set_option maxRecDepth 100000 in
set_option maxHeartbeats 1000000 in
theorem l01Made_ok (v_ : Int) (blocks : List B3) (blocksA : Option Addr) (blocksc : Nat) (w : World) (hblocks : Rd B3C w blocksA blocks) (lblocks : blocks.length ≤ 1099511627776) (lb : blocks.length ≤ 1000000) : Does Tryz.prog 151 [.int .i64 v_, .slice blocksA blocks.length blocksc] w [] (fun rv_ => [.exi fun (rA : Option Addr) => .exi fun (rc : Nat) => .exi fun (r : List B3) => .sep (.pur (rv_ = .agg #[.int .i64 v_, .slice rA r.length rc] ∧ r.Perm blocks ∧ SrtB r)) (Own 81 B3C rA rc r)]) := by
 refine Does.enter Tryz.func151 rfl rfl [(0, .int .i64 v_), (1, .slice blocksA blocks.length blocksc)] rfl (Za (O.f rfl (Ef.alloc rfl zr26 rfl) ?_))
 rintro _ _ ⟨b1, rfl, rfl⟩
 refine Zb (O.m rfl (O.m rfl (O.f rfl (Ef.call1 call150 rfl rfl (fun w hw => l01Sort_ok  blocks _ _ w ((Ld.old hblocks) w hw) (by first | omega | (simp only [tops_len, conts_len, bl, List.length_append, List.length_cons, List.length_nil] at *; omega)) (by first | assumption | omega | (try dsimp only at *; omega)))) ?_)))
 rintro _ _ rfl
 refine O.exi (fun r1A => O.exi (fun r1c => O.exi (fun r1 => O.sep (O.pur ?_))))
 rintro ⟨rfl, hr1_1, hr1_2⟩
 refine O.q rfl (Pu.buildS (cs := [.int .i64 v_, .slice r1A r1.length r1c]) rfl rfl ut26 zr26 (by kernel_rfl) rfl (by kernel_rfl)) (O.s rfl rfl (Ef.storeAll 1 rfl sz26 rfl rfl rfl rfl (by simp [Value.oneCell']) rfl) ?_)
 rintro _ _ rfl
 exact Ze (X.retCell rfl ag26 sz26 rfl rfl (Ld.whole 1 rfl) (fun w hw => St.mkExi r1A (St.mkExi r1c (St.mkExi r1 (St.unsep (St.addPur ⟨rfl, hr1_1, hr1_2⟩ (hw.sub (Sub.s [0] rfl))))))))
def layI_ren : Go.Shelf.Ren := ⟨fun | 5 => 191 | 8 => 210 | 7 => 209 | 19 => 224 | 20 => 225 | 10 => 215 | 11 => 216 | 12 => 217 | 13 => 218 | 14 => 219 | 15 => 220 | 16 => 221 | 17 => 222 | 18 => 223 | 30 => 242 | 31 => 243 | 32 => 244 | 33 => 245 | 34 => 246 | 35 => 204 | 40 => 253 | n => n, fun | 23 => 49 | 25 => 2 | 3 => 3 | 32 => 145 | 22 => 49 | 0 => 0 | 44 => 215 | 46 => 119 | 4 => 4 | 36 => 207 | 35 => 206 | 41 => 212 | 5 => 5 | 9 => 9 | 53 => 227 | 57 => 231 | 63 => 237 | 64 => 238 | n => n, fun | n => n⟩
theorem layI : SlLaysM.n5 Tryz.prog layI_ren where
  mixed := by kernel_rfl
  f5 := ⟨Tryz.f191.name, by decide, Tryz.func191.trans (congrArg some (by kernel_rfl))⟩
  f7 := ⟨Tryz.f209.name, by decide, Tryz.func209.trans (congrArg some (by kernel_rfl))⟩
  f8 := Tryz.func210.trans (congrArg some (by kernel_rfl))
  f10 := ⟨Tryz.f215.name, by decide, Tryz.func215.trans (congrArg some (by kernel_rfl))⟩
  f11 := ⟨Tryz.f216.name, by decide, Tryz.func216.trans (congrArg some (by kernel_rfl))⟩
  f12 := ⟨Tryz.f217.name, by decide, Tryz.func217.trans (congrArg some (by kernel_rfl))⟩
  f13 := ⟨Tryz.f218.name, by decide, Tryz.func218.trans (congrArg some (by kernel_rfl))⟩
  f14 := ⟨Tryz.f219.name, by decide, Tryz.func219.trans (congrArg some (by kernel_rfl))⟩
  f15 := ⟨Tryz.f220.name, by decide, Tryz.func220.trans (congrArg some (by kernel_rfl))⟩
  f16 := ⟨Tryz.f221.name, by decide, Tryz.func221.trans (congrArg some (by kernel_rfl))⟩
  f17 := ⟨Tryz.f222.name, by decide, Tryz.func222.trans (congrArg some (by kernel_rfl))⟩
  f18 := ⟨Tryz.f223.name, by decide, Tryz.func223.trans (congrArg some (by kernel_rfl))⟩
  f19 := Tryz.func224.trans (congrArg some (by kernel_rfl))
  f20 := Tryz.func225.trans (congrArg some (by kernel_rfl))
  f30 := ⟨Tryz.f242.name, by decide, Tryz.func242.trans (congrArg some (by kernel_rfl))⟩
  f31 := Tryz.func243.trans (congrArg some (by kernel_rfl))
  f32 := Tryz.func244.trans (congrArg some (by kernel_rfl))
  f33 := ⟨Tryz.f245.name, by decide, Tryz.func245.trans (congrArg some (by kernel_rfl))⟩
  f34 := ⟨Tryz.f246.name, by decide, Tryz.func246.trans (congrArg some (by kernel_rfl))⟩
  f35 := ⟨Tryz.f204.name, by decide, Tryz.func204.trans (congrArg some (by kernel_rfl))⟩
  f40 := ⟨Tryz.f253.name, by decide, Tryz.func253.trans (congrArg some (by kernel_rfl))⟩
  t0 := ut0
  a0 := Tryz.isAgg0
  z0 := Tryz.sizeOf0
  v0 := Tryz.zeroValue0
  t3 := ut3
  a3 := Tryz.isAgg3
  z3 := Tryz.sizeOf3
  v3 := Tryz.zeroValue3
  t4 := ut4
  a4 := Tryz.isAgg4
  z4 := Tryz.sizeOf4
  v4 := Tryz.zeroValue4
  t5 := ut5
  a5 := Tryz.isAgg5
  z5 := Tryz.sizeOf5
  v5 := Tryz.zeroValue5
  t9 := ut9
  a9 := Tryz.isAgg9
  z9 := Tryz.sizeOf9
  v9 := Tryz.zeroValue9
  t22 := ut49
  a22 := Tryz.isAgg49
  z22 := Tryz.sizeOf49
  v22 := Tryz.zeroValue49
  t23 := ut49
  a23 := Tryz.isAgg49
  z23 := Tryz.sizeOf49
  v23 := Tryz.zeroValue49
  t25 := ut2
  a25 := Tryz.isAgg2
  z25 := Tryz.sizeOf2
  v25 := Tryz.zeroValue2
  t32 := ut145
  a32 := Tryz.isAgg145
  z32 := Tryz.sizeOf145
  v32 := Tryz.zeroValue145
  t35 := ut206
  a35 := Tryz.isAgg206
  z35 := Tryz.sizeOf206
  v35 := Tryz.zeroValue206
  t36 := ut207
  a36 := Tryz.isAgg207
  z36 := Tryz.sizeOf207
  v36 := Tryz.zeroValue207
  t41 := ut212
  a41 := Tryz.isAgg212
  z41 := Tryz.sizeOf212
  v41 := Tryz.zeroValue212
  t44 := ut215
  a44 := Tryz.isAgg215
  z44 := Tryz.sizeOf215
  v44 := Tryz.zeroValue215
  t46 := ut119
  a46 := Tryz.isAgg119
  z46 := Tryz.sizeOf119
  v46 := Tryz.zeroValue119
  t53 := ut227
  a53 := Tryz.isAgg227
  z53 := Tryz.sizeOf227
  v53 := Tryz.zeroValue227
  t57 := ut231
  a57 := Tryz.isAgg231
  z57 := Tryz.sizeOf231
  v57 := Tryz.zeroValue231
  t63 := ut237
  a63 := Tryz.isAgg237
  z63 := Tryz.sizeOf237
  v63 := Tryz.zeroValue237
  t64 := ut238
  a64 := Tryz.isAgg238
  z64 := Tryz.sizeOf238
  v64 := Tryz.zeroValue238
theorem sort3_ok (x y z : Int) (g c T : Nat) (w0 : World) (H : List Assn) : Does Tryz.prog 191 [.slice (some ⟨g, 0, none⟩) 3 c] w0 (Blk g [.int .i64 x, .int .i64 y, .int .i64 z] T :: H) (fun v => [.sep (.pur (v = .tuple #[])) (Blk g [.int .i64 (lo3 x y z), .int .i64 (mi3 x y z), .int .i64 (hi3 x y z)] T)] ++ H) :=
  sort3_blk layI x y z
def layB_ren : Go.Shelf.Ren := ⟨fun | 6 => 192 | 15 => 210 | 14 => 211 | 28 => 224 | 29 => 225 | 20 => 226 | 21 => 227 | 22 => 228 | 23 => 229 | 24 => 230 | 25 => 231 | 26 => 232 | 27 => 233 | 46 => 247 | 47 => 243 | 48 => 244 | 49 => 248 | 50 => 249 | 57 => 254 | n => n, fun | 22 => 24 | 24 => 81 | 25 => 184 | 3 => 3 | 39 => 145 | 0 => 0 | 53 => 215 | 55 => 119 | 4 => 4 | 46 => 207 | 45 => 206 | 50 => 212 | 5 => 5 | 9 => 9 | 66 => 227 | 70 => 231 | 76 => 237 | 77 => 238 | n => n, fun | n => n⟩
theorem layB : SlLaysF0.n6 Tryz.prog layB_ren where
  mixed := by kernel_rfl
  f6 := ⟨Tryz.f192.name, by decide, Tryz.func192.trans (congrArg some (by kernel_rfl))⟩
  f14 := ⟨Tryz.f211.name, by decide, Tryz.func211.trans (congrArg some (by kernel_rfl))⟩
  f15 := Tryz.func210.trans (congrArg some (by kernel_rfl))
  f20 := ⟨Tryz.f226.name, by decide, Tryz.func226.trans (congrArg some (by kernel_rfl))⟩
  f21 := ⟨Tryz.f227.name, by decide, Tryz.func227.trans (congrArg some (by kernel_rfl))⟩
  f22 := ⟨Tryz.f228.name, by decide, Tryz.func228.trans (congrArg some (by kernel_rfl))⟩
  f23 := ⟨Tryz.f229.name, by decide, Tryz.func229.trans (congrArg some (by kernel_rfl))⟩
  f24 := ⟨Tryz.f230.name, by decide, Tryz.func230.trans (congrArg some (by kernel_rfl))⟩
  f25 := ⟨Tryz.f231.name, by decide, Tryz.func231.trans (congrArg some (by kernel_rfl))⟩
  f26 := ⟨Tryz.f232.name, by decide, Tryz.func232.trans (congrArg some (by kernel_rfl))⟩
  f27 := ⟨Tryz.f233.name, by decide, Tryz.func233.trans (congrArg some (by kernel_rfl))⟩
  f28 := Tryz.func224.trans (congrArg some (by kernel_rfl))
  f29 := Tryz.func225.trans (congrArg some (by kernel_rfl))
  f46 := ⟨Tryz.f247.name, by decide, Tryz.func247.trans (congrArg some (by kernel_rfl))⟩
  f47 := Tryz.func243.trans (congrArg some (by kernel_rfl))
  f48 := Tryz.func244.trans (congrArg some (by kernel_rfl))
  f49 := ⟨Tryz.f248.name, by decide, Tryz.func248.trans (congrArg some (by kernel_rfl))⟩
  f50 := ⟨Tryz.f249.name, by decide, Tryz.func249.trans (congrArg some (by kernel_rfl))⟩
  f57 := ⟨Tryz.f254.name, by decide, Tryz.func254.trans (congrArg some (by kernel_rfl))⟩
  t0 := ut0
  a0 := Tryz.isAgg0
  z0 := Tryz.sizeOf0
  v0 := Tryz.zeroValue0
  t3 := ut3
  a3 := Tryz.isAgg3
  z3 := Tryz.sizeOf3
  v3 := Tryz.zeroValue3
  t4 := ut4
  a4 := Tryz.isAgg4
  z4 := Tryz.sizeOf4
  v4 := Tryz.zeroValue4
  t5 := ut5
  a5 := Tryz.isAgg5
  z5 := Tryz.sizeOf5
  v5 := Tryz.zeroValue5
  t9 := ut9
  a9 := Tryz.isAgg9
  z9 := Tryz.sizeOf9
  v9 := Tryz.zeroValue9
  t22 := ut24
  a22 := Tryz.isAgg24
  z22 := Tryz.sizeOf24
  v22 := Tryz.zeroValue24
  t25 := ut184
  a25 := Tryz.isAgg184
  z25 := Tryz.sizeOf184
  v25 := Tryz.zeroValue184
  t39 := ut145
  a39 := Tryz.isAgg145
  z39 := Tryz.sizeOf145
  v39 := Tryz.zeroValue145
  t45 := ut206
  a45 := Tryz.isAgg206
  z45 := Tryz.sizeOf206
  v45 := Tryz.zeroValue206
  t46 := ut207
  a46 := Tryz.isAgg207
  z46 := Tryz.sizeOf207
  v46 := Tryz.zeroValue207
  t50 := ut212
  a50 := Tryz.isAgg212
  z50 := Tryz.sizeOf212
  v50 := Tryz.zeroValue212
  t53 := ut215
  a53 := Tryz.isAgg215
  z53 := Tryz.sizeOf215
  v53 := Tryz.zeroValue215
  t55 := ut119
  a55 := Tryz.isAgg119
  z55 := Tryz.sizeOf119
  v55 := Tryz.zeroValue119
  t66 := ut227
  a66 := Tryz.isAgg227
  z66 := Tryz.sizeOf227
  v66 := Tryz.zeroValue227
  t70 := ut231
  a70 := Tryz.isAgg231
  z70 := Tryz.sizeOf231
  v70 := Tryz.zeroValue231
  t76 := ut237
  a76 := Tryz.isAgg237
  z76 := Tryz.sizeOf237
  v76 := Tryz.zeroValue237
  t77 := ut238
  a77 := Tryz.isAgg238
  z77 := Tryz.sizeOf238
  v77 := Tryz.zeroValue238
theorem sortB_ok (xs : List B3) (xsA : Option Addr) (xsc : Nat) (w0 : World) (H : List Assn) (lxs : xs.length ≤ 1099511627776) : Does Tryz.prog 192 [.slice xsA xs.length xsc, .func (.func 162) #[] #[]] w0 (Own 81 B3C xsA xsc xs :: H) (fun v => [.exi fun ys : List B3 => .sep (.pur (v = .tuple #[] ∧ ys.Perm xs ∧ SrtB ys)) (Own 81 B3C xsA xsc ys)] ++ H) :=
  (sortK_does (C := B3C) layB Tryz.isAgg81 Tryz.sizeOf81 (fun x y => cmpL (bl x) (bl y)) swoB call162 (fun zs W _ x y => compare_ok x y W) (by omega)).mono (fun v w hs => by
    obtain ⟨ys, hs⟩ := St.exi hs
    obtain ⟨⟨h1, h2, h3⟩, h4⟩ := hs.sep.pur
    exact St.mkExi ys (St.unsep (St.addPur ⟨h1, h2, srt_of h3⟩ h4)))
set_option maxRecDepth 100000 in
set_option maxHeartbeats 1000000 in
theorem blockOf_ok (a : Int) (b : Int) (c_ : Int) (w : World) : Does Tryz.prog 148 [.int .i64 a, .int .i64 b, .int .i64 c_] w [] (fun r => [.pur (r = B3.v (bk3 a b c_))]) := by
 refine Does.enter Tryz.func148 rfl rfl [(0, .int .i64 a), (1, .int .i64 b), (2, .int .i64 c_)] rfl (Za (O.f rfl (Ef.alloc rfl zr81 rfl) ?_))
 rintro _ _ ⟨b1, rfl, rfl⟩
 refine Zb (O.m rfl (O.m rfl (O.m rfl (O.q rfl (Pu.buildA (cs := [.int .i64 a, .int .i64 b, .int .i64 c_]) (v := B3.v (a, b, c_)) rfl rfl ut81 zr81 sz2 rfl (by kernel_rfl)) (O.f rfl (Ef.alloc rfl zr81 rfl) ?_)))))
 rintro _ _ ⟨b2, rfl, rfl⟩
 refine O.s rfl rfl (Ef.storeAll 0 rfl sz81 rfl rfl rfl rfl (by simp [Value.oneCell']) rfl) ?_
 rintro _ _ rfl
 refine Zb (O.q rfl (Pu.slicePtr rfl ut81 sz2 rfl) (O.f rfl (Ef.call call191 rfl rfl (Does.pre (fun w hw => hw.sub (Sub.s [0,0] rfl)) (sort3_ok a b c_ _ _ _ w _))) ?_))
 rintro _ _ rfl
 refine O.sep (O.pur ?_)
 rintro rfl
 refine Zb (O.q rfl (Pu.loadAgg' (v := B3.v (bk3 a b c_)) rfl rfl ag81 sz81 rfl rfl (Ld.whole 0 rfl)) (O.s rfl rfl (Ef.storeAll 1 rfl sz81 rfl rfl rfl rfl (by simp [Value.oneCell']) rfl) ?_))
 rintro _ _ rfl
 exact Ze (X.retCell rfl ag81 sz81 rfl rfl (Ld.whole 1 rfl) (fun w hw => St.retP (rfl) hw))
set_option maxRecDepth 100000 in
set_option maxHeartbeats 1000000 in
theorem sorted_ok (blocks : List B3) (blocksA : Option Addr) (blocksc : Nat) (w : World) (hblocks : Rd B3C w blocksA blocks) (lblocks : blocks.length ≤ 1099511627776) (lb : blocks.length ≤ 1000000) : Does Tryz.prog 149 [.slice blocksA blocks.length blocksc] w [] (fun rv_ => [.exi fun (rA : Option Addr) => .exi fun (rc : Nat) => .exi fun (r : List B3) => .sep (.pur (rv_ = .slice rA r.length rc ∧ r.Perm blocks ∧ SrtB r)) (Own 81 B3C rA rc r)]) := by
 refine Does.enter Tryz.func149 rfl rfl [(0, .slice blocksA blocks.length blocksc)] rfl (Za (O.m rfl (Zb (O.m rfl (O.f rfl (Ef.call1 call155 rfl rfl (fun w hw => cloneB_ok blocks _ _ w ((Ld.old hblocks) w hw) (by first | omega | (simp only [tops_len] at *; omega)))) ?_)))))
 rintro _ _ rfl
 refine O.exi (fun p1 => O.sep (O.pur ?_))
 rintro ⟨rfl, hp1⟩
 refine O.m rfl (Zb (O.m rfl (O.f rfl (Ef.call call192 rfl rfl (Does.pre (fun w hw => hw.sub (Sub.s [0] rfl)) (sortB_ok  (p1.2) _ _ w _   (by rw [hp1]; omega)))) ?_)))
 rintro _ _ rfl
 refine O.exi (fun ys1 => O.sep (O.pur ?_))
 rintro ⟨rfl, hys1_1, hys1_2⟩
 exact Zb (O.m rfl (O.m rfl (Ze (X.ret1 rfl rfl (fun w hw => St.mkExi (p1.1.1) (St.mkExi (p1.1.2) (St.mkExi ys1 (St.unsep (St.addPur ⟨(by rw [hys1_1.length_eq]), hys1_1.trans (by rw [hp1]), hys1_2⟩ (hw.sub (Sub.s [0] rfl)))))))))))
set_option maxRecDepth 100000 in
set_option maxHeartbeats 1000000 in
theorem system_ok (v_ : Int) (blocks : List B3) (blocksA : Option Addr) (blocksc : Nat) (w : World) (hblocks : Rd B3C w blocksA blocks) (lblocks : blocks.length ≤ 1099511627776) (lb : blocks.length ≤ 1000000) : Does Tryz.prog 160 [.int .i64 v_, .slice blocksA blocks.length blocksc] w [] (fun rv_ => [.exi fun (rA : Option Addr) => .exi fun (rc : Nat) => .exi fun (r : List B3) => .sep (.pur (rv_ = .agg #[.int .i64 v_, .slice rA r.length rc] ∧ r.Perm blocks ∧ SrtB r)) (Own 81 B3C rA rc r)]) := by
 refine Does.enter Tryz.func160 rfl rfl [(0, .int .i64 v_), (1, .slice blocksA blocks.length blocksc)] rfl (Za (O.f rfl (Ef.alloc rfl zr26 rfl) ?_))
 rintro _ _ ⟨b1, rfl, rfl⟩
 refine Zb (O.m rfl (O.m rfl (O.f rfl (Ef.call1 call149 rfl rfl (fun w hw => sorted_ok  blocks _ _ w ((Ld.old hblocks) w hw) (by first | omega | (simp only [tops_len, conts_len, bl, List.length_append, List.length_cons, List.length_nil] at *; omega)) (by first | assumption | omega | (try dsimp only at *; omega)))) ?_)))
 rintro _ _ rfl
 refine O.exi (fun r1A => O.exi (fun r1c => O.exi (fun r1 => O.sep (O.pur ?_))))
 rintro ⟨rfl, hr1_1, hr1_2⟩
 refine O.q rfl (Pu.buildS (cs := [.int .i64 v_, .slice r1A r1.length r1c]) rfl rfl ut26 zr26 (by kernel_rfl) rfl (by kernel_rfl)) (O.s rfl rfl (Ef.storeAll 1 rfl sz26 rfl rfl rfl rfl (by simp [Value.oneCell']) rfl) ?_)
 rintro _ _ rfl
 exact Ze (X.retCell rfl ag26 sz26 rfl rfl (Ld.whole 1 rfl) (fun w hw => St.mkExi r1A (St.mkExi r1c (St.mkExi r1 (St.unsep (St.addPur ⟨rfl, hr1_1, hr1_2⟩ (hw.sub (Sub.s [0] rfl))))))))
set_option maxRecDepth 100000 in
set_option maxHeartbeats 1000000 in
theorem pairs1_ok (p : Int × Int) (q : Int × Int) (w : World) : Does Tryz.prog 194 [P2v p, P2v q] w [] (fun r => [.pur (r = .int .i64 (cmpL [p.1, p.2] [q.1, q.2]))]) := by
 refine Does.enter Tryz.func194 rfl rfl [(0, P2v p), (1, P2v q)] rfl (Za (O.f rfl (Ef.box rfl rfl rfl) ?_))
 rintro _ _ ⟨b1, rfl, rfl⟩
 refine O.f rfl (Ef.box rfl rfl rfl) ?_
 rintro _ _ ⟨b2, rfl, rfl⟩
 refine O.m rfl (Zf (Vs (V.ent (Ent.cons (t := 2) rfl (Ent.cons (t := 3) rfl (Ent.nil _))) (V.draw mo (by kernel_rfl) (fun hwf => D.q 0 rfl (Pu.slicePtr rfl ut153 sz2 rfl) (D.q 1 rfl (Pu.slicePtr rfl ut153 sz2 rfl) (D.f hwf 2 rfl (Ef.callP call128 rfl rfl (fun w hw => slicesCompare_ok ([p.1, p.2] : List Int) ([q.1, q.2] : List Int) _ _ _ _ w ((Ld.arr 1 rfl rfl) w hw) ((Ld.arr 0 rfl rfl) w hw) (by first | omega | (simp [bl]; done)) (by first | omega | (simp [bl]; done)))) ?_)))))))
 rintro _ _ ⟨rfl, rfl⟩ hs
 exact ⟨fun w hw => hw, (D.m 3 rfl (D.done hwf rfl (Xn (Vt (X.ret1 rfl rfl (fun w hw => St.retP (iv (rfl)) hw))))))⟩
def layP_ren : Go.Shelf.Ren := ⟨fun | 6 => 193 | 15 => 210 | 14 => 212 | 28 => 224 | 29 => 225 | 20 => 234 | 21 => 235 | 22 => 236 | 23 => 237 | 24 => 238 | 25 => 239 | 26 => 240 | 27 => 241 | 46 => 250 | 47 => 243 | 48 => 244 | 49 => 251 | 50 => 252 | 57 => 255 | n => n, fun | 22 => 152 | 24 => 153 | 25 => 186 | 3 => 3 | 39 => 145 | 0 => 0 | 53 => 215 | 55 => 119 | 4 => 4 | 46 => 207 | 45 => 206 | 50 => 212 | 5 => 5 | 9 => 9 | 66 => 227 | 70 => 231 | 76 => 237 | 77 => 238 | n => n, fun | n => n⟩
theorem layP : SlLaysF0.n6 Tryz.prog layP_ren where
  mixed := by kernel_rfl
  f6 := ⟨Tryz.f193.name, by decide, Tryz.func193.trans (congrArg some (by kernel_rfl))⟩
  f14 := ⟨Tryz.f212.name, by decide, Tryz.func212.trans (congrArg some (by kernel_rfl))⟩
  f15 := Tryz.func210.trans (congrArg some (by kernel_rfl))
  f20 := ⟨Tryz.f234.name, by decide, Tryz.func234.trans (congrArg some (by kernel_rfl))⟩
  f21 := ⟨Tryz.f235.name, by decide, Tryz.func235.trans (congrArg some (by kernel_rfl))⟩
  f22 := ⟨Tryz.f236.name, by decide, Tryz.func236.trans (congrArg some (by kernel_rfl))⟩
  f23 := ⟨Tryz.f237.name, by decide, Tryz.func237.trans (congrArg some (by kernel_rfl))⟩
  f24 := ⟨Tryz.f238.name, by decide, Tryz.func238.trans (congrArg some (by kernel_rfl))⟩
  f25 := ⟨Tryz.f239.name, by decide, Tryz.func239.trans (congrArg some (by kernel_rfl))⟩
  f26 := ⟨Tryz.f240.name, by decide, Tryz.func240.trans (congrArg some (by kernel_rfl))⟩
  f27 := ⟨Tryz.f241.name, by decide, Tryz.func241.trans (congrArg some (by kernel_rfl))⟩
  f28 := Tryz.func224.trans (congrArg some (by kernel_rfl))
  f29 := Tryz.func225.trans (congrArg some (by kernel_rfl))
  f46 := ⟨Tryz.f250.name, by decide, Tryz.func250.trans (congrArg some (by kernel_rfl))⟩
  f47 := Tryz.func243.trans (congrArg some (by kernel_rfl))
  f48 := Tryz.func244.trans (congrArg some (by kernel_rfl))
  f49 := ⟨Tryz.f251.name, by decide, Tryz.func251.trans (congrArg some (by kernel_rfl))⟩
  f50 := ⟨Tryz.f252.name, by decide, Tryz.func252.trans (congrArg some (by kernel_rfl))⟩
  f57 := ⟨Tryz.f255.name, by decide, Tryz.func255.trans (congrArg some (by kernel_rfl))⟩
  t0 := ut0
  a0 := Tryz.isAgg0
  z0 := Tryz.sizeOf0
  v0 := Tryz.zeroValue0
  t3 := ut3
  a3 := Tryz.isAgg3
  z3 := Tryz.sizeOf3
  v3 := Tryz.zeroValue3
  t4 := ut4
  a4 := Tryz.isAgg4
  z4 := Tryz.sizeOf4
  v4 := Tryz.zeroValue4
  t5 := ut5
  a5 := Tryz.isAgg5
  z5 := Tryz.sizeOf5
  v5 := Tryz.zeroValue5
  t9 := ut9
  a9 := Tryz.isAgg9
  z9 := Tryz.sizeOf9
  v9 := Tryz.zeroValue9
  t22 := ut152
  a22 := Tryz.isAgg152
  z22 := Tryz.sizeOf152
  v22 := Tryz.zeroValue152
  t25 := ut186
  a25 := Tryz.isAgg186
  z25 := Tryz.sizeOf186
  v25 := Tryz.zeroValue186
  t39 := ut145
  a39 := Tryz.isAgg145
  z39 := Tryz.sizeOf145
  v39 := Tryz.zeroValue145
  t45 := ut206
  a45 := Tryz.isAgg206
  z45 := Tryz.sizeOf206
  v45 := Tryz.zeroValue206
  t46 := ut207
  a46 := Tryz.isAgg207
  z46 := Tryz.sizeOf207
  v46 := Tryz.zeroValue207
  t50 := ut212
  a50 := Tryz.isAgg212
  z50 := Tryz.sizeOf212
  v50 := Tryz.zeroValue212
  t53 := ut215
  a53 := Tryz.isAgg215
  z53 := Tryz.sizeOf215
  v53 := Tryz.zeroValue215
  t55 := ut119
  a55 := Tryz.isAgg119
  z55 := Tryz.sizeOf119
  v55 := Tryz.zeroValue119
  t66 := ut227
  a66 := Tryz.isAgg227
  z66 := Tryz.sizeOf227
  v66 := Tryz.zeroValue227
  t70 := ut231
  a70 := Tryz.isAgg231
  z70 := Tryz.sizeOf231
  v70 := Tryz.zeroValue231
  t76 := ut237
  a76 := Tryz.isAgg237
  z76 := Tryz.sizeOf237
  v76 := Tryz.zeroValue237
  t77 := ut238
  a77 := Tryz.isAgg238
  z77 := Tryz.sizeOf238
  v77 := Tryz.zeroValue238
theorem sortP_ok (xs : List (Int × Int)) (xsA : Option Addr) (xsc : Nat) (w0 : World) (H : List Assn) (lxs : xs.length ≤ 1099511627776) : Does Tryz.prog 193 [.slice xsA xs.length xsc, .func (.func 194) #[] #[]] w0 (Own 153 P2C xsA xsc xs :: H) (fun v => [.exi fun ys : List (Int × Int) => .sep (.pur (v = .tuple #[] ∧ ys.Perm xs ∧ SrtP ys)) (Own 153 P2C xsA xsc ys)] ++ H) :=
  (sortK_does (C := P2C) layP Tryz.isAgg153 Tryz.sizeOf153 (fun x y => cmpL [x.1, x.2] [y.1, y.2]) swoP call194 (fun zs W _ x y => pairs1_ok x y W) (by omega)).mono (fun v w hs => by
    obtain ⟨ys, hs⟩ := St.exi hs
    obtain ⟨⟨h1, h2, h3⟩, h4⟩ := hs.sep.pur
    exact St.mkExi ys (St.unsep (St.addPur ⟨h1, h2, srtP_of h3⟩ h4)))
set_option maxRecDepth 100000 in
set_option maxHeartbeats 1000000 in
theorem pairs_ok (blocks : List B3) (blocksA : Option Addr) (blocksc : Nat) (w : World) (hblocks : Rd B3C w blocksA blocks) (lblocks : blocks.length ≤ 1099511627776) (lb : blocks.length ≤ 1000000) : Does Tryz.prog 153 [.slice blocksA blocks.length blocksc] w [] (fun rv_ => [.exi fun (rA : Option Addr) => .exi fun (rc : Nat) => .exi fun (r : List (Int × Int)) => .sep (.pur (rv_ = .slice rA r.length rc ∧ r.Perm (prsB blocks) ∧ SrtP r)) (Own 153 P2C rA rc r)]) := by
 refine Does.enter Tryz.func153 rfl rfl [(0, .slice blocksA blocks.length blocksc)] rfl (Za (O.m rfl (Zb (O.m rfl (Zf (Vs ?_))))))
 refine Za (O.m rfl (O.q rfl (Pu.len rfl ut24 rfl) (O.m rfl (Zi (V.map (fun w hw => St.addNil (T := 153) (C := P2C) hw) (V.loop2 (β := (Option Addr) × Nat × (List (Int × Int)) × Nat) (fun x => [(3, .slice x.1 x.2.2.1.length x.2.1), (8, .int .i64 (x.2.2.2 : Int))]) _ (fun x => [Own 153 P2C x.1 x.2.1 x.2.2.1]) (fun x => x.2.2.2 ≤ blocks.length ∧ x.2.2.1 = prsB (blocks.take x.2.2.2)) (fun x => blocks.length - x.2.2.2) (none, 0, [], 0) (by (try dsimp only); exact ⟨by omega, rfl⟩) (Ent.cons rfl (Ent.cons rfl (Ent.nil _))) (Ent.cons (t := 6) rfl (Ent.cons (t := 7) rfl (Ent.nil _))) (Sub.s [0] rfl) ?_))))))
 rintro ⟨outA, outc, out, i⟩ ⟨hi, ho⟩
 dsimp only at hi ho ⊢
 have hol : out.length = 3 * i := by rw [ho, prsB_len, List.length_take]; omega
 refine Za (O.q rfl (Pu.lss rfl rfl rfl) (Zf (Vs (V.condD rfl (fun c1 => ?_) (fun c1 => ?_)))))
 ·refine Zh (O.q rfl (Pu.indexAddr (i) rfl ut24 sz81 rfl rfl (by omega) (by omega) (hblocks.some (by omega))) ?_)
  have e1 : i < blocks.length := by omega
  refine O.q rfl (Pu.loadAgg' (v := B3.v (blocks[i]'e1)) rfl rfl ag81 sz81 rfl rfl (Ld.rds (Ld.old hblocks) (k := i) e1 rfl)) (O.f rfl (Ef.alloc rfl zr81 rfl) ?_)
  rintro _ _ ⟨b1, rfl, rfl⟩
  refine O.s rfl rfl (Ef.storeAll 0 rfl sz81 rfl rfl rfl rfl (by simp [Value.oneCell']) rfl) ?_
  rintro _ _ rfl
  refine Zf (Vr (O.m rfl (O.q rfl (Pu.indexArr 0 0 rfl ut81 sz2 rfl rfl (by decide) (by decide) (by decide)) (O.q rfl (Pu.load rfl pl2 rfl (Ld.blk 0 rfl rfl)) (O.q rfl (Pu.indexArr 1 1 rfl ut81 sz2 rfl rfl (by decide) (by decide) (by decide)) (O.q rfl (Pu.load rfl pl2 rfl (Ld.blk 0 rfl rfl)) (O.q rfl (Pu.buildA (cs := [.int .i64 (blocks[i]'e1).1, .int .i64 (blocks[i]'e1).2.1]) (v := P2v (((blocks[i]'e1).1, (blocks[i]'e1).2.1) : Int × Int)) rfl rfl ut153 zr153 sz2 rfl (by kernel_rfl)) (O.q rfl (Pu.indexArr 0 0 rfl ut81 sz2 rfl rfl (by decide) (by decide) (by decide)) (O.q rfl (Pu.load rfl pl2 rfl (Ld.blk 0 rfl rfl)) (O.q rfl (Pu.indexArr 2 2 rfl ut81 sz2 rfl rfl (by decide) (by decide) (by decide)) ?_))))))))))
  refine O.q rfl (Pu.load rfl pl2 rfl (Ld.blk 0 rfl rfl)) (O.q rfl (Pu.buildA (cs := [.int .i64 (blocks[i]'e1).1, .int .i64 (blocks[i]'e1).2.2]) (v := P2v (((blocks[i]'e1).1, (blocks[i]'e1).2.2) : Int × Int)) rfl rfl ut153 zr153 sz2 rfl (by kernel_rfl)) (O.q rfl (Pu.indexArr 1 1 rfl ut81 sz2 rfl rfl (by decide) (by decide) (by decide)) (O.q rfl (Pu.load rfl pl2 rfl (Ld.blk 0 rfl rfl)) (O.q rfl (Pu.indexArr 2 2 rfl ut81 sz2 rfl rfl (by decide) (by decide) (by decide)) (O.q rfl (Pu.load rfl pl2 rfl (Ld.blk 0 rfl rfl)) (O.q rfl (Pu.buildA (cs := [.int .i64 (blocks[i]'e1).2.1, .int .i64 (blocks[i]'e1).2.2]) (v := P2v (((blocks[i]'e1).2.1, (blocks[i]'e1).2.2) : Int × Int)) rfl rfl ut153 zr153 sz2 rfl (by kernel_rfl)) (O.f rfl (Ef.build P2C ([(((blocks[i]'e1).1, (blocks[i]'e1).2.1) : Int × Int), (((blocks[i]'e1).1, (blocks[i]'e1).2.2) : Int × Int), (((blocks[i]'e1).2.1, (blocks[i]'e1).2.2) : Int × Int)] : List (Int × Int)) rfl ut152 inf153 rfl rfl rfl (by first | decide | (simp; done)) (by kernel_rfl)) ?_)))))))
  rintro _ _ ⟨A1, hA1, rfl, rfl⟩
  refine O.f rfl (Ef.append (xs := out) (ys := ([(((blocks[i]'e1).1, (blocks[i]'e1).2.1) : Int × Int), (((blocks[i]'e1).1, (blocks[i]'e1).2.2) : Int × Int), (((blocks[i]'e1).2.1, (blocks[i]'e1).2.2) : Int × Int)] : List (Int × Int))) 2 rfl ut152 inf153 rfl rfl rfl rfl rfl rfl hA1 (Ld.own 0 (by exact rfl)) (by simp only [List.length_append, List.length_cons, List.length_nil] at *; omega) (by decide)) ?_
  rintro _ _ ⟨A2, k1, rfl, rfl, hA2⟩
  replace hA2 := hA2 (.inr (by simp))
  exact O.m rfl (Zk (O.q rfl (Pu.add64 (r := ((i + 1 : Nat) : Int)) rfl (by omega) rfl rfl rfl) (O.m rfl (On (X.back2 (A2, k1, (out ++ ([(((blocks[i]'e1).1, (blocks[i]'e1).2.1) : Int × Int), (((blocks[i]'e1).1, (blocks[i]'e1).2.2) : Int × Int), (((blocks[i]'e1).2.1, (blocks[i]'e1).2.2) : Int × Int)] : List (Int × Int))), i + 1) (by (try dsimp only); exact ⟨by omega, by rw [take_snoc e1, prsB_snoc, ho]⟩) (by first | omega | (dsimp only; omega)) (Ent.cons rfl (Ent.cons rfl (Ent.nil _))) (Ent.cons (t := 6) rfl (Ent.cons (t := 7) rfl (Ent.nil _))) (Sub.s [2] rfl))))))
 ·refine Zd (O.m rfl (O.f rfl (Ef.call call193 rfl rfl (Does.pre (fun w hw => hw.sub (Sub.s [0] rfl)) (sortP_ok  out _ _ w _   (by first | assumption | omega | (try dsimp only at *; omega))))) ?_))
  rintro _ _ rfl
  refine O.exi (fun ys1 => O.sep (O.pur ?_))
  rintro ⟨rfl, hys1_1, hys1_2⟩
  exact Zb (O.m rfl (O.m rfl (Ze (X.ret1 rfl rfl (fun w hw => St.mkExi outA (St.mkExi outc (St.mkExi ys1 (St.unsep (St.addPur ⟨(by rw [hys1_1.length_eq]), by rw [ho, List.take_of_length_le (by omega)] at hys1_1; exact hys1_1, hys1_2⟩ (hw.sub (Sub.s [0] rfl)))))))))))
set_option maxRecDepth 100000 in
set_option maxHeartbeats 1000000 in
theorem equalP_ok (s1 : List (Int × Int)) (s2 : List (Int × Int)) (s1A : Option Addr) (s1c : Nat) (s2A : Option Addr) (s2c : Nat) (w : World) (hs1 : Rd P2C w s1A s1) (hs2 : Rd P2C w s2A s2) (ls1 : s1.length ≤ 1099511627776) (ls2 : s2.length ≤ 1099511627776) : Does Tryz.prog 152 [.slice s1A s1.length s1c, .slice s2A s2.length s2c] w [] (fun r => [.pur (r = .bool (decide (s1 = s2)))]) := by
 refine Does.enter Tryz.func152 rfl rfl [(0, .slice s1A s1.length s1c), (1, .slice s2A s2.length s2c)] rfl (Za (O.m rfl (Zc (O.m rfl (O.q rfl (Pu.len rfl ut152 rfl) (O.m rfl ?_))))))
 refine O.q rfl (Pu.len rfl ut152 rfl) (O.q rfl (Pu.neq rfl rfl rfl) (Zf (V.condNot rfl (fun c1 => ?_) (fun c1 => ?_))))
 ·exact Za (O.m rfl (Ze (Xr (X.ret1 rfl rfl (fun w hw => St.retP (boolF (fun h => c1 (by rw [h]))) hw)))))
 ·refine Vk (Xn (Zj (O.m rfl (O.q rfl (Pu.len rfl ut152 rfl) (O.m rfl (Zi (V.loop2 (β := Nat) (fun i => [(13, .int .i64 (i : Int))]) _ (fun i => []) (fun i => i ≤ s1.length ∧ s1.take i = s2.take i) (fun i => s1.length - i) 0 ⟨by omega, rfl⟩ (Ent.cons rfl (Ent.nil _)) (Ent.cons (t := 0) rfl (Ent.cons (t := 1) rfl (Ent.cons (t := 12) rfl (Ent.nil _)))) (Sub.nil _) ?_)))))))
  rintro i ⟨hi, he⟩
  refine Za (O.q rfl (Pu.lss rfl rfl rfl) (Zf (Vs (V.condD rfl (fun c2 => ?_) (fun c2 => ?_)))))
  ·refine Zh (O.m rfl (O.m rfl (Zf (Vs (V.draw mo (by kernel_rfl) (fun hwf => ?_))))))
   refine D.m 0 rfl (D.m 1 rfl (D.q 2 rfl (Pu.indexAddr (i) rfl ut152 sz153 rfl rfl (by omega) (by omega) (hs1.some (by omega))) ?_))
   have e1 : i < s1.length := by omega
   refine D.q 3 rfl (Pu.loadAgg' (v := P2v (s1[i]'e1)) rfl rfl ag153 sz153 rfl rfl (Ld.rds (C := P2C) (Ld.old hs1) (k := i) e1 rfl)) (D.m 4 rfl (D.m 5 rfl (D.q 6 rfl (Pu.indexAddr (i) rfl ut152 sz153 rfl rfl (by omega) (by omega) (hs2.some (by omega))) ?_)))
   have e2 : i < s2.length := by omega
   refine D.q 7 rfl (Pu.loadAgg' (v := P2v (s2[i]'e2)) rfl rfl ag153 sz153 rfl rfl (Ld.rds (C := P2C) (Ld.old hs2) (k := i) e2 rfl)) (D.q 8 rfl (Pu.neqP2 ut153 ut2 sz2 (by kernel_rfl) rfl rfl rfl) (D.done hwf rfl (Xn (V.condNot rfl (fun c3 => ?_) (fun c3 => ?_)))))
   ·exact Za (O.m rfl (Ze (Xq (Xr (Xr (Xq (Xr (X.ret1 rfl rfl (fun w hw => St.retP (boolF (fun h => c3 (by subst h; rfl))) hw)))))))))
   ·exact Zg (O.q rfl (Pu.add64 (r := ((i + 1 : Nat) : Int)) rfl (by omega) rfl rfl rfl) (O.m rfl (On (X.back2 (i + 1) ⟨by omega, by rw [take_snoc (by omega), take_snoc (by omega), he]; simp_all⟩ (by first | omega | (dsimp only; omega)) (Ent.cons rfl (Ent.nil _)) (Ent.cons (t := 0) rfl (Ent.cons (t := 1) rfl (Ent.cons (t := 12) rfl (Ent.nil _)))) (Sub.nil _)))))
  ·exact Zd (O.m rfl (Ze (X.ret1 rfl rfl (fun w hw => St.retP (boolT (by rw [List.take_of_length_le (by omega), List.take_of_length_le (by omega)] at he; exact he)) hw))))
set_option maxRecDepth 100000 in
set_option maxHeartbeats 1000000 in
theorem haveSamePairs_ok (xs : List B3) (ys : List B3) (xsA : Option Addr) (xsc : Nat) (ysA : Option Addr) (ysc : Nat) (w : World) (hxs : Rd B3C w xsA xs) (hys : Rd B3C w ysA ys) (lxs : xs.length ≤ 1099511627776) (lys : ys.length ≤ 1099511627776) (la : xs.length ≤ 1000000) (lb : ys.length ≤ 1000000) : Does Tryz.prog 86 [.slice xsA xs.length xsc, .slice ysA ys.length ysc] w [] (fun r => [.pur (r = .bool (decide ((prsB xs).Perm (prsB ys))))]) := by
 refine Does.enter Tryz.func86 rfl rfl [(0, .slice xsA xs.length xsc), (1, .slice ysA ys.length ysc)] rfl (Za (O.m rfl (Zb (O.m rfl (O.f rfl (Ef.call1 call153 rfl rfl (fun w hw => pairs_ok  xs _ _ w ((Ld.old hxs) w hw) (by first | omega | (simp only [tops_len, conts_len, bl, List.length_append, List.length_cons, List.length_nil] at *; omega)) (by first | assumption | omega | (try dsimp only at *; omega)))) ?_)))))
 rintro _ _ rfl
 refine O.exi (fun r1A => O.exi (fun r1c => O.exi (fun r1 => O.sep (O.pur ?_))))
 rintro ⟨rfl, hr1_1, hr1_2⟩
 have hlr1 := hr1_1.length_eq
 rw [prsB_len] at hlr1
 refine O.m rfl (O.f rfl (Ef.call1 call153 rfl rfl (fun w hw => pairs_ok  ys _ _ w ((Ld.old hys) w hw) (by first | omega | (simp only [tops_len, conts_len, bl, List.length_append, List.length_cons, List.length_nil] at *; omega)) (by first | assumption | omega | (try dsimp only at *; omega)))) ?_)
 rintro _ _ rfl
 refine O.exi (fun r2A => O.exi (fun r2c => O.exi (fun r2 => O.sep (O.pur ?_))))
 rintro ⟨rfl, hr2_1, hr2_2⟩
 have hlr2 := hr2_1.length_eq
 rw [prsB_len] at hlr2
 refine O.f rfl (Ef.callP call152 rfl rfl (fun w hw => equalP_ok  r1 r2 _ _ _ _ w ((Ld.own 1 (by exact rfl)) w hw) ((Ld.own 0 (by exact rfl)) w hw) (by first | omega | (simp only [tops_len, conts_len, bl, List.length_append, List.length_cons, List.length_nil] at *; omega)) (by first | omega | (simp only [tops_len, conts_len, bl, List.length_append, List.length_cons, List.length_nil] at *; omega)) )) ?_
 rintro _ _ ⟨rfl, rfl⟩
 exact O.m rfl (Ze (X.ret1 rfl rfl (fun w hw => St.retP (boolD (⟨fun e => hr1_1.symm.trans (by rw [e]; exact hr2_1), fun hp => srtP_unique hr1_2 hr2_2 (hr1_1.trans (hp.trans hr2_1.symm))⟩)) hw)))
set_option maxRecDepth 100000 in
set_option maxHeartbeats 1000000 in
theorem implCommon_ok (xs : List B3) (ys : List B3) (xsA : Option Addr) (xsc : Nat) (ysA : Option Addr) (ysc : Nat) (w : World) (hxs : Rd B3C w xsA xs) (hys : Rd B3C w ysA ys) (lxs : xs.length ≤ 1099511627776) (lys : ys.length ≤ 1099511627776) : Does Tryz.prog 93 [.slice xsA xs.length xsc, .slice ysA ys.length ysc] w [] (fun rv_ => [.exi fun (rA : Option Addr) => .exi fun (rc : Nat) => .exi fun (r : List B3) => .sep (.pur (rv_ = .slice rA r.length rc ∧ r = (xs.filter fun b => decide (b ∈ ys)))) (Own 81 B3C rA rc r)]) := by
 refine Does.enter Tryz.func93 rfl rfl [(0, .slice xsA xs.length xsc), (1, .slice ysA ys.length ysc)] rfl (Za (O.m rfl (Zb (O.m rfl (Zf (Vs ?_))))))
 refine Za (O.m rfl (O.q rfl (Pu.len rfl ut24 rfl) (O.m rfl (Zi (V.map (fun w hw => St.addNil (T := 81) (C := B3C) hw) (V.loop2 (β := (Option Addr) × Nat × (List B3) × Nat) (fun x => [(5, .slice x.1 x.2.2.1.length x.2.1), (10, .int .i64 (x.2.2.2 : Int))]) _ (fun x => [Own 81 B3C x.1 x.2.1 x.2.2.1]) (fun x => x.2.2.2 ≤ xs.length ∧ x.2.2.1 = ((xs.take x.2.2.2).filter fun b => decide (b ∈ ys))) (fun x => xs.length - x.2.2.2) (none, 0, [], 0) (by (try dsimp only); exact ⟨by omega, rfl⟩) (Ent.cons rfl (Ent.cons rfl (Ent.nil _))) (Ent.cons (t := 1) rfl (Ent.cons (t := 8) rfl (Ent.cons (t := 9) rfl (Ent.nil _)))) (Sub.s [0] rfl) ?_))))))
 rintro ⟨outA, outc, out, i⟩ ⟨hi, ho⟩
 dsimp only at hi ho ⊢
 have hol : out.length ≤ xs.length := by rw [ho]; exact Nat.le_trans (List.length_filter_le _ _) (by rw [List.length_take]; omega)
 refine Za (O.q rfl (Pu.lss rfl rfl rfl) (Zf (Vs (V.condD rfl (fun c1 => ?_) (fun c1 => ?_)))))
 ·refine Zh (O.q rfl (Pu.indexAddr (i) rfl ut24 sz81 rfl rfl (by omega) (by omega) (hxs.some (by omega))) ?_)
  have e1 : i < xs.length := by omega
  refine O.q rfl (Pu.loadAgg' (v := B3.v (xs[i]'e1)) rfl rfl ag81 sz81 rfl rfl (Ld.rds (Ld.old hxs) (k := i) e1 rfl)) (O.f rfl (Ef.alloc rfl zr81 rfl) ?_)
  rintro _ _ ⟨b1, rfl, rfl⟩
  refine O.s rfl rfl (Ef.storeAll 0 rfl sz81 rfl rfl rfl rfl (by simp [Value.oneCell']) rfl) ?_
  rintro _ _ rfl
  refine Zb (O.m rfl (O.q rfl (Pu.loadAgg' (v := B3.v (xs[i]'e1)) rfl rfl ag81 sz81 rfl rfl (Ld.whole 0 rfl)) (O.f rfl (Ef.callP call157 rfl rfl (fun w hw => containsBl_ok  ys (xs[i]'e1) _ _ w ((Ld.old hys) w hw) (by first | omega | (simp only [tops_len, conts_len, bl, List.length_append, List.length_cons, List.length_nil] at *; omega)) )) ?_)))
  rintro _ _ ⟨rfl, rfl⟩
  refine Zf (V.condD rfl (fun c2 => ?_) (fun c2 => ?_))
  ·refine Vr (O.m rfl (O.q rfl (Pu.loadAgg' (v := B3.v (xs[i]'e1)) rfl rfl ag81 sz81 rfl rfl (Ld.whole 0 rfl)) (O.f rfl (Ef.build B3C ([(xs[i]'e1)] : List B3) rfl ut24 inf81 rfl rfl rfl (by first | decide | (simp; done)) (by kernel_rfl)) ?_)))
   rintro _ _ ⟨A1, hA1, rfl, rfl⟩
   refine O.f rfl (Ef.append (xs := out) (ys := ([(xs[i]'e1)] : List B3)) 2 rfl ut24 inf81 rfl rfl rfl rfl rfl rfl hA1 (Ld.own 0 (by exact rfl)) (by simp only [List.length_append, List.length_cons, List.length_nil] at *; omega) (by decide)) ?_
   rintro _ _ ⟨A2, k1, rfl, rfl, hA2⟩
   replace hA2 := hA2 (.inr (by simp))
   exact O.m rfl (Zk (O.q rfl (Pu.add64 (r := ((i + 1 : Nat) : Int)) rfl (by omega) rfl rfl rfl) (O.m rfl (On (X.back2 (A2, k1, (out ++ ([(xs[i]'e1)] : List B3)), i + 1) (by (try dsimp only); exact ⟨by omega, by rw [take_snoc (by omega), List.filter_append, ho]; simp [c2]⟩) (by first | omega | (dsimp only; omega)) (Ent.cons rfl (Ent.cons rfl (Ent.nil _))) (Ent.cons (t := 1) rfl (Ent.cons (t := 8) rfl (Ent.cons (t := 9) rfl (Ent.nil _)))) (Sub.s [2] rfl))))))
  ·exact Zg (O.q rfl (Pu.add64 (r := ((i + 1 : Nat) : Int)) rfl (by omega) rfl rfl rfl) (O.m rfl (On (X.back2 (outA, outc, out, i + 1) (by (try dsimp only); exact ⟨by omega, by rw [take_snoc (by omega), List.filter_append, ho]; simp [c2]⟩) (by first | omega | (dsimp only; omega)) (Ent.cons rfl (Ent.cons rfl (Ent.nil _))) (Ent.cons (t := 1) rfl (Ent.cons (t := 8) rfl (Ent.cons (t := 9) rfl (Ent.nil _)))) (Sub.s [1] rfl)))))
 ·refine Zd (O.m rfl (O.m rfl (Ze ?_)))
  exact X.ret1 rfl rfl (fun w hw => St.mkExi outA (St.mkExi outc (St.mkExi out (St.unsep (St.addPur ⟨rfl, by rw [ho, List.take_of_length_le (by omega)]⟩ (hw.sub (Sub.s [0] rfl)))))))
set_option maxRecDepth 100000 in
set_option maxHeartbeats 1000000 in
theorem isTrade_ok (v : Int) (os ns : List B3) (A1 A2 : Option Addr) (k1 k2 : Nat) (w : World) (ho : Rd B3C w A1 os) (hnt : Rd B3C w A2 ns) (lo : os.length ≤ 4611686018427387904) (ln : ns.length ≤ 4611686018427387904) : Does Tryz.prog 19 [.agg #[.int .i64 v, .slice A1 os.length k1, .slice A2 ns.length k2]] w [] (fun r => [.pur (r = .bool (decide (TRD v os ns)))]) := by
 refine Does.enter Tryz.func19 rfl rfl [(0, .agg #[.int .i64 v, .slice A1 os.length k1, .slice A2 ns.length k2])] rfl (Za (O.f rfl (Ef.box rfl rfl rfl) ?_))
 rintro _ _ ⟨b1, rfl, rfl⟩
 refine O.m rfl (Zb (O.q rfl (Pu.fieldAddr 0 rfl ut35 rfl sz2 rfl rfl) (O.q rfl (Pu.load rfl pl2 rfl (Ld.blk 0 rfl rfl)) (O.q rfl (Pu.fieldAddr 1 rfl ut35 rfl sz24 rfl rfl) (O.q rfl (Pu.load rfl pl24 rfl (Ld.blk 0 rfl rfl)) (O.f rfl (Ef.callP call92 rfl rfl (fun w hw => areBlocks_ok _ os _ _ w ((Ld.old ho) w hw) (by omega))) ?_))))))
 rintro _ _ ⟨rfl, rfl⟩
 refine O.m rfl (O.splitD 8 rfl (fun c1 => ?_) (fun c1 => ?_))
 ·have hfo := c1.few
  refine O.gq rfl (Pu.fieldAddr 0 rfl ut35 rfl sz2 rfl rfl) (O.gq rfl (Pu.load rfl pl2 rfl (Ld.blk 0 rfl rfl)) (O.gq rfl (Pu.fieldAddr 2 rfl ut35 rfl sz24 rfl rfl) (O.gq rfl (Pu.load rfl pl24 rfl (Ld.blk 0 rfl rfl)) (O.gf rfl (Ef.callP call92 rfl rfl (fun w hw => areBlocks_ok _ ns _ _ w ((Ld.old hnt) w hw) (by omega))) ?_))))
  rintro _ _ ⟨rfl, rfl⟩
  refine O.m rfl (O.m rfl (O.splitD 15 rfl (fun c2 => ?_) (fun c2 => ?_)))
  ·have hfn := c2.few
   refine O.gq rfl (Pu.fieldAddr 1 rfl ut35 rfl sz24 rfl rfl) (O.gq rfl (Pu.load rfl pl24 rfl (Ld.blk 0 rfl rfl)) (O.gq rfl (Pu.fieldAddr 2 rfl ut35 rfl sz24 rfl rfl) (O.gq rfl (Pu.load rfl pl24 rfl (Ld.blk 0 rfl rfl)) (O.gf rfl (Ef.call1 call93 rfl rfl (fun w hw => implCommon_ok  os ns _ _ _ _ w ((Ld.old ho) w hw) ((Ld.old hnt) w hw) (by omega) (by omega) )) ?_))))
   rintro _ _ rfl
   refine O.exi (fun r1A => O.exi (fun r1c => O.exi (fun r1 => O.sep (O.pur ?_))))
   rintro ⟨rfl, hr1_1⟩
   have hap : r1.length = 0 ↔ ∀ b ∈ os, b ∉ ns := by rw [hr1_1]; exact apart_I
   refine O.gq rfl (Pu.len rfl ut24 rfl) (O.gq rfl (Pu.eql rfl rfl rfl) (O.m rfl (O.m rfl (O.splitD 24 rfl (fun c3 => ?_) (fun c3 => ?_)))))
   ·refine O.gq rfl (Pu.fieldAddr 1 rfl ut35 rfl sz24 rfl rfl) (O.gq rfl (Pu.load rfl pl24 rfl (Ld.blk 1 rfl rfl)) (O.gq rfl (Pu.fieldAddr 2 rfl ut35 rfl sz24 rfl rfl) (O.gq rfl (Pu.load rfl pl24 rfl (Ld.blk 1 rfl rfl)) (O.gf rfl (Ef.callP call86 rfl rfl (fun w hw => haveSamePairs_ok  os ns _ _ _ _ w ((Ld.old ho) w hw) ((Ld.old hnt) w hw) (by first | omega | (simp only [tops_len, conts_len, bl, List.length_append, List.length_cons, List.length_nil] at *; omega)) (by first | omega | (simp only [tops_len, conts_len, bl, List.length_append, List.length_cons, List.length_nil] at *; omega)) (by first | assumption | omega | (try dsimp only at *; omega)) (by first | assumption | omega | (try dsimp only at *; omega)))) ?_))))
    rintro _ _ ⟨rfl, rfl⟩
    exact O.m rfl (O.m rfl (Ze (X.ret1 rfl rfl (fun w hw => St.retP (boolD (⟨fun h => ⟨c1, c2, hap.1 (by omega), h⟩, fun h => h.2.2.2⟩)) hw))))
   ·exact O.g rfl (O.g rfl (O.g rfl (O.g rfl (O.g rfl (O.m rfl (O.m rfl (Ze (X.ret1 rfl rfl (fun w hw => St.retP (boolF (fun h => c3 (by have := hap.2 h.2.2.1; omega))) hw)))))))))
  ·refine O.g rfl (O.g rfl (O.g rfl (O.g rfl (O.g rfl (O.g rfl (O.g rfl (O.m rfl (O.m rfl (O.g rfl (O.g rfl (O.g rfl ?_)))))))))))
   exact O.g rfl (O.g rfl (O.m rfl (O.m rfl (Ze (X.ret1 rfl rfl (fun w hw => St.retP (boolF (fun h => c2 h.2.1)) hw))))))
 ·refine O.g rfl (O.g rfl (O.g rfl (O.g rfl (O.g rfl (O.m rfl (O.m rfl (O.g rfl (O.g rfl (O.g rfl (O.g rfl (O.g rfl ?_)))))))))))
  refine O.g rfl (O.g rfl (O.m rfl (O.m rfl (O.g rfl (O.g rfl (O.g rfl (O.g rfl (O.g rfl (O.m rfl (O.m rfl (On ?_)))))))))))
  exact Xn (Vt (X.ret1 rfl rfl (fun w hw => St.retP (boolF (fun h => c1 h.1)) hw)))
set_option maxRecDepth 100000 in
set_option maxHeartbeats 1000000 in
theorem pointsOf1_ok (b : B3) (p : Int) (b_0 : Nat) (w : World) (hb_0 : RdB w b_0 [.int .i64 p]) : Does Tryz.prog 95 [B3.v b, .pointer (some ⟨b_0, 0, none⟩)] w [] (fun r => [.pur (r = .bool (decide (has b p)))]) := by
 refine Does.enter Tryz.func95 rfl rfl [(0, B3.v b), (1, .pointer (some ⟨b_0, 0, none⟩))] rfl (Za (O.f rfl (Ef.box rfl rfl rfl) ?_))
 rintro _ _ ⟨b1, rfl, rfl⟩
 refine O.m rfl (Zb (O.q rfl (Pu.loadAgg' (v := B3.v b) rfl rfl ag81 sz81 rfl rfl (Ld.whole 0 rfl)) (O.q rfl (Pu.load rfl pl2 rfl (Ld.rdb hb_0 rfl)) (O.f rfl (Ef.callP call75 rfl rfl (fun w hw => has_ok b _ w)) ?_))))
 rintro _ _ ⟨rfl, rfl⟩
 exact O.m rfl (Ze (X.ret1 rfl rfl (fun w hw => St.retP (boolD (Iff.rfl)) hw)))
set_option maxRecDepth 100000 in
set_option maxHeartbeats 1000000 in
theorem implPointsOfTrade_ok (v : Int) (os ns : List B3) (A1 A2 : Option Addr) (k1 k2 : Nat) (w : World) (ho : Rd B3C w A1 os) (hnt : Rd B3C w A2 ns) (lo : os.length ≤ 4611686018427387904) (ln : ns.length ≤ 4611686018427387904) : Does Tryz.prog 23 [.agg #[.int .i64 v, .slice A1 os.length k1, .slice A2 ns.length k2]] w [] (fun r => [.exi fun (oA : Option Addr) => .exi fun (oc : Nat) => .exi fun (o : List Int) => .sep (.pur (r = .tuple #[.slice oA o.length oc, .int .i64 (if TRD v os ns then 0 else 1)] ∧ PTR v os ns o)) (Own 2 I64 oA oc o)]) := by
 refine Does.enter Tryz.func23 rfl rfl [(0, .agg #[.int .i64 v, .slice A1 os.length k1, .slice A2 ns.length k2])] rfl (Za (O.f rfl (Ef.box rfl rfl rfl) ?_))
 rintro _ _ ⟨b1, rfl, rfl⟩
 refine O.m rfl (O.m rfl (Zc (O.q rfl (Pu.loadAgg rfl ag35 sz35 rfl rfl (Ld.whole 0 rfl)) (O.f rfl (Ef.callP call19 rfl rfl (fun w hw => isTrade_ok  v os ns _ _ _ _ w ((Ld.old ho) w hw) ((Ld.old hnt) w hw) (by omega) (by omega) )) ?_))))
 rintro _ _ ⟨rfl, rfl⟩
 refine O.q rfl (Pu.not rfl rfl) (Zf (V.condNot rfl (fun c1 => ?_) (fun c1 => ?_)))
 ·exact Za (O.m rfl (O.m rfl (Ze (Xr (X.ret2 rfl rfl rfl (fun w hw => St.mkExi none (St.mkExi 0 (St.mkExi [] (St.unsep (St.addPur ⟨(by rw [if_neg c1]; rfl), (by exact ⟨fun h => absurd h c1, fun _ => rfl⟩)⟩ (St.addNil (T := 2) (C := I64) (hw.sub (Sub.nil _)))))))))))))
 ·have hlo := c1.1.lo
  have hhi := c1.1.hi
  have hfo := c1.1.few
  refine Vk (Xn (Za (O.m rfl (Zc (O.q rfl (Pu.fieldAddr 0 rfl ut35 rfl sz2 rfl rfl) (O.q rfl (Pu.load rfl pl2 rfl (Ld.blk 0 rfl rfl)) ?_))))))
  refine O.m rfl (Zi (V.map (fun w hw => St.addNil (T := 2) (C := I64) hw) (V.loop3 (β := (Option Addr) × Nat × (List Int) × Nat) (fun x => [(4, .slice x.1 x.2.2.1.length x.2.1), (11, .int .i64 (x.2.2.2 : Int))]) _ (fun x => [Own 2 I64 x.1 x.2.1 x.2.2.1]) _ (fun x => x.2.2.2 ≤ v.toNat ∧ x.2.2.1 = ptsB os x.2.2.2) (fun x => v.toNat - x.2.2.2) (none, 0, [], 0) (by (try dsimp only); exact ⟨by omega, rfl⟩) (Ent.cons rfl (Ent.cons rfl (Ent.nil _))) (Ent.cons (t := 1) rfl (Ent.cons (t := 10) rfl (Ent.nil _))) (Sub.s [0,0] rfl) ?_)))
  rintro ⟨outA, outc, out, p⟩ ⟨hp, ho_⟩
  dsimp only at hp ho_ ⊢
  have hol : out.length ≤ p := by rw [ho_]; exact ptsB_len
  refine Za (O.q rfl (Pu.lss rfl rfl rfl) (Zf (Vs (V.condD rfl (fun c2 => ?_) (fun c2 => ?_)))))
  ·refine Zh (O.m rfl (O.f rfl (Ef.alloc rfl zr2 rfl) ?_))
   rintro _ _ ⟨b2, rfl, rfl⟩
   refine O.s rfl rfl (Ef.store1 (cs' := [_]) 0 rfl sz2 rfl rfl rfl rfl rfl (ltb rfl) rfl) ?_
   rintro _ _ rfl
   refine Zb (O.q rfl (Pu.fieldAddr 1 rfl ut35 rfl sz24 rfl rfl) (O.q rfl (Pu.load rfl pl24 rfl (Ld.blk 2 rfl rfl)) (O.q rfl (Pu.makeFunc rfl rfl) (O.f rfl (Ef.callP call94 rfl rfl (fun w hw => containsFuncB_ok (fun b => has b (p : Int)) 95 _ os _ _ w call95 ((Ld.old ho) w hw) (by omega) (fun k hk w' hb => pointsOf1_ok _ (p : Int) _ w' ((Blk.rdb hw (i := 0) rfl).below hb)))) ?_))))
   rintro _ _ ⟨rfl, rfl⟩
   refine Zf (V.condD rfl (fun c3 => ?_) (fun c3 => ?_))
   ·refine Vr (O.m rfl (O.q rfl (Pu.load rfl pl2 rfl (Ld.blk 0 rfl rfl)) (O.f rfl (Ef.build I64 ([(↑p : Int)] : List Int) rfl ut49 inf2 rfl rfl rfl (by first | decide | (simp; done)) (by kernel_rfl)) ?_)))
    rintro _ _ ⟨A1, hA1, rfl, rfl⟩
    refine O.f rfl (Ef.append (xs := out) (ys := ([(↑p : Int)] : List Int)) 2 rfl ut49 inf2 rfl rfl rfl rfl rfl rfl hA1 (Ld.own 0 (by exact rfl)) (by simp only [List.length_append, List.length_cons, List.length_nil] at *; omega) (by decide)) ?_
    rintro _ _ ⟨A2, k1, rfl, rfl, hA2⟩
    replace hA2 := hA2 (.inr (by simp))
    exact O.m rfl (Zk (O.q rfl (Pu.add64 (r := ((p + 1 : Nat) : Int)) rfl (by omega) rfl rfl rfl) (O.m rfl (On (X.back3 (A2, k1, (out ++ ([(↑p : Int)] : List Int)), p + 1) (by (try dsimp only); exact ⟨by omega, by rw [ptsB_yes c3, ho_]⟩) (by first | omega | (dsimp only; omega)) (Ent.cons rfl (Ent.cons rfl (Ent.nil _))) (Ent.cons (t := 1) rfl (Ent.cons (t := 10) rfl (Ent.nil _))) (Sub.s [2,2] rfl))))))
   ·exact Zg (O.q rfl (Pu.add64 (r := ((p + 1 : Nat) : Int)) rfl (by omega) rfl rfl rfl) (O.m rfl (On (X.back3 (outA, outc, out, p + 1) (by (try dsimp only); exact ⟨by omega, by rw [ptsB_no c3, ho_]⟩) (by first | omega | (dsimp only; omega)) (Ent.cons rfl (Ent.cons rfl (Ent.nil _))) (Ent.cons (t := 1) rfl (Ent.cons (t := 10) rfl (Ent.nil _))) (Sub.s [1,1] rfl)))))
  ·refine Zd (O.m rfl (O.m rfl (O.m rfl (Zf ?_))))
   exact Vt (X.ret2 rfl rfl rfl (fun w hw => St.mkExi outA (St.mkExi outc (St.mkExi out (St.unsep (St.addPur ⟨(by rw [if_pos c1]), (by exact ⟨fun _ => by rw [ho_, show p = v.toNat by omega], fun h => absurd c1 h⟩)⟩ (hw.sub (Sub.s [0] rfl))))))))
set_option maxRecDepth 100000 in
set_option maxHeartbeats 1000000 in
theorem l01From_ok (code : List UInt8) (codeA : Option Addr) (codec : Nat) (w : World) (hcode : Rd U8C w codeA code) (lcode : code.length ≤ 1099511627776) (lc : code.length ≤ 1048576) : Does Tryz.prog 61 [.slice codeA code.length codec] w [] (fun r => [.exi fun (s : Nat) => .sep (.pur (r = .pointer (some ⟨s, 0, none⟩))) (SrcK 133 codeA codec code s)]) := by
 refine Does.enter Tryz.func61 rfl rfl [(0, .slice codeA code.length codec)] rfl (Za (O.m rfl (Zb (O.m rfl (O.m rfl (O.q rfl (Pu.len rfl ut22 rfl) (O.q rfl (Pu.convU' code.length (by omega) ⟨_, ut3⟩ ut119 (by omega) rfl rfl) ?_)))))))
 refine O.q rfl (Pu.addU (m := 13551) (n := code.length) rfl rfl rfl) (O.q rfl (Pu.buildS (cs := [.slice codeA code.length codec, .int .i64 (0 : Int), .int .u64 (↑(((13551 + code.length) % 18446744073709551616)) : Int)]) rfl rfl ut133 zr133 (by kernel_rfl) rfl (by kernel_rfl)) (O.f rfl (Ef.box rfl rfl rfl) ?_))
 rintro _ _ ⟨b1, rfl, rfl⟩
 refine O.m rfl (Zf (Vs (Vs (V.map (fun w hw => SrcK.mk (a := 0) (h := ((13551 + code.length) % 18446744073709551616)) ⟨by omega, by omega⟩ hw) (Vr (O.m rfl (Zi (V.loop3 (β := Nat) (fun i => [(4, .int .i64 (i : Int))]) _ (fun i => []) _ (fun i => i ≤ code.length) (fun i => code.length - i) 0 (by omega) (Ent.cons rfl (Ent.nil _)) (Ent.cons (t := 0) rfl (Ent.cons (t := 3) rfl (Ent.nil _))) (Sub.s [0] rfl) ?_))))))))
 rintro i hi
 refine Zj (O.m rfl (O.m rfl (O.q rfl (Pu.len rfl ut22 rfl) (O.q rfl (Pu.lss rfl rfl rfl) (O.m rfl (O.splitD 16 rfl (fun c1 => ?_) (fun c1 => ?_)))))))
 ·refine O.gm rfl (O.gq rfl (Pu.lss rfl rfl rfl) (O.m rfl (Zf (V.condD rfl (fun c2 => ?_) (fun c2 => ?_)))))
  ·refine Vk (Xn (Vs (Vb (V.srcK (fun at1 word1 hat1 hword1 => V.draw mo (by kernel_rfl) (fun hwf => D.m 0 rfl (D.m 1 rfl (D.m 2 rfl (D.q 3 rfl (Pu.fieldAddr 2 rfl ut133 rfl sz119 rfl rfl) (D.q 4 rfl (Pu.load rfl pl119 rfl (Ld.blk 0 rfl rfl)) (D.q 5 rfl (Pu.mulU (m := word1) (n := 1099511628211) rfl rfl rfl) ?_)))))))))))
   refine D.m 6 rfl (D.m 7 rfl (D.q 8 rfl (Pu.indexAddr (i) rfl ut22 sz5 rfl rfl (by omega) (by omega) (hcode.some (by omega))) ?_))
   have e1 : i < code.length := by omega
   have hu1 := UInt8.toNat_lt (code[i]'e1)
   refine D.q 9 rfl (Pu.load rfl pl5 rfl (Ld.rd (Ld.old hcode) (k := i) e1 rfl rfl)) (D.q 10 rfl (Pu.convU' ((code[i]'e1).toNat) (by omega) ⟨_, ut5⟩ ut119 (by omega) rfl rfl) (D.q 11 rfl (Pu.addU (m := (word1 * 1099511628211 % 18446744073709551616)) (n := (code[i]'e1).toNat) rfl rfl rfl) (D.q 12 rfl (Pu.addU (m := (((word1 * 1099511628211 % 18446744073709551616) + (code[i]'e1).toNat) % 18446744073709551616)) (n := 179) rfl rfl rfl) (D.m 13 rfl (D.q 14 rfl (Pu.fieldAddr 2 rfl ut133 rfl sz119 rfl rfl) (D.effX (Hs' := []) hwf (e := 15) rfl rfl rfl rfl (Ef.store1 (cs' := [_, _, _]) 0 rfl sz119 rfl rfl rfl rfl rfl (ltb rfl) rfl) rfl [13] rfl (List.forall_mem_cons.2 ⟨⟨35, _, rfl, rfl, Det.of rfl rfl rfl (Pu.nilCheck rfl rfl)⟩, List.forall_mem_nil _⟩) ?_))))))
   rintro _ _ rfl
   exact ⟨fun w hw => hw.sub (Sub.nil _), (D.done hwf rfl (Xb (Xn (V.map (fun w hw => SrcK.mk (a := at1) (h := (((((word1 * 1099511628211 % 18446744073709551616) + (code[i]'e1).toNat) % 18446744073709551616) + 179) % 18446744073709551616)) ⟨by omega, by omega⟩ hw) (Vr (O.m rfl (O.q rfl (Pu.add64 (r := ((i + 1 : Nat) : Int)) rfl (by omega) rfl rfl rfl) (O.m rfl (On (X.back3 (i + 1) (by omega) (by first | omega | (dsimp only; omega)) (Ent.cons rfl (Ent.nil _)) (Ent.cons (t := 0) rfl (Ent.cons (t := 3) rfl (Ent.nil _))) (Sub.s [0] rfl)))))))))))⟩
  ·refine Zd (O.m rfl (O.m rfl (Ze ?_)))
   exact X.ret1 rfl rfl (fun w hw => St.mkExi b1 (St.unsep (St.addPur rfl (hw.sub (Sub.s [0] rfl)))))
 ·refine O.g rfl (O.g rfl (O.m rfl (Zf (V.condF rfl (Ve (Xe (Xe (Xh (Xn (Vs ?_))))))))))
  exact Vr (O.m rfl (O.m rfl (Ze (X.ret1 rfl rfl (fun w hw => St.mkExi b1 (St.unsep (St.addPur rfl (hw.sub (Sub.s [0] rfl)))))))))
set_option maxRecDepth 100000 in
set_option maxHeartbeats 1000000 in
theorem l01Next_ok (cA : Option Addr) (cc : Nat) (code : List UInt8) (s : Nat) (n : Int) (w0 : World) (H : List Assn) (hc : Rd U8C w0 cA code) (lc : code.length ≤ 1048576) : Does Tryz.prog 68 [.pointer (some ⟨s, 0, none⟩), .int .i64 n] w0 (SrcK 133 cA cc code s :: H) (fun rv_ => [.exi fun (r : Int) => .sep (.pur (rv_ = .int .i64 r ∧ 0 ≤ r ∧ (n < 1 → r = 0) ∧ (1 ≤ n → r < n))) (SrcK 133 cA cc code s)] ++ H) := by
 refine Does.enter Tryz.func68 rfl rfl [(0, .pointer (some ⟨s, 0, none⟩)), (1, .int .i64 n)] rfl (Za (O.m rfl (Zc (O.m rfl (O.q rfl (Pu.lss rfl rfl rfl) (On ?_))))))
 refine Xn (V.condD rfl (fun c1 => ?_) (fun c1 => ?_))
 ·exact Za (O.m rfl (Ze (Xr (X.ret1 rfl rfl (fun w hw => St.mkExi (0 : Int) (St.unsep (St.addPur ⟨rfl, by omega, by omega, by omega⟩ (hw.sub (Sub.t [0] 0 rfl)))))))))
 ·refine Vk (Xn (Vs (V.srcK (fun at1 word1 hat1 hword1 => Vr (O.m rfl (O.m rfl (O.m rfl (O.q rfl (Pu.fieldAddr 2 rfl ut133 rfl sz119 rfl rfl) (O.q rfl (Pu.load rfl pl119 rfl (Ld.blk 0 rfl rfl)) (O.q rfl (Pu.mulU (m := word1) (n := 6364136223846793005) rfl rfl rfl) (O.q rfl (Pu.addU (m := (word1 * 6364136223846793005 % 18446744073709551616)) (n := 1442695040888963407) rfl rfl rfl) ?_)))))))))))
  refine O.m rfl (O.q rfl (Pu.fieldAddr 2 rfl ut133 rfl sz119 rfl rfl) (O.s rfl rfl (Ef.store1 (cs' := [_, _, _]) 0 rfl sz119 rfl rfl rfl rfl rfl (ltb rfl) rfl) ?_))
  rintro _ _ rfl
  refine Zb (O.m rfl (O.m rfl (O.q rfl (Pu.fieldAddr 2 rfl ut133 rfl sz119 rfl rfl) (O.q rfl (Pu.load rfl pl119 rfl (Ld.blk 0 rfl rfl)) (O.q rfl (Pu.shr (m := (((word1 * 6364136223846793005 % 18446744073709551616) + 1442695040888963407) % 18446744073709551616)) (p := 33) K64.u (by omega) rfl rfl rfl) ?_)))))
  have hle1 := and_le_r (m := ((((word1 * 6364136223846793005 % 18446744073709551616) + 1442695040888963407) % 18446744073709551616) >>> 33)) (n := 16777215)
  refine O.q rfl (Pu.andU (m := ((((word1 * 6364136223846793005 % 18446744073709551616) + 1442695040888963407) % 18446744073709551616) >>> 33)) (n := 16777215) (Nat.lt_of_le_of_lt (Nat.shiftRight_le _ _) (by omega)) (by decide) rfl rfl rfl) (O.q rfl (Pu.conv64 ⟨_, ut119⟩ ut2 (by omega) rfl rfl) (O.m rfl (Zf (Vs (Vs (V.draw mo (by kernel_rfl) (fun hwf => D.m 0 rfl (D.m 1 rfl (D.q 2 rfl (Pu.fieldAddr 1 rfl ut133 rfl sz3 rfl rfl) (D.q 3 rfl (Pu.load rfl pl3 rfl (Ld.blk 0 rfl rfl)) ?_))))))))))
  refine D.m 4 rfl (D.m 5 rfl (D.q 6 rfl (Pu.fieldAddr 0 rfl ut133 rfl sz22 rfl rfl) (D.q 7 rfl (Pu.load rfl pl22 rfl (Ld.blk 0 rfl rfl)) (D.q 8 rfl (Pu.len rfl ut22 rfl) (D.q 9 rfl (Pu.lss rfl rfl rfl) (D.done hwf rfl (Xn (V.condD rfl (fun c2 => ?_) (fun c2 => ?_)))))))))
  ·refine Vs (V.draw mo (by kernel_rfl) (fun hwf => D.m 0 rfl (D.m 1 rfl (D.m 2 rfl (D.q 3 rfl (Pu.fieldAddr 0 rfl ut133 rfl sz22 rfl rfl) (D.q 4 rfl (Pu.load rfl pl22 rfl (Ld.blk 0 rfl rfl)) (D.m 5 rfl (D.m 6 rfl (D.q 7 rfl (Pu.fieldAddr 1 rfl ut133 rfl sz3 rfl rfl) (D.q 8 rfl (Pu.load rfl pl3 rfl (Ld.blk 0 rfl rfl)) (D.q 9 rfl (Pu.indexAddr (at1) rfl ut22 sz5 rfl rfl (by omega) (by omega) (hc.some (by omega))) ?_)))))))))))
   have e1 : at1 < code.length := by omega
   have hu1 := UInt8.toNat_lt (code[at1]'e1)
   refine D.q 10 rfl (Pu.load rfl pl5 rfl (Ld.rd (Ld.old hc) (k := at1) e1 rfl rfl)) (D.q 11 rfl (Pu.conv64 ⟨_, ut5⟩ ut2 (by omega) rfl rfl) (D.q 12 rfl (Pu.add64 (r := (((((((word1 * 6364136223846793005 % 18446744073709551616) + 1442695040888963407) % 18446744073709551616) >>> 33) &&& 16777215) + (code[at1]'e1).toNat : Nat) : Int)) (by omega) (by omega) rfl rfl rfl) (D.last hwf (e := 13) rfl rfl rfl rfl rfl rfl (Pu.assign rfl rfl) (Xn (Vr (O.m rfl (O.m rfl (O.m rfl (O.q rfl (Pu.fieldAddr 1 rfl ut133 rfl sz3 rfl rfl) (O.q rfl (Pu.load rfl pl3 rfl (Ld.blk 0 rfl rfl)) (O.q rfl (Pu.add64 (r := ((at1 + 1 : Nat) : Int)) rfl (by omega) rfl rfl rfl) ?_)))))))))))
   refine O.m rfl (O.q rfl (Pu.fieldAddr 1 rfl ut133 rfl sz3 rfl rfl) (O.s rfl rfl (Ef.store1 (cs' := [_, _, _]) 0 rfl sz3 rfl rfl rfl rfl rfl (ltb rfl) rfl) ?_))
   rintro _ _ rfl
   refine Zf (Vs (V.map (fun w hw => SrcK.mk (a := at1 + 1) (h := (((word1 * 6364136223846793005 % 18446744073709551616) + 1442695040888963407) % 18446744073709551616)) ⟨by omega, by omega⟩ hw) (Vr (O.m rfl (O.m rfl (O.q rfl (Pu.rem64 (by omega) (by omega) rfl rfl rfl) (O.m rfl (Ze ?_))))))))
   exact X.ret1 rfl rfl (fun w hw => St.mkExi ((↑((((((word1 * 6364136223846793005 % 18446744073709551616) + 1442695040888963407) % 18446744073709551616) >>> 33) &&& 16777215) + (code[at1]'e1).toNat) : Int) % n) (St.unsep (St.addPur ⟨rfl, Int.emod_nonneg _ (by omega), fun h => by omega, fun h => Int.emod_lt_of_pos _ (by omega)⟩ (hw.sub (Sub.t [0] 0 rfl)))))
  ·refine Vk (Xn (Vs (V.map (fun w hw => SrcK.mk (a := at1) (h := (((word1 * 6364136223846793005 % 18446744073709551616) + 1442695040888963407) % 18446744073709551616)) ⟨by omega, by omega⟩ hw) (Vr (O.m rfl (O.m rfl (O.q rfl (Pu.rem64 (by omega) (by omega) rfl rfl rfl) (O.m rfl (Ze ?_)))))))))
   exact X.ret1 rfl rfl (fun w hw => St.mkExi ((↑((((((word1 * 6364136223846793005 % 18446744073709551616) + 1442695040888963407) % 18446744073709551616) >>> 33) &&& 16777215)) : Int) % n) (St.unsep (St.addPur ⟨rfl, Int.emod_nonneg _ (by omega), fun h => by omega, fun h => Int.emod_lt_of_pos _ (by omega)⟩ (hw.sub (Sub.t [0] 0 rfl)))))
set_option maxRecDepth 100000 in
set_option maxHeartbeats 1000000 in
theorem l01Pick_ok (cA : Option Addr) (cc : Nat) (code : List UInt8) (s : Nat) (list : List Int) (listA : Option Addr) (listc : Nat) (w0 : World) (H : List Assn) (hlist : ∀ w, St w0 H w → Rd I64 w listA list) (llist : list.length ≤ 1099511627776) (hc : Rd U8C w0 cA code) (lc : code.length ≤ 1048576) (hl : 0 < list.length) : Does Tryz.prog 145 [.pointer (some ⟨s, 0, none⟩), .slice listA list.length listc] w0 (SrcK 133 cA cc code s :: H) (fun rv_ => [.exi fun (r : Int) => .sep (.pur (rv_ = .int .i64 r ∧ r ∈ list)) (SrcK 133 cA cc code s)] ++ H) := by
 refine Does.enter Tryz.func145 rfl rfl [(0, .pointer (some ⟨s, 0, none⟩)), (1, .slice listA list.length listc)] rfl (Za (O.m rfl (Zb (O.m rfl (O.m rfl (O.m rfl (O.q rfl (Pu.len rfl ut49 rfl) ?_)))))))
 refine O.f rfl (Ef.call call68 rfl rfl (Does.pre (fun w hw => hw.sub (Sub.t [0] 0 rfl)) (l01Next_ok _ _ _ s (↑list.length : Int) w0 _   (by first | assumption | omega | (try dsimp only at *; omega)) (by first | assumption | omega | (try dsimp only at *; omega))))) ?_
 rintro _ _ rfl
 refine O.exi (fun r1 => O.sep (O.pur ?_))
 rintro ⟨rfl, hr1_1, hr1_2, hr1_3⟩
 refine O.q rfl (Pu.indexAddrS ((r1).toNat) rfl ut49 sz2 rfl rfl (by omega) (by omega) (fun w hw => ((fun w hw => hlist w (hw.sub (Sub.t [] 1 rfl))) w hw).some (by omega))) ?_
 have e1 : (r1).toNat < list.length := by omega
 exact O.q rfl (Pu.load rfl pl2 rfl (Ld.rd (fun w hw => hlist w (hw.sub (Sub.t [] 1 rfl))) (k := (r1).toNat) e1 rfl rfl)) (O.m rfl (Ze (X.ret1 rfl rfl (fun w hw => St.mkExi (list[(r1).toNat]'e1) (St.unsep (St.addPur ⟨rfl, List.getElem_mem _⟩ (hw.sub (Sub.t [0] 0 rfl))))))))
set_option maxRecDepth 100000 in
set_option maxHeartbeats 1000000 in
theorem l01Names_ok (w : World) : Does Tryz.prog 143 [] w [] (fun rv_ => [.exi fun (rA : Option Addr) => .exi fun (rc : Nat) => .exi fun (r : List ByteArray) => .sep (.pur (rv_ = .slice rA r.length rc ∧ r = nmL)) (Own 9 StrC rA rc r)]) := by
 refine Does.enter Tryz.func143 rfl rfl [] rfl (Za (O.m rfl (Zb (O.f rfl (Ef.build StrC ([(ByteArray.mk #[115, 105, 110, 103, 108, 101]), (ByteArray.mk #[102, 97, 110, 111]), (ByteArray.mk #[97, 102, 102, 105, 110, 101]), (ByteArray.mk #[99, 121, 99, 108, 105, 99, 49, 51]), (ByteArray.mk #[99, 121, 99, 108, 105, 99, 49, 53]), (ByteArray.mk #[112, 114, 111, 106, 101, 99, 116, 105, 118, 101, 49, 53])] : List ByteArray) rfl ut140 inf9 rfl rfl rfl (by first | decide | (simp; done)) (by kernel_rfl)) ?_))))
 rintro _ _ ⟨A1, hA1, rfl, rfl⟩
 exact O.m rfl (Ze (X.ret1 rfl rfl (fun w hw => St.mkExi A1 (St.mkExi 6 (St.mkExi ([(ByteArray.mk #[115, 105, 110, 103, 108, 101]), (ByteArray.mk #[102, 97, 110, 111]), (ByteArray.mk #[97, 102, 102, 105, 110, 101]), (ByteArray.mk #[99, 121, 99, 108, 105, 99, 49, 51]), (ByteArray.mk #[99, 121, 99, 108, 105, 99, 49, 53]), (ByteArray.mk #[112, 114, 111, 106, 101, 99, 116, 105, 118, 101, 49, 53])] : List ByteArray) (St.unsep (St.addPur ⟨rfl, rfl⟩ (hw.sub (Sub.s [0] rfl)))))))))
set_option maxRecDepth 100000 in
set_option maxHeartbeats 1000000 in
theorem l01BlockD_ok (a : Int) (b : Int) (c_ : Int) (w : World) (ha : (-1000000 ≤ a ∧ a ≤ 1000000)) (hb : (-1000000 ≤ b ∧ b ≤ 1000000)) (hc : (-1000000 ≤ c_ ∧ c_ ≤ 1000000)) : Does Tryz.prog 80 [.int .i64 a, .int .i64 b, .int .i64 c_] w [] (fun r => [.pur (r = B3.v (bk3 a b c_))]) := by
 refine Does.enter Tryz.func80 rfl rfl [(0, .int .i64 a), (1, .int .i64 b), (2, .int .i64 c_)] rfl (Za (O.f rfl (Ef.alloc rfl zr81 rfl) ?_))
 rintro _ _ ⟨b1, rfl, rfl⟩
 refine Zb (O.m rfl (O.m rfl (O.m rfl (O.q rfl (Pu.min3 (r := (min (min a b) c_)) (by omega) rfl rfl rfl rfl) (O.m rfl (O.m rfl (O.m rfl (O.q rfl (Pu.max3 (r := (max (max a b) c_)) (by omega) rfl rfl rfl rfl) ?_))))))))
 refine O.m rfl (O.m rfl (Zb (O.m rfl (O.m rfl (O.m rfl (O.q rfl (Pu.add64 rfl (by omega) rfl rfl rfl) (O.m rfl (O.q rfl (Pu.add64 rfl (by omega) rfl rfl rfl) ?_))))))))
 refine O.m rfl (O.q rfl (Pu.sub64 rfl (by omega) rfl rfl rfl) (O.m rfl (O.q rfl (Pu.sub64 rfl (by omega) rfl rfl rfl) (O.m rfl (O.q rfl (Pu.buildA (cs := [.int .i64 (min (min a b) c_), .int .i64 ((((a + b) + c_) - (min (min a b) c_)) - (max (max a b) c_)), .int .i64 (max (max a b) c_)]) (v := B3.v ((min (min a b) c_), ((((a + b) + c_) - (min (min a b) c_)) - (max (max a b) c_)), (max (max a b) c_))) rfl rfl ut81 zr81 sz2 rfl (by kernel_rfl)) (O.s rfl rfl (Ef.storeAll 0 rfl sz81 rfl rfl rfl rfl (by simp [Value.oneCell']) rfl) ?_))))))
 rintro _ _ rfl
 exact Ze (X.retCell rfl ag81 sz81 rfl rfl (Ld.whole 0 rfl) (fun w hw => St.retP (rfl) hw))
set_option maxRecDepth 100000 in
set_option maxHeartbeats 1000000 in
theorem l01RenamedD_ok (v : Int) (bs : List B3) (p : List Int) (A : Option Addr) (c : Nat) (pA : Option Addr) (pc : Nat) (w : World) (hx : Rd B3C w A bs) (hp : Rd I64 w pA p) (lx : bs.length ≤ 4611686018427387904) (lp : p.length ≤ 1099511627776) (hb : ∀ b ∈ bs, good (p.length : Int) b) (lb : bs.length ≤ 100000) (hq : ∀ q ∈ p, 0 ≤ q ∧ q < 16) : Does Tryz.prog 83 [.agg #[.int .i64 v, .slice A bs.length c], .slice pA p.length pc] w [] (fun rv_ => [.exi fun (rA : Option Addr) => .exi fun (rc : Nat) => .exi fun (r : List B3) => .sep (.pur (rv_ = .agg #[.int .i64 v, .slice rA r.length rc] ∧ r.Perm (bs.map (renB p)) ∧ SrtB r)) (Own 81 B3C rA rc r)]) := by
 refine Does.enter Tryz.func83 rfl rfl [(0, .agg #[.int .i64 v, .slice A bs.length c]), (1, .slice pA p.length pc)] rfl (Za (O.f rfl (Ef.box rfl rfl rfl) ?_))
 rintro _ _ ⟨b1, rfl, rfl⟩
 refine O.f rfl (Ef.alloc rfl zr26 rfl) ?_
 rintro _ _ ⟨b2, rfl, rfl⟩
 refine Zb (O.f rfl (Ef.build B3C ([] : List B3) rfl ut24 inf81 rfl rfl rfl (by first | decide | (simp; done)) (by kernel_rfl)) ?_)
 rintro _ _ ⟨A1, hA1, rfl, rfl⟩
 refine O.m rfl (Zc (O.m rfl (Zi (V.loop3 (β := (Option Addr) × Nat × (List B3) × Nat) (fun x => [(5, .slice x.1 x.2.2.1.length x.2.1), (6, .int .i64 (x.2.2.2 : Int))]) _ (fun x => [Own 81 B3C x.1 x.2.1 x.2.2.1]) _ (fun x => x.2.2.2 ≤ bs.length ∧ x.2.2.1 = (bs.take x.2.2.2).map (renB p)) (fun x => bs.length - x.2.2.2) (A1, 0, ([] : List B3), 0) (by (try dsimp only); exact ⟨by omega, rfl⟩) (Ent.cons rfl (Ent.cons rfl (Ent.nil _))) (Ent.cons (t := 1) rfl (Ent.cons (t := 2) rfl (Ent.cons (t := 4) rfl (Ent.nil _)))) (Sub.s [0,0,0] rfl) ?_))))
 rintro ⟨blocksA, blocksc, blocks, i⟩ ⟨hi, ho⟩
 dsimp only at hi ho ⊢
 have hol : blocks.length ≤ bs.length := by rw [ho, List.length_map, List.length_take]; omega
 refine Zj (O.m rfl (O.q rfl (Pu.fieldAddr 1 rfl ut26 rfl sz24 rfl rfl) (O.q rfl (Pu.load rfl pl24 rfl (Ld.blk 2 rfl rfl)) (O.q rfl (Pu.len rfl ut24 rfl) (O.q rfl (Pu.lss rfl rfl rfl) (Zf (V.condD rfl (fun c1 => ?_) (fun c1 => ?_))))))))
 ·refine Vk (Xn (Vs (Vb (Vs ?_))))
  have ei : i < bs.length := by omega
  have hg := hb (bs[i]'ei) (List.getElem_mem ei)
  unfold good at hg
  have hq1 := hq (p[(bs[i]'ei).1.toNat]'(by omega)) (List.getElem_mem _)
  have hq2 := hq (p[(bs[i]'ei).2.1.toNat]'(by omega)) (List.getElem_mem _)
  have hq3 := hq (p[(bs[i]'ei).2.2.toNat]'(by omega)) (List.getElem_mem _)
  refine Vr (O.q rfl (Pu.fieldAddr 1 rfl ut26 rfl sz24 rfl rfl) (O.q rfl (Pu.load rfl pl24 rfl (Ld.blk 2 rfl rfl)) (O.m rfl (O.q rfl (Pu.indexAddr (i) rfl ut24 sz81 rfl rfl (by omega) (by omega) (hx.some (by omega))) (O.q rfl (Pu.loadAgg' (v := B3.v (bs[i]'ei)) rfl rfl ag81 sz81 rfl rfl (Ld.rds (Ld.old hx) (k := i) ei rfl)) (O.f rfl (Ef.alloc rfl zr81 rfl) ?_))))))
  rintro _ _ ⟨b3, rfl, rfl⟩
  refine O.s rfl rfl (Ef.storeAll 0 rfl sz81 rfl rfl rfl rfl (by simp [Value.oneCell']) rfl) ?_
  rintro _ _ rfl
  refine Zf (V.drawS mo (by kernel_rfl) (Sub.s [0,1,1] rfl) (fun hwf => D.m 0 rfl (D.m 1 rfl (D.q 2 rfl (Pu.indexArr 0 0 rfl ut81 sz2 rfl rfl (by decide) (by decide) (by decide)) (D.q 3 rfl (Pu.load rfl pl2 rfl (Ld.blk 0 rfl rfl)) (D.q 4 rfl (Pu.indexAddr (((bs[i]'ei).1).toNat) rfl ut49 sz2 rfl rfl (by omega) (by omega) (hp.some (by omega))) ?_))))))
  have e1 : ((bs[i]'ei).1).toNat < p.length := by omega
  refine D.q 5 rfl (Pu.load rfl pl2 rfl (Ld.rd (Ld.old hp) (k := ((bs[i]'ei).1).toNat) e1 rfl rfl)) (D.m 6 rfl (D.q 7 rfl (Pu.indexArr 1 1 rfl ut81 sz2 rfl rfl (by decide) (by decide) (by decide)) (D.q 8 rfl (Pu.load rfl pl2 rfl (Ld.blk 0 rfl rfl)) (D.q 9 rfl (Pu.indexAddr (((bs[i]'ei).2.1).toNat) rfl ut49 sz2 rfl rfl (by omega) (by omega) (hp.some (by omega))) ?_))))
  have e2 : ((bs[i]'ei).2.1).toNat < p.length := by omega
  refine D.q 10 rfl (Pu.load rfl pl2 rfl (Ld.rd (Ld.old hp) (k := ((bs[i]'ei).2.1).toNat) e2 rfl rfl)) (D.m 11 rfl (D.q 12 rfl (Pu.indexArr 2 2 rfl ut81 sz2 rfl rfl (by decide) (by decide) (by decide)) (D.q 13 rfl (Pu.load rfl pl2 rfl (Ld.blk 0 rfl rfl)) (D.q 14 rfl (Pu.indexAddr (((bs[i]'ei).2.2).toNat) rfl ut49 sz2 rfl rfl (by omega) (by omega) (hp.some (by omega))) ?_))))
  have e3 : ((bs[i]'ei).2.2).toNat < p.length := by omega
  refine D.q 15 rfl (Pu.load rfl pl2 rfl (Ld.rd (Ld.old hp) (k := ((bs[i]'ei).2.2).toNat) e3 rfl rfl)) (D.f hwf 16 rfl (Ef.callP call80 rfl rfl (fun w hw => l01BlockD_ok  (p[((bs[i]'ei).1).toNat]'e1) (p[((bs[i]'ei).2.1).toNat]'e2) (p[((bs[i]'ei).2.2).toNat]'e3) w   (by first | assumption | omega | (try dsimp only at *; omega)) (by first | assumption | omega | (try dsimp only at *; omega)) (by first | assumption | omega | (try dsimp only at *; omega)))) ?_)
  rintro _ _ ⟨rfl, rfl⟩ hs
  refine ⟨fun w hw => hw.sub (Sub.s [0,1,1] rfl), (D.f hwf 17 rfl (Ef.build B3C ([(bk3 (p[((bs[i]'ei).1).toNat]'e1) (p[((bs[i]'ei).2.1).toNat]'e2) (p[((bs[i]'ei).2.2).toNat]'e3))] : List B3) rfl ut24 inf81 rfl rfl rfl (by first | decide | (simp; done)) (by kernel_rfl)) ?_)⟩
  rintro _ _ ⟨A2, hA2, rfl, rfl⟩ hs
  refine ⟨fun w hw => hw.sub (Sub.s [1,2,2] rfl), (D.f hwf 18 rfl (Ef.append (xs := blocks) (ys := ([(bk3 (p[((bs[i]'ei).1).toNat]'e1) (p[((bs[i]'ei).2.1).toNat]'e2) (p[((bs[i]'ei).2.2).toNat]'e3))] : List B3)) 2 rfl ut24 inf81 rfl rfl rfl rfl rfl rfl hA2 (Ld.own 0 (by exact rfl)) (by simp only [List.length_append, List.length_cons, List.length_nil] at *; omega) (by decide)) ?_)⟩
  rintro _ _ ⟨A3, k1, rfl, rfl, hA3⟩ hs
  replace hA3 := hA3 (.inr (by simp))
  exact ⟨fun w hw => hw.sub (Sub.s [1,2,2] rfl), (D.last hwf (e := 19) rfl rfl rfl rfl rfl rfl (Pu.assign rfl rfl) (Xb (Xn (Vr (O.m rfl (O.q rfl (Pu.add64 (r := ((i + 1 : Nat) : Int)) rfl (by omega) rfl rfl rfl) (O.m rfl (On (X.back3 (A3, k1, (blocks ++ ([(bk3 (p[((bs[i]'ei).1).toNat]'e1) (p[((bs[i]'ei).2.1).toNat]'e2) (p[((bs[i]'ei).2.2).toNat]'e3))] : List B3)), i + 1) (by (try dsimp only); exact ⟨by omega, by rw [take_snoc ei, List.map_append, ho]; simp only [List.map_cons, List.map_nil, renB]; rw [getD_at (by omega), getD_at (by omega), getD_at (by omega)]⟩) (by first | omega | (dsimp only; omega)) (Ent.cons rfl (Ent.cons rfl (Ent.nil _))) (Ent.cons (t := 1) rfl (Ent.cons (t := 2) rfl (Ent.cons (t := 4) rfl (Ent.nil _)))) (Sub.s [2,2,2] rfl))))))))))⟩
 ·refine Zd (O.q rfl (Pu.fieldAddr 0 rfl ut26 rfl sz2 rfl rfl) (O.q rfl (Pu.load rfl pl2 rfl (Ld.blk 2 rfl rfl)) (O.m rfl (O.f rfl (Ef.call1 call151 rfl rfl (fun w hw => l01Made_ok  v blocks _ _ w ((Ld.own 0 (by exact rfl)) w hw) (by first | omega | (simp only [tops_len, conts_len, bl, List.length_append, List.length_cons, List.length_nil] at *; omega)) (by first | assumption | omega | (try dsimp only at *; omega)))) ?_))))
  rintro _ _ rfl
  refine O.exi (fun r1A => O.exi (fun r1c => O.exi (fun r1 => O.sep (O.pur ?_))))
  rintro ⟨rfl, hr1_1, hr1_2⟩
  refine O.s rfl rfl (Ef.storeAll 2 rfl sz26 rfl rfl rfl rfl (by simp [Value.oneCell']) rfl) ?_
  rintro _ _ rfl
  exact Ze (X.retCell rfl ag26 sz26 rfl rfl (Ld.whole 2 rfl) (fun w hw => St.mkExi r1A (St.mkExi r1c (St.mkExi r1 (St.unsep (St.addPur ⟨rfl, by rw [ho, List.take_of_length_le (by omega)] at hr1_1; exact hr1_1, hr1_2⟩ (hw.sub (Sub.s [0] rfl))))))))
end Go.Proofs.YtgfpljeppfaolaaGreat
