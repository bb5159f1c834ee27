/-
  Contracts, part 4.
-/
import Derived.Test.YthlmfgmmbfbhhaaGreatKb3
set_option linter.unusedVariables false
set_option linter.unusedSimpArgs false
namespace Go.Proofs.YthlmfgmmbfbhhaaGreat
open Go Go.RowKit Go.Vc Go.Proofs
set_option maxRecDepth 100000 in
set_option maxHeartbeats 1000000 in
theorem l08Go_step (n : Nat) (ih : ∀ n', n' < n → L_l08Go n') (sb v most : Nat) (keep : Bool) (m : Nat) (l : List (List B3)) (blocks : List B3) (blocksA : Option Addr) (blocksc : Nat) (w0 : World) (H : List Assn) (hblocks : ∀ w, St w0 H w → Rd B3C w blocksA blocks) (lblocks : blocks.length ≤ 1099511627776) (hbS : blocksA.isSome = true) (hv : v ≤ 15) (hn : leftN v m ≤ n) (hlm : l.length < most) (hmm : most ≤ 1000000000) (hM : l.length + (runC (fun j => decide (j < most)) l.length (leaf blocks (compM n v m))).length ≤ 1000000) (hxs : blocks.length + n ≤ 1000) : Does Tryz.prog 152 [.pointer (some ⟨sb, 0, none⟩), .slice blocksA blocks.length blocksc] w0 (SrchK 145 4 24 65 sb v most keep m l :: H) (fun r => [.sep (.pur (r = .tuple #[])) (SrchK 145 4 24 65 sb v most keep m (l ++ runC (fun j => decide (j < most)) l.length (leaf blocks (compM n v m))))] ++ H) := by
 refine Does.enter Tryz.func152 rfl rfl [(0, .pointer (some ⟨sb, 0, none⟩)), (1, .slice blocksA blocks.length blocksc)] rfl (V.seq (V.region (O.m rfl (O.m rfl (O.nil (X.next (V.seq (V.seq (V.srchK (fun uA1 uk1 U1 fA1 fk1 ps1 hrel1 hcon1 hsom1 => V.fact (RowsA.len 3 rfl) (fun hn_ps1 => ?_)))))))))))
 have htl_ps1 := tops_len ps1
 have hul_U1 := hrel1.1
 refine V.region (O.m rfl (O.nil (X.next (V.block (V.loop3 (β := Int × Int × Nat) (fun x => [(4, .int .i64 (x.1 : Int)), (5, .int .i64 (x.2.1 : Int)), (6, .int .i64 (x.2.2 : Int))]) _ (fun x => []) _ (fun x => Fnd v m x.1 x.2.1 x.2.2) (fun x => v + 1 - x.2.2) ((-1 : Int), (-1 : Int), 0) (by (try dsimp only); exact .inl ⟨rfl, rfl, by omega, fun i j h => by omega⟩) (Ent.cons rfl (Ent.cons rfl (Ent.cons rfl (Ent.nil _)))) (Ent.cons (t := 0) rfl (Ent.cons (t := 1) rfl (Ent.nil _))) (Sub.k (Sub.k (Sub.k (Sub.k (Sub.refl _))))) ?_)))))
 rintro ⟨a, b, p⟩ hF
 dsimp only at hF ⊢
 refine V.seq (V.seq (V.region (O.m rfl (O.m rfl (O.m rfl (O.q rfl (Pu.fieldAddr 0 rfl Tryz.underlying145 rfl sz2 rfl rfl) (O.q rfl (Pu.load rfl pl2 rfl (Ld.blk 0 rfl rfl)) (O.q rfl (Pu.lss rfl rfl rfl) (O.m rfl (O.splitD 15 rfl (fun c1 => ?_) (fun c1 => ?_)))))))))))
 ·refine O.gm rfl (O.gq rfl (Pu.lss rfl rfl rfl) (O.m rfl (O.nil (X.next (V.condD rfl (fun c2 => ?_) (fun c2 => ?_))))))
  ·have hF1 : a = -1 ∧ b = -1 ∧ p ≤ v ∧ ∀ i j, i < p → i < j → j < v → usd m i j = true := by rcases hF with h | ⟨x, y, h1, h2, h3⟩; (· exact h); (· omega)
   refine V.skip (X.next (V.seq (V.block (V.seq (V.region (O.m rfl (O.q rfl (Pu.add64 (r := ((p + 1 : Nat) : Int)) rfl (by omega) rfl rfl rfl) (O.m rfl (O.nil (X.next (V.block ?_)))))))))))
   refine V.loop3 (β := Int × Int × Nat) (fun x => [(4, .int .i64 (x.1 : Int)), (5, .int .i64 (x.2.1 : Int)), (7, .int .i64 (x.2.2 : Int))]) _ (fun x => []) _ (fun x => x.1 = -1 ∧ x.2.1 = -1 ∧ p < x.2.2 ∧ x.2.2 ≤ v ∧ ∀ j, p < j → j < x.2.2 → usd m p j = true) (fun x => v - x.2.2) (a, b, p + 1) (by (try dsimp only); exact ⟨hF1.1, hF1.2.1, by omega, by omega, fun j h1 h2 => by omega⟩) (Ent.cons rfl (Ent.cons rfl (Ent.cons rfl (Ent.nil _)))) (Ent.cons (t := 0) rfl (Ent.cons (t := 1) rfl (Ent.cons (t := 6) rfl (Ent.nil _)))) (Sub.k (Sub.k (Sub.k (Sub.k (Sub.refl _))))) ?_
   rintro ⟨a2, b2, q⟩ ⟨ha2, hb2, hpq, hqv, hrow⟩
   dsimp only at ha2 hb2 hpq hqv hrow ⊢
   refine V.seq (V.seq (V.region (O.m rfl (O.m rfl (O.m rfl (O.q rfl (Pu.fieldAddr 0 rfl Tryz.underlying145 rfl sz2 rfl rfl) (O.q rfl (Pu.load rfl pl2 rfl (Ld.blk 0 rfl rfl)) (O.q rfl (Pu.lss rfl rfl rfl) (O.nil (X.next (V.condD rfl (fun c3 => ?_) (fun c3 => ?_))))))))))))
   ·refine V.skip (X.next (V.seq (V.block (V.seq ?_))))
    have hq0 := prI_lt (a := p) (b := q) (by omega) (by omega)
    refine V.draw mo (by kernel_rfl) (fun hwf => D.m 0 rfl (D.m 1 rfl (D.q 2 rfl (Pu.fieldAddr 1 rfl Tryz.underlying145 rfl sz142 rfl rfl) (D.q 3 rfl (Pu.load rfl pl142 rfl (Ld.blk 0 rfl rfl)) (D.m 4 rfl (D.m 5 rfl (D.f hwf 6 rfl (Ef.callP call157 rfl rfl (fun w hw => l04Pair_ok  p q w   (by first | assumption | omega | (try dsimp only at *; omega)) (by first | assumption | omega | (try dsimp only at *; omega)))) ?_)))))))
    rintro _ _ ⟨rfl, rfl⟩ hs
    refine ⟨fun w hw => hw, (D.q 7 rfl (Pu.indexAddrS ((prI p q)) rfl Tryz.underlying142 sz4 rfl rfl (by omega) (by omega) (fun w hw => Own.some hw (i := 1) (by exact rfl) (by omega))) ?_)⟩
    have e1 : (prI p q) < U1.length := by omega
    refine D.q 8 rfl (Pu.load rfl pl4 rfl (Ld.rd (Ld.own 1 (by exact rfl)) (k := (prI p q)) e1 rfl rfl)) (D.q 9 rfl (Pu.not rfl rfl) (D.done hwf rfl (X.next (V.cond rfl (fun c4 => ?_) (fun c4 => ?_)))))
    ·refine V.seq (V.region (O.m rfl (O.m rfl (O.nil (X.next (V.seq (V.region (O.m rfl (O.m rfl (O.nil (X.next ?_)))))))))))
     exact V.exit (X.blockMiss rfl (X.thenExit (X.thenExit (X.blockHit (X.blockNormal (X.next (V.region (O.m rfl (O.q rfl (Pu.add64 (r := ((p + 1 : Nat) : Int)) rfl (by omega) rfl rfl rfl) (O.m rfl (O.nil (X.back3 ((↑p : Int), (↑q : Int), p + 1) (by (try dsimp only); exact .inr ⟨p, q, rfl, rfl, ⟨by omega, by omega, by rw [← relU_at hrel1 (by omega) (by omega) (by omega) (by omega)]; simpa using c4, hrow, hF1.2.2.2⟩⟩) (by first | omega | (dsimp only; omega)) (Ent.cons rfl (Ent.cons rfl (Ent.cons rfl (Ent.nil _)))) (Ent.cons (t := 0) rfl (Ent.cons (t := 1) rfl (Ent.nil _))) (Sub.k (Sub.k (Sub.k (Sub.k (Sub.refl _)))))))))))))))))
    ·exact V.skip (X.blockNormal (X.next (V.region (O.m rfl (O.q rfl (Pu.add64 (r := ((q + 1 : Nat) : Int)) rfl (by omega) rfl rfl rfl) (O.m rfl (O.nil (X.back3 (a2, b2, q + 1) (by (try dsimp only); exact ⟨ha2, hb2, by omega, by omega, fun j h1 h2 => by by_cases e : j = q; (· subst e; rw [← relU_at hrel1 (by omega) (by omega) (by omega) (by omega)]; simpa using c4); (· exact hrow j h1 (by omega))⟩) (by first | omega | (dsimp only; omega)) (Ent.cons rfl (Ent.cons rfl (Ent.cons rfl (Ent.nil _)))) (Ent.cons (t := 0) rfl (Ent.cons (t := 1) rfl (Ent.cons (t := 6) rfl (Ent.nil _)))) (Sub.k (Sub.k (Sub.k (Sub.k (Sub.refl _)))))))))))))
   ·exact V.exit (X.thenExit (X.thenExit (X.blockHit (X.blockNormal (X.next (V.region (O.m rfl (O.q rfl (Pu.add64 (r := ((p + 1 : Nat) : Int)) rfl (by omega) rfl rfl rfl) (O.m rfl (O.nil (X.back3 (a2, b2, p + 1) (by (try dsimp only); exact .inl ⟨ha2, hb2, by omega, fun i j h1 h2 h3 => by by_cases e : i = p; (· subst e; exact hrow j h2 (by omega)); (· exact hF1.2.2.2 i j (by omega) h2 h3)⟩) (by first | omega | (dsimp only; omega)) (Ent.cons rfl (Ent.cons rfl (Ent.cons rfl (Ent.nil _)))) (Ent.cons (t := 0) rfl (Ent.cons (t := 1) rfl (Ent.nil _))) (Sub.k (Sub.k (Sub.k (Sub.k (Sub.refl _))))))))))))))))
  ·refine V.exit (X.thenExit (X.thenExit (X.blockHit (X.next (V.seq (V.seq ?_))))))
   have hN : (a < 0 → nextM v m = none) ∧ (¬ a < 0 → ∃ fa fb : Nat, a = fa ∧ b = fb ∧ IsNext v m fa fb) := by
    refine ⟨fun h => ?_, fun h => ?_⟩
    ·rcases hF with ⟨_, _, h3, h4⟩ | ⟨x, y, h1, _⟩
     ·exact nextM_none (fun i j h5 h6 => h4 i j (by omega) h5 h6)
     ·omega
    ·rcases hF with ⟨h1, _⟩ | h1
     ·omega
     ·exact h1
   refine V.region (O.m rfl (O.q rfl (Pu.lss rfl rfl rfl) (O.nil (X.next (V.condD rfl (fun c5 => ?_) (fun c5 => ?_))))))
   ·have hnone := hN.1 c5
    refine V.seq (V.region (O.m rfl (O.m rfl (O.q rfl (Pu.fieldAddr 2 rfl Tryz.underlying145 rfl sz2 rfl rfl) (O.q rfl (Pu.load rfl pl2 rfl (Ld.blk 0 rfl rfl)) (O.q rfl (Pu.add64 (r := ((l.length + 1 : Nat) : Int)) rfl (by omega) rfl rfl rfl) (O.m rfl (O.q rfl (Pu.fieldAddr 2 rfl Tryz.underlying145 rfl sz2 rfl rfl) (O.s rfl rfl (Ef.store1 (cs' := [_, _, _, _, _, _]) 0 rfl sz2 rfl rfl rfl rfl rfl (ltb rfl) rfl) ?_)))))))))
    rintro _ _ rfl
    refine O.nil (X.next (V.seq (V.seq (V.region (O.m rfl (O.m rfl (O.q rfl (Pu.fieldAddr 4 rfl Tryz.underlying145 rfl sz4 rfl rfl) (O.q rfl (Pu.load rfl pl4 rfl (Ld.blk 0 rfl rfl)) (O.nil (X.next (V.cond rfl (fun c6 => ?_) (fun c6 => ?_))))))))))))
    ·have hkeep := c6
     have hpl : ps1.length ≤ 1000000 := by have h := conts_len ps1; rw [hcon1, hkeep] at h; simp only [if_true] at h; omega
     refine V.drawS mo (by kernel_rfl) (Sub.k (Sub.drop (Sub.drop (Sub.drop (Sub.refl _))))) (fun hwf => D.m 0 rfl (D.m 1 rfl (D.m 2 rfl (D.q 3 rfl (Pu.fieldAddr 5 rfl Tryz.underlying145 rfl sz143 rfl rfl) (D.q 4 rfl (Pu.load rfl pl143 rfl (Ld.blk 0 rfl rfl)) (D.m 6 rfl (D.m 10 rfl (D.q 11 rfl (Pu.fieldAddr 5 rfl Tryz.underlying145 rfl sz143 rfl rfl) (D.f hwf 5 rfl (Ef.build B3C ([] : List B3) rfl Tryz.underlying24 inf65 rfl rfl rfl (by first | decide | (simp; done)) (by kernel_rfl)) ?_)))))))))
     rintro _ _ ⟨A1, hA1, rfl, rfl⟩ hs
     refine ⟨fun w hw => hw.sub (Sub.keep 1 rfl (Sub.drop (Sub.drop (Sub.drop (Sub.drop (Sub.refl _)))))), (D.f hwf 7 rfl (Ef.append (xs := ([] : List B3)) (ys := blocks) 0 rfl Tryz.underlying24 inf65 rfl rfl rfl rfl rfl rfl hbS (fun w hw => hblocks w (hw.sub (Sub.drop (Sub.drop (Sub.drop (Sub.drop (Sub.drop (Sub.refl _)))))))) (by simp only [List.length_append, List.length_cons, List.length_nil] at *; omega) (by decide)) ?_)⟩
     rintro _ _ ⟨A2, k1, rfl, rfl, hA2⟩ hs
     replace hA2 := hA2 (.inl hA1)
     refine ⟨fun w hw => hw.sub (Sub.keep 1 rfl (Sub.drop (Sub.drop (Sub.drop (Sub.drop (Sub.refl _)))))), (D.f hwf 8 rfl (Ef.build SlC ([⟨A2, (([] : List B3) ++ blocks).length, k1⟩] : List Sl) rfl Tryz.underlying143 inf24 rfl rfl rfl (by first | decide | (simp; done)) (by kernel_rfl)) ?_)⟩
     rintro _ _ ⟨A3, hA3, rfl, rfl⟩ hs
     refine ⟨fun w hw => hw.sub (Sub.keep 2 rfl (Sub.drop (Sub.drop (Sub.drop (Sub.drop (Sub.drop (Sub.refl _))))))), (D.f hwf 9 rfl (Ef.append (xs := (tops ps1)) (ys := ([⟨A2, (([] : List B3) ++ blocks).length, k1⟩] : List Sl)) 4 rfl Tryz.underlying143 inf24 rfl rfl rfl rfl rfl rfl hA3 (Ld.own 0 (by exact rfl)) (by simp only [List.length_append, List.length_cons, List.length_nil] at *; omega) (by decide)) ?_)⟩
     rintro _ _ ⟨A4, k2, rfl, rfl, hA4⟩ hs
     replace hA4 := hA4 (.inr (by simp))
     refine ⟨fun w hw => hw.sub (Sub.keep 2 rfl (Sub.drop (Sub.drop (Sub.drop (Sub.drop (Sub.drop (Sub.refl _))))))), (D.effX (Hs' := []) hwf (e := 12) rfl rfl rfl rfl (Ef.store1 (cs' := [_, _, _, _, _, _]) 2 rfl sz143 rfl rfl rfl rfl rfl (ltb rfl) rfl) rfl [10] rfl (List.forall_mem_cons.2 ⟨⟨66, _, rfl, rfl, Det.of rfl rfl rfl (Pu.nilCheck rfl rfl)⟩, List.forall_mem_nil _⟩) ?_)⟩
     rintro _ _ rfl
     exact ⟨fun w hw => hw.sub (Sub.nil _), (D.done hwf rfl (X.map (fun w hw => snoc_heap (ps := ps1) (xs := (([] : List B3) ++ blocks)) (hw.sub (Sub.keep 4 rfl (Sub.keep 4 rfl (Sub.keep 1 rfl (Sub.k (Sub.k (Sub.k (Sub.refl _))))))))) (X.next (V.ret (X.thenRet (X.map (fun w hw => SrchK.mk (l := (l ++ [blocks])) (keep := keep) hrel1 (by rw [conts_append, hcon1, hkeep]; simp [conts]) (fun p hp => by rcases List.mem_append.1 hp with h | h; (· exact hsom1 p h); (· rw [List.mem_singleton] at h; subst h; assumption)) (hw.sub (Sub.cons 3 rfl (fun w F h => by rw [List.length_append, List.length_singleton, tops_append]; exact h) (Sub.keep 3 rfl (Sub.k (Sub.k (Sub.k (Sub.refl _)))))))) (X.ret0 rfl (fun w hw => St.unsep (St.addPur rfl (hw.sub (Sub.cons 0 rfl (fun w F h => by rw [leaf_none hnone, runC_one]; exact h) (Sub.drop (Sub.refl _)))))))))))))⟩
    ·have hkeep := c6
     exact V.skip (X.next (V.ret (X.thenRet (X.map (fun w hw => SrchK.mk (l := (l ++ [blocks])) (keep := keep) hrel1 (by rw [hcon1, hkeep]; rfl) hsom1 (hw.sub (Sub.cons 0 rfl (fun w F h => by rw [List.length_append, List.length_singleton]; exact h) (Sub.k (Sub.k (Sub.k (Sub.refl _))))))) (X.ret0 rfl (fun w hw => St.unsep (St.addPur rfl (hw.sub (Sub.cons 0 rfl (fun w F h => by rw [leaf_none hnone, runC_one]; exact h) (Sub.refl _))))))))))
   ·refine V.skip (X.next (V.seq ?_))
    obtain ⟨fa, fb, ea, eb, hI⟩ := hN.2 (by assumption)
    subst ea eb
    have hn0 := left_pos hI hn
    have hcm := comp_some' (nextM_some hI) hn0
    rw [hcm] at hM
    have hab := hI.ab
    have hbv := hI.bv
    refine V.map (fun w hw => SrchK.mk (l := l) (keep := keep) hrel1 hcon1 hsom1 (hw.sub (Sub.k (Sub.k (Sub.k (Sub.k (Sub.refl _))))))) (V.region (O.m rfl (O.nil (X.next (V.block (V.loop3 (β := Nat × (List (List B3))) (fun x => [(8, .int .i64 (x.1 : Int))]) _ (fun x => [SrchK 145 4 24 65 sb v most keep m x.2]) _ (fun x => x.1 ≤ v ∧ x.2 = l ++ runC (fun j => decide (j < most)) l.length (leaf blocks (compJ (n - 1) v m fa fb x.1))) (fun x => v - x.1) (0, l) (by (try dsimp only); exact ⟨by omega, by rw [compJ_zero]; simp [leaf, runC]⟩) (Ent.cons rfl (Ent.nil _)) (Ent.cons (t := 0) rfl (Ent.cons (t := 1) rfl (Ent.cons (t := 4) rfl (Ent.cons (t := 5) rfl (Ent.nil _))))) (Sub.k (Sub.refl _)) ?_))))))
    rintro ⟨c_, l2⟩ ⟨hc, hl2⟩
    dsimp only at hc hl2 ⊢
    refine V.seq (V.seq (V.srchK (fun uA2 uk2 U2 fA2 fk2 ps2 hrel2 hcon2 hsom2 => V.fact (RowsA.len 3 rfl) (fun hn_ps2 => ?_))))
    have htl_ps2 := tops_len ps2
    have hul_U2 := hrel2.1
    refine V.draw mo (by kernel_rfl) (fun hwf => D.m 0 rfl (D.m 1 rfl (D.m 2 rfl (D.q 3 rfl (Pu.fieldAddr 0 rfl Tryz.underlying145 rfl sz2 rfl rfl) (D.q 4 rfl (Pu.load rfl pl2 rfl (Ld.blk 0 rfl rfl)) (D.q 5 rfl (Pu.lss rfl rfl rfl) (D.m 6 rfl (D.splitD 74 rfl (fun c7 => ?_) (fun c7 => ?_)))))))))
    ·refine D.gm 7 rfl (D.gm 8 rfl (D.gq 9 rfl (Pu.fieldAddr 2 rfl Tryz.underlying145 rfl sz2 rfl rfl) (D.gq 10 rfl (Pu.load rfl pl2 rfl (Ld.blk 0 rfl rfl)) (D.gm 11 rfl (D.gm 12 rfl (D.gq 13 rfl (Pu.fieldAddr 3 rfl Tryz.underlying145 rfl sz2 rfl rfl) (D.gq 14 rfl (Pu.load rfl pl2 rfl (Ld.blk 0 rfl rfl)) (D.gq 15 rfl (Pu.lss rfl rfl rfl) (D.m 16 rfl (D.done hwf rfl (X.next (V.condD rfl (fun c8 => ?_) (fun c8 => ?_)))))))))))))
     ·have hgo : goesC (fun j => decide (j < most)) l.length (leaf blocks (compJ (n - 1) v m fa fb c_)) = true := by
       rw [goesC_most hlm]
       have h := congrArg List.length hl2
       rw [List.length_append] at h
       exact decide_eq_true (by omega)
      have hl3 : l2 = l ++ (leaf blocks (compJ (n - 1) v m fa fb c_)) := by rw [hl2, runC_all hgo]
      refine V.skip (X.next (V.seq (V.block (V.seq (V.seq ?_)))))
      have hq1 := prI_lt (a := fa) (b := c_) (by omega) (by omega)
      have hq2 := prI_lt (a := fb) (b := c_) (by omega) (by omega)
      have hq3 := prI_lt (a := fa) (b := fb) (by omega) (by omega)
      refine V.draw mo (by kernel_rfl) (fun hwf => D.m 0 rfl (D.m 1 rfl (D.q 2 rfl (Pu.eql rfl rfl rfl) (D.m 3 rfl (D.splitD 90 rfl (fun c9 => ?_) (fun c9 => ?_))))))
      ·refine D.g 4 rfl (D.g 5 rfl (D.g 6 rfl (D.m 7 rfl (D.m 8 rfl (D.g 9 rfl (D.g 10 rfl (D.g 11 rfl (D.g 12 rfl (D.g 13 rfl (D.g 14 rfl (D.g 15 rfl ?_)))))))))))
       refine D.g 16 rfl (D.g 17 rfl (D.m 18 rfl (D.m 19 rfl (D.g 20 rfl (D.g 21 rfl (D.g 22 rfl (D.g 23 rfl (D.g 24 rfl (D.g 25 rfl (D.g 26 rfl (D.g 27 rfl ?_)))))))))))
       refine D.g 28 rfl (D.m 29 rfl (D.done hwf rfl (X.next (V.condT rfl (V.exit (X.thenExit (X.blockHit (X.next (V.region (O.m rfl (O.q rfl (Pu.add64 (r := ((c_ + 1 : Nat) : Int)) rfl (by omega) rfl rfl rfl) ?_)))))))))))
       exact O.m rfl (O.nil (X.map (fun w hw => SrchK.mk (l := l2) (keep := keep) hrel2 hcon2 hsom2 (hw.sub (Sub.k (Sub.k (Sub.k (Sub.k (Sub.refl _))))))) (X.back3 (c_ + 1, l2) (by (try dsimp only); exact ⟨by omega, by rw [compJ_no (may_no (fun h => by obtain ⟨g1, g2, g3, g4⟩ := h; first | omega | exact absurd (u1.symm.trans g3) (by decide) | exact absurd (u2.symm.trans g4) (by decide)) hI.ab)]; exact hl2⟩) (by first | omega | (dsimp only; omega)) (Ent.cons rfl (Ent.nil _)) (Ent.cons (t := 0) rfl (Ent.cons (t := 1) rfl (Ent.cons (t := 4) rfl (Ent.cons (t := 5) rfl (Ent.nil _))))) (Sub.k (Sub.refl _)))))
      ·refine D.gm 4 rfl (D.gm 5 rfl (D.gq 6 rfl (Pu.eql rfl rfl rfl) (D.m 7 rfl (D.m 8 rfl (D.splitD 95 rfl (fun c10 => ?_) (fun c10 => ?_))))))
       ·refine D.g 9 rfl (D.g 10 rfl (D.g 11 rfl (D.g 12 rfl (D.g 13 rfl (D.g 14 rfl (D.g 15 rfl (D.g 16 rfl (D.g 17 rfl (D.m 18 rfl (D.m 19 rfl (D.g 20 rfl ?_)))))))))))
        refine D.g 21 rfl (D.g 22 rfl (D.g 23 rfl (D.g 24 rfl (D.g 25 rfl (D.g 26 rfl (D.g 27 rfl (D.g 28 rfl (D.m 29 rfl (D.done hwf rfl (X.next (V.condT rfl ?_)))))))))))
        exact V.exit (X.thenExit (X.blockHit (X.next (V.region (O.m rfl (O.q rfl (Pu.add64 (r := ((c_ + 1 : Nat) : Int)) rfl (by omega) rfl rfl rfl) (O.m rfl (O.nil (X.map (fun w hw => SrchK.mk (l := l2) (keep := keep) hrel2 hcon2 hsom2 (hw.sub (Sub.k (Sub.k (Sub.k (Sub.k (Sub.refl _))))))) (X.back3 (c_ + 1, l2) (by (try dsimp only); exact ⟨by omega, by rw [compJ_no (may_no (fun h => by obtain ⟨g1, g2, g3, g4⟩ := h; first | omega | exact absurd (u1.symm.trans g3) (by decide) | exact absurd (u2.symm.trans g4) (by decide)) hI.ab)]; exact hl2⟩) (by first | omega | (dsimp only; omega)) (Ent.cons rfl (Ent.nil _)) (Ent.cons (t := 0) rfl (Ent.cons (t := 1) rfl (Ent.cons (t := 4) rfl (Ent.cons (t := 5) rfl (Ent.nil _))))) (Sub.k (Sub.refl _))))))))))))
       ·refine D.gm 9 rfl (D.gm 10 rfl (D.gq 11 rfl (Pu.fieldAddr 1 rfl Tryz.underlying145 rfl sz142 rfl rfl) (D.gq 12 rfl (Pu.load rfl pl142 rfl (Ld.blk 0 rfl rfl)) (D.gm 13 rfl (D.gm 14 rfl (D.geff hwf (e := 15) rfl rfl rfl rfl rfl rfl (Ef.callP call157 rfl rfl (fun w hw => l04Pair_ok  fa c_ w   (by first | assumption | omega | (try dsimp only at *; omega)) (by first | assumption | omega | (try dsimp only at *; omega)))) rfl rfl rfl ?_))))))
        rintro _ _ ⟨rfl, rfl⟩ hs
        refine ⟨fun w hw => hw, (D.gq 16 rfl (Pu.indexAddrS ((prI fa c_)) rfl Tryz.underlying142 sz4 rfl rfl (by omega) (by omega) (fun w hw => Own.some hw (i := 1) (by exact rfl) (by omega))) ?_)⟩
        have e2 : (prI fa c_) < U2.length := by omega
        refine D.gq 17 rfl (Pu.load rfl pl4 rfl (Ld.rd (Ld.own 1 (by exact rfl)) (k := (prI fa c_)) e2 rfl rfl)) (D.m 18 rfl (D.m 19 rfl (D.splitB 106 rfl (fun c11 => ?_) (fun c11 => ?_))))
        ·have u1 : usd m fa c_ = true := by rw [← relU_at hrel2 (by omega) (by omega) (by omega) (by omega)]; exact c11
         refine D.g 20 rfl (D.g 21 rfl (D.g 22 rfl (D.g 23 rfl (D.g 24 rfl (D.g 25 rfl (D.g 26 rfl (D.g 27 rfl (D.g 28 rfl (D.m 29 rfl (D.done hwf rfl (X.next ?_)))))))))))
         exact V.condT rfl (V.exit (X.thenExit (X.blockHit (X.next (V.region (O.m rfl (O.q rfl (Pu.add64 (r := ((c_ + 1 : Nat) : Int)) rfl (by omega) rfl rfl rfl) (O.m rfl (O.nil (X.map (fun w hw => SrchK.mk (l := l2) (keep := keep) hrel2 hcon2 hsom2 (hw.sub (Sub.k (Sub.k (Sub.k (Sub.k (Sub.refl _))))))) (X.back3 (c_ + 1, l2) (by (try dsimp only); exact ⟨by omega, by rw [compJ_no (may_no (fun h => by obtain ⟨g1, g2, g3, g4⟩ := h; first | omega | exact absurd (u1.symm.trans g3) (by decide) | exact absurd (u2.symm.trans g4) (by decide)) hI.ab)]; exact hl2⟩) (by first | omega | (dsimp only; omega)) (Ent.cons rfl (Ent.nil _)) (Ent.cons (t := 0) rfl (Ent.cons (t := 1) rfl (Ent.cons (t := 4) rfl (Ent.cons (t := 5) rfl (Ent.nil _))))) (Sub.k (Sub.refl _)))))))))))))
        ·have u1 : usd m fa c_ = false := by rw [← relU_at hrel2 (by omega) (by omega) (by omega) (by omega)]; exact c11
         refine D.gm 20 rfl (D.gm 21 rfl (D.gq 22 rfl (Pu.fieldAddr 1 rfl Tryz.underlying145 rfl sz142 rfl rfl) (D.gq 23 rfl (Pu.load rfl pl142 rfl (Ld.blk 0 rfl rfl)) (D.gm 24 rfl (D.gm 25 rfl (D.geff hwf (e := 26) rfl rfl rfl rfl rfl rfl (Ef.callP call157 rfl rfl (fun w hw => l04Pair_ok  fb c_ w   (by first | assumption | omega | (try dsimp only at *; omega)) (by first | assumption | omega | (try dsimp only at *; omega)))) rfl rfl rfl ?_))))))
         rintro _ _ ⟨rfl, rfl⟩ hs
         refine ⟨fun w hw => hw, (D.gq 27 rfl (Pu.indexAddrS ((prI fb c_)) rfl Tryz.underlying142 sz4 rfl rfl (by omega) (by omega) (fun w hw => Own.some hw (i := 1) (by exact rfl) (by omega))) ?_)⟩
         have e3 : (prI fb c_) < U2.length := by omega
         refine D.gq 28 rfl (Pu.load rfl pl4 rfl (Ld.rd (Ld.own 1 (by exact rfl)) (k := (prI fb c_)) e3 rfl rfl)) (D.m 29 rfl (D.done hwf rfl (X.next (V.cond rfl (fun c12 => ?_) (fun c12 => ?_)))))
         ·have u2 : usd m fb c_ = true := by rw [← relU_at hrel2 (by omega) (by omega) (by omega) (by omega)]; exact c12
          exact V.exit (X.thenExit (X.blockHit (X.next (V.region (O.m rfl (O.q rfl (Pu.add64 (r := ((c_ + 1 : Nat) : Int)) rfl (by omega) rfl rfl rfl) (O.m rfl (O.nil (X.map (fun w hw => SrchK.mk (l := l2) (keep := keep) hrel2 hcon2 hsom2 (hw.sub (Sub.k (Sub.k (Sub.k (Sub.k (Sub.refl _))))))) (X.back3 (c_ + 1, l2) (by (try dsimp only); exact ⟨by omega, by rw [compJ_no (may_no (fun h => by obtain ⟨g1, g2, g3, g4⟩ := h; first | omega | exact absurd (u1.symm.trans g3) (by decide) | exact absurd (u2.symm.trans g4) (by decide)) hI.ab)]; exact hl2⟩) (by first | omega | (dsimp only; omega)) (Ent.cons rfl (Ent.nil _)) (Ent.cons (t := 0) rfl (Ent.cons (t := 1) rfl (Ent.cons (t := 4) rfl (Ent.cons (t := 5) rfl (Ent.nil _))))) (Sub.k (Sub.refl _))))))))))))
         ·have u2 : usd m fb c_ = false := by rw [← relU_at hrel2 (by omega) (by omega) (by omega) (by omega)]; exact c12
          have hm := may_of hI (by omega) (by omega) (by omega) u1 u2
          have hmx := may_spec hm
          have hyc := hmx.1
          have hlp := leftN_put (v := v) (m := m) (a := fa) (b := fb) (c := c_) (by omega) (by omega) (by omega) (by omega) hI.ab hI.bv hI.left
          refine V.skip (X.next (V.seq (V.draw mo (by kernel_rfl) (fun hwf => D.m 0 rfl (D.m 1 rfl (D.q 2 rfl (Pu.fieldAddr 1 rfl Tryz.underlying145 rfl sz142 rfl rfl) (D.q 3 rfl (Pu.load rfl pl142 rfl (Ld.blk 0 rfl rfl)) (D.m 4 rfl (D.m 5 rfl (D.f hwf 6 rfl (Ef.callP call157 rfl rfl (fun w hw => l04Pair_ok  fa fb w   (by first | assumption | omega | (try dsimp only at *; omega)) (by first | assumption | omega | (try dsimp only at *; omega)))) ?_))))))))))
          rintro _ _ ⟨rfl, rfl⟩ hs
          refine ⟨fun w hw => hw, (D.q 7 rfl (Pu.indexAddrS ((prI fa fb)) rfl Tryz.underlying142 sz4 rfl rfl (by omega) (by omega) (fun w hw => Own.some hw (i := 1) (by exact rfl) (by omega))) (D.effX (Hs' := []) hwf (e := 8) rfl rfl rfl rfl (Ef.storeOwn 1 ((prI fa fb)) true rfl sz4 rfl rfl rfl rfl (by omega) rfl) rfl [] rfl (List.forall_mem_nil _) ?_))⟩
          rintro _ _ rfl
          refine ⟨fun w hw => hw.sub (Sub.nil _), (D.done hwf rfl (X.next (V.seq ?_)))⟩
          have hsl : (U2.set ((prI fa fb)) true).length = 256 := by simp only [List.length_set]; omega
          refine V.draw mo (by kernel_rfl) (fun hwf => D.m 0 rfl (D.m 1 rfl (D.q 2 rfl (Pu.fieldAddr 1 rfl Tryz.underlying145 rfl sz142 rfl rfl) (D.q 3 rfl (Pu.load rfl pl142 rfl (Ld.blk 0 rfl rfl)) (D.m 4 rfl (D.m 5 rfl (D.f hwf 6 rfl (Ef.callP call157 rfl rfl (fun w hw => l04Pair_ok  fa c_ w   (by first | assumption | omega | (try dsimp only at *; omega)) (by first | assumption | omega | (try dsimp only at *; omega)))) ?_)))))))
          rintro _ _ ⟨rfl, rfl⟩ hs
          refine ⟨fun w hw => hw, (D.q 7 rfl (Pu.indexAddrS ((prI fa c_)) rfl Tryz.underlying142 sz4 rfl rfl (by omega) (by omega) (fun w hw => Own.some hw (i := 1) (by exact rfl) (by omega))) (D.effX (Hs' := []) hwf (e := 8) rfl rfl rfl rfl (Ef.storeOwn 1 ((prI fa c_)) true rfl sz4 rfl rfl rfl rfl (by omega) rfl) rfl [] rfl (List.forall_mem_nil _) ?_))⟩
          rintro _ _ rfl
          refine ⟨fun w hw => hw.sub (Sub.nil _), (D.done hwf rfl (X.next (V.seq ?_)))⟩
          have hsl : ((U2.set ((prI fa fb)) true).set ((prI fa c_)) true).length = 256 := by simp only [List.length_set]; omega
          refine V.draw mo (by kernel_rfl) (fun hwf => D.m 0 rfl (D.m 1 rfl (D.q 2 rfl (Pu.fieldAddr 1 rfl Tryz.underlying145 rfl sz142 rfl rfl) (D.q 3 rfl (Pu.load rfl pl142 rfl (Ld.blk 0 rfl rfl)) (D.m 4 rfl (D.m 5 rfl (D.f hwf 6 rfl (Ef.callP call157 rfl rfl (fun w hw => l04Pair_ok  fb c_ w   (by first | assumption | omega | (try dsimp only at *; omega)) (by first | assumption | omega | (try dsimp only at *; omega)))) ?_)))))))
          rintro _ _ ⟨rfl, rfl⟩ hs
          refine ⟨fun w hw => hw, (D.q 7 rfl (Pu.indexAddrS ((prI fb c_)) rfl Tryz.underlying142 sz4 rfl rfl (by omega) (by omega) (fun w hw => Own.some hw (i := 1) (by exact rfl) (by omega))) (D.effX (Hs' := []) hwf (e := 8) rfl rfl rfl rfl (Ef.storeOwn 1 ((prI fb c_)) true rfl sz4 rfl rfl rfl rfl (by omega) rfl) rfl [] rfl (List.forall_mem_nil _) ?_))⟩
          rintro _ _ rfl
          refine ⟨fun w hw => hw.sub (Sub.nil _), (D.done hwf rfl (X.next (V.seq (V.region (O.m rfl (O.f rfl (Ef.build B3C ([] : List B3) rfl Tryz.underlying24 inf65 rfl rfl rfl (by first | decide | (simp; done)) (by kernel_rfl)) ?_))))))⟩
          rintro _ _ ⟨A5, hA5, rfl, rfl⟩
          refine O.m rfl (O.f rfl (Ef.append (xs := ([] : List B3)) (ys := blocks) 0 rfl Tryz.underlying24 inf65 rfl rfl rfl rfl rfl rfl hbS (fun w hw => hblocks w (hw.sub (Sub.drop (Sub.drop (Sub.drop (Sub.drop (Sub.drop (Sub.refl _)))))))) (by simp only [List.length_append, List.length_cons, List.length_nil] at *; omega) (by decide)) ?_)
          rintro _ _ ⟨A6, k3, rfl, rfl, hA6⟩
          replace hA6 := hA6 (.inl hA5)
          refine O.m rfl (O.m rfl (O.m rfl (O.f rfl (Ef.callP call98 rfl rfl (fun w hw => l01Block_ok  fa fb c_ w   (by first | assumption | omega | (try dsimp only at *; omega)) (by first | assumption | omega | (try dsimp only at *; omega)) (by first | assumption | omega | (try dsimp only at *; omega)))) ?_)))
          rintro _ _ ⟨rfl, rfl⟩
          refine O.f rfl (Ef.build B3C ([(b3N fa fb c_)] : List B3) rfl Tryz.underlying24 inf65 rfl rfl rfl (by first | decide | (simp; done)) (by kernel_rfl)) ?_
          rintro _ _ ⟨A7, hA7, rfl, rfl⟩
          refine O.f rfl (Ef.append (xs := (([] : List B3) ++ blocks)) (ys := ([(b3N fa fb c_)] : List B3)) 1 rfl Tryz.underlying24 inf65 rfl rfl rfl rfl rfl rfl hA7 (Ld.own 0 (by exact rfl)) (by simp only [List.length_append, List.length_cons, List.length_nil] at *; omega) (by decide)) ?_
          rintro _ _ ⟨A8, k4, rfl, rfl, hA8⟩
          replace hA8 := hA8 (.inr (by simp))
          refine O.map (fun w hw => SrchK.mk (l := l2) (keep := keep) (relU_put hrel2 hI.ab hyc (by omega) hv) hcon2 hsom2 (hw.sub (Sub.cons 2 rfl (fun w F h => by simp only [List.length_set]; exact h) (Sub.keep 2 rfl (Sub.keep 2 rfl (Sub.keep 2 rfl (Sub.k (Sub.k (Sub.refl _))))))))) (O.f rfl (Ef.call call152 rfl rfl (Does.pre (fun w hw => hw.sub (Sub.k (Sub.k (Sub.k (Sub.refl _))))) (ih (n - 1) (by omega)  sb v most keep (putM m fa fb c_) l2 ((([] : List B3) ++ blocks) ++ ([(b3N fa fb c_)] : List B3)) _ _ w0 _ (Ld.own 1 (by exact rfl)) (by first | omega | (simp only [tops_len, conts_len, bl, List.length_append, List.length_cons, List.length_nil] at *; omega)) hA8 hv (by omega) (by omega) hmm (step_M2 hgo hm (by omega) hM hl3) (by simp only [List.length_append, List.length_singleton, List.length_nil]; omega)))) ?_)
          rintro _ _ rfl
          refine O.sep (O.pur ?_)
          rintro rfl
          refine O.nil (X.next (V.seq (V.srchK (fun uA3 uk3 U3 fA3 fk3 ps3 hrel3 hcon3 hsom3 => V.fact (RowsA.len 3 rfl) (fun hn_ps3 => ?_)))))
          have htl_ps3 := tops_len ps3
          have hul_U3 := hrel3.1
          refine V.draw mo (by kernel_rfl) (fun hwf => D.m 0 rfl (D.m 1 rfl (D.q 2 rfl (Pu.fieldAddr 1 rfl Tryz.underlying145 rfl sz142 rfl rfl) (D.q 3 rfl (Pu.load rfl pl142 rfl (Ld.blk 0 rfl rfl)) (D.m 4 rfl (D.m 5 rfl (D.f hwf 6 rfl (Ef.callP call157 rfl rfl (fun w hw => l04Pair_ok  fa fb w   (by first | assumption | omega | (try dsimp only at *; omega)) (by first | assumption | omega | (try dsimp only at *; omega)))) ?_)))))))
          rintro _ _ ⟨rfl, rfl⟩ hs
          refine ⟨fun w hw => hw, (D.q 7 rfl (Pu.indexAddrS ((prI fa fb)) rfl Tryz.underlying142 sz4 rfl rfl (by omega) (by omega) (fun w hw => Own.some hw (i := 1) (by exact rfl) (by omega))) (D.effX (Hs' := []) hwf (e := 8) rfl rfl rfl rfl (Ef.storeOwn 1 ((prI fa fb)) false rfl sz4 rfl rfl rfl rfl (by omega) rfl) rfl [] rfl (List.forall_mem_nil _) ?_))⟩
          rintro _ _ rfl
          refine ⟨fun w hw => hw.sub (Sub.nil _), (D.done hwf rfl (X.next (V.seq ?_)))⟩
          have hsl : (U3.set ((prI fa fb)) false).length = 256 := by simp only [List.length_set]; omega
          refine V.draw mo (by kernel_rfl) (fun hwf => D.m 0 rfl (D.m 1 rfl (D.q 2 rfl (Pu.fieldAddr 1 rfl Tryz.underlying145 rfl sz142 rfl rfl) (D.q 3 rfl (Pu.load rfl pl142 rfl (Ld.blk 0 rfl rfl)) (D.m 4 rfl (D.m 5 rfl (D.f hwf 6 rfl (Ef.callP call157 rfl rfl (fun w hw => l04Pair_ok  fa c_ w   (by first | assumption | omega | (try dsimp only at *; omega)) (by first | assumption | omega | (try dsimp only at *; omega)))) ?_)))))))
          rintro _ _ ⟨rfl, rfl⟩ hs
          refine ⟨fun w hw => hw, (D.q 7 rfl (Pu.indexAddrS ((prI fa c_)) rfl Tryz.underlying142 sz4 rfl rfl (by omega) (by omega) (fun w hw => Own.some hw (i := 1) (by exact rfl) (by omega))) (D.effX (Hs' := []) hwf (e := 8) rfl rfl rfl rfl (Ef.storeOwn 1 ((prI fa c_)) false rfl sz4 rfl rfl rfl rfl (by omega) rfl) rfl [] rfl (List.forall_mem_nil _) ?_))⟩
          rintro _ _ rfl
          refine ⟨fun w hw => hw.sub (Sub.nil _), (D.done hwf rfl (X.next ?_))⟩
          have hsl : ((U3.set ((prI fa fb)) false).set ((prI fa c_)) false).length = 256 := by simp only [List.length_set]; omega
          refine V.draw mo (by kernel_rfl) (fun hwf => D.m 0 rfl (D.m 1 rfl (D.q 2 rfl (Pu.fieldAddr 1 rfl Tryz.underlying145 rfl sz142 rfl rfl) (D.q 3 rfl (Pu.load rfl pl142 rfl (Ld.blk 0 rfl rfl)) (D.m 4 rfl (D.m 5 rfl (D.f hwf 6 rfl (Ef.callP call157 rfl rfl (fun w hw => l04Pair_ok  fb c_ w   (by first | assumption | omega | (try dsimp only at *; omega)) (by first | assumption | omega | (try dsimp only at *; omega)))) ?_)))))))
          rintro _ _ ⟨rfl, rfl⟩ hs
          refine ⟨fun w hw => hw, (D.q 7 rfl (Pu.indexAddrS ((prI fb c_)) rfl Tryz.underlying142 sz4 rfl rfl (by omega) (by omega) (fun w hw => Own.some hw (i := 1) (by exact rfl) (by omega))) (D.effX (Hs' := []) hwf (e := 8) rfl rfl rfl rfl (Ef.storeOwn 1 ((prI fb c_)) false rfl sz4 rfl rfl rfl rfl (by omega) rfl) rfl [] rfl (List.forall_mem_nil _) ?_))⟩
          rintro _ _ rfl
          exact ⟨fun w hw => hw.sub (Sub.nil _), (D.done hwf rfl (X.blockNormal (X.next (V.region (O.m rfl (O.q rfl (Pu.add64 (r := ((c_ + 1 : Nat) : Int)) rfl (by omega) rfl rfl rfl) (O.m rfl (O.nil (X.map (fun w hw => SrchK.mk (l := (l2 ++ runC (fun j => decide (j < most)) l2.length (leaf ((([] : List B3) ++ blocks) ++ ([(b3N fa fb c_)] : List B3)) (compM (n - 1) v (putM m fa fb c_))))) (keep := keep) (relU_del hrel3 hI.ab hyc (by omega) hv hI.left hmx.2.1 hmx.2.2) hcon3 hsom3 (hw.sub (Sub.cons 0 rfl (fun w F h => by simp only [List.length_set]; exact h) (Sub.k (Sub.k (Sub.k (Sub.k (Sub.k (Sub.refl _))))))))) (X.back3 (c_ + 1, (l2 ++ runC (fun j => decide (j < most)) l2.length (leaf ((([] : List B3) ++ blocks) ++ ([(b3N fa fb c_)] : List B3)) (compM (n - 1) v (putM m fa fb c_))))) (by (try dsimp only); exact ⟨by omega, by rw [hl3, List.length_append, List.append_assoc, leaf_step hm, runC_append hgo]; rfl⟩) (by first | omega | (dsimp only; omega)) (Ent.cons rfl (Ent.nil _)) (Ent.cons (t := 0) rfl (Ent.cons (t := 1) rfl (Ent.cons (t := 4) rfl (Ent.cons (t := 5) rfl (Ent.nil _))))) (Sub.k (Sub.drop (Sub.drop (Sub.refl _))))))))))))))⟩
     ·have hlast : c_ = v ∨ ¬ l2.length < most := .inr (by omega)
      exact V.exit (X.thenExit (X.thenExit (X.blockHit (X.endBody (X.map (fun w hw => SrchK.mk (l := l2) (keep := keep) hrel2 hcon2 hsom2 (hw.sub (Sub.k (Sub.k (Sub.k (Sub.k (Sub.refl _))))))) (X.ret0 rfl (fun w hw => St.unsep (St.addPur rfl (hw.sub (Sub.cons 0 rfl (fun w F h => by rw [hcm, (srch_end hlm hl2 hlast (by omega))]; exact h) (Sub.refl _)))))))))))
    ·have hlast : c_ = v ∨ ¬ l2.length < most := .inl (by omega)
     refine D.g 7 rfl (D.g 8 rfl (D.g 9 rfl (D.g 10 rfl (D.g 11 rfl (D.g 12 rfl (D.g 13 rfl (D.g 14 rfl (D.g 15 rfl (D.m 16 rfl (D.done hwf rfl (X.next ?_)))))))))))
     exact V.condF rfl (V.exit (X.thenExit (X.thenExit (X.blockHit (X.endBody (X.map (fun w hw => SrchK.mk (l := l2) (keep := keep) hrel2 hcon2 hsom2 (hw.sub (Sub.k (Sub.k (Sub.k (Sub.k (Sub.refl _))))))) (X.ret0 rfl (fun w hw => St.unsep (St.addPur rfl (hw.sub (Sub.cons 0 rfl (fun w F h => by rw [hcm, (srch_end hlm hl2 hlast (by omega))]; exact h) (Sub.refl _))))))))))))
 ·refine O.g rfl (O.g rfl (O.m rfl (O.nil (X.next (V.condF rfl (V.exit (X.thenExit (X.thenExit (X.blockHit (X.next (V.seq ?_)))))))))))
  refine V.seq ?_
  have hN : (a < 0 → nextM v m = none) ∧ (¬ a < 0 → ∃ fa fb : Nat, a = fa ∧ b = fb ∧ IsNext v m fa fb) := by
   refine ⟨fun h => ?_, fun h => ?_⟩
   ·rcases hF with ⟨_, _, h3, h4⟩ | ⟨x, y, h1, _⟩
    ·exact nextM_none (fun i j h5 h6 => h4 i j (by omega) h5 h6)
    ·omega
   ·rcases hF with ⟨h1, _⟩ | h1
    ·omega
    ·exact h1
  refine V.region (O.m rfl (O.q rfl (Pu.lss rfl rfl rfl) (O.nil (X.next (V.condD rfl (fun c13 => ?_) (fun c13 => ?_))))))
  ·have hnone := hN.1 c13
   refine V.seq (V.region (O.m rfl (O.m rfl (O.q rfl (Pu.fieldAddr 2 rfl Tryz.underlying145 rfl sz2 rfl rfl) (O.q rfl (Pu.load rfl pl2 rfl (Ld.blk 0 rfl rfl)) (O.q rfl (Pu.add64 (r := ((l.length + 1 : Nat) : Int)) rfl (by omega) rfl rfl rfl) (O.m rfl (O.q rfl (Pu.fieldAddr 2 rfl Tryz.underlying145 rfl sz2 rfl rfl) (O.s rfl rfl (Ef.store1 (cs' := [_, _, _, _, _, _]) 0 rfl sz2 rfl rfl rfl rfl rfl (ltb rfl) rfl) ?_)))))))))
   rintro _ _ rfl
   refine O.nil (X.next (V.seq (V.seq (V.region (O.m rfl (O.m rfl (O.q rfl (Pu.fieldAddr 4 rfl Tryz.underlying145 rfl sz4 rfl rfl) (O.q rfl (Pu.load rfl pl4 rfl (Ld.blk 0 rfl rfl)) (O.nil (X.next (V.cond rfl (fun c14 => ?_) (fun c14 => ?_))))))))))))
   ·have hkeep := c14
    have hpl : ps1.length ≤ 1000000 := by have h := conts_len ps1; rw [hcon1, hkeep] at h; simp only [if_true] at h; omega
    refine V.drawS mo (by kernel_rfl) (Sub.k (Sub.drop (Sub.drop (Sub.drop (Sub.refl _))))) (fun hwf => D.m 0 rfl (D.m 1 rfl (D.m 2 rfl (D.q 3 rfl (Pu.fieldAddr 5 rfl Tryz.underlying145 rfl sz143 rfl rfl) (D.q 4 rfl (Pu.load rfl pl143 rfl (Ld.blk 0 rfl rfl)) (D.m 6 rfl (D.m 10 rfl (D.q 11 rfl (Pu.fieldAddr 5 rfl Tryz.underlying145 rfl sz143 rfl rfl) (D.f hwf 5 rfl (Ef.build B3C ([] : List B3) rfl Tryz.underlying24 inf65 rfl rfl rfl (by first | decide | (simp; done)) (by kernel_rfl)) ?_)))))))))
    rintro _ _ ⟨A9, hA9, rfl, rfl⟩ hs
    refine ⟨fun w hw => hw.sub (Sub.keep 1 rfl (Sub.drop (Sub.drop (Sub.drop (Sub.drop (Sub.refl _)))))), (D.f hwf 7 rfl (Ef.append (xs := ([] : List B3)) (ys := blocks) 0 rfl Tryz.underlying24 inf65 rfl rfl rfl rfl rfl rfl hbS (fun w hw => hblocks w (hw.sub (Sub.drop (Sub.drop (Sub.drop (Sub.drop (Sub.drop (Sub.refl _)))))))) (by simp only [List.length_append, List.length_cons, List.length_nil] at *; omega) (by decide)) ?_)⟩
    rintro _ _ ⟨A10, k5, rfl, rfl, hA10⟩ hs
    replace hA10 := hA10 (.inl hA9)
    refine ⟨fun w hw => hw.sub (Sub.keep 1 rfl (Sub.drop (Sub.drop (Sub.drop (Sub.drop (Sub.refl _)))))), (D.f hwf 8 rfl (Ef.build SlC ([⟨A10, (([] : List B3) ++ blocks).length, k5⟩] : List Sl) rfl Tryz.underlying143 inf24 rfl rfl rfl (by first | decide | (simp; done)) (by kernel_rfl)) ?_)⟩
    rintro _ _ ⟨A11, hA11, rfl, rfl⟩ hs
    refine ⟨fun w hw => hw.sub (Sub.keep 2 rfl (Sub.drop (Sub.drop (Sub.drop (Sub.drop (Sub.drop (Sub.refl _))))))), (D.f hwf 9 rfl (Ef.append (xs := (tops ps1)) (ys := ([⟨A10, (([] : List B3) ++ blocks).length, k5⟩] : List Sl)) 4 rfl Tryz.underlying143 inf24 rfl rfl rfl rfl rfl rfl hA11 (Ld.own 0 (by exact rfl)) (by simp only [List.length_append, List.length_cons, List.length_nil] at *; omega) (by decide)) ?_)⟩
    rintro _ _ ⟨A12, k6, rfl, rfl, hA12⟩ hs
    replace hA12 := hA12 (.inr (by simp))
    refine ⟨fun w hw => hw.sub (Sub.keep 2 rfl (Sub.drop (Sub.drop (Sub.drop (Sub.drop (Sub.drop (Sub.refl _))))))), (D.effX (Hs' := []) hwf (e := 12) rfl rfl rfl rfl (Ef.store1 (cs' := [_, _, _, _, _, _]) 2 rfl sz143 rfl rfl rfl rfl rfl (ltb rfl) rfl) rfl [10] rfl (List.forall_mem_cons.2 ⟨⟨66, _, rfl, rfl, Det.of rfl rfl rfl (Pu.nilCheck rfl rfl)⟩, List.forall_mem_nil _⟩) ?_)⟩
    rintro _ _ rfl
    exact ⟨fun w hw => hw.sub (Sub.nil _), (D.done hwf rfl (X.map (fun w hw => snoc_heap (ps := ps1) (xs := (([] : List B3) ++ blocks)) (hw.sub (Sub.keep 4 rfl (Sub.keep 4 rfl (Sub.keep 1 rfl (Sub.k (Sub.k (Sub.k (Sub.refl _))))))))) (X.next (V.ret (X.thenRet (X.map (fun w hw => SrchK.mk (l := (l ++ [blocks])) (keep := keep) hrel1 (by rw [conts_append, hcon1, hkeep]; simp [conts]) (fun p hp => by rcases List.mem_append.1 hp with h | h; (· exact hsom1 p h); (· rw [List.mem_singleton] at h; subst h; assumption)) (hw.sub (Sub.cons 3 rfl (fun w F h => by rw [List.length_append, List.length_singleton, tops_append]; exact h) (Sub.keep 3 rfl (Sub.k (Sub.k (Sub.k (Sub.refl _)))))))) (X.ret0 rfl (fun w hw => St.unsep (St.addPur rfl (hw.sub (Sub.cons 0 rfl (fun w F h => by rw [leaf_none hnone, runC_one]; exact h) (Sub.drop (Sub.refl _)))))))))))))⟩
   ·have hkeep := c14
    exact V.skip (X.next (V.ret (X.thenRet (X.map (fun w hw => SrchK.mk (l := (l ++ [blocks])) (keep := keep) hrel1 (by rw [hcon1, hkeep]; rfl) hsom1 (hw.sub (Sub.cons 0 rfl (fun w F h => by rw [List.length_append, List.length_singleton]; exact h) (Sub.k (Sub.k (Sub.k (Sub.refl _))))))) (X.ret0 rfl (fun w hw => St.unsep (St.addPur rfl (hw.sub (Sub.cons 0 rfl (fun w F h => by rw [leaf_none hnone, runC_one]; exact h) (Sub.refl _))))))))))
  ·refine V.skip (X.next (V.seq ?_))
   obtain ⟨fa, fb, ea, eb, hI⟩ := hN.2 (by assumption)
   subst ea eb
   have hn0 := left_pos hI hn
   have hcm := comp_some' (nextM_some hI) hn0
   rw [hcm] at hM
   have hab := hI.ab
   have hbv := hI.bv
   refine V.map (fun w hw => SrchK.mk (l := l) (keep := keep) hrel1 hcon1 hsom1 (hw.sub (Sub.k (Sub.k (Sub.k (Sub.k (Sub.refl _))))))) (V.region (O.m rfl (O.nil (X.next (V.block (V.loop3 (β := Nat × (List (List B3))) (fun x => [(8, .int .i64 (x.1 : Int))]) _ (fun x => [SrchK 145 4 24 65 sb v most keep m x.2]) _ (fun x => x.1 ≤ v ∧ x.2 = l ++ runC (fun j => decide (j < most)) l.length (leaf blocks (compJ (n - 1) v m fa fb x.1))) (fun x => v - x.1) (0, l) (by (try dsimp only); exact ⟨by omega, by rw [compJ_zero]; simp [leaf, runC]⟩) (Ent.cons rfl (Ent.nil _)) (Ent.cons (t := 0) rfl (Ent.cons (t := 1) rfl (Ent.cons (t := 4) rfl (Ent.cons (t := 5) rfl (Ent.nil _))))) (Sub.k (Sub.refl _)) ?_))))))
   rintro ⟨c_, l2⟩ ⟨hc, hl2⟩
   dsimp only at hc hl2 ⊢
   refine V.seq (V.seq (V.srchK (fun uA4 uk4 U4 fA4 fk4 ps4 hrel4 hcon4 hsom4 => V.fact (RowsA.len 3 rfl) (fun hn_ps4 => ?_))))
   have htl_ps4 := tops_len ps4
   have hul_U4 := hrel4.1
   refine V.draw mo (by kernel_rfl) (fun hwf => D.m 0 rfl (D.m 1 rfl (D.m 2 rfl (D.q 3 rfl (Pu.fieldAddr 0 rfl Tryz.underlying145 rfl sz2 rfl rfl) (D.q 4 rfl (Pu.load rfl pl2 rfl (Ld.blk 0 rfl rfl)) (D.q 5 rfl (Pu.lss rfl rfl rfl) (D.m 6 rfl (D.splitD 74 rfl (fun c15 => ?_) (fun c15 => ?_)))))))))
   ·refine D.gm 7 rfl (D.gm 8 rfl (D.gq 9 rfl (Pu.fieldAddr 2 rfl Tryz.underlying145 rfl sz2 rfl rfl) (D.gq 10 rfl (Pu.load rfl pl2 rfl (Ld.blk 0 rfl rfl)) (D.gm 11 rfl (D.gm 12 rfl (D.gq 13 rfl (Pu.fieldAddr 3 rfl Tryz.underlying145 rfl sz2 rfl rfl) (D.gq 14 rfl (Pu.load rfl pl2 rfl (Ld.blk 0 rfl rfl)) (D.gq 15 rfl (Pu.lss rfl rfl rfl) (D.m 16 rfl (D.done hwf rfl (X.next (V.condD rfl (fun c16 => ?_) (fun c16 => ?_)))))))))))))
    ·have hgo : goesC (fun j => decide (j < most)) l.length (leaf blocks (compJ (n - 1) v m fa fb c_)) = true := by
      rw [goesC_most hlm]
      have h := congrArg List.length hl2
      rw [List.length_append] at h
      exact decide_eq_true (by omega)
     have hl3 : l2 = l ++ (leaf blocks (compJ (n - 1) v m fa fb c_)) := by rw [hl2, runC_all hgo]
     refine V.skip (X.next (V.seq (V.block (V.seq (V.seq ?_)))))
     have hq1 := prI_lt (a := fa) (b := c_) (by omega) (by omega)
     have hq2 := prI_lt (a := fb) (b := c_) (by omega) (by omega)
     have hq3 := prI_lt (a := fa) (b := fb) (by omega) (by omega)
     refine V.draw mo (by kernel_rfl) (fun hwf => D.m 0 rfl (D.m 1 rfl (D.q 2 rfl (Pu.eql rfl rfl rfl) (D.m 3 rfl (D.splitD 90 rfl (fun c17 => ?_) (fun c17 => ?_))))))
     ·refine D.g 4 rfl (D.g 5 rfl (D.g 6 rfl (D.m 7 rfl (D.m 8 rfl (D.g 9 rfl (D.g 10 rfl (D.g 11 rfl (D.g 12 rfl (D.g 13 rfl (D.g 14 rfl (D.g 15 rfl ?_)))))))))))
      refine D.g 16 rfl (D.g 17 rfl (D.m 18 rfl (D.m 19 rfl (D.g 20 rfl (D.g 21 rfl (D.g 22 rfl (D.g 23 rfl (D.g 24 rfl (D.g 25 rfl (D.g 26 rfl (D.g 27 rfl ?_)))))))))))
      refine D.g 28 rfl (D.m 29 rfl (D.done hwf rfl (X.next (V.condT rfl (V.exit (X.thenExit (X.blockHit (X.next (V.region (O.m rfl (O.q rfl (Pu.add64 (r := ((c_ + 1 : Nat) : Int)) rfl (by omega) rfl rfl rfl) ?_)))))))))))
      exact O.m rfl (O.nil (X.map (fun w hw => SrchK.mk (l := l2) (keep := keep) hrel4 hcon4 hsom4 (hw.sub (Sub.k (Sub.k (Sub.k (Sub.k (Sub.refl _))))))) (X.back3 (c_ + 1, l2) (by (try dsimp only); exact ⟨by omega, by rw [compJ_no (may_no (fun h => by obtain ⟨g1, g2, g3, g4⟩ := h; first | omega | exact absurd (u1.symm.trans g3) (by decide) | exact absurd (u2.symm.trans g4) (by decide)) hI.ab)]; exact hl2⟩) (by first | omega | (dsimp only; omega)) (Ent.cons rfl (Ent.nil _)) (Ent.cons (t := 0) rfl (Ent.cons (t := 1) rfl (Ent.cons (t := 4) rfl (Ent.cons (t := 5) rfl (Ent.nil _))))) (Sub.k (Sub.refl _)))))
     ·refine D.gm 4 rfl (D.gm 5 rfl (D.gq 6 rfl (Pu.eql rfl rfl rfl) (D.m 7 rfl (D.m 8 rfl (D.splitD 95 rfl (fun c18 => ?_) (fun c18 => ?_))))))
      ·refine D.g 9 rfl (D.g 10 rfl (D.g 11 rfl (D.g 12 rfl (D.g 13 rfl (D.g 14 rfl (D.g 15 rfl (D.g 16 rfl (D.g 17 rfl (D.m 18 rfl (D.m 19 rfl (D.g 20 rfl ?_)))))))))))
       refine D.g 21 rfl (D.g 22 rfl (D.g 23 rfl (D.g 24 rfl (D.g 25 rfl (D.g 26 rfl (D.g 27 rfl (D.g 28 rfl (D.m 29 rfl (D.done hwf rfl (X.next (V.condT rfl ?_)))))))))))
       exact V.exit (X.thenExit (X.blockHit (X.next (V.region (O.m rfl (O.q rfl (Pu.add64 (r := ((c_ + 1 : Nat) : Int)) rfl (by omega) rfl rfl rfl) (O.m rfl (O.nil (X.map (fun w hw => SrchK.mk (l := l2) (keep := keep) hrel4 hcon4 hsom4 (hw.sub (Sub.k (Sub.k (Sub.k (Sub.k (Sub.refl _))))))) (X.back3 (c_ + 1, l2) (by (try dsimp only); exact ⟨by omega, by rw [compJ_no (may_no (fun h => by obtain ⟨g1, g2, g3, g4⟩ := h; first | omega | exact absurd (u1.symm.trans g3) (by decide) | exact absurd (u2.symm.trans g4) (by decide)) hI.ab)]; exact hl2⟩) (by first | omega | (dsimp only; omega)) (Ent.cons rfl (Ent.nil _)) (Ent.cons (t := 0) rfl (Ent.cons (t := 1) rfl (Ent.cons (t := 4) rfl (Ent.cons (t := 5) rfl (Ent.nil _))))) (Sub.k (Sub.refl _))))))))))))
      ·refine D.gm 9 rfl (D.gm 10 rfl (D.gq 11 rfl (Pu.fieldAddr 1 rfl Tryz.underlying145 rfl sz142 rfl rfl) (D.gq 12 rfl (Pu.load rfl pl142 rfl (Ld.blk 0 rfl rfl)) (D.gm 13 rfl (D.gm 14 rfl (D.geff hwf (e := 15) rfl rfl rfl rfl rfl rfl (Ef.callP call157 rfl rfl (fun w hw => l04Pair_ok  fa c_ w   (by first | assumption | omega | (try dsimp only at *; omega)) (by first | assumption | omega | (try dsimp only at *; omega)))) rfl rfl rfl ?_))))))
       rintro _ _ ⟨rfl, rfl⟩ hs
       refine ⟨fun w hw => hw, (D.gq 16 rfl (Pu.indexAddrS ((prI fa c_)) rfl Tryz.underlying142 sz4 rfl rfl (by omega) (by omega) (fun w hw => Own.some hw (i := 1) (by exact rfl) (by omega))) ?_)⟩
       have e4 : (prI fa c_) < U4.length := by omega
       refine D.gq 17 rfl (Pu.load rfl pl4 rfl (Ld.rd (Ld.own 1 (by exact rfl)) (k := (prI fa c_)) e4 rfl rfl)) (D.m 18 rfl (D.m 19 rfl (D.splitB 106 rfl (fun c19 => ?_) (fun c19 => ?_))))
       ·have u1 : usd m fa c_ = true := by rw [← relU_at hrel4 (by omega) (by omega) (by omega) (by omega)]; exact c19
        refine D.g 20 rfl (D.g 21 rfl (D.g 22 rfl (D.g 23 rfl (D.g 24 rfl (D.g 25 rfl (D.g 26 rfl (D.g 27 rfl (D.g 28 rfl (D.m 29 rfl (D.done hwf rfl (X.next ?_)))))))))))
        exact V.condT rfl (V.exit (X.thenExit (X.blockHit (X.next (V.region (O.m rfl (O.q rfl (Pu.add64 (r := ((c_ + 1 : Nat) : Int)) rfl (by omega) rfl rfl rfl) (O.m rfl (O.nil (X.map (fun w hw => SrchK.mk (l := l2) (keep := keep) hrel4 hcon4 hsom4 (hw.sub (Sub.k (Sub.k (Sub.k (Sub.k (Sub.refl _))))))) (X.back3 (c_ + 1, l2) (by (try dsimp only); exact ⟨by omega, by rw [compJ_no (may_no (fun h => by obtain ⟨g1, g2, g3, g4⟩ := h; first | omega | exact absurd (u1.symm.trans g3) (by decide) | exact absurd (u2.symm.trans g4) (by decide)) hI.ab)]; exact hl2⟩) (by first | omega | (dsimp only; omega)) (Ent.cons rfl (Ent.nil _)) (Ent.cons (t := 0) rfl (Ent.cons (t := 1) rfl (Ent.cons (t := 4) rfl (Ent.cons (t := 5) rfl (Ent.nil _))))) (Sub.k (Sub.refl _)))))))))))))
       ·have u1 : usd m fa c_ = false := by rw [← relU_at hrel4 (by omega) (by omega) (by omega) (by omega)]; exact c19
        refine D.gm 20 rfl (D.gm 21 rfl (D.gq 22 rfl (Pu.fieldAddr 1 rfl Tryz.underlying145 rfl sz142 rfl rfl) (D.gq 23 rfl (Pu.load rfl pl142 rfl (Ld.blk 0 rfl rfl)) (D.gm 24 rfl (D.gm 25 rfl (D.geff hwf (e := 26) rfl rfl rfl rfl rfl rfl (Ef.callP call157 rfl rfl (fun w hw => l04Pair_ok  fb c_ w   (by first | assumption | omega | (try dsimp only at *; omega)) (by first | assumption | omega | (try dsimp only at *; omega)))) rfl rfl rfl ?_))))))
        rintro _ _ ⟨rfl, rfl⟩ hs
        refine ⟨fun w hw => hw, (D.gq 27 rfl (Pu.indexAddrS ((prI fb c_)) rfl Tryz.underlying142 sz4 rfl rfl (by omega) (by omega) (fun w hw => Own.some hw (i := 1) (by exact rfl) (by omega))) ?_)⟩
        have e5 : (prI fb c_) < U4.length := by omega
        refine D.gq 28 rfl (Pu.load rfl pl4 rfl (Ld.rd (Ld.own 1 (by exact rfl)) (k := (prI fb c_)) e5 rfl rfl)) (D.m 29 rfl (D.done hwf rfl (X.next (V.cond rfl (fun c20 => ?_) (fun c20 => ?_)))))
        ·have u2 : usd m fb c_ = true := by rw [← relU_at hrel4 (by omega) (by omega) (by omega) (by omega)]; exact c20
         exact V.exit (X.thenExit (X.blockHit (X.next (V.region (O.m rfl (O.q rfl (Pu.add64 (r := ((c_ + 1 : Nat) : Int)) rfl (by omega) rfl rfl rfl) (O.m rfl (O.nil (X.map (fun w hw => SrchK.mk (l := l2) (keep := keep) hrel4 hcon4 hsom4 (hw.sub (Sub.k (Sub.k (Sub.k (Sub.k (Sub.refl _))))))) (X.back3 (c_ + 1, l2) (by (try dsimp only); exact ⟨by omega, by rw [compJ_no (may_no (fun h => by obtain ⟨g1, g2, g3, g4⟩ := h; first | omega | exact absurd (u1.symm.trans g3) (by decide) | exact absurd (u2.symm.trans g4) (by decide)) hI.ab)]; exact hl2⟩) (by first | omega | (dsimp only; omega)) (Ent.cons rfl (Ent.nil _)) (Ent.cons (t := 0) rfl (Ent.cons (t := 1) rfl (Ent.cons (t := 4) rfl (Ent.cons (t := 5) rfl (Ent.nil _))))) (Sub.k (Sub.refl _))))))))))))
        ·have u2 : usd m fb c_ = false := by rw [← relU_at hrel4 (by omega) (by omega) (by omega) (by omega)]; exact c20
         have hm := may_of hI (by omega) (by omega) (by omega) u1 u2
         have hmx := may_spec hm
         have hyc := hmx.1
         have hlp := leftN_put (v := v) (m := m) (a := fa) (b := fb) (c := c_) (by omega) (by omega) (by omega) (by omega) hI.ab hI.bv hI.left
         refine V.skip (X.next (V.seq (V.draw mo (by kernel_rfl) (fun hwf => D.m 0 rfl (D.m 1 rfl (D.q 2 rfl (Pu.fieldAddr 1 rfl Tryz.underlying145 rfl sz142 rfl rfl) (D.q 3 rfl (Pu.load rfl pl142 rfl (Ld.blk 0 rfl rfl)) (D.m 4 rfl (D.m 5 rfl (D.f hwf 6 rfl (Ef.callP call157 rfl rfl (fun w hw => l04Pair_ok  fa fb w   (by first | assumption | omega | (try dsimp only at *; omega)) (by first | assumption | omega | (try dsimp only at *; omega)))) ?_))))))))))
         rintro _ _ ⟨rfl, rfl⟩ hs
         refine ⟨fun w hw => hw, (D.q 7 rfl (Pu.indexAddrS ((prI fa fb)) rfl Tryz.underlying142 sz4 rfl rfl (by omega) (by omega) (fun w hw => Own.some hw (i := 1) (by exact rfl) (by omega))) (D.effX (Hs' := []) hwf (e := 8) rfl rfl rfl rfl (Ef.storeOwn 1 ((prI fa fb)) true rfl sz4 rfl rfl rfl rfl (by omega) rfl) rfl [] rfl (List.forall_mem_nil _) ?_))⟩
         rintro _ _ rfl
         refine ⟨fun w hw => hw.sub (Sub.nil _), (D.done hwf rfl (X.next (V.seq ?_)))⟩
         have hsl : (U4.set ((prI fa fb)) true).length = 256 := by simp only [List.length_set]; omega
         refine V.draw mo (by kernel_rfl) (fun hwf => D.m 0 rfl (D.m 1 rfl (D.q 2 rfl (Pu.fieldAddr 1 rfl Tryz.underlying145 rfl sz142 rfl rfl) (D.q 3 rfl (Pu.load rfl pl142 rfl (Ld.blk 0 rfl rfl)) (D.m 4 rfl (D.m 5 rfl (D.f hwf 6 rfl (Ef.callP call157 rfl rfl (fun w hw => l04Pair_ok  fa c_ w   (by first | assumption | omega | (try dsimp only at *; omega)) (by first | assumption | omega | (try dsimp only at *; omega)))) ?_)))))))
         rintro _ _ ⟨rfl, rfl⟩ hs
         refine ⟨fun w hw => hw, (D.q 7 rfl (Pu.indexAddrS ((prI fa c_)) rfl Tryz.underlying142 sz4 rfl rfl (by omega) (by omega) (fun w hw => Own.some hw (i := 1) (by exact rfl) (by omega))) (D.effX (Hs' := []) hwf (e := 8) rfl rfl rfl rfl (Ef.storeOwn 1 ((prI fa c_)) true rfl sz4 rfl rfl rfl rfl (by omega) rfl) rfl [] rfl (List.forall_mem_nil _) ?_))⟩
         rintro _ _ rfl
         refine ⟨fun w hw => hw.sub (Sub.nil _), (D.done hwf rfl (X.next (V.seq ?_)))⟩
         have hsl : ((U4.set ((prI fa fb)) true).set ((prI fa c_)) true).length = 256 := by simp only [List.length_set]; omega
         refine V.draw mo (by kernel_rfl) (fun hwf => D.m 0 rfl (D.m 1 rfl (D.q 2 rfl (Pu.fieldAddr 1 rfl Tryz.underlying145 rfl sz142 rfl rfl) (D.q 3 rfl (Pu.load rfl pl142 rfl (Ld.blk 0 rfl rfl)) (D.m 4 rfl (D.m 5 rfl (D.f hwf 6 rfl (Ef.callP call157 rfl rfl (fun w hw => l04Pair_ok  fb c_ w   (by first | assumption | omega | (try dsimp only at *; omega)) (by first | assumption | omega | (try dsimp only at *; omega)))) ?_)))))))
         rintro _ _ ⟨rfl, rfl⟩ hs
         refine ⟨fun w hw => hw, (D.q 7 rfl (Pu.indexAddrS ((prI fb c_)) rfl Tryz.underlying142 sz4 rfl rfl (by omega) (by omega) (fun w hw => Own.some hw (i := 1) (by exact rfl) (by omega))) (D.effX (Hs' := []) hwf (e := 8) rfl rfl rfl rfl (Ef.storeOwn 1 ((prI fb c_)) true rfl sz4 rfl rfl rfl rfl (by omega) rfl) rfl [] rfl (List.forall_mem_nil _) ?_))⟩
         rintro _ _ rfl
         refine ⟨fun w hw => hw.sub (Sub.nil _), (D.done hwf rfl (X.next (V.seq (V.region (O.m rfl (O.f rfl (Ef.build B3C ([] : List B3) rfl Tryz.underlying24 inf65 rfl rfl rfl (by first | decide | (simp; done)) (by kernel_rfl)) ?_))))))⟩
         rintro _ _ ⟨A13, hA13, rfl, rfl⟩
         refine O.m rfl (O.f rfl (Ef.append (xs := ([] : List B3)) (ys := blocks) 0 rfl Tryz.underlying24 inf65 rfl rfl rfl rfl rfl rfl hbS (fun w hw => hblocks w (hw.sub (Sub.drop (Sub.drop (Sub.drop (Sub.drop (Sub.drop (Sub.refl _)))))))) (by simp only [List.length_append, List.length_cons, List.length_nil] at *; omega) (by decide)) ?_)
         rintro _ _ ⟨A14, k7, rfl, rfl, hA14⟩
         replace hA14 := hA14 (.inl hA13)
         refine O.m rfl (O.m rfl (O.m rfl (O.f rfl (Ef.callP call98 rfl rfl (fun w hw => l01Block_ok  fa fb c_ w   (by first | assumption | omega | (try dsimp only at *; omega)) (by first | assumption | omega | (try dsimp only at *; omega)) (by first | assumption | omega | (try dsimp only at *; omega)))) ?_)))
         rintro _ _ ⟨rfl, rfl⟩
         refine O.f rfl (Ef.build B3C ([(b3N fa fb c_)] : List B3) rfl Tryz.underlying24 inf65 rfl rfl rfl (by first | decide | (simp; done)) (by kernel_rfl)) ?_
         rintro _ _ ⟨A15, hA15, rfl, rfl⟩
         refine O.f rfl (Ef.append (xs := (([] : List B3) ++ blocks)) (ys := ([(b3N fa fb c_)] : List B3)) 1 rfl Tryz.underlying24 inf65 rfl rfl rfl rfl rfl rfl hA15 (Ld.own 0 (by exact rfl)) (by simp only [List.length_append, List.length_cons, List.length_nil] at *; omega) (by decide)) ?_
         rintro _ _ ⟨A16, k8, rfl, rfl, hA16⟩
         replace hA16 := hA16 (.inr (by simp))
         refine O.map (fun w hw => SrchK.mk (l := l2) (keep := keep) (relU_put hrel4 hI.ab hyc (by omega) hv) hcon4 hsom4 (hw.sub (Sub.cons 2 rfl (fun w F h => by simp only [List.length_set]; exact h) (Sub.keep 2 rfl (Sub.keep 2 rfl (Sub.keep 2 rfl (Sub.k (Sub.k (Sub.refl _))))))))) (O.f rfl (Ef.call call152 rfl rfl (Does.pre (fun w hw => hw.sub (Sub.k (Sub.k (Sub.k (Sub.refl _))))) (ih (n - 1) (by omega)  sb v most keep (putM m fa fb c_) l2 ((([] : List B3) ++ blocks) ++ ([(b3N fa fb c_)] : List B3)) _ _ w0 _ (Ld.own 1 (by exact rfl)) (by first | omega | (simp only [tops_len, conts_len, bl, List.length_append, List.length_cons, List.length_nil] at *; omega)) hA16 hv (by omega) (by omega) hmm (step_M2 hgo hm (by omega) hM hl3) (by simp only [List.length_append, List.length_singleton, List.length_nil]; omega)))) ?_)
         rintro _ _ rfl
         refine O.sep (O.pur ?_)
         rintro rfl
         refine O.nil (X.next (V.seq (V.srchK (fun uA5 uk5 U5 fA5 fk5 ps5 hrel5 hcon5 hsom5 => V.fact (RowsA.len 3 rfl) (fun hn_ps5 => ?_)))))
         have htl_ps5 := tops_len ps5
         have hul_U5 := hrel5.1
         refine V.draw mo (by kernel_rfl) (fun hwf => D.m 0 rfl (D.m 1 rfl (D.q 2 rfl (Pu.fieldAddr 1 rfl Tryz.underlying145 rfl sz142 rfl rfl) (D.q 3 rfl (Pu.load rfl pl142 rfl (Ld.blk 0 rfl rfl)) (D.m 4 rfl (D.m 5 rfl (D.f hwf 6 rfl (Ef.callP call157 rfl rfl (fun w hw => l04Pair_ok  fa fb w   (by first | assumption | omega | (try dsimp only at *; omega)) (by first | assumption | omega | (try dsimp only at *; omega)))) ?_)))))))
         rintro _ _ ⟨rfl, rfl⟩ hs
         refine ⟨fun w hw => hw, (D.q 7 rfl (Pu.indexAddrS ((prI fa fb)) rfl Tryz.underlying142 sz4 rfl rfl (by omega) (by omega) (fun w hw => Own.some hw (i := 1) (by exact rfl) (by omega))) (D.effX (Hs' := []) hwf (e := 8) rfl rfl rfl rfl (Ef.storeOwn 1 ((prI fa fb)) false rfl sz4 rfl rfl rfl rfl (by omega) rfl) rfl [] rfl (List.forall_mem_nil _) ?_))⟩
         rintro _ _ rfl
         refine ⟨fun w hw => hw.sub (Sub.nil _), (D.done hwf rfl (X.next (V.seq ?_)))⟩
         have hsl : (U5.set ((prI fa fb)) false).length = 256 := by simp only [List.length_set]; omega
         refine V.draw mo (by kernel_rfl) (fun hwf => D.m 0 rfl (D.m 1 rfl (D.q 2 rfl (Pu.fieldAddr 1 rfl Tryz.underlying145 rfl sz142 rfl rfl) (D.q 3 rfl (Pu.load rfl pl142 rfl (Ld.blk 0 rfl rfl)) (D.m 4 rfl (D.m 5 rfl (D.f hwf 6 rfl (Ef.callP call157 rfl rfl (fun w hw => l04Pair_ok  fa c_ w   (by first | assumption | omega | (try dsimp only at *; omega)) (by first | assumption | omega | (try dsimp only at *; omega)))) ?_)))))))
         rintro _ _ ⟨rfl, rfl⟩ hs
         refine ⟨fun w hw => hw, (D.q 7 rfl (Pu.indexAddrS ((prI fa c_)) rfl Tryz.underlying142 sz4 rfl rfl (by omega) (by omega) (fun w hw => Own.some hw (i := 1) (by exact rfl) (by omega))) (D.effX (Hs' := []) hwf (e := 8) rfl rfl rfl rfl (Ef.storeOwn 1 ((prI fa c_)) false rfl sz4 rfl rfl rfl rfl (by omega) rfl) rfl [] rfl (List.forall_mem_nil _) ?_))⟩
         rintro _ _ rfl
         refine ⟨fun w hw => hw.sub (Sub.nil _), (D.done hwf rfl (X.next ?_))⟩
         have hsl : ((U5.set ((prI fa fb)) false).set ((prI fa c_)) false).length = 256 := by simp only [List.length_set]; omega
         refine V.draw mo (by kernel_rfl) (fun hwf => D.m 0 rfl (D.m 1 rfl (D.q 2 rfl (Pu.fieldAddr 1 rfl Tryz.underlying145 rfl sz142 rfl rfl) (D.q 3 rfl (Pu.load rfl pl142 rfl (Ld.blk 0 rfl rfl)) (D.m 4 rfl (D.m 5 rfl (D.f hwf 6 rfl (Ef.callP call157 rfl rfl (fun w hw => l04Pair_ok  fb c_ w   (by first | assumption | omega | (try dsimp only at *; omega)) (by first | assumption | omega | (try dsimp only at *; omega)))) ?_)))))))
         rintro _ _ ⟨rfl, rfl⟩ hs
         refine ⟨fun w hw => hw, (D.q 7 rfl (Pu.indexAddrS ((prI fb c_)) rfl Tryz.underlying142 sz4 rfl rfl (by omega) (by omega) (fun w hw => Own.some hw (i := 1) (by exact rfl) (by omega))) (D.effX (Hs' := []) hwf (e := 8) rfl rfl rfl rfl (Ef.storeOwn 1 ((prI fb c_)) false rfl sz4 rfl rfl rfl rfl (by omega) rfl) rfl [] rfl (List.forall_mem_nil _) ?_))⟩
         rintro _ _ rfl
         exact ⟨fun w hw => hw.sub (Sub.nil _), (D.done hwf rfl (X.blockNormal (X.next (V.region (O.m rfl (O.q rfl (Pu.add64 (r := ((c_ + 1 : Nat) : Int)) rfl (by omega) rfl rfl rfl) (O.m rfl (O.nil (X.map (fun w hw => SrchK.mk (l := (l2 ++ runC (fun j => decide (j < most)) l2.length (leaf ((([] : List B3) ++ blocks) ++ ([(b3N fa fb c_)] : List B3)) (compM (n - 1) v (putM m fa fb c_))))) (keep := keep) (relU_del hrel5 hI.ab hyc (by omega) hv hI.left hmx.2.1 hmx.2.2) hcon5 hsom5 (hw.sub (Sub.cons 0 rfl (fun w F h => by simp only [List.length_set]; exact h) (Sub.k (Sub.k (Sub.k (Sub.k (Sub.k (Sub.refl _))))))))) (X.back3 (c_ + 1, (l2 ++ runC (fun j => decide (j < most)) l2.length (leaf ((([] : List B3) ++ blocks) ++ ([(b3N fa fb c_)] : List B3)) (compM (n - 1) v (putM m fa fb c_))))) (by (try dsimp only); exact ⟨by omega, by rw [hl3, List.length_append, List.append_assoc, leaf_step hm, runC_append hgo]; rfl⟩) (by first | omega | (dsimp only; omega)) (Ent.cons rfl (Ent.nil _)) (Ent.cons (t := 0) rfl (Ent.cons (t := 1) rfl (Ent.cons (t := 4) rfl (Ent.cons (t := 5) rfl (Ent.nil _))))) (Sub.k (Sub.drop (Sub.drop (Sub.refl _))))))))))))))⟩
    ·have hlast : c_ = v ∨ ¬ l2.length < most := .inr (by omega)
     exact V.exit (X.thenExit (X.thenExit (X.blockHit (X.endBody (X.map (fun w hw => SrchK.mk (l := l2) (keep := keep) hrel4 hcon4 hsom4 (hw.sub (Sub.k (Sub.k (Sub.k (Sub.k (Sub.refl _))))))) (X.ret0 rfl (fun w hw => St.unsep (St.addPur rfl (hw.sub (Sub.cons 0 rfl (fun w F h => by rw [hcm, (srch_end hlm hl2 hlast (by omega))]; exact h) (Sub.refl _)))))))))))
   ·have hlast : c_ = v ∨ ¬ l2.length < most := .inl (by omega)
    refine D.g 7 rfl (D.g 8 rfl (D.g 9 rfl (D.g 10 rfl (D.g 11 rfl (D.g 12 rfl (D.g 13 rfl (D.g 14 rfl (D.g 15 rfl (D.m 16 rfl (D.done hwf rfl (X.next ?_)))))))))))
    exact V.condF rfl (V.exit (X.thenExit (X.thenExit (X.blockHit (X.endBody (X.map (fun w hw => SrchK.mk (l := l2) (keep := keep) hrel4 hcon4 hsom4 (hw.sub (Sub.k (Sub.k (Sub.k (Sub.k (Sub.refl _))))))) (X.ret0 rfl (fun w hw => St.unsep (St.addPur rfl (hw.sub (Sub.cons 0 rfl (fun w F h => by rw [hcm, (srch_end hlm hl2 hlast (by omega))]; exact h) (Sub.refl _))))))))))))
theorem l08Go_ok (n : Nat) : L_l08Go n := by
 induction n using Nat.strongRecOn with
 | _ n ih => exact fun sb v most keep m l blocks blocksA blocksc w0 H hblocks lblocks hbS hv hn hlm hmm hM hxs => l08Go_step n ih sb v most keep m l blocks blocksA blocksc w0 H hblocks lblocks hbS hv hn hlm hmm hM hxs
theorem l04PairI_ok (a b : Int) (w : World) (ha : 0 ≤ a ∧ a < 16) (hb : 0 ≤ b ∧ b < 16) : Does Tryz.prog 157 [.int .i64 a, .int .i64 b] w [] (fun v => [.pur (v = .int .i64 ((prI a.toNat b.toNat : Nat) : Int))]) := by
 obtain ⟨x, rfl⟩ := Int.eq_ofNat_of_zero_le ha.1
 obtain ⟨y, rfl⟩ := Int.eq_ofNat_of_zero_le hb.1
 exact l04Pair_ok x y w (by omega) (by omega)
set_option maxRecDepth 100000 in
set_option maxHeartbeats 1000000 in
theorem l04Pairs_ok (v : Nat) (blocks : List B3) (blocksA : Option Addr) (blocksc : Nat) (w : World) (hblocks : Rd B3C w blocksA blocks) (lblocks : blocks.length ≤ 1099511627776) (hv : v ≤ 15) (hb : ∀ d ∈ blocks, inB v d) : Does Tryz.prog 138 [.slice blocksA blocks.length blocksc] w [] (fun rv_ => [.exi fun (rA : Option Addr) => .exi fun (rc : Nat) => .exi fun (r : List Bool) => .sep (.pur (rv_ = .slice rA r.length rc ∧ RelU v r (maskB 0 blocks))) (Own 4 BoolC rA rc r)]) := by
 refine Does.enter Tryz.func138 rfl rfl [(0, .slice blocksA blocks.length blocksc)] rfl (V.seq (V.region (O.m rfl (O.nil (X.next (V.seq (V.region (O.f rfl (Ef.make BoolC false rfl Tryz.underlying142 inf4 rfl rfl rfl rfl (by decide) (by decide)) ?_))))))))
 rintro _ _ ⟨A1, hA1, rfl, rfl⟩
 refine O.m rfl (O.nil (X.next (V.seq (V.seq (V.region (O.m rfl (O.nil (X.next (V.block (V.loop2 (β := Nat × (List Bool)) (fun x => [(4, .int .i64 (x.1 : Int))]) _ (fun x => [Own 4 BoolC A1 256 x.2]) (fun x => x.1 ≤ blocks.length ∧ RelU v x.2 (maskB 0 (blocks.take x.1))) (fun x => blocks.length - x.1) (0, (List.replicate (256) false)) (by (try dsimp only); exact ⟨by omega, relU_zero⟩) (Ent.cons rfl (Ent.nil _)) (Ent.cons (t := 0) rfl (Ent.cons (t := 3) rfl (Ent.nil _))) (Sub.k (Sub.nil _)) ?_))))))))))
 rintro ⟨i, z⟩ ⟨hi, hr⟩
 dsimp only at hi hr ⊢
 have hol := hr.1
 refine V.seq (V.seq (V.region (O.m rfl (O.m rfl (O.q rfl (Pu.len rfl Tryz.underlying24 rfl) (O.q rfl (Pu.lss rfl rfl rfl) (O.nil (X.next (V.condD rfl (fun c1 => ?_) (fun c1 => ?_))))))))))
 ·refine V.skip (X.next (V.seq (V.block (V.seq ?_))))
  have ei : i < blocks.length := by omega
  have hin := hb (blocks[i]'ei) (List.getElem_mem ei)
  have hpt := inB_pts hin hv
  have hq1 := prI_lt (a := (blocks[i]'ei).1.toNat) (b := (blocks[i]'ei).2.1.toNat) (by omega) (by omega)
  have hq2 := prI_lt (a := (blocks[i]'ei).1.toNat) (b := (blocks[i]'ei).2.2.toNat) (by omega) (by omega)
  have hq3 := prI_lt (a := (blocks[i]'ei).2.1.toNat) (b := (blocks[i]'ei).2.2.toNat) (by omega) (by omega)
  refine V.draw mo (by kernel_rfl) (fun hwf => D.m 0 rfl (D.m 1 rfl (D.m 2 rfl (D.q 3 rfl (Pu.indexAddr (i) rfl Tryz.underlying24 sz65 rfl rfl (by omega) (by omega) (hblocks.some (by omega))) (D.q 4 rfl (Pu.indexArr' (0) rfl Tryz.underlying65 sz2 rfl rfl (by omega) (by omega) rfl (fun w hw => by have := Rd.some ((Ld.old hblocks) w hw) (by omega); simpa using this)) (D.q 5 rfl (Pu.load rfl pl2 rfl (Ld.part (k := i) (j := 0) (Ld.old hblocks) ei rfl rfl)) (D.m 6 rfl (D.m 7 rfl (D.q 8 rfl (Pu.indexAddr (i) rfl Tryz.underlying24 sz65 rfl rfl (by omega) (by omega) (hblocks.some (by omega))) (D.q 9 rfl (Pu.indexArr' (1) rfl Tryz.underlying65 sz2 rfl rfl (by omega) (by omega) rfl (fun w hw => by have := Rd.some ((Ld.old hblocks) w hw) (by omega); simpa using this)) (D.q 10 rfl (Pu.load rfl pl2 rfl (Ld.part (k := i) (j := 1) (Ld.old hblocks) ei rfl rfl)) ?_)))))))))))
  refine D.f hwf 11 rfl (Ef.callP call157 rfl rfl (fun w hw => l04PairI_ok _ _ w (by omega) (by omega))) ?_
  rintro _ _ ⟨rfl, rfl⟩ hs
  refine ⟨fun w hw => hw, (D.q 12 rfl (Pu.indexAddrS ((prI (((blocks[i]'ei).1)).toNat (((blocks[i]'ei).2.1)).toNat)) rfl Tryz.underlying142 sz4 rfl rfl (by omega) (by omega) (fun w hw => Own.some hw (i := 0) (by exact rfl) (by omega))) (D.effX (Hs' := []) hwf (e := 13) rfl rfl rfl rfl (Ef.storeOwn 0 ((prI (((blocks[i]'ei).1)).toNat (((blocks[i]'ei).2.1)).toNat)) true rfl sz4 rfl rfl rfl rfl (by omega) rfl) rfl [] rfl (List.forall_mem_nil _) ?_))⟩
  rintro _ _ rfl
  refine ⟨fun w hw => hw.sub (Sub.nil _), (D.done hwf rfl (X.next (V.seq ?_)))⟩
  have hs1 : (z.set (prI (blocks[i]'ei).1.toNat (blocks[i]'ei).2.1.toNat) true).length = 256 := by simp only [List.length_set]; omega
  refine V.draw mo (by kernel_rfl) (fun hwf => D.m 0 rfl (D.m 1 rfl (D.m 2 rfl (D.q 3 rfl (Pu.indexAddr (i) rfl Tryz.underlying24 sz65 rfl rfl (by omega) (by omega) (hblocks.some (by omega))) (D.q 4 rfl (Pu.indexArr' (0) rfl Tryz.underlying65 sz2 rfl rfl (by omega) (by omega) rfl (fun w hw => by have := Rd.some ((Ld.old hblocks) w hw) (by omega); simpa using this)) (D.q 5 rfl (Pu.load rfl pl2 rfl (Ld.part (k := i) (j := 0) (Ld.old hblocks) ei rfl rfl)) (D.m 6 rfl (D.m 7 rfl (D.q 8 rfl (Pu.indexAddr (i) rfl Tryz.underlying24 sz65 rfl rfl (by omega) (by omega) (hblocks.some (by omega))) (D.q 9 rfl (Pu.indexArr' (2) rfl Tryz.underlying65 sz2 rfl rfl (by omega) (by omega) rfl (fun w hw => by have := Rd.some ((Ld.old hblocks) w hw) (by omega); simpa using this)) (D.q 10 rfl (Pu.load rfl pl2 rfl (Ld.part (k := i) (j := 2) (Ld.old hblocks) ei rfl rfl)) ?_)))))))))))
  refine D.f hwf 11 rfl (Ef.callP call157 rfl rfl (fun w hw => l04PairI_ok _ _ w (by omega) (by omega))) ?_
  rintro _ _ ⟨rfl, rfl⟩ hs
  refine ⟨fun w hw => hw, (D.q 12 rfl (Pu.indexAddrS ((prI (((blocks[i]'ei).1)).toNat (((blocks[i]'ei).2.2)).toNat)) rfl Tryz.underlying142 sz4 rfl rfl (by omega) (by omega) (fun w hw => Own.some hw (i := 0) (by exact rfl) (by omega))) (D.effX (Hs' := []) hwf (e := 13) rfl rfl rfl rfl (Ef.storeOwn 0 ((prI (((blocks[i]'ei).1)).toNat (((blocks[i]'ei).2.2)).toNat)) true rfl sz4 rfl rfl rfl rfl (by omega) rfl) rfl [] rfl (List.forall_mem_nil _) ?_))⟩
  rintro _ _ rfl
  refine ⟨fun w hw => hw.sub (Sub.nil _), (D.done hwf rfl (X.next ?_))⟩
  have hs2 : ((z.set (prI (blocks[i]'ei).1.toNat (blocks[i]'ei).2.1.toNat) true).set (prI (blocks[i]'ei).1.toNat (blocks[i]'ei).2.2.toNat) true).length = 256 := by simp only [List.length_set]; omega
  refine V.draw mo (by kernel_rfl) (fun hwf => D.m 0 rfl (D.m 1 rfl (D.m 2 rfl (D.q 3 rfl (Pu.indexAddr (i) rfl Tryz.underlying24 sz65 rfl rfl (by omega) (by omega) (hblocks.some (by omega))) (D.q 4 rfl (Pu.indexArr' (1) rfl Tryz.underlying65 sz2 rfl rfl (by omega) (by omega) rfl (fun w hw => by have := Rd.some ((Ld.old hblocks) w hw) (by omega); simpa using this)) (D.q 5 rfl (Pu.load rfl pl2 rfl (Ld.part (k := i) (j := 1) (Ld.old hblocks) ei rfl rfl)) (D.m 6 rfl (D.m 7 rfl (D.q 8 rfl (Pu.indexAddr (i) rfl Tryz.underlying24 sz65 rfl rfl (by omega) (by omega) (hblocks.some (by omega))) (D.q 9 rfl (Pu.indexArr' (2) rfl Tryz.underlying65 sz2 rfl rfl (by omega) (by omega) rfl (fun w hw => by have := Rd.some ((Ld.old hblocks) w hw) (by omega); simpa using this)) (D.q 10 rfl (Pu.load rfl pl2 rfl (Ld.part (k := i) (j := 2) (Ld.old hblocks) ei rfl rfl)) ?_)))))))))))
  refine D.f hwf 11 rfl (Ef.callP call157 rfl rfl (fun w hw => l04PairI_ok _ _ w (by omega) (by omega))) ?_
  rintro _ _ ⟨rfl, rfl⟩ hs
  refine ⟨fun w hw => hw, (D.q 12 rfl (Pu.indexAddrS ((prI (((blocks[i]'ei).2.1)).toNat (((blocks[i]'ei).2.2)).toNat)) rfl Tryz.underlying142 sz4 rfl rfl (by omega) (by omega) (fun w hw => Own.some hw (i := 0) (by exact rfl) (by omega))) (D.effX (Hs' := []) hwf (e := 13) rfl rfl rfl rfl (Ef.storeOwn 0 ((prI (((blocks[i]'ei).2.1)).toNat (((blocks[i]'ei).2.2)).toNat)) true rfl sz4 rfl rfl rfl rfl (by omega) rfl) rfl [] rfl (List.forall_mem_nil _) ?_))⟩
  rintro _ _ rfl
  exact ⟨fun w hw => hw.sub (Sub.nil _), (D.done hwf rfl (X.blockNormal (X.next (V.region (O.m rfl (O.q rfl (Pu.add64 (r := ((i + 1 : Nat) : Int)) rfl (by omega) rfl rfl rfl) (O.m rfl (O.nil (X.back2 (i + 1, (((z.set ((prI (((blocks[i]'ei).1)).toNat (((blocks[i]'ei).2.1)).toNat)) true).set ((prI (((blocks[i]'ei).1)).toNat (((blocks[i]'ei).2.2)).toNat)) true).set ((prI (((blocks[i]'ei).2.1)).toNat (((blocks[i]'ei).2.2)).toNat)) true)) (by (try dsimp only); exact ⟨by omega, by rw [take_snoc ei, maskB_snoc]; exact relU_putI hr hin hv⟩) (by first | omega | (dsimp only; omega)) (Ent.cons rfl (Ent.nil _)) (Ent.cons (t := 0) rfl (Ent.cons (t := 3) rfl (Ent.nil _))) (Sub.k (Sub.nil _)))))))))))⟩
 ·refine V.exit (X.thenExit (X.thenExit (X.blockHit (X.next (V.seq (V.region (O.m rfl (O.m rfl (O.nil (X.next (V.ret ?_)))))))))))
  exact X.ret1 rfl rfl (fun w hw => St.mkExi A1 (St.mkExi 256 (St.mkExi z (St.unsep (St.addPur ⟨(by rw [hr.1]), by rw [List.take_of_length_le (by omega)] at hr; exact hr⟩ (hw.sub (Sub.k (Sub.nil _))))))))
set_option maxRecDepth 100000 in
set_option maxHeartbeats 1000000 in
theorem l08Run_ok (n : Nat) (v : Nat) (bs : List B3) (most : Nat) (keep : Bool) (A : Option Addr) (c : Nat) (w : World) (hx : Rd B3C w A bs) (lx : bs.length ≤ 4611686018427387904) (hv : v ≤ 15) (hb : ∀ d ∈ bs, inB v d) (hn : leftN v (maskB 0 bs) ≤ n) (hm0 : 0 < most) (hmm : most ≤ 1000000000) (hM : (runC (fun j => decide (j < most)) 0 (leaf [] (compM n v (maskB 0 bs)))).length ≤ 1000000) (hxs : n ≤ 1000) (lbs : bs.length ≤ 1000) : Does Tryz.prog 126 [.agg #[.int .i64 (v : Int), .slice A bs.length c], .int .i64 (most : Int), .bool keep] w [] (fun r => [.exi fun (sb : Nat) => .sep (.pur (r = .pointer (some ⟨sb, 0, none⟩))) (SrchK 145 4 24 65 sb v most keep (maskB 0 bs) (runC (fun j => decide (j < most)) 0 (leaf [] (compM n v (maskB 0 bs)))))]) := by
 refine Does.enter Tryz.func126 rfl rfl [(0, .agg #[.int .i64 (v : Int), .slice A bs.length c]), (1, .int .i64 (most : Int)), (2, .bool keep)] rfl (V.seq (V.region (O.f rfl (Ef.box rfl rfl rfl) ?_)))
 rintro _ _ ⟨b1, rfl, rfl⟩
 refine O.m rfl (O.nil (X.next (V.seq (V.draw mo (by kernel_rfl) (fun hwf => D.q 0 rfl (Pu.fieldAddr 0 rfl Tryz.underlying26 rfl sz2 rfl rfl) (D.q 1 rfl (Pu.load rfl pl2 rfl (Ld.blk 0 rfl rfl)) (D.q 2 rfl (Pu.fieldAddr 1 rfl Tryz.underlying26 rfl sz24 rfl rfl) (D.q 3 rfl (Pu.load rfl pl24 rfl (Ld.blk 0 rfl rfl)) (D.m 5 rfl (D.m 6 rfl (D.twoBC hwf (e1 := 7) (e2 := 4) rfl rfl rfl rfl rfl rfl rfl rfl rfl rfl rfl rfl rfl rfl rfl rfl rfl (fun H hs => Ef.build SlC ([] : List Sl) rfl Tryz.underlying143 inf24 rfl rfl rfl (by first | decide | (simp; done)) (by kernel_rfl)) (fun H hs => Ef.call1 call138 rfl rfl (fun w hw => l04Pairs_ok v bs _ _ w ((Ld.old hx) w (hs w hw)) (by first | omega | (simp only [tops_len, conts_len, bl, List.length_append, List.length_cons, List.length_nil] at *; omega)) hv hb)) ?_)))))))))))
 rintro A1 _ hA1
 refine D.exi (fun r1A => D.exi (fun r1c => D.exi (fun r1 => D.sep (D.pur1 ?_))))
 rintro ⟨rfl, hr1_1⟩
 refine D.q 8 rfl (Pu.buildS (cs := [.int .i64 (↑v : Int), .slice r1A r1.length r1c, .int .i64 (0 : Int), .int .i64 (↑most : Int), .bool keep, .slice A1 0 0]) rfl rfl Tryz.underlying145 zr145 (by kernel_rfl) rfl (by kernel_rfl)) (D.f hwf 9 rfl (Ef.box rfl rfl rfl) ?_)
 rintro _ _ ⟨b2, rfl, rfl⟩ hs
 refine ⟨fun w hw => hw.sub (Sub.keep 3 rfl (Sub.nil _)), (D.m 10 rfl (D.done hwf rfl (X.next (V.seq (V.map (fun w hw => SrchK.mk (T := 145) (uT := 4) (fT := 24) (bT := 65) (v := v) (most := most) (keep := keep) (m := maskB 0 bs) (l := []) (ps := []) hr1_1 (by cases keep <;> rfl) (fun p hp => by simp at hp) ((RowsA.nil (T := 65) (C := B3C) hw).sub (Sub.keep 1 rfl (Sub.keep 1 rfl (Sub.keep 1 rfl (Sub.k (Sub.k (Sub.nil _)))))))) (V.region (O.m rfl (O.f rfl (Ef.build B3C ([] : List B3) rfl Tryz.underlying24 inf65 rfl rfl rfl (by first | decide | (simp; done)) (by kernel_rfl)) ?_))))))))⟩
 rintro _ _ ⟨A2, hA2, rfl, rfl⟩
 refine O.f rfl (Ef.call call152 rfl rfl (Does.pre (fun w hw => hw.sub (Sub.keep 1 rfl (Sub.k (Sub.k (Sub.nil _))))) (l08Go_ok n  b2 v most keep (maskB 0 bs) ([]) ([] : List B3) _ _ w _ (Ld.own 0 (by exact rfl)) (by first | omega | (simp only [tops_len, conts_len, bl, List.length_append, List.length_cons, List.length_nil] at *; omega)) hA2 hv hn hm0 hmm (by simpa using hM) (by simp only [List.length_nil]; omega)))) ?_
 rintro _ _ rfl
 refine O.sep (O.pur ?_)
 rintro rfl
 exact O.nil (X.next (V.seq (V.region (O.m rfl (O.m rfl (O.nil (X.next (V.ret (X.ret1 rfl rfl (fun w hw => St.mkExi b2 (St.unsep (St.addPur rfl (hw.sub (Sub.k (Sub.nil _)))))))))))))))
set_option maxRecDepth 100000 in
set_option maxHeartbeats 1000000 in
theorem l01Made_ok (v_ : Int) (blocks : List B3) (blocksA : Option Addr) (blocksc : Nat) (w : World) (hblocks : Rd B3C w blocksA blocks) (lblocks : blocks.length ≤ 1099511627776) (lb : blocks.length ≤ 1000000) : Does Tryz.prog 71 [.int .i64 v_, .slice blocksA blocks.length blocksc] w [] (fun rv_ => [.exi fun (rA : Option Addr) => .exi fun (rc : Nat) => .exi fun (r : List B3) => .sep (.pur (rv_ = .agg #[.int .i64 v_, .slice rA r.length rc] ∧ r.Perm blocks ∧ SrtB r)) (Own 65 B3C rA rc r)]) := by
 refine Does.enter Tryz.func71 rfl rfl [(0, .int .i64 v_), (1, .slice blocksA blocks.length blocksc)] rfl (V.seq (V.region (O.f rfl (Ef.alloc rfl zr26 rfl) ?_)))
 rintro _ _ ⟨b1, rfl, rfl⟩
 refine O.nil (X.next (V.seq (V.region (O.m rfl (O.m rfl (O.f rfl (Ef.call1 call106 rfl rfl (fun w hw => l01Sort_ok  blocks _ _ w ((Ld.old hblocks) w hw) (by first | omega | (simp only [tops_len, conts_len, bl, List.length_append, List.length_cons, List.length_nil] at *; omega)) (by first | assumption | omega | (try dsimp only at *; omega)))) ?_))))))
 rintro _ _ rfl
 refine O.exi (fun r1A => O.exi (fun r1c => O.exi (fun r1 => O.sep (O.pur ?_))))
 rintro ⟨rfl, hr1_1, hr1_2⟩
 refine O.q rfl (Pu.buildS (cs := [.int .i64 v_, .slice r1A r1.length r1c]) rfl rfl Tryz.underlying26 zr26 (by kernel_rfl) rfl (by kernel_rfl)) (O.s rfl rfl (Ef.storeAll 1 rfl sz26 rfl rfl rfl rfl (by simp [Value.oneCell']) rfl) ?_)
 rintro _ _ rfl
 exact O.nil (X.next (V.ret (X.retCell rfl ag26 sz26 rfl rfl (Ld.whole 1 rfl) (fun w hw => St.mkExi r1A (St.mkExi r1c (St.mkExi r1 (St.unsep (St.addPur ⟨rfl, hr1_1, hr1_2⟩ (hw.sub (Sub.k (Sub.nil _)))))))))))
end Go.Proofs.YthlmfgmmbfbhhaaGreat
