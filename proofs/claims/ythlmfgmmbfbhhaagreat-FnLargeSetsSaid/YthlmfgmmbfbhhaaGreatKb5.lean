/-
  Contracts, part 5.
-/
import Derived.Test.YthlmfgmmbfbhhaaGreatKb4
set_option linter.unusedVariables false
set_option linter.unusedSimpArgs false
namespace Go.Proofs.YthlmfgmmbfbhhaaGreat
open Go Go.RowKit Go.Vc Go.Proofs
set_option maxRecDepth 100000 in
set_option maxHeartbeats 1000000 in
theorem l08All_ok (n : Nat) (v : Nat) (most : Nat) (A : Option Addr) (c : Nat) (w : World) (hAS : A.isSome = true) (hv : v ≤ 15) (hn : leftN v 0 ≤ n) (hm0 : 0 < most) (hmm : most ≤ 1000000000) (hM : (runC (fun j => decide (j < most)) 0 (leaf [] (compM n v 0))).length ≤ 1000000) (hxs : n ≤ 1000) : Does Tryz.prog 86 [.agg #[.int .i64 (v : Int), .slice A 0 c], .int .i64 (most : Int)] w [] (fun rv_ => [.exi fun (rA : Option Addr) => .exi fun (rc : Nat) => .exi fun (r : List (Sl × List B3)) => .sep (.pur (rv_ = .slice rA (tops r).length rc ∧ conts r = (runC (fun j => decide (j < most)) 0 (leaf [] (compM n v 0))))) (.sep (Own 26 (SyC (v:Int)) rA rc (tops r)) (RowsA 65 B3C r))]) := by
 refine Does.enter Tryz.func86 rfl rfl [(0, .agg #[.int .i64 (v : Int), .slice A 0 c]), (1, .int .i64 (most : Int))] rfl (V.seq (V.region (O.f rfl (Ef.box rfl rfl rfl) ?_)))
 rintro _ _ ⟨b1, rfl, rfl⟩
 refine O.m rfl (O.nil (X.next (V.seq (V.region (O.q rfl (Pu.loadAgg rfl ag26 sz26 rfl rfl (Ld.whole 0 rfl)) (O.m rfl (O.f rfl (Ef.call1 call126 rfl rfl (fun w hw => l08Run_ok n v ([]) most true _ _ w ((fun w hw => Rd.nil _ _ _) w hw) (by first | omega | (simp only [tops_len, conts_len, bl, List.length_append, List.length_cons, List.length_nil] at *; omega)) hv (by simp) hn hm0 hmm hM hxs (by decide))) ?_)))))))
 rintro _ _ rfl
 refine O.exi (fun sb1 => O.sep (O.pur ?_))
 rintro rfl
 refine O.srchK (fun uA1 uk1 U1 fA1 fk1 ps1 hrel1 hcon1 hsom1 => O.fact (RowsA.len 3 rfl) (fun hn_ps1 => ?_))
 have htl_ps1 := tops_len ps1
 have hul_U1 := hrel1.1
 refine O.m rfl (O.q rfl (Pu.fieldAddr 5 rfl Tryz.underlying145 rfl sz143 rfl rfl) (O.q rfl (Pu.load rfl pl143 rfl (Ld.blk 0 rfl rfl)) (O.f rfl (Ef.build (SyC (v : Int)) ([] : List Sl) rfl Tryz.underlying28 inf26 rfl rfl rfl (by first | decide | (simp; done)) (by kernel_rfl)) ?_)))
 rintro _ _ ⟨A1, hA1, rfl, rfl⟩
 refine O.m rfl (O.m rfl (O.nil (X.next (V.seq (V.seq ?_)))))
 have hL : conts ps1 = (runC (fun j => decide (j < most)) 0 (leaf [] (compM n v 0))) := hcon1
 have hcl := conts_len ps1
 have hsub : (runC (fun j => decide (j < most)) 0 (leaf [] (compM n v 0))).Sublist (compM n v 0) := runC_leaf_sub
 have hpw : (conts ps1).Pairwise befB := by rw [hL]; exact (comp_ascending n v 0 hv).sublist hsub
 have hsrt : ∀ q ∈ conts ps1, q.Pairwise B3.lt := fun q hq => comp_sorted n v 0 q hv (hsub.subset (by rw [← hL]; exact hq))
 have hlen : ∀ q ∈ conts ps1, 3 * q.length = leftN v 0 := fun q hq => comp_count n v 0 q hv (hsub.subset (by rw [← hL]; exact hq))
 have hpl : ps1.length ≤ 1000000 := by rw [← hcl, hL]; exact hM
 refine V.region (O.m rfl (O.nil (X.next (V.block (V.map (fun w hw => RowsA.nil (T := 65) (C := B3C) hw) (V.loop3 (β := (Option Addr) × Nat × (List (Sl × List B3)) × Nat) (fun x => [(6, .slice x.1 (tops x.2.2.1).length x.2.1), (7, .int .i64 (x.2.2.2 : Int))]) _ (fun x => [Own 26 (SyC (v:Int)) x.1 x.2.1 (tops x.2.2.1), RowsA 65 B3C x.2.2.1]) _ (fun x => x.2.2.2 ≤ ps1.length ∧ conts x.2.2.1 = (conts ps1).take x.2.2.2 ∧ x.1.isSome = true) (fun x => ps1.length - x.2.2.2) (A1, 0, [], 0) (by (try dsimp only); exact ⟨by omega, rfl, hA1⟩) (Ent.cons rfl (Ent.cons rfl (Ent.nil _))) (Ent.cons (t := 2) rfl (Ent.cons (t := 5) rfl (Ent.nil _))) (Sub.keep 1 rfl (Sub.k (Sub.k (Sub.k (Sub.k (Sub.k (Sub.k (Sub.nil _)))))))) ?_))))))
 rintro ⟨outA, outc, out, i⟩ ⟨hi, ho, hoS⟩
 dsimp only at hi ho hoS ⊢
 have hol : out.length = i := by have h := conts_len out; rw [ho, List.length_take] at h; omega
 have hlo : ∀ j (hj : j < out.length), 3 * (out[j]).2.length = leftN v 0 := fun j hj => hlen _ (by have h : (out[j]).2 ∈ conts out := List.mem_map_of_mem (List.getElem_mem hj); rw [ho] at h; exact List.mem_of_mem_take h)
 refine V.fact (RowsA.len 1 rfl) (fun hn_out => ?_)
 have htl_out := tops_len out
 refine V.seq (V.seq (V.region (O.m rfl (O.m rfl (O.q rfl (Pu.len rfl Tryz.underlying143 rfl) (O.q rfl (Pu.lss rfl rfl rfl) (O.nil (X.next (V.condD rfl (fun c1 => ?_) (fun c1 => ?_))))))))))
 ·refine V.skip (X.next (V.seq (V.block (V.seq ?_))))
  have ei : i < ps1.length := by omega
  have hil := hlen (ps1[i]).2 (List.mem_map_of_mem (List.getElem_mem ei))
  refine V.draw mo (by kernel_rfl) (fun hwf => D.q 0 rfl (Pu.fieldAddr 0 rfl Tryz.underlying26 rfl sz2 rfl rfl) (D.q 1 rfl (Pu.load rfl pl2 rfl (Ld.blk 6 rfl rfl)) (D.q 3 rfl (Pu.fieldAddr 1 rfl Tryz.underlying26 rfl sz24 rfl rfl) (D.q 4 rfl (Pu.load rfl pl24 rfl (Ld.blk 6 rfl rfl)) (D.m 6 rfl (D.m 7 rfl (D.q 8 rfl (Pu.indexAddrS (i) rfl Tryz.underlying143 sz24 rfl rfl (by omega) (by omega) (fun w hw => Own.some hw (i := 4) (by exact rfl) (by omega))) (D.q 9 rfl (Pu.load rfl pl24 rfl (Ld.row (Ld.own 4 (by exact rfl)) hn_ps1 ei rfl)) (D.either hwf (e1 := 2) (e2 := 12) rfl ?_ ?_)))))))))
  ·refine ⟨_, _, rfl, rfl, fun _ _ => wanted_none rfl _, Ef.build B3C ([] : List B3) rfl Tryz.underlying24 inf65 rfl rfl rfl (by first | decide | (simp; done)) (by kernel_rfl), rfl, rfl, ?_⟩
   rintro _ _ ⟨A2, hA2, rfl, rfl⟩ hs
   refine ⟨fun w hw => hw.sub (Sub.keep 1 rfl (Sub.keep 1 rfl (Sub.keep 1 rfl (Sub.keep 1 rfl (Sub.keep 1 rfl (Sub.keep 1 rfl (Sub.keep 1 rfl (Sub.nil _)))))))), (D.either hwf (e1 := 5) (e2 := 12) rfl ?_ ?_)⟩
   ·refine ⟨_, _, rfl, rfl, fun _ _ => wanted_none rfl _, Ef.append (xs := ([] : List B3)) (ys := ([] : List B3)) 0 rfl Tryz.underlying24 inf65 rfl rfl rfl rfl rfl rfl hAS (fun w hw => Rd.nil _ _ _) (by simp only [List.length_append, List.length_cons, List.length_nil] at *; omega) (by decide), rfl, rfl, ?_⟩
    rintro _ _ ⟨A3, k1, rfl, rfl, hA3⟩ hs
    replace hA3 := hA3 (.inl hA2)
    refine ⟨fun w hw => hw.sub (Sub.keep 1 rfl (Sub.keep 1 rfl (Sub.keep 1 rfl (Sub.keep 1 rfl (Sub.keep 1 rfl (Sub.keep 1 rfl (Sub.keep 1 rfl (Sub.nil _)))))))), (D.either hwf (e1 := 10) (e2 := 12) rfl ?_ ?_)⟩
    ·refine ⟨_, _, rfl, rfl, fun _ _ => wanted_none rfl _, Ef.append (xs := (([] : List B3) ++ ([] : List B3))) (ys := (ps1[i]'ei).2) 0 rfl Tryz.underlying24 inf65 rfl rfl rfl rfl rfl rfl (hsom1 _ (List.getElem_mem ei)) (Ld.rows 6 (by exact rfl) ei) (by simp only [List.length_append, List.length_cons, List.length_nil] at *; omega) (by decide), rfl, rfl, ?_⟩
     rintro _ _ ⟨A4, k2, rfl, rfl, hA4⟩ hs
     replace hA4 := hA4 (.inl hA3)
     refine ⟨fun w hw => hw.sub (Sub.keep 1 rfl (Sub.keep 1 rfl (Sub.keep 1 rfl (Sub.keep 1 rfl (Sub.keep 1 rfl (Sub.keep 1 rfl (Sub.keep 1 rfl (Sub.nil _)))))))), (D.either hwf (e1 := 11) (e2 := 12) rfl ?_ ?_)⟩
     ·refine ⟨_, _, rfl, rfl, fun _ _ => wanted_none rfl _, Ef.call1 call71 rfl rfl (fun w hw => l01Made_ok  (↑v : Int) ((([] : List B3) ++ ([] : List B3)) ++ (ps1[i]'ei).2) _ _ w ((Ld.own 0 (by exact rfl)) w hw) (by simp only [List.nil_append]; omega) (by simp only [List.nil_append]; omega)), rfl, rfl, ?_⟩
      rintro _ _ rfl hs
      refine ⟨fun w hw => hs w hw.tail, (D.exi (fun r1A => D.exi (fun r1c => D.exi (fun r1 => D.sep (D.pur1 ?_)))))⟩
      rintro ⟨rfl, hr1_1, hr1_2⟩
      have hre : r1 = (ps1[i]'ei).2 := srtB_unique hr1_2 (srtB_lt (hsrt _ (List.mem_map_of_mem (List.getElem_mem ei)))) (by simpa using hr1_1)
      have hrl : 3 * r1.length = leftN v 0 := by rw [hre]; exact hil
      refine D.f hwf 12 rfl (Ef.alloc rfl zr26 rfl) ?_
      rintro _ _ ⟨b2, rfl, rfl⟩ hs
      refine ⟨fun w hw => hw.sub (Sub.keep 3 rfl (Sub.keep 3 rfl (Sub.keep 3 rfl (Sub.keep 3 rfl (Sub.keep 3 rfl (Sub.keep 3 rfl (Sub.keep 3 rfl (Sub.nil _)))))))), (D.f hwf 13 rfl (Ef.storeAll 0 rfl sz26 rfl rfl rfl rfl (by simp [Value.oneCell']) rfl) ?_)⟩
      rintro _ _ rfl hs
      refine ⟨fun w hw => hw.sub (Sub.keep 3 rfl (Sub.keep 3 rfl (Sub.keep 3 rfl (Sub.keep 3 rfl (Sub.keep 3 rfl (Sub.keep 3 rfl (Sub.keep 3 rfl (Sub.nil _)))))))), (D.done hwf rfl (X.next (V.seq (V.region (O.m rfl (O.q rfl (Pu.len rfl Tryz.underlying28 rfl) (O.m rfl (O.nil (X.next (V.seq (V.block ?_)))))))))))⟩
      refine V.loop3 (β := Nat) (fun k => [(9, .int .i64 (k : Int))]) _ (fun k => []) _ (fun k => k = out.length) (fun k => k) ((tops out).length) htl_out (Ent.cons rfl (Ent.nil _)) (Ent.cons (t := 2) rfl (Ent.cons (t := 5) rfl (Ent.cons (t := 6) rfl (Ent.cons (t := 7) rfl (Ent.cons (t := 8) rfl (Ent.nil _)))))) (Sub.k (Sub.k (Sub.k (Sub.k (Sub.k (Sub.k (Sub.k (Sub.k (Sub.k (Sub.k (Sub.nil _))))))))))) ?_
      rintro k hk
      refine V.seq (V.seq (V.draw mo (by kernel_rfl) (fun hwf => D.m 0 rfl (D.q 1 rfl (Pu.gtr rfl rfl rfl) (D.m 2 rfl (D.splitD 40 rfl (fun c2 => ?_) (fun c2 => ?_)))))))
      ·have hk1 : k - 1 < out.length := by omega
       have hlk := hlo (k - 1) hk1
       refine D.gq 3 rfl (Pu.fieldAddr 1 rfl Tryz.underlying26 rfl sz24 rfl rfl) (D.gq 4 rfl (Pu.load rfl pl24 rfl (Ld.blk 0 rfl rfl)) (D.gm 5 rfl (D.gm 6 rfl (D.gq 7 rfl (Pu.sub64 (r := ((k - 1 : Nat) : Int)) (by omega) (by omega) rfl rfl rfl) (D.gq 8 rfl (Pu.indexAddrS (k - 1) rfl Tryz.underlying28 sz26 rfl rfl (by omega) (by omega) (fun w hw => Own.some hw (i := 3) (by exact rfl) (by omega))) (D.gq 9 rfl (Pu.fieldAddr' rfl Tryz.underlying26 rfl sz24 rfl rfl (fun w hw => by have := Rd.some ((Ld.own 3 (by exact rfl)) w hw) (by omega); simpa using this)) ?_))))))
       have e1 : k - 1 < out.length := by have := tops_len out; omega
       refine D.gq 10 rfl (Pu.load rfl pl24 rfl (Ld.rowYf (Ld.own 3 (by exact rfl)) hn_out e1 rfl)) (D.geff hwf (e := 11) rfl rfl rfl rfl rfl rfl (Ef.callP call127 rfl rfl (fun w hw => l08Before_ok  r1 ((out[k - 1]'e1).2) _ _ _ _ w ((Ld.own 1 (by exact rfl)) w hw) ((Ld.rows 4 (by exact rfl) e1) w hw) (by omega) (by omega) (by omega))) rfl rfl rfl ?_)
       rintro _ _ ⟨rfl, rfl⟩ hs
       refine ⟨fun w hw => hw, (D.m 12 rfl (D.done hwf rfl (X.next (V.condD rfl (fun c3 => ?_) (fun c3 => ?_)))))⟩
       ·exact (befB_asymm c3 (by rw [hre]; exact prev_bef hpw ho ei hk1 (by omega))).elim
       ·refine V.exit (X.thenExit (X.thenExit (X.blockHit (X.next (V.seq (V.draw mo (by kernel_rfl) (fun hwf => D.q 0 rfl (Pu.loadAgg rfl ag26 sz26 rfl rfl (Ld.whole 0 rfl)) (D.m 2 rfl (D.m 3 rfl (D.q 4 rfl (Pu.sliceL k rfl Tryz.underlying28 sz26 rfl rfl (by omega) (by omega)) (D.f hwf 1 rfl (Ef.build (SyC (↑v : Int)) ([⟨r1A, r1.length, r1c⟩] : List Sl) rfl Tryz.underlying28 inf26 rfl rfl rfl (by first | decide | (simp; done)) (by kernel_rfl)) ?_)))))))))))
        rintro _ _ ⟨A5, hA5, rfl, rfl⟩ hs
        refine ⟨fun w hw => hw.sub (Sub.keep 1 rfl (Sub.keep 1 rfl (Sub.keep 1 rfl (Sub.keep 1 rfl (Sub.keep 1 rfl (Sub.keep 1 rfl (Sub.keep 1 rfl (Sub.keep 1 rfl (Sub.keep 1 rfl (Sub.keep 1 rfl (Sub.nil _))))))))))), (D.f hwf 5 rfl (Ef.append (xs := ([⟨r1A, r1.length, r1c⟩] : List Sl)) (ys := ((tops out).drop k)) 0 rfl Tryz.underlying28 inf26 rfl rfl rfl rfl rfl (by first | (simp only [List.length_take, List.length_drop]; done) | (simp only [List.length_take, List.length_drop]; omega)) (by split <;> simp [hoS]) (fun w hw => ((Ld.own 4 (by exact rfl)) w hw).drop rfl (Own.cap hw (i := 4) (by exact rfl))) (by simp only [List.length_drop, List.length_take, List.length_append, List.length_cons, List.length_nil] at *; omega) (by decide)) ?_)⟩
        rintro _ _ ⟨A6, k3, rfl, rfl, hA6⟩ hs
        replace hA6 := hA6 (.inl hA5)
        refine ⟨fun w hw => hw.sub (Sub.keep 1 rfl (Sub.keep 1 rfl (Sub.keep 1 rfl (Sub.keep 1 rfl (Sub.keep 1 rfl (Sub.keep 1 rfl (Sub.keep 1 rfl (Sub.keep 1 rfl (Sub.keep 1 rfl (Sub.keep 1 rfl (Sub.nil _))))))))))), (D.m 6 rfl (D.done hwf rfl (X.next (V.fact (fun w hw => Own.cap hw (i := 4) rfl) (fun hcap => V.region (O.f rfl (Ef.build (SyC (v : Int)) ([] : List Sl) rfl Tryz.underlying28 inf26 rfl rfl rfl (by first | decide | (simp; done)) (by kernel_rfl)) ?_))))))⟩
        rintro _ _ ⟨A7, hA7, rfl, rfl⟩
        refine O.m rfl (O.m rfl (O.q rfl (Pu.sliceH k rfl Tryz.underlying28 sz26 rfl rfl (by omega) (by omega)) (O.f rfl (Ef.append (xs := ([] : List Sl)) (ys := ((tops out).take k)) 0 rfl Tryz.underlying28 inf26 rfl rfl rfl rfl rfl (by first | (simp only [List.length_take, List.length_drop]; done) | (simp only [List.length_take, List.length_drop]; omega)) hoS (fun w hw => ((Ld.own 5 (by exact rfl)) w hw).take k) (by simp only [List.length_drop, List.length_take, List.length_append, List.length_cons, List.length_nil] at *; omega) (by decide)) ?_)))
        rintro _ _ ⟨A8, k4, rfl, rfl, hA8⟩
        replace hA8 := hA8 (.inl hA7)
        refine O.m rfl (O.f rfl (Ef.append (xs := (([] : List Sl) ++ ((tops out).take k))) (ys := (([⟨r1A, r1.length, r1c⟩] : List Sl) ++ ((tops out).drop k))) 0 rfl Tryz.underlying28 inf26 rfl rfl rfl rfl rfl rfl hA6 (Ld.own 1 (by exact rfl)) (by simp only [List.length_drop, List.length_take, List.length_append, List.length_cons, List.length_nil] at *; omega) (by decide)) ?_)
        rintro _ _ ⟨A9, k5, rfl, rfl, hA9⟩
        replace hA9 := hA9 (.inl hA8)
        exact O.m rfl (O.nil (X.blockNormal (X.next (V.region (O.m rfl (O.q rfl (Pu.add64 (r := ((i + 1 : Nat) : Int)) rfl (by omega) rfl rfl rfl) (O.m rfl (O.nil (X.map (fun w hw => snoc_heap (D := SyC (v : Int)) (ps := out) (xs := r1) (B := r1A) (d := r1c) (hw.sub (Sub.cons 0 rfl (fun w F h => by rw [List.take_of_length_le (by omega), List.drop_of_length_le (by omega)] at h; exact h) (Sub.keep 5 rfl (Sub.keep 2 rfl (Sub.k (Sub.k (Sub.k (Sub.k (Sub.k (Sub.k (Sub.k (Sub.k (Sub.k (Sub.nil _))))))))))))))) (X.back3 (A9, k5, (out ++ [((⟨r1A, r1.length, r1c⟩ : Sl), r1)]), i + 1) (by (try dsimp only); exact ⟨by omega, by rw [conts_append, ho, take_snoc (by omega)]; simp [conts, hre], by assumption⟩) (by first | omega | (dsimp only; omega)) (Ent.cons' rfl (by simp [tops]; omega) (Ent.cons rfl (Ent.nil _))) (Ent.cons (t := 2) rfl (Ent.cons (t := 5) rfl (Ent.nil _))) (Sub.k (Sub.k (Sub.keep 4 rfl (Sub.keep 4 rfl (Sub.keep 4 rfl (Sub.keep 4 rfl (Sub.keep 4 rfl (Sub.nil _))))))))))))))))))
      ·refine D.g 3 rfl (D.g 4 rfl (D.g 5 rfl (D.g 6 rfl (D.g 7 rfl (D.g 8 rfl (D.g 9 rfl (D.g 10 rfl (D.g 11 rfl (D.m 12 rfl (D.done hwf rfl (X.next ?_)))))))))))
       refine V.condF rfl (V.exit (X.thenExit (X.thenExit (X.blockHit (X.next (V.seq (V.draw mo (by kernel_rfl) (fun hwf => D.q 0 rfl (Pu.loadAgg rfl ag26 sz26 rfl rfl (Ld.whole 0 rfl)) (D.m 2 rfl (D.m 3 rfl (D.q 4 rfl (Pu.sliceL k rfl Tryz.underlying28 sz26 rfl rfl (by omega) (by omega)) ?_)))))))))))
       refine D.f hwf 1 rfl (Ef.build (SyC (↑v : Int)) ([⟨r1A, r1.length, r1c⟩] : List Sl) rfl Tryz.underlying28 inf26 rfl rfl rfl (by first | decide | (simp; done)) (by kernel_rfl)) ?_
       rintro _ _ ⟨A10, hA10, rfl, rfl⟩ hs
       refine ⟨fun w hw => hw.sub (Sub.keep 1 rfl (Sub.keep 1 rfl (Sub.keep 1 rfl (Sub.keep 1 rfl (Sub.keep 1 rfl (Sub.keep 1 rfl (Sub.keep 1 rfl (Sub.keep 1 rfl (Sub.keep 1 rfl (Sub.keep 1 rfl (Sub.nil _))))))))))), (D.f hwf 5 rfl (Ef.append (xs := ([⟨r1A, r1.length, r1c⟩] : List Sl)) (ys := ((tops out).drop k)) 0 rfl Tryz.underlying28 inf26 rfl rfl rfl rfl rfl (by first | (simp only [List.length_take, List.length_drop]; done) | (simp only [List.length_take, List.length_drop]; omega)) (by split <;> simp [hoS]) (fun w hw => ((Ld.own 4 (by exact rfl)) w hw).drop rfl (Own.cap hw (i := 4) (by exact rfl))) (by simp only [List.length_drop, List.length_take, List.length_append, List.length_cons, List.length_nil] at *; omega) (by decide)) ?_)⟩
       rintro _ _ ⟨A11, k6, rfl, rfl, hA11⟩ hs
       replace hA11 := hA11 (.inl hA10)
       refine ⟨fun w hw => hw.sub (Sub.keep 1 rfl (Sub.keep 1 rfl (Sub.keep 1 rfl (Sub.keep 1 rfl (Sub.keep 1 rfl (Sub.keep 1 rfl (Sub.keep 1 rfl (Sub.keep 1 rfl (Sub.keep 1 rfl (Sub.keep 1 rfl (Sub.nil _))))))))))), (D.m 6 rfl (D.done hwf rfl (X.next (V.fact (fun w hw => Own.cap hw (i := 4) rfl) (fun hcap => V.region (O.f rfl (Ef.build (SyC (v : Int)) ([] : List Sl) rfl Tryz.underlying28 inf26 rfl rfl rfl (by first | decide | (simp; done)) (by kernel_rfl)) ?_))))))⟩
       rintro _ _ ⟨A12, hA12, rfl, rfl⟩
       refine O.m rfl (O.m rfl (O.q rfl (Pu.sliceH k rfl Tryz.underlying28 sz26 rfl rfl (by omega) (by omega)) (O.f rfl (Ef.append (xs := ([] : List Sl)) (ys := ((tops out).take k)) 0 rfl Tryz.underlying28 inf26 rfl rfl rfl rfl rfl (by first | (simp only [List.length_take, List.length_drop]; done) | (simp only [List.length_take, List.length_drop]; omega)) hoS (fun w hw => ((Ld.own 5 (by exact rfl)) w hw).take k) (by simp only [List.length_drop, List.length_take, List.length_append, List.length_cons, List.length_nil] at *; omega) (by decide)) ?_)))
       rintro _ _ ⟨A13, k7, rfl, rfl, hA13⟩
       replace hA13 := hA13 (.inl hA12)
       refine O.m rfl (O.f rfl (Ef.append (xs := (([] : List Sl) ++ ((tops out).take k))) (ys := (([⟨r1A, r1.length, r1c⟩] : List Sl) ++ ((tops out).drop k))) 0 rfl Tryz.underlying28 inf26 rfl rfl rfl rfl rfl rfl hA11 (Ld.own 1 (by exact rfl)) (by simp only [List.length_drop, List.length_take, List.length_append, List.length_cons, List.length_nil] at *; omega) (by decide)) ?_)
       rintro _ _ ⟨A14, k8, rfl, rfl, hA14⟩
       replace hA14 := hA14 (.inl hA13)
       exact O.m rfl (O.nil (X.blockNormal (X.next (V.region (O.m rfl (O.q rfl (Pu.add64 (r := ((i + 1 : Nat) : Int)) rfl (by omega) rfl rfl rfl) (O.m rfl (O.nil (X.map (fun w hw => snoc_heap (D := SyC (v : Int)) (ps := out) (xs := r1) (B := r1A) (d := r1c) (hw.sub (Sub.cons 0 rfl (fun w F h => by rw [List.take_of_length_le (by omega), List.drop_of_length_le (by omega)] at h; exact h) (Sub.keep 5 rfl (Sub.keep 2 rfl (Sub.k (Sub.k (Sub.k (Sub.k (Sub.k (Sub.k (Sub.k (Sub.k (Sub.k (Sub.nil _))))))))))))))) (X.back3 (A14, k8, (out ++ [((⟨r1A, r1.length, r1c⟩ : Sl), r1)]), i + 1) (by (try dsimp only); exact ⟨by omega, by rw [conts_append, ho, take_snoc (by omega)]; simp [conts, hre], by assumption⟩) (by first | omega | (dsimp only; omega)) (Ent.cons' rfl (by simp [tops]; omega) (Ent.cons rfl (Ent.nil _))) (Ent.cons (t := 2) rfl (Ent.cons (t := 5) rfl (Ent.nil _))) (Sub.k (Sub.k (Sub.keep 4 rfl (Sub.keep 4 rfl (Sub.keep 4 rfl (Sub.keep 4 rfl (Sub.keep 4 rfl (Sub.nil _))))))))))))))))))
     ·refine ⟨_, _, rfl, rfl, fun _ _ => wanted_none rfl _, Ef.alloc rfl zr26 rfl, rfl, rfl, ?_⟩
      rintro _ _ ⟨b2, rfl, rfl⟩ hs
      refine ⟨fun w hw => hw.sub (Sub.keep 2 rfl (Sub.keep 2 rfl (Sub.keep 2 rfl (Sub.keep 2 rfl (Sub.keep 2 rfl (Sub.keep 2 rfl (Sub.keep 2 rfl (Sub.nil _)))))))), (D.f hwf 11 rfl (Ef.call1 call71 rfl rfl (fun w hw => l01Made_ok  (↑v : Int) ((([] : List B3) ++ ([] : List B3)) ++ (ps1[i]'ei).2) _ _ w ((Ld.own 1 (by exact rfl)) w hw) (by simp only [List.nil_append]; omega) (by simp only [List.nil_append]; omega))) ?_)⟩
      rintro _ _ rfl hs
      refine ⟨fun w hw => hs w hw.tail, (D.exi (fun r1A => D.exi (fun r1c => D.exi (fun r1 => D.sep (D.pur1 ?_)))))⟩
      rintro ⟨rfl, hr1_1, hr1_2⟩
      have hre : r1 = (ps1[i]'ei).2 := srtB_unique hr1_2 (srtB_lt (hsrt _ (List.mem_map_of_mem (List.getElem_mem ei)))) (by simpa using hr1_1)
      have hrl : 3 * r1.length = leftN v 0 := by rw [hre]; exact hil
      refine D.f hwf 13 rfl (Ef.storeAll 1 rfl sz26 rfl rfl rfl rfl (by simp [Value.oneCell']) rfl) ?_
      rintro _ _ rfl hs
      refine ⟨fun w hw => hw.sub (Sub.keep 3 rfl (Sub.keep 3 rfl (Sub.keep 3 rfl (Sub.keep 3 rfl (Sub.keep 3 rfl (Sub.keep 3 rfl (Sub.keep 3 rfl (Sub.nil _)))))))), (D.done hwf rfl (X.next (V.seq (V.region (O.m rfl (O.q rfl (Pu.len rfl Tryz.underlying28 rfl) (O.m rfl (O.nil (X.next (V.seq (V.block ?_)))))))))))⟩
      refine V.loop3 (β := Nat) (fun k => [(9, .int .i64 (k : Int))]) _ (fun k => []) _ (fun k => k = out.length) (fun k => k) ((tops out).length) htl_out (Ent.cons rfl (Ent.nil _)) (Ent.cons (t := 2) rfl (Ent.cons (t := 5) rfl (Ent.cons (t := 6) rfl (Ent.cons (t := 7) rfl (Ent.cons (t := 8) rfl (Ent.nil _)))))) (Sub.k (Sub.k (Sub.k (Sub.k (Sub.k (Sub.k (Sub.k (Sub.k (Sub.k (Sub.k (Sub.nil _))))))))))) ?_
      rintro k hk
      refine V.seq (V.seq (V.draw mo (by kernel_rfl) (fun hwf => D.m 0 rfl (D.q 1 rfl (Pu.gtr rfl rfl rfl) (D.m 2 rfl (D.splitD 40 rfl (fun c2 => ?_) (fun c2 => ?_)))))))
      ·have hk1 : k - 1 < out.length := by omega
       have hlk := hlo (k - 1) hk1
       refine D.gq 3 rfl (Pu.fieldAddr 1 rfl Tryz.underlying26 rfl sz24 rfl rfl) (D.gq 4 rfl (Pu.load rfl pl24 rfl (Ld.blk 1 rfl rfl)) (D.gm 5 rfl (D.gm 6 rfl (D.gq 7 rfl (Pu.sub64 (r := ((k - 1 : Nat) : Int)) (by omega) (by omega) rfl rfl rfl) (D.gq 8 rfl (Pu.indexAddrS (k - 1) rfl Tryz.underlying28 sz26 rfl rfl (by omega) (by omega) (fun w hw => Own.some hw (i := 3) (by exact rfl) (by omega))) (D.gq 9 rfl (Pu.fieldAddr' rfl Tryz.underlying26 rfl sz24 rfl rfl (fun w hw => by have := Rd.some ((Ld.own 3 (by exact rfl)) w hw) (by omega); simpa using this)) ?_))))))
       have e1 : k - 1 < out.length := by have := tops_len out; omega
       refine D.gq 10 rfl (Pu.load rfl pl24 rfl (Ld.rowYf (Ld.own 3 (by exact rfl)) hn_out e1 rfl)) (D.geff hwf (e := 11) rfl rfl rfl rfl rfl rfl (Ef.callP call127 rfl rfl (fun w hw => l08Before_ok  r1 ((out[k - 1]'e1).2) _ _ _ _ w ((Ld.own 0 (by exact rfl)) w hw) ((Ld.rows 4 (by exact rfl) e1) w hw) (by omega) (by omega) (by omega))) rfl rfl rfl ?_)
       rintro _ _ ⟨rfl, rfl⟩ hs
       refine ⟨fun w hw => hw, (D.m 12 rfl (D.done hwf rfl (X.next (V.condD rfl (fun c3 => ?_) (fun c3 => ?_)))))⟩
       ·exact (befB_asymm c3 (by rw [hre]; exact prev_bef hpw ho ei hk1 (by omega))).elim
       ·refine V.exit (X.thenExit (X.thenExit (X.blockHit (X.next (V.seq (V.draw mo (by kernel_rfl) (fun hwf => D.q 0 rfl (Pu.loadAgg rfl ag26 sz26 rfl rfl (Ld.whole 1 rfl)) (D.m 2 rfl (D.m 3 rfl (D.q 4 rfl (Pu.sliceL k rfl Tryz.underlying28 sz26 rfl rfl (by omega) (by omega)) (D.f hwf 1 rfl (Ef.build (SyC (↑v : Int)) ([⟨r1A, r1.length, r1c⟩] : List Sl) rfl Tryz.underlying28 inf26 rfl rfl rfl (by first | decide | (simp; done)) (by kernel_rfl)) ?_)))))))))))
        rintro _ _ ⟨A5, hA5, rfl, rfl⟩ hs
        refine ⟨fun w hw => hw.sub (Sub.keep 1 rfl (Sub.keep 1 rfl (Sub.keep 1 rfl (Sub.keep 1 rfl (Sub.keep 1 rfl (Sub.keep 1 rfl (Sub.keep 1 rfl (Sub.keep 1 rfl (Sub.keep 1 rfl (Sub.keep 1 rfl (Sub.nil _))))))))))), (D.f hwf 5 rfl (Ef.append (xs := ([⟨r1A, r1.length, r1c⟩] : List Sl)) (ys := ((tops out).drop k)) 0 rfl Tryz.underlying28 inf26 rfl rfl rfl rfl rfl (by first | (simp only [List.length_take, List.length_drop]; done) | (simp only [List.length_take, List.length_drop]; omega)) (by split <;> simp [hoS]) (fun w hw => ((Ld.own 4 (by exact rfl)) w hw).drop rfl (Own.cap hw (i := 4) (by exact rfl))) (by simp only [List.length_drop, List.length_take, List.length_append, List.length_cons, List.length_nil] at *; omega) (by decide)) ?_)⟩
        rintro _ _ ⟨A6, k3, rfl, rfl, hA6⟩ hs
        replace hA6 := hA6 (.inl hA5)
        refine ⟨fun w hw => hw.sub (Sub.keep 1 rfl (Sub.keep 1 rfl (Sub.keep 1 rfl (Sub.keep 1 rfl (Sub.keep 1 rfl (Sub.keep 1 rfl (Sub.keep 1 rfl (Sub.keep 1 rfl (Sub.keep 1 rfl (Sub.keep 1 rfl (Sub.nil _))))))))))), (D.m 6 rfl (D.done hwf rfl (X.next (V.fact (fun w hw => Own.cap hw (i := 4) rfl) (fun hcap => V.region (O.f rfl (Ef.build (SyC (v : Int)) ([] : List Sl) rfl Tryz.underlying28 inf26 rfl rfl rfl (by first | decide | (simp; done)) (by kernel_rfl)) ?_))))))⟩
        rintro _ _ ⟨A7, hA7, rfl, rfl⟩
        refine O.m rfl (O.m rfl (O.q rfl (Pu.sliceH k rfl Tryz.underlying28 sz26 rfl rfl (by omega) (by omega)) (O.f rfl (Ef.append (xs := ([] : List Sl)) (ys := ((tops out).take k)) 0 rfl Tryz.underlying28 inf26 rfl rfl rfl rfl rfl (by first | (simp only [List.length_take, List.length_drop]; done) | (simp only [List.length_take, List.length_drop]; omega)) hoS (fun w hw => ((Ld.own 5 (by exact rfl)) w hw).take k) (by simp only [List.length_drop, List.length_take, List.length_append, List.length_cons, List.length_nil] at *; omega) (by decide)) ?_)))
        rintro _ _ ⟨A8, k4, rfl, rfl, hA8⟩
        replace hA8 := hA8 (.inl hA7)
        refine O.m rfl (O.f rfl (Ef.append (xs := (([] : List Sl) ++ ((tops out).take k))) (ys := (([⟨r1A, r1.length, r1c⟩] : List Sl) ++ ((tops out).drop k))) 0 rfl Tryz.underlying28 inf26 rfl rfl rfl rfl rfl rfl hA6 (Ld.own 1 (by exact rfl)) (by simp only [List.length_drop, List.length_take, List.length_append, List.length_cons, List.length_nil] at *; omega) (by decide)) ?_)
        rintro _ _ ⟨A9, k5, rfl, rfl, hA9⟩
        replace hA9 := hA9 (.inl hA8)
        exact O.m rfl (O.nil (X.blockNormal (X.next (V.region (O.m rfl (O.q rfl (Pu.add64 (r := ((i + 1 : Nat) : Int)) rfl (by omega) rfl rfl rfl) (O.m rfl (O.nil (X.map (fun w hw => snoc_heap (D := SyC (v : Int)) (ps := out) (xs := r1) (B := r1A) (d := r1c) (hw.sub (Sub.cons 0 rfl (fun w F h => by rw [List.take_of_length_le (by omega), List.drop_of_length_le (by omega)] at h; exact h) (Sub.keep 5 rfl (Sub.keep 1 rfl (Sub.k (Sub.k (Sub.k (Sub.k (Sub.k (Sub.k (Sub.k (Sub.k (Sub.k (Sub.nil _))))))))))))))) (X.back3 (A9, k5, (out ++ [((⟨r1A, r1.length, r1c⟩ : Sl), r1)]), i + 1) (by (try dsimp only); exact ⟨by omega, by rw [conts_append, ho, take_snoc (by omega)]; simp [conts, hre], by assumption⟩) (by first | omega | (dsimp only; omega)) (Ent.cons' rfl (by simp [tops]; omega) (Ent.cons rfl (Ent.nil _))) (Ent.cons (t := 2) rfl (Ent.cons (t := 5) rfl (Ent.nil _))) (Sub.k (Sub.k (Sub.keep 4 rfl (Sub.keep 4 rfl (Sub.keep 4 rfl (Sub.keep 4 rfl (Sub.keep 4 rfl (Sub.nil _))))))))))))))))))
      ·refine D.g 3 rfl (D.g 4 rfl (D.g 5 rfl (D.g 6 rfl (D.g 7 rfl (D.g 8 rfl (D.g 9 rfl (D.g 10 rfl (D.g 11 rfl (D.m 12 rfl (D.done hwf rfl (X.next ?_)))))))))))
       refine V.condF rfl (V.exit (X.thenExit (X.thenExit (X.blockHit (X.next (V.seq (V.draw mo (by kernel_rfl) (fun hwf => D.q 0 rfl (Pu.loadAgg rfl ag26 sz26 rfl rfl (Ld.whole 1 rfl)) (D.m 2 rfl (D.m 3 rfl (D.q 4 rfl (Pu.sliceL k rfl Tryz.underlying28 sz26 rfl rfl (by omega) (by omega)) ?_)))))))))))
       refine D.f hwf 1 rfl (Ef.build (SyC (↑v : Int)) ([⟨r1A, r1.length, r1c⟩] : List Sl) rfl Tryz.underlying28 inf26 rfl rfl rfl (by first | decide | (simp; done)) (by kernel_rfl)) ?_
       rintro _ _ ⟨A10, hA10, rfl, rfl⟩ hs
       refine ⟨fun w hw => hw.sub (Sub.keep 1 rfl (Sub.keep 1 rfl (Sub.keep 1 rfl (Sub.keep 1 rfl (Sub.keep 1 rfl (Sub.keep 1 rfl (Sub.keep 1 rfl (Sub.keep 1 rfl (Sub.keep 1 rfl (Sub.keep 1 rfl (Sub.nil _))))))))))), (D.f hwf 5 rfl (Ef.append (xs := ([⟨r1A, r1.length, r1c⟩] : List Sl)) (ys := ((tops out).drop k)) 0 rfl Tryz.underlying28 inf26 rfl rfl rfl rfl rfl (by first | (simp only [List.length_take, List.length_drop]; done) | (simp only [List.length_take, List.length_drop]; omega)) (by split <;> simp [hoS]) (fun w hw => ((Ld.own 4 (by exact rfl)) w hw).drop rfl (Own.cap hw (i := 4) (by exact rfl))) (by simp only [List.length_drop, List.length_take, List.length_append, List.length_cons, List.length_nil] at *; omega) (by decide)) ?_)⟩
       rintro _ _ ⟨A11, k6, rfl, rfl, hA11⟩ hs
       replace hA11 := hA11 (.inl hA10)
       refine ⟨fun w hw => hw.sub (Sub.keep 1 rfl (Sub.keep 1 rfl (Sub.keep 1 rfl (Sub.keep 1 rfl (Sub.keep 1 rfl (Sub.keep 1 rfl (Sub.keep 1 rfl (Sub.keep 1 rfl (Sub.keep 1 rfl (Sub.keep 1 rfl (Sub.nil _))))))))))), (D.m 6 rfl (D.done hwf rfl (X.next (V.fact (fun w hw => Own.cap hw (i := 4) rfl) (fun hcap => V.region (O.f rfl (Ef.build (SyC (v : Int)) ([] : List Sl) rfl Tryz.underlying28 inf26 rfl rfl rfl (by first | decide | (simp; done)) (by kernel_rfl)) ?_))))))⟩
       rintro _ _ ⟨A12, hA12, rfl, rfl⟩
       refine O.m rfl (O.m rfl (O.q rfl (Pu.sliceH k rfl Tryz.underlying28 sz26 rfl rfl (by omega) (by omega)) (O.f rfl (Ef.append (xs := ([] : List Sl)) (ys := ((tops out).take k)) 0 rfl Tryz.underlying28 inf26 rfl rfl rfl rfl rfl (by first | (simp only [List.length_take, List.length_drop]; done) | (simp only [List.length_take, List.length_drop]; omega)) hoS (fun w hw => ((Ld.own 5 (by exact rfl)) w hw).take k) (by simp only [List.length_drop, List.length_take, List.length_append, List.length_cons, List.length_nil] at *; omega) (by decide)) ?_)))
       rintro _ _ ⟨A13, k7, rfl, rfl, hA13⟩
       replace hA13 := hA13 (.inl hA12)
       refine O.m rfl (O.f rfl (Ef.append (xs := (([] : List Sl) ++ ((tops out).take k))) (ys := (([⟨r1A, r1.length, r1c⟩] : List Sl) ++ ((tops out).drop k))) 0 rfl Tryz.underlying28 inf26 rfl rfl rfl rfl rfl rfl hA11 (Ld.own 1 (by exact rfl)) (by simp only [List.length_drop, List.length_take, List.length_append, List.length_cons, List.length_nil] at *; omega) (by decide)) ?_)
       rintro _ _ ⟨A14, k8, rfl, rfl, hA14⟩
       replace hA14 := hA14 (.inl hA13)
       exact O.m rfl (O.nil (X.blockNormal (X.next (V.region (O.m rfl (O.q rfl (Pu.add64 (r := ((i + 1 : Nat) : Int)) rfl (by omega) rfl rfl rfl) (O.m rfl (O.nil (X.map (fun w hw => snoc_heap (D := SyC (v : Int)) (ps := out) (xs := r1) (B := r1A) (d := r1c) (hw.sub (Sub.cons 0 rfl (fun w F h => by rw [List.take_of_length_le (by omega), List.drop_of_length_le (by omega)] at h; exact h) (Sub.keep 5 rfl (Sub.keep 1 rfl (Sub.k (Sub.k (Sub.k (Sub.k (Sub.k (Sub.k (Sub.k (Sub.k (Sub.k (Sub.nil _))))))))))))))) (X.back3 (A14, k8, (out ++ [((⟨r1A, r1.length, r1c⟩ : Sl), r1)]), i + 1) (by (try dsimp only); exact ⟨by omega, by rw [conts_append, ho, take_snoc (by omega)]; simp [conts, hre], by assumption⟩) (by first | omega | (dsimp only; omega)) (Ent.cons' rfl (by simp [tops]; omega) (Ent.cons rfl (Ent.nil _))) (Ent.cons (t := 2) rfl (Ent.cons (t := 5) rfl (Ent.nil _))) (Sub.k (Sub.k (Sub.keep 4 rfl (Sub.keep 4 rfl (Sub.keep 4 rfl (Sub.keep 4 rfl (Sub.keep 4 rfl (Sub.nil _))))))))))))))))))
    ·refine ⟨_, _, rfl, rfl, fun _ _ => wanted_none rfl _, Ef.alloc rfl zr26 rfl, rfl, rfl, ?_⟩
     rintro _ _ ⟨b2, rfl, rfl⟩ hs
     refine ⟨fun w hw => hw.sub (Sub.keep 2 rfl (Sub.keep 2 rfl (Sub.keep 2 rfl (Sub.keep 2 rfl (Sub.keep 2 rfl (Sub.keep 2 rfl (Sub.keep 2 rfl (Sub.nil _)))))))), (D.f hwf 10 rfl (Ef.append (xs := (([] : List B3) ++ ([] : List B3))) (ys := (ps1[i]'ei).2) 1 rfl Tryz.underlying24 inf65 rfl rfl rfl rfl rfl rfl (hsom1 _ (List.getElem_mem ei)) (Ld.rows 7 (by exact rfl) ei) (by simp only [List.length_append, List.length_cons, List.length_nil] at *; omega) (by decide)) ?_)⟩
     rintro _ _ ⟨A4, k2, rfl, rfl, hA4⟩ hs
     replace hA4 := hA4 (.inl hA3)
     refine ⟨fun w hw => hw.sub (Sub.keep 2 rfl (Sub.keep 2 rfl (Sub.keep 2 rfl (Sub.keep 2 rfl (Sub.keep 2 rfl (Sub.keep 2 rfl (Sub.keep 2 rfl (Sub.nil _)))))))), (D.f hwf 11 rfl (Ef.call1 call71 rfl rfl (fun w hw => l01Made_ok  (↑v : Int) ((([] : List B3) ++ ([] : List B3)) ++ (ps1[i]'ei).2) _ _ w ((Ld.own 1 (by exact rfl)) w hw) (by simp only [List.nil_append]; omega) (by simp only [List.nil_append]; omega))) ?_)⟩
     rintro _ _ rfl hs
     refine ⟨fun w hw => hs w hw.tail, (D.exi (fun r1A => D.exi (fun r1c => D.exi (fun r1 => D.sep (D.pur1 ?_)))))⟩
     rintro ⟨rfl, hr1_1, hr1_2⟩
     have hre : r1 = (ps1[i]'ei).2 := srtB_unique hr1_2 (srtB_lt (hsrt _ (List.mem_map_of_mem (List.getElem_mem ei)))) (by simpa using hr1_1)
     have hrl : 3 * r1.length = leftN v 0 := by rw [hre]; exact hil
     refine D.f hwf 13 rfl (Ef.storeAll 1 rfl sz26 rfl rfl rfl rfl (by simp [Value.oneCell']) rfl) ?_
     rintro _ _ rfl hs
     refine ⟨fun w hw => hw.sub (Sub.keep 3 rfl (Sub.keep 3 rfl (Sub.keep 3 rfl (Sub.keep 3 rfl (Sub.keep 3 rfl (Sub.keep 3 rfl (Sub.keep 3 rfl (Sub.nil _)))))))), (D.done hwf rfl (X.next (V.seq (V.region (O.m rfl (O.q rfl (Pu.len rfl Tryz.underlying28 rfl) (O.m rfl (O.nil (X.next (V.seq (V.block ?_)))))))))))⟩
     refine V.loop3 (β := Nat) (fun k => [(9, .int .i64 (k : Int))]) _ (fun k => []) _ (fun k => k = out.length) (fun k => k) ((tops out).length) htl_out (Ent.cons rfl (Ent.nil _)) (Ent.cons (t := 2) rfl (Ent.cons (t := 5) rfl (Ent.cons (t := 6) rfl (Ent.cons (t := 7) rfl (Ent.cons (t := 8) rfl (Ent.nil _)))))) (Sub.k (Sub.k (Sub.k (Sub.k (Sub.k (Sub.k (Sub.k (Sub.k (Sub.k (Sub.k (Sub.nil _))))))))))) ?_
     rintro k hk
     refine V.seq (V.seq (V.draw mo (by kernel_rfl) (fun hwf => D.m 0 rfl (D.q 1 rfl (Pu.gtr rfl rfl rfl) (D.m 2 rfl (D.splitD 40 rfl (fun c2 => ?_) (fun c2 => ?_)))))))
     ·have hk1 : k - 1 < out.length := by omega
      have hlk := hlo (k - 1) hk1
      refine D.gq 3 rfl (Pu.fieldAddr 1 rfl Tryz.underlying26 rfl sz24 rfl rfl) (D.gq 4 rfl (Pu.load rfl pl24 rfl (Ld.blk 1 rfl rfl)) (D.gm 5 rfl (D.gm 6 rfl (D.gq 7 rfl (Pu.sub64 (r := ((k - 1 : Nat) : Int)) (by omega) (by omega) rfl rfl rfl) (D.gq 8 rfl (Pu.indexAddrS (k - 1) rfl Tryz.underlying28 sz26 rfl rfl (by omega) (by omega) (fun w hw => Own.some hw (i := 3) (by exact rfl) (by omega))) (D.gq 9 rfl (Pu.fieldAddr' rfl Tryz.underlying26 rfl sz24 rfl rfl (fun w hw => by have := Rd.some ((Ld.own 3 (by exact rfl)) w hw) (by omega); simpa using this)) ?_))))))
      have e1 : k - 1 < out.length := by have := tops_len out; omega
      refine D.gq 10 rfl (Pu.load rfl pl24 rfl (Ld.rowYf (Ld.own 3 (by exact rfl)) hn_out e1 rfl)) (D.geff hwf (e := 11) rfl rfl rfl rfl rfl rfl (Ef.callP call127 rfl rfl (fun w hw => l08Before_ok  r1 ((out[k - 1]'e1).2) _ _ _ _ w ((Ld.own 0 (by exact rfl)) w hw) ((Ld.rows 4 (by exact rfl) e1) w hw) (by omega) (by omega) (by omega))) rfl rfl rfl ?_)
      rintro _ _ ⟨rfl, rfl⟩ hs
      refine ⟨fun w hw => hw, (D.m 12 rfl (D.done hwf rfl (X.next (V.condD rfl (fun c3 => ?_) (fun c3 => ?_)))))⟩
      ·exact (befB_asymm c3 (by rw [hre]; exact prev_bef hpw ho ei hk1 (by omega))).elim
      ·refine V.exit (X.thenExit (X.thenExit (X.blockHit (X.next (V.seq (V.draw mo (by kernel_rfl) (fun hwf => D.q 0 rfl (Pu.loadAgg rfl ag26 sz26 rfl rfl (Ld.whole 1 rfl)) (D.m 2 rfl (D.m 3 rfl (D.q 4 rfl (Pu.sliceL k rfl Tryz.underlying28 sz26 rfl rfl (by omega) (by omega)) (D.f hwf 1 rfl (Ef.build (SyC (↑v : Int)) ([⟨r1A, r1.length, r1c⟩] : List Sl) rfl Tryz.underlying28 inf26 rfl rfl rfl (by first | decide | (simp; done)) (by kernel_rfl)) ?_)))))))))))
       rintro _ _ ⟨A5, hA5, rfl, rfl⟩ hs
       refine ⟨fun w hw => hw.sub (Sub.keep 1 rfl (Sub.keep 1 rfl (Sub.keep 1 rfl (Sub.keep 1 rfl (Sub.keep 1 rfl (Sub.keep 1 rfl (Sub.keep 1 rfl (Sub.keep 1 rfl (Sub.keep 1 rfl (Sub.keep 1 rfl (Sub.nil _))))))))))), (D.f hwf 5 rfl (Ef.append (xs := ([⟨r1A, r1.length, r1c⟩] : List Sl)) (ys := ((tops out).drop k)) 0 rfl Tryz.underlying28 inf26 rfl rfl rfl rfl rfl (by first | (simp only [List.length_take, List.length_drop]; done) | (simp only [List.length_take, List.length_drop]; omega)) (by split <;> simp [hoS]) (fun w hw => ((Ld.own 4 (by exact rfl)) w hw).drop rfl (Own.cap hw (i := 4) (by exact rfl))) (by simp only [List.length_drop, List.length_take, List.length_append, List.length_cons, List.length_nil] at *; omega) (by decide)) ?_)⟩
       rintro _ _ ⟨A6, k3, rfl, rfl, hA6⟩ hs
       replace hA6 := hA6 (.inl hA5)
       refine ⟨fun w hw => hw.sub (Sub.keep 1 rfl (Sub.keep 1 rfl (Sub.keep 1 rfl (Sub.keep 1 rfl (Sub.keep 1 rfl (Sub.keep 1 rfl (Sub.keep 1 rfl (Sub.keep 1 rfl (Sub.keep 1 rfl (Sub.keep 1 rfl (Sub.nil _))))))))))), (D.m 6 rfl (D.done hwf rfl (X.next (V.fact (fun w hw => Own.cap hw (i := 4) rfl) (fun hcap => V.region (O.f rfl (Ef.build (SyC (v : Int)) ([] : List Sl) rfl Tryz.underlying28 inf26 rfl rfl rfl (by first | decide | (simp; done)) (by kernel_rfl)) ?_))))))⟩
       rintro _ _ ⟨A7, hA7, rfl, rfl⟩
       refine O.m rfl (O.m rfl (O.q rfl (Pu.sliceH k rfl Tryz.underlying28 sz26 rfl rfl (by omega) (by omega)) (O.f rfl (Ef.append (xs := ([] : List Sl)) (ys := ((tops out).take k)) 0 rfl Tryz.underlying28 inf26 rfl rfl rfl rfl rfl (by first | (simp only [List.length_take, List.length_drop]; done) | (simp only [List.length_take, List.length_drop]; omega)) hoS (fun w hw => ((Ld.own 5 (by exact rfl)) w hw).take k) (by simp only [List.length_drop, List.length_take, List.length_append, List.length_cons, List.length_nil] at *; omega) (by decide)) ?_)))
       rintro _ _ ⟨A8, k4, rfl, rfl, hA8⟩
       replace hA8 := hA8 (.inl hA7)
       refine O.m rfl (O.f rfl (Ef.append (xs := (([] : List Sl) ++ ((tops out).take k))) (ys := (([⟨r1A, r1.length, r1c⟩] : List Sl) ++ ((tops out).drop k))) 0 rfl Tryz.underlying28 inf26 rfl rfl rfl rfl rfl rfl hA6 (Ld.own 1 (by exact rfl)) (by simp only [List.length_drop, List.length_take, List.length_append, List.length_cons, List.length_nil] at *; omega) (by decide)) ?_)
       rintro _ _ ⟨A9, k5, rfl, rfl, hA9⟩
       replace hA9 := hA9 (.inl hA8)
       exact O.m rfl (O.nil (X.blockNormal (X.next (V.region (O.m rfl (O.q rfl (Pu.add64 (r := ((i + 1 : Nat) : Int)) rfl (by omega) rfl rfl rfl) (O.m rfl (O.nil (X.map (fun w hw => snoc_heap (D := SyC (v : Int)) (ps := out) (xs := r1) (B := r1A) (d := r1c) (hw.sub (Sub.cons 0 rfl (fun w F h => by rw [List.take_of_length_le (by omega), List.drop_of_length_le (by omega)] at h; exact h) (Sub.keep 5 rfl (Sub.keep 1 rfl (Sub.k (Sub.k (Sub.k (Sub.k (Sub.k (Sub.k (Sub.k (Sub.k (Sub.k (Sub.nil _))))))))))))))) (X.back3 (A9, k5, (out ++ [((⟨r1A, r1.length, r1c⟩ : Sl), r1)]), i + 1) (by (try dsimp only); exact ⟨by omega, by rw [conts_append, ho, take_snoc (by omega)]; simp [conts, hre], by assumption⟩) (by first | omega | (dsimp only; omega)) (Ent.cons' rfl (by simp [tops]; omega) (Ent.cons rfl (Ent.nil _))) (Ent.cons (t := 2) rfl (Ent.cons (t := 5) rfl (Ent.nil _))) (Sub.k (Sub.k (Sub.keep 4 rfl (Sub.keep 4 rfl (Sub.keep 4 rfl (Sub.keep 4 rfl (Sub.keep 4 rfl (Sub.nil _))))))))))))))))))
     ·refine D.g 3 rfl (D.g 4 rfl (D.g 5 rfl (D.g 6 rfl (D.g 7 rfl (D.g 8 rfl (D.g 9 rfl (D.g 10 rfl (D.g 11 rfl (D.m 12 rfl (D.done hwf rfl (X.next ?_)))))))))))
      refine V.condF rfl (V.exit (X.thenExit (X.thenExit (X.blockHit (X.next (V.seq (V.draw mo (by kernel_rfl) (fun hwf => D.q 0 rfl (Pu.loadAgg rfl ag26 sz26 rfl rfl (Ld.whole 1 rfl)) (D.m 2 rfl (D.m 3 rfl (D.q 4 rfl (Pu.sliceL k rfl Tryz.underlying28 sz26 rfl rfl (by omega) (by omega)) ?_)))))))))))
      refine D.f hwf 1 rfl (Ef.build (SyC (↑v : Int)) ([⟨r1A, r1.length, r1c⟩] : List Sl) rfl Tryz.underlying28 inf26 rfl rfl rfl (by first | decide | (simp; done)) (by kernel_rfl)) ?_
      rintro _ _ ⟨A10, hA10, rfl, rfl⟩ hs
      refine ⟨fun w hw => hw.sub (Sub.keep 1 rfl (Sub.keep 1 rfl (Sub.keep 1 rfl (Sub.keep 1 rfl (Sub.keep 1 rfl (Sub.keep 1 rfl (Sub.keep 1 rfl (Sub.keep 1 rfl (Sub.keep 1 rfl (Sub.keep 1 rfl (Sub.nil _))))))))))), (D.f hwf 5 rfl (Ef.append (xs := ([⟨r1A, r1.length, r1c⟩] : List Sl)) (ys := ((tops out).drop k)) 0 rfl Tryz.underlying28 inf26 rfl rfl rfl rfl rfl (by first | (simp only [List.length_take, List.length_drop]; done) | (simp only [List.length_take, List.length_drop]; omega)) (by split <;> simp [hoS]) (fun w hw => ((Ld.own 4 (by exact rfl)) w hw).drop rfl (Own.cap hw (i := 4) (by exact rfl))) (by simp only [List.length_drop, List.length_take, List.length_append, List.length_cons, List.length_nil] at *; omega) (by decide)) ?_)⟩
      rintro _ _ ⟨A11, k6, rfl, rfl, hA11⟩ hs
      replace hA11 := hA11 (.inl hA10)
      refine ⟨fun w hw => hw.sub (Sub.keep 1 rfl (Sub.keep 1 rfl (Sub.keep 1 rfl (Sub.keep 1 rfl (Sub.keep 1 rfl (Sub.keep 1 rfl (Sub.keep 1 rfl (Sub.keep 1 rfl (Sub.keep 1 rfl (Sub.keep 1 rfl (Sub.nil _))))))))))), (D.m 6 rfl (D.done hwf rfl (X.next (V.fact (fun w hw => Own.cap hw (i := 4) rfl) (fun hcap => V.region (O.f rfl (Ef.build (SyC (v : Int)) ([] : List Sl) rfl Tryz.underlying28 inf26 rfl rfl rfl (by first | decide | (simp; done)) (by kernel_rfl)) ?_))))))⟩
      rintro _ _ ⟨A12, hA12, rfl, rfl⟩
      refine O.m rfl (O.m rfl (O.q rfl (Pu.sliceH k rfl Tryz.underlying28 sz26 rfl rfl (by omega) (by omega)) (O.f rfl (Ef.append (xs := ([] : List Sl)) (ys := ((tops out).take k)) 0 rfl Tryz.underlying28 inf26 rfl rfl rfl rfl rfl (by first | (simp only [List.length_take, List.length_drop]; done) | (simp only [List.length_take, List.length_drop]; omega)) hoS (fun w hw => ((Ld.own 5 (by exact rfl)) w hw).take k) (by simp only [List.length_drop, List.length_take, List.length_append, List.length_cons, List.length_nil] at *; omega) (by decide)) ?_)))
      rintro _ _ ⟨A13, k7, rfl, rfl, hA13⟩
      replace hA13 := hA13 (.inl hA12)
      refine O.m rfl (O.f rfl (Ef.append (xs := (([] : List Sl) ++ ((tops out).take k))) (ys := (([⟨r1A, r1.length, r1c⟩] : List Sl) ++ ((tops out).drop k))) 0 rfl Tryz.underlying28 inf26 rfl rfl rfl rfl rfl rfl hA11 (Ld.own 1 (by exact rfl)) (by simp only [List.length_drop, List.length_take, List.length_append, List.length_cons, List.length_nil] at *; omega) (by decide)) ?_)
      rintro _ _ ⟨A14, k8, rfl, rfl, hA14⟩
      replace hA14 := hA14 (.inl hA13)
      exact O.m rfl (O.nil (X.blockNormal (X.next (V.region (O.m rfl (O.q rfl (Pu.add64 (r := ((i + 1 : Nat) : Int)) rfl (by omega) rfl rfl rfl) (O.m rfl (O.nil (X.map (fun w hw => snoc_heap (D := SyC (v : Int)) (ps := out) (xs := r1) (B := r1A) (d := r1c) (hw.sub (Sub.cons 0 rfl (fun w F h => by rw [List.take_of_length_le (by omega), List.drop_of_length_le (by omega)] at h; exact h) (Sub.keep 5 rfl (Sub.keep 1 rfl (Sub.k (Sub.k (Sub.k (Sub.k (Sub.k (Sub.k (Sub.k (Sub.k (Sub.k (Sub.nil _))))))))))))))) (X.back3 (A14, k8, (out ++ [((⟨r1A, r1.length, r1c⟩ : Sl), r1)]), i + 1) (by (try dsimp only); exact ⟨by omega, by rw [conts_append, ho, take_snoc (by omega)]; simp [conts, hre], by assumption⟩) (by first | omega | (dsimp only; omega)) (Ent.cons' rfl (by simp [tops]; omega) (Ent.cons rfl (Ent.nil _))) (Ent.cons (t := 2) rfl (Ent.cons (t := 5) rfl (Ent.nil _))) (Sub.k (Sub.k (Sub.keep 4 rfl (Sub.keep 4 rfl (Sub.keep 4 rfl (Sub.keep 4 rfl (Sub.keep 4 rfl (Sub.nil _))))))))))))))))))
   ·refine ⟨_, _, rfl, rfl, fun _ _ => wanted_none rfl _, Ef.alloc rfl zr26 rfl, rfl, rfl, ?_⟩
    rintro _ _ ⟨b2, rfl, rfl⟩ hs
    refine ⟨fun w hw => hw.sub (Sub.keep 2 rfl (Sub.keep 2 rfl (Sub.keep 2 rfl (Sub.keep 2 rfl (Sub.keep 2 rfl (Sub.keep 2 rfl (Sub.keep 2 rfl (Sub.nil _)))))))), (D.f hwf 5 rfl (Ef.append (xs := ([] : List B3)) (ys := ([] : List B3)) 1 rfl Tryz.underlying24 inf65 rfl rfl rfl rfl rfl rfl hAS (fun w hw => Rd.nil _ _ _) (by simp only [List.length_append, List.length_cons, List.length_nil] at *; omega) (by decide)) ?_)⟩
    rintro _ _ ⟨A3, k1, rfl, rfl, hA3⟩ hs
    replace hA3 := hA3 (.inl hA2)
    refine ⟨fun w hw => hw.sub (Sub.keep 2 rfl (Sub.keep 2 rfl (Sub.keep 2 rfl (Sub.keep 2 rfl (Sub.keep 2 rfl (Sub.keep 2 rfl (Sub.keep 2 rfl (Sub.nil _)))))))), (D.f hwf 10 rfl (Ef.append (xs := (([] : List B3) ++ ([] : List B3))) (ys := (ps1[i]'ei).2) 1 rfl Tryz.underlying24 inf65 rfl rfl rfl rfl rfl rfl (hsom1 _ (List.getElem_mem ei)) (Ld.rows 7 (by exact rfl) ei) (by simp only [List.length_append, List.length_cons, List.length_nil] at *; omega) (by decide)) ?_)⟩
    rintro _ _ ⟨A4, k2, rfl, rfl, hA4⟩ hs
    replace hA4 := hA4 (.inl hA3)
    refine ⟨fun w hw => hw.sub (Sub.keep 2 rfl (Sub.keep 2 rfl (Sub.keep 2 rfl (Sub.keep 2 rfl (Sub.keep 2 rfl (Sub.keep 2 rfl (Sub.keep 2 rfl (Sub.nil _)))))))), (D.f hwf 11 rfl (Ef.call1 call71 rfl rfl (fun w hw => l01Made_ok  (↑v : Int) ((([] : List B3) ++ ([] : List B3)) ++ (ps1[i]'ei).2) _ _ w ((Ld.own 1 (by exact rfl)) w hw) (by simp only [List.nil_append]; omega) (by simp only [List.nil_append]; omega))) ?_)⟩
    rintro _ _ rfl hs
    refine ⟨fun w hw => hs w hw.tail, (D.exi (fun r1A => D.exi (fun r1c => D.exi (fun r1 => D.sep (D.pur1 ?_)))))⟩
    rintro ⟨rfl, hr1_1, hr1_2⟩
    have hre : r1 = (ps1[i]'ei).2 := srtB_unique hr1_2 (srtB_lt (hsrt _ (List.mem_map_of_mem (List.getElem_mem ei)))) (by simpa using hr1_1)
    have hrl : 3 * r1.length = leftN v 0 := by rw [hre]; exact hil
    refine D.f hwf 13 rfl (Ef.storeAll 1 rfl sz26 rfl rfl rfl rfl (by simp [Value.oneCell']) rfl) ?_
    rintro _ _ rfl hs
    refine ⟨fun w hw => hw.sub (Sub.keep 3 rfl (Sub.keep 3 rfl (Sub.keep 3 rfl (Sub.keep 3 rfl (Sub.keep 3 rfl (Sub.keep 3 rfl (Sub.keep 3 rfl (Sub.nil _)))))))), (D.done hwf rfl (X.next (V.seq (V.region (O.m rfl (O.q rfl (Pu.len rfl Tryz.underlying28 rfl) (O.m rfl (O.nil (X.next (V.seq (V.block ?_)))))))))))⟩
    refine V.loop3 (β := Nat) (fun k => [(9, .int .i64 (k : Int))]) _ (fun k => []) _ (fun k => k = out.length) (fun k => k) ((tops out).length) htl_out (Ent.cons rfl (Ent.nil _)) (Ent.cons (t := 2) rfl (Ent.cons (t := 5) rfl (Ent.cons (t := 6) rfl (Ent.cons (t := 7) rfl (Ent.cons (t := 8) rfl (Ent.nil _)))))) (Sub.k (Sub.k (Sub.k (Sub.k (Sub.k (Sub.k (Sub.k (Sub.k (Sub.k (Sub.k (Sub.nil _))))))))))) ?_
    rintro k hk
    refine V.seq (V.seq (V.draw mo (by kernel_rfl) (fun hwf => D.m 0 rfl (D.q 1 rfl (Pu.gtr rfl rfl rfl) (D.m 2 rfl (D.splitD 40 rfl (fun c2 => ?_) (fun c2 => ?_)))))))
    ·have hk1 : k - 1 < out.length := by omega
     have hlk := hlo (k - 1) hk1
     refine D.gq 3 rfl (Pu.fieldAddr 1 rfl Tryz.underlying26 rfl sz24 rfl rfl) (D.gq 4 rfl (Pu.load rfl pl24 rfl (Ld.blk 1 rfl rfl)) (D.gm 5 rfl (D.gm 6 rfl (D.gq 7 rfl (Pu.sub64 (r := ((k - 1 : Nat) : Int)) (by omega) (by omega) rfl rfl rfl) (D.gq 8 rfl (Pu.indexAddrS (k - 1) rfl Tryz.underlying28 sz26 rfl rfl (by omega) (by omega) (fun w hw => Own.some hw (i := 3) (by exact rfl) (by omega))) (D.gq 9 rfl (Pu.fieldAddr' rfl Tryz.underlying26 rfl sz24 rfl rfl (fun w hw => by have := Rd.some ((Ld.own 3 (by exact rfl)) w hw) (by omega); simpa using this)) ?_))))))
     have e1 : k - 1 < out.length := by have := tops_len out; omega
     refine D.gq 10 rfl (Pu.load rfl pl24 rfl (Ld.rowYf (Ld.own 3 (by exact rfl)) hn_out e1 rfl)) (D.geff hwf (e := 11) rfl rfl rfl rfl rfl rfl (Ef.callP call127 rfl rfl (fun w hw => l08Before_ok  r1 ((out[k - 1]'e1).2) _ _ _ _ w ((Ld.own 0 (by exact rfl)) w hw) ((Ld.rows 4 (by exact rfl) e1) w hw) (by omega) (by omega) (by omega))) rfl rfl rfl ?_)
     rintro _ _ ⟨rfl, rfl⟩ hs
     refine ⟨fun w hw => hw, (D.m 12 rfl (D.done hwf rfl (X.next (V.condD rfl (fun c3 => ?_) (fun c3 => ?_)))))⟩
     ·exact (befB_asymm c3 (by rw [hre]; exact prev_bef hpw ho ei hk1 (by omega))).elim
     ·refine V.exit (X.thenExit (X.thenExit (X.blockHit (X.next (V.seq (V.draw mo (by kernel_rfl) (fun hwf => D.q 0 rfl (Pu.loadAgg rfl ag26 sz26 rfl rfl (Ld.whole 1 rfl)) (D.m 2 rfl (D.m 3 rfl (D.q 4 rfl (Pu.sliceL k rfl Tryz.underlying28 sz26 rfl rfl (by omega) (by omega)) (D.f hwf 1 rfl (Ef.build (SyC (↑v : Int)) ([⟨r1A, r1.length, r1c⟩] : List Sl) rfl Tryz.underlying28 inf26 rfl rfl rfl (by first | decide | (simp; done)) (by kernel_rfl)) ?_)))))))))))
      rintro _ _ ⟨A5, hA5, rfl, rfl⟩ hs
      refine ⟨fun w hw => hw.sub (Sub.keep 1 rfl (Sub.keep 1 rfl (Sub.keep 1 rfl (Sub.keep 1 rfl (Sub.keep 1 rfl (Sub.keep 1 rfl (Sub.keep 1 rfl (Sub.keep 1 rfl (Sub.keep 1 rfl (Sub.keep 1 rfl (Sub.nil _))))))))))), (D.f hwf 5 rfl (Ef.append (xs := ([⟨r1A, r1.length, r1c⟩] : List Sl)) (ys := ((tops out).drop k)) 0 rfl Tryz.underlying28 inf26 rfl rfl rfl rfl rfl (by first | (simp only [List.length_take, List.length_drop]; done) | (simp only [List.length_take, List.length_drop]; omega)) (by split <;> simp [hoS]) (fun w hw => ((Ld.own 4 (by exact rfl)) w hw).drop rfl (Own.cap hw (i := 4) (by exact rfl))) (by simp only [List.length_drop, List.length_take, List.length_append, List.length_cons, List.length_nil] at *; omega) (by decide)) ?_)⟩
      rintro _ _ ⟨A6, k3, rfl, rfl, hA6⟩ hs
      replace hA6 := hA6 (.inl hA5)
      refine ⟨fun w hw => hw.sub (Sub.keep 1 rfl (Sub.keep 1 rfl (Sub.keep 1 rfl (Sub.keep 1 rfl (Sub.keep 1 rfl (Sub.keep 1 rfl (Sub.keep 1 rfl (Sub.keep 1 rfl (Sub.keep 1 rfl (Sub.keep 1 rfl (Sub.nil _))))))))))), (D.m 6 rfl (D.done hwf rfl (X.next (V.fact (fun w hw => Own.cap hw (i := 4) rfl) (fun hcap => V.region (O.f rfl (Ef.build (SyC (v : Int)) ([] : List Sl) rfl Tryz.underlying28 inf26 rfl rfl rfl (by first | decide | (simp; done)) (by kernel_rfl)) ?_))))))⟩
      rintro _ _ ⟨A7, hA7, rfl, rfl⟩
      refine O.m rfl (O.m rfl (O.q rfl (Pu.sliceH k rfl Tryz.underlying28 sz26 rfl rfl (by omega) (by omega)) (O.f rfl (Ef.append (xs := ([] : List Sl)) (ys := ((tops out).take k)) 0 rfl Tryz.underlying28 inf26 rfl rfl rfl rfl rfl (by first | (simp only [List.length_take, List.length_drop]; done) | (simp only [List.length_take, List.length_drop]; omega)) hoS (fun w hw => ((Ld.own 5 (by exact rfl)) w hw).take k) (by simp only [List.length_drop, List.length_take, List.length_append, List.length_cons, List.length_nil] at *; omega) (by decide)) ?_)))
      rintro _ _ ⟨A8, k4, rfl, rfl, hA8⟩
      replace hA8 := hA8 (.inl hA7)
      refine O.m rfl (O.f rfl (Ef.append (xs := (([] : List Sl) ++ ((tops out).take k))) (ys := (([⟨r1A, r1.length, r1c⟩] : List Sl) ++ ((tops out).drop k))) 0 rfl Tryz.underlying28 inf26 rfl rfl rfl rfl rfl rfl hA6 (Ld.own 1 (by exact rfl)) (by simp only [List.length_drop, List.length_take, List.length_append, List.length_cons, List.length_nil] at *; omega) (by decide)) ?_)
      rintro _ _ ⟨A9, k5, rfl, rfl, hA9⟩
      replace hA9 := hA9 (.inl hA8)
      exact O.m rfl (O.nil (X.blockNormal (X.next (V.region (O.m rfl (O.q rfl (Pu.add64 (r := ((i + 1 : Nat) : Int)) rfl (by omega) rfl rfl rfl) (O.m rfl (O.nil (X.map (fun w hw => snoc_heap (D := SyC (v : Int)) (ps := out) (xs := r1) (B := r1A) (d := r1c) (hw.sub (Sub.cons 0 rfl (fun w F h => by rw [List.take_of_length_le (by omega), List.drop_of_length_le (by omega)] at h; exact h) (Sub.keep 5 rfl (Sub.keep 1 rfl (Sub.k (Sub.k (Sub.k (Sub.k (Sub.k (Sub.k (Sub.k (Sub.k (Sub.k (Sub.nil _))))))))))))))) (X.back3 (A9, k5, (out ++ [((⟨r1A, r1.length, r1c⟩ : Sl), r1)]), i + 1) (by (try dsimp only); exact ⟨by omega, by rw [conts_append, ho, take_snoc (by omega)]; simp [conts, hre], by assumption⟩) (by first | omega | (dsimp only; omega)) (Ent.cons' rfl (by simp [tops]; omega) (Ent.cons rfl (Ent.nil _))) (Ent.cons (t := 2) rfl (Ent.cons (t := 5) rfl (Ent.nil _))) (Sub.k (Sub.k (Sub.keep 4 rfl (Sub.keep 4 rfl (Sub.keep 4 rfl (Sub.keep 4 rfl (Sub.keep 4 rfl (Sub.nil _))))))))))))))))))
    ·refine D.g 3 rfl (D.g 4 rfl (D.g 5 rfl (D.g 6 rfl (D.g 7 rfl (D.g 8 rfl (D.g 9 rfl (D.g 10 rfl (D.g 11 rfl (D.m 12 rfl (D.done hwf rfl (X.next ?_)))))))))))
     refine V.condF rfl (V.exit (X.thenExit (X.thenExit (X.blockHit (X.next (V.seq (V.draw mo (by kernel_rfl) (fun hwf => D.q 0 rfl (Pu.loadAgg rfl ag26 sz26 rfl rfl (Ld.whole 1 rfl)) (D.m 2 rfl (D.m 3 rfl (D.q 4 rfl (Pu.sliceL k rfl Tryz.underlying28 sz26 rfl rfl (by omega) (by omega)) ?_)))))))))))
     refine D.f hwf 1 rfl (Ef.build (SyC (↑v : Int)) ([⟨r1A, r1.length, r1c⟩] : List Sl) rfl Tryz.underlying28 inf26 rfl rfl rfl (by first | decide | (simp; done)) (by kernel_rfl)) ?_
     rintro _ _ ⟨A10, hA10, rfl, rfl⟩ hs
     refine ⟨fun w hw => hw.sub (Sub.keep 1 rfl (Sub.keep 1 rfl (Sub.keep 1 rfl (Sub.keep 1 rfl (Sub.keep 1 rfl (Sub.keep 1 rfl (Sub.keep 1 rfl (Sub.keep 1 rfl (Sub.keep 1 rfl (Sub.keep 1 rfl (Sub.nil _))))))))))), (D.f hwf 5 rfl (Ef.append (xs := ([⟨r1A, r1.length, r1c⟩] : List Sl)) (ys := ((tops out).drop k)) 0 rfl Tryz.underlying28 inf26 rfl rfl rfl rfl rfl (by first | (simp only [List.length_take, List.length_drop]; done) | (simp only [List.length_take, List.length_drop]; omega)) (by split <;> simp [hoS]) (fun w hw => ((Ld.own 4 (by exact rfl)) w hw).drop rfl (Own.cap hw (i := 4) (by exact rfl))) (by simp only [List.length_drop, List.length_take, List.length_append, List.length_cons, List.length_nil] at *; omega) (by decide)) ?_)⟩
     rintro _ _ ⟨A11, k6, rfl, rfl, hA11⟩ hs
     replace hA11 := hA11 (.inl hA10)
     refine ⟨fun w hw => hw.sub (Sub.keep 1 rfl (Sub.keep 1 rfl (Sub.keep 1 rfl (Sub.keep 1 rfl (Sub.keep 1 rfl (Sub.keep 1 rfl (Sub.keep 1 rfl (Sub.keep 1 rfl (Sub.keep 1 rfl (Sub.keep 1 rfl (Sub.nil _))))))))))), (D.m 6 rfl (D.done hwf rfl (X.next (V.fact (fun w hw => Own.cap hw (i := 4) rfl) (fun hcap => V.region (O.f rfl (Ef.build (SyC (v : Int)) ([] : List Sl) rfl Tryz.underlying28 inf26 rfl rfl rfl (by first | decide | (simp; done)) (by kernel_rfl)) ?_))))))⟩
     rintro _ _ ⟨A12, hA12, rfl, rfl⟩
     refine O.m rfl (O.m rfl (O.q rfl (Pu.sliceH k rfl Tryz.underlying28 sz26 rfl rfl (by omega) (by omega)) (O.f rfl (Ef.append (xs := ([] : List Sl)) (ys := ((tops out).take k)) 0 rfl Tryz.underlying28 inf26 rfl rfl rfl rfl rfl (by first | (simp only [List.length_take, List.length_drop]; done) | (simp only [List.length_take, List.length_drop]; omega)) hoS (fun w hw => ((Ld.own 5 (by exact rfl)) w hw).take k) (by simp only [List.length_drop, List.length_take, List.length_append, List.length_cons, List.length_nil] at *; omega) (by decide)) ?_)))
     rintro _ _ ⟨A13, k7, rfl, rfl, hA13⟩
     replace hA13 := hA13 (.inl hA12)
     refine O.m rfl (O.f rfl (Ef.append (xs := (([] : List Sl) ++ ((tops out).take k))) (ys := (([⟨r1A, r1.length, r1c⟩] : List Sl) ++ ((tops out).drop k))) 0 rfl Tryz.underlying28 inf26 rfl rfl rfl rfl rfl rfl hA11 (Ld.own 1 (by exact rfl)) (by simp only [List.length_drop, List.length_take, List.length_append, List.length_cons, List.length_nil] at *; omega) (by decide)) ?_)
     rintro _ _ ⟨A14, k8, rfl, rfl, hA14⟩
     replace hA14 := hA14 (.inl hA13)
     exact O.m rfl (O.nil (X.blockNormal (X.next (V.region (O.m rfl (O.q rfl (Pu.add64 (r := ((i + 1 : Nat) : Int)) rfl (by omega) rfl rfl rfl) (O.m rfl (O.nil (X.map (fun w hw => snoc_heap (D := SyC (v : Int)) (ps := out) (xs := r1) (B := r1A) (d := r1c) (hw.sub (Sub.cons 0 rfl (fun w F h => by rw [List.take_of_length_le (by omega), List.drop_of_length_le (by omega)] at h; exact h) (Sub.keep 5 rfl (Sub.keep 1 rfl (Sub.k (Sub.k (Sub.k (Sub.k (Sub.k (Sub.k (Sub.k (Sub.k (Sub.k (Sub.nil _))))))))))))))) (X.back3 (A14, k8, (out ++ [((⟨r1A, r1.length, r1c⟩ : Sl), r1)]), i + 1) (by (try dsimp only); exact ⟨by omega, by rw [conts_append, ho, take_snoc (by omega)]; simp [conts, hre], by assumption⟩) (by first | omega | (dsimp only; omega)) (Ent.cons' rfl (by simp [tops]; omega) (Ent.cons rfl (Ent.nil _))) (Ent.cons (t := 2) rfl (Ent.cons (t := 5) rfl (Ent.nil _))) (Sub.k (Sub.k (Sub.keep 4 rfl (Sub.keep 4 rfl (Sub.keep 4 rfl (Sub.keep 4 rfl (Sub.keep 4 rfl (Sub.nil _))))))))))))))))))
  ·refine ⟨_, _, rfl, rfl, fun _ _ => wanted_none rfl _, Ef.alloc rfl zr26 rfl, rfl, rfl, ?_⟩
   rintro _ _ ⟨b2, rfl, rfl⟩ hs
   refine ⟨fun w hw => hw.sub (Sub.keep 1 rfl (Sub.keep 1 rfl (Sub.keep 1 rfl (Sub.keep 1 rfl (Sub.keep 1 rfl (Sub.keep 1 rfl (Sub.keep 1 rfl (Sub.nil _)))))))), (D.f hwf 2 rfl (Ef.build B3C ([] : List B3) rfl Tryz.underlying24 inf65 rfl rfl rfl (by first | decide | (simp; done)) (by kernel_rfl)) ?_)⟩
   rintro _ _ ⟨A2, hA2, rfl, rfl⟩ hs
   refine ⟨fun w hw => hw.sub (Sub.keep 2 rfl (Sub.keep 2 rfl (Sub.keep 2 rfl (Sub.keep 2 rfl (Sub.keep 2 rfl (Sub.keep 2 rfl (Sub.keep 2 rfl (Sub.nil _)))))))), (D.f hwf 5 rfl (Ef.append (xs := ([] : List B3)) (ys := ([] : List B3)) 0 rfl Tryz.underlying24 inf65 rfl rfl rfl rfl rfl rfl hAS (fun w hw => Rd.nil _ _ _) (by simp only [List.length_append, List.length_cons, List.length_nil] at *; omega) (by decide)) ?_)⟩
   rintro _ _ ⟨A3, k1, rfl, rfl, hA3⟩ hs
   replace hA3 := hA3 (.inl hA2)
   refine ⟨fun w hw => hw.sub (Sub.keep 2 rfl (Sub.keep 2 rfl (Sub.keep 2 rfl (Sub.keep 2 rfl (Sub.keep 2 rfl (Sub.keep 2 rfl (Sub.keep 2 rfl (Sub.nil _)))))))), (D.f hwf 10 rfl (Ef.append (xs := (([] : List B3) ++ ([] : List B3))) (ys := (ps1[i]'ei).2) 0 rfl Tryz.underlying24 inf65 rfl rfl rfl rfl rfl rfl (hsom1 _ (List.getElem_mem ei)) (Ld.rows 7 (by exact rfl) ei) (by simp only [List.length_append, List.length_cons, List.length_nil] at *; omega) (by decide)) ?_)⟩
   rintro _ _ ⟨A4, k2, rfl, rfl, hA4⟩ hs
   replace hA4 := hA4 (.inl hA3)
   refine ⟨fun w hw => hw.sub (Sub.keep 2 rfl (Sub.keep 2 rfl (Sub.keep 2 rfl (Sub.keep 2 rfl (Sub.keep 2 rfl (Sub.keep 2 rfl (Sub.keep 2 rfl (Sub.nil _)))))))), (D.f hwf 11 rfl (Ef.call1 call71 rfl rfl (fun w hw => l01Made_ok  (↑v : Int) ((([] : List B3) ++ ([] : List B3)) ++ (ps1[i]'ei).2) _ _ w ((Ld.own 0 (by exact rfl)) w hw) (by simp only [List.nil_append]; omega) (by simp only [List.nil_append]; omega))) ?_)⟩
   rintro _ _ rfl hs
   refine ⟨fun w hw => hs w hw.tail, (D.exi (fun r1A => D.exi (fun r1c => D.exi (fun r1 => D.sep (D.pur1 ?_)))))⟩
   rintro ⟨rfl, hr1_1, hr1_2⟩
   have hre : r1 = (ps1[i]'ei).2 := srtB_unique hr1_2 (srtB_lt (hsrt _ (List.mem_map_of_mem (List.getElem_mem ei)))) (by simpa using hr1_1)
   have hrl : 3 * r1.length = leftN v 0 := by rw [hre]; exact hil
   refine D.f hwf 13 rfl (Ef.storeAll 2 rfl sz26 rfl rfl rfl rfl (by simp [Value.oneCell']) rfl) ?_
   rintro _ _ rfl hs
   refine ⟨fun w hw => hw.sub (Sub.keep 3 rfl (Sub.keep 3 rfl (Sub.keep 3 rfl (Sub.keep 3 rfl (Sub.keep 3 rfl (Sub.keep 3 rfl (Sub.keep 3 rfl (Sub.nil _)))))))), (D.done hwf rfl (X.next (V.seq (V.region (O.m rfl (O.q rfl (Pu.len rfl Tryz.underlying28 rfl) (O.m rfl (O.nil (X.next (V.seq (V.block ?_)))))))))))⟩
   refine V.loop3 (β := Nat) (fun k => [(9, .int .i64 (k : Int))]) _ (fun k => []) _ (fun k => k = out.length) (fun k => k) ((tops out).length) htl_out (Ent.cons rfl (Ent.nil _)) (Ent.cons (t := 2) rfl (Ent.cons (t := 5) rfl (Ent.cons (t := 6) rfl (Ent.cons (t := 7) rfl (Ent.cons (t := 8) rfl (Ent.nil _)))))) (Sub.k (Sub.k (Sub.k (Sub.k (Sub.k (Sub.k (Sub.k (Sub.k (Sub.k (Sub.k (Sub.nil _))))))))))) ?_
   rintro k hk
   refine V.seq (V.seq (V.draw mo (by kernel_rfl) (fun hwf => D.m 0 rfl (D.q 1 rfl (Pu.gtr rfl rfl rfl) (D.m 2 rfl (D.splitD 40 rfl (fun c2 => ?_) (fun c2 => ?_)))))))
   ·have hk1 : k - 1 < out.length := by omega
    have hlk := hlo (k - 1) hk1
    refine D.gq 3 rfl (Pu.fieldAddr 1 rfl Tryz.underlying26 rfl sz24 rfl rfl) (D.gq 4 rfl (Pu.load rfl pl24 rfl (Ld.blk 2 rfl rfl)) (D.gm 5 rfl (D.gm 6 rfl (D.gq 7 rfl (Pu.sub64 (r := ((k - 1 : Nat) : Int)) (by omega) (by omega) rfl rfl rfl) (D.gq 8 rfl (Pu.indexAddrS (k - 1) rfl Tryz.underlying28 sz26 rfl rfl (by omega) (by omega) (fun w hw => Own.some hw (i := 3) (by exact rfl) (by omega))) (D.gq 9 rfl (Pu.fieldAddr' rfl Tryz.underlying26 rfl sz24 rfl rfl (fun w hw => by have := Rd.some ((Ld.own 3 (by exact rfl)) w hw) (by omega); simpa using this)) ?_))))))
    have e1 : k - 1 < out.length := by have := tops_len out; omega
    refine D.gq 10 rfl (Pu.load rfl pl24 rfl (Ld.rowYf (Ld.own 3 (by exact rfl)) hn_out e1 rfl)) (D.geff hwf (e := 11) rfl rfl rfl rfl rfl rfl (Ef.callP call127 rfl rfl (fun w hw => l08Before_ok  r1 ((out[k - 1]'e1).2) _ _ _ _ w ((Ld.own 0 (by exact rfl)) w hw) ((Ld.rows 4 (by exact rfl) e1) w hw) (by omega) (by omega) (by omega))) rfl rfl rfl ?_)
    rintro _ _ ⟨rfl, rfl⟩ hs
    refine ⟨fun w hw => hw, (D.m 12 rfl (D.done hwf rfl (X.next (V.condD rfl (fun c3 => ?_) (fun c3 => ?_)))))⟩
    ·exact (befB_asymm c3 (by rw [hre]; exact prev_bef hpw ho ei hk1 (by omega))).elim
    ·refine V.exit (X.thenExit (X.thenExit (X.blockHit (X.next (V.seq (V.draw mo (by kernel_rfl) (fun hwf => D.q 0 rfl (Pu.loadAgg rfl ag26 sz26 rfl rfl (Ld.whole 2 rfl)) (D.m 2 rfl (D.m 3 rfl (D.q 4 rfl (Pu.sliceL k rfl Tryz.underlying28 sz26 rfl rfl (by omega) (by omega)) (D.f hwf 1 rfl (Ef.build (SyC (↑v : Int)) ([⟨r1A, r1.length, r1c⟩] : List Sl) rfl Tryz.underlying28 inf26 rfl rfl rfl (by first | decide | (simp; done)) (by kernel_rfl)) ?_)))))))))))
     rintro _ _ ⟨A5, hA5, rfl, rfl⟩ hs
     refine ⟨fun w hw => hw.sub (Sub.keep 1 rfl (Sub.keep 1 rfl (Sub.keep 1 rfl (Sub.keep 1 rfl (Sub.keep 1 rfl (Sub.keep 1 rfl (Sub.keep 1 rfl (Sub.keep 1 rfl (Sub.keep 1 rfl (Sub.keep 1 rfl (Sub.nil _))))))))))), (D.f hwf 5 rfl (Ef.append (xs := ([⟨r1A, r1.length, r1c⟩] : List Sl)) (ys := ((tops out).drop k)) 0 rfl Tryz.underlying28 inf26 rfl rfl rfl rfl rfl (by first | (simp only [List.length_take, List.length_drop]; done) | (simp only [List.length_take, List.length_drop]; omega)) (by split <;> simp [hoS]) (fun w hw => ((Ld.own 4 (by exact rfl)) w hw).drop rfl (Own.cap hw (i := 4) (by exact rfl))) (by simp only [List.length_drop, List.length_take, List.length_append, List.length_cons, List.length_nil] at *; omega) (by decide)) ?_)⟩
     rintro _ _ ⟨A6, k3, rfl, rfl, hA6⟩ hs
     replace hA6 := hA6 (.inl hA5)
     refine ⟨fun w hw => hw.sub (Sub.keep 1 rfl (Sub.keep 1 rfl (Sub.keep 1 rfl (Sub.keep 1 rfl (Sub.keep 1 rfl (Sub.keep 1 rfl (Sub.keep 1 rfl (Sub.keep 1 rfl (Sub.keep 1 rfl (Sub.keep 1 rfl (Sub.nil _))))))))))), (D.m 6 rfl (D.done hwf rfl (X.next (V.fact (fun w hw => Own.cap hw (i := 4) rfl) (fun hcap => V.region (O.f rfl (Ef.build (SyC (v : Int)) ([] : List Sl) rfl Tryz.underlying28 inf26 rfl rfl rfl (by first | decide | (simp; done)) (by kernel_rfl)) ?_))))))⟩
     rintro _ _ ⟨A7, hA7, rfl, rfl⟩
     refine O.m rfl (O.m rfl (O.q rfl (Pu.sliceH k rfl Tryz.underlying28 sz26 rfl rfl (by omega) (by omega)) (O.f rfl (Ef.append (xs := ([] : List Sl)) (ys := ((tops out).take k)) 0 rfl Tryz.underlying28 inf26 rfl rfl rfl rfl rfl (by first | (simp only [List.length_take, List.length_drop]; done) | (simp only [List.length_take, List.length_drop]; omega)) hoS (fun w hw => ((Ld.own 5 (by exact rfl)) w hw).take k) (by simp only [List.length_drop, List.length_take, List.length_append, List.length_cons, List.length_nil] at *; omega) (by decide)) ?_)))
     rintro _ _ ⟨A8, k4, rfl, rfl, hA8⟩
     replace hA8 := hA8 (.inl hA7)
     refine O.m rfl (O.f rfl (Ef.append (xs := (([] : List Sl) ++ ((tops out).take k))) (ys := (([⟨r1A, r1.length, r1c⟩] : List Sl) ++ ((tops out).drop k))) 0 rfl Tryz.underlying28 inf26 rfl rfl rfl rfl rfl rfl hA6 (Ld.own 1 (by exact rfl)) (by simp only [List.length_drop, List.length_take, List.length_append, List.length_cons, List.length_nil] at *; omega) (by decide)) ?_)
     rintro _ _ ⟨A9, k5, rfl, rfl, hA9⟩
     replace hA9 := hA9 (.inl hA8)
     exact O.m rfl (O.nil (X.blockNormal (X.next (V.region (O.m rfl (O.q rfl (Pu.add64 (r := ((i + 1 : Nat) : Int)) rfl (by omega) rfl rfl rfl) (O.m rfl (O.nil (X.map (fun w hw => snoc_heap (D := SyC (v : Int)) (ps := out) (xs := r1) (B := r1A) (d := r1c) (hw.sub (Sub.cons 0 rfl (fun w F h => by rw [List.take_of_length_le (by omega), List.drop_of_length_le (by omega)] at h; exact h) (Sub.keep 5 rfl (Sub.keep 1 rfl (Sub.k (Sub.k (Sub.k (Sub.k (Sub.k (Sub.k (Sub.k (Sub.k (Sub.k (Sub.nil _))))))))))))))) (X.back3 (A9, k5, (out ++ [((⟨r1A, r1.length, r1c⟩ : Sl), r1)]), i + 1) (by (try dsimp only); exact ⟨by omega, by rw [conts_append, ho, take_snoc (by omega)]; simp [conts, hre], by assumption⟩) (by first | omega | (dsimp only; omega)) (Ent.cons' rfl (by simp [tops]; omega) (Ent.cons rfl (Ent.nil _))) (Ent.cons (t := 2) rfl (Ent.cons (t := 5) rfl (Ent.nil _))) (Sub.k (Sub.k (Sub.keep 4 rfl (Sub.keep 4 rfl (Sub.keep 4 rfl (Sub.keep 4 rfl (Sub.keep 4 rfl (Sub.nil _))))))))))))))))))
   ·refine D.g 3 rfl (D.g 4 rfl (D.g 5 rfl (D.g 6 rfl (D.g 7 rfl (D.g 8 rfl (D.g 9 rfl (D.g 10 rfl (D.g 11 rfl (D.m 12 rfl (D.done hwf rfl (X.next ?_)))))))))))
    refine V.condF rfl (V.exit (X.thenExit (X.thenExit (X.blockHit (X.next (V.seq (V.draw mo (by kernel_rfl) (fun hwf => D.q 0 rfl (Pu.loadAgg rfl ag26 sz26 rfl rfl (Ld.whole 2 rfl)) (D.m 2 rfl (D.m 3 rfl (D.q 4 rfl (Pu.sliceL k rfl Tryz.underlying28 sz26 rfl rfl (by omega) (by omega)) ?_)))))))))))
    refine D.f hwf 1 rfl (Ef.build (SyC (↑v : Int)) ([⟨r1A, r1.length, r1c⟩] : List Sl) rfl Tryz.underlying28 inf26 rfl rfl rfl (by first | decide | (simp; done)) (by kernel_rfl)) ?_
    rintro _ _ ⟨A10, hA10, rfl, rfl⟩ hs
    refine ⟨fun w hw => hw.sub (Sub.keep 1 rfl (Sub.keep 1 rfl (Sub.keep 1 rfl (Sub.keep 1 rfl (Sub.keep 1 rfl (Sub.keep 1 rfl (Sub.keep 1 rfl (Sub.keep 1 rfl (Sub.keep 1 rfl (Sub.keep 1 rfl (Sub.nil _))))))))))), (D.f hwf 5 rfl (Ef.append (xs := ([⟨r1A, r1.length, r1c⟩] : List Sl)) (ys := ((tops out).drop k)) 0 rfl Tryz.underlying28 inf26 rfl rfl rfl rfl rfl (by first | (simp only [List.length_take, List.length_drop]; done) | (simp only [List.length_take, List.length_drop]; omega)) (by split <;> simp [hoS]) (fun w hw => ((Ld.own 4 (by exact rfl)) w hw).drop rfl (Own.cap hw (i := 4) (by exact rfl))) (by simp only [List.length_drop, List.length_take, List.length_append, List.length_cons, List.length_nil] at *; omega) (by decide)) ?_)⟩
    rintro _ _ ⟨A11, k6, rfl, rfl, hA11⟩ hs
    replace hA11 := hA11 (.inl hA10)
    refine ⟨fun w hw => hw.sub (Sub.keep 1 rfl (Sub.keep 1 rfl (Sub.keep 1 rfl (Sub.keep 1 rfl (Sub.keep 1 rfl (Sub.keep 1 rfl (Sub.keep 1 rfl (Sub.keep 1 rfl (Sub.keep 1 rfl (Sub.keep 1 rfl (Sub.nil _))))))))))), (D.m 6 rfl (D.done hwf rfl (X.next (V.fact (fun w hw => Own.cap hw (i := 4) rfl) (fun hcap => V.region (O.f rfl (Ef.build (SyC (v : Int)) ([] : List Sl) rfl Tryz.underlying28 inf26 rfl rfl rfl (by first | decide | (simp; done)) (by kernel_rfl)) ?_))))))⟩
    rintro _ _ ⟨A12, hA12, rfl, rfl⟩
    refine O.m rfl (O.m rfl (O.q rfl (Pu.sliceH k rfl Tryz.underlying28 sz26 rfl rfl (by omega) (by omega)) (O.f rfl (Ef.append (xs := ([] : List Sl)) (ys := ((tops out).take k)) 0 rfl Tryz.underlying28 inf26 rfl rfl rfl rfl rfl (by first | (simp only [List.length_take, List.length_drop]; done) | (simp only [List.length_take, List.length_drop]; omega)) hoS (fun w hw => ((Ld.own 5 (by exact rfl)) w hw).take k) (by simp only [List.length_drop, List.length_take, List.length_append, List.length_cons, List.length_nil] at *; omega) (by decide)) ?_)))
    rintro _ _ ⟨A13, k7, rfl, rfl, hA13⟩
    replace hA13 := hA13 (.inl hA12)
    refine O.m rfl (O.f rfl (Ef.append (xs := (([] : List Sl) ++ ((tops out).take k))) (ys := (([⟨r1A, r1.length, r1c⟩] : List Sl) ++ ((tops out).drop k))) 0 rfl Tryz.underlying28 inf26 rfl rfl rfl rfl rfl rfl hA11 (Ld.own 1 (by exact rfl)) (by simp only [List.length_drop, List.length_take, List.length_append, List.length_cons, List.length_nil] at *; omega) (by decide)) ?_)
    rintro _ _ ⟨A14, k8, rfl, rfl, hA14⟩
    replace hA14 := hA14 (.inl hA13)
    exact O.m rfl (O.nil (X.blockNormal (X.next (V.region (O.m rfl (O.q rfl (Pu.add64 (r := ((i + 1 : Nat) : Int)) rfl (by omega) rfl rfl rfl) (O.m rfl (O.nil (X.map (fun w hw => snoc_heap (D := SyC (v : Int)) (ps := out) (xs := r1) (B := r1A) (d := r1c) (hw.sub (Sub.cons 0 rfl (fun w F h => by rw [List.take_of_length_le (by omega), List.drop_of_length_le (by omega)] at h; exact h) (Sub.keep 5 rfl (Sub.keep 1 rfl (Sub.k (Sub.k (Sub.k (Sub.k (Sub.k (Sub.k (Sub.k (Sub.k (Sub.k (Sub.nil _))))))))))))))) (X.back3 (A14, k8, (out ++ [((⟨r1A, r1.length, r1c⟩ : Sl), r1)]), i + 1) (by (try dsimp only); exact ⟨by omega, by rw [conts_append, ho, take_snoc (by omega)]; simp [conts, hre], by assumption⟩) (by first | omega | (dsimp only; omega)) (Ent.cons' rfl (by simp [tops]; omega) (Ent.cons rfl (Ent.nil _))) (Ent.cons (t := 2) rfl (Ent.cons (t := 5) rfl (Ent.nil _))) (Sub.k (Sub.k (Sub.keep 4 rfl (Sub.keep 4 rfl (Sub.keep 4 rfl (Sub.keep 4 rfl (Sub.keep 4 rfl (Sub.nil _))))))))))))))))))
 ·refine V.exit (X.thenExit (X.thenExit (X.blockHit (X.next (V.seq (V.region (O.m rfl (O.m rfl (O.nil (X.next (V.ret ?_)))))))))))
  exact X.ret1 rfl rfl (fun w hw => St.mkExi outA (St.mkExi outc (St.mkExi out (St.unsep (St.addPur ⟨(by first | rfl | (simp only [tops_append]; done) | (simp only [tops_append]; rfl)), by rw [ho, List.take_of_length_le (by omega), hL]⟩ (St.unsep (hw.sub (Sub.k (Sub.k (Sub.nil _))))))))))
set_option maxRecDepth 100000 in
set_option maxHeartbeats 1000000 in
theorem l10All_ok (n : Nat) (pv : Nat) (w : World) (hv : pv ≤ 15) (hn : leftN pv 0 ≤ n) (hM : (compM n pv 0).length < 1000) (hxs : n ≤ 1000) : Does Tryz.prog 45 [.int .i64 (pv : Int)] w [] (fun rv_ => [.exi fun (rA : Option Addr) => .exi fun (rc : Nat) => .exi fun (r : List (Sl × List B3)) => .sep (.pur (rv_ = .slice rA (tops r).length rc ∧ conts r = compM n pv 0)) (.sep (Own 26 (SyC (pv:Int)) rA rc (tops r)) (RowsA 65 B3C r))]) := by
 refine Does.enter Tryz.func45 rfl rfl [(0, .int .i64 (pv : Int))] rfl (V.seq (V.region (O.m rfl (O.nil (X.next (V.seq (V.region (O.m rfl (O.f rfl (Ef.build B3C ([] : List B3) rfl Tryz.underlying24 inf65 rfl rfl rfl (by first | decide | (simp; done)) (by kernel_rfl)) ?_)))))))))
 rintro _ _ ⟨A1, hA1, rfl, rfl⟩
 refine O.q rfl (Pu.buildS (cs := [.int .i64 (↑pv : Int), .slice A1 0 0]) rfl rfl Tryz.underlying26 zr26 (by kernel_rfl) rfl (by kernel_rfl)) (O.f rfl (Ef.call1 call86 rfl rfl (fun w hw => l08All_ok n pv 1000 _ _ w   hA1 hv hn (by decide) (by decide) (by rw [run_all hM]; omega) hxs)) ?_)
 rintro _ _ rfl
 refine O.exi (fun r1A => O.exi (fun r1c => O.exi (fun r1 => O.sep (O.pur ?_))))
 rintro ⟨rfl, hr1_1⟩
 refine O.sep (O.fact (RowsA.len 1 rfl) (fun hn_r1 => ?_))
 have htl_r1 := tops_len r1
 exact O.m rfl (O.nil (X.next (V.ret (X.ret1 rfl rfl (fun w hw => St.mkExi r1A (St.mkExi r1c (St.mkExi r1 (St.unsep (St.addPur ⟨(by first | rfl | (simp only [tops_append]; done) | (simp only [tops_append]; rfl)), by rw [hr1_1, run_all hM]⟩ (St.unsep (hw.sub (Sub.k (Sub.k (Sub.nil _))))))))))))))
theorem l10AllI_ok (n : Nat) (pv : Int) (w : World) (h0 : 0 ≤ pv) (hv : pv.toNat ≤ 15) (hn : leftN pv.toNat 0 ≤ n) (hM : (compM n pv.toNat 0).length < 1000) (hxs : n ≤ 1000) : Does Tryz.prog 45 [.int .i64 pv] w [] (fun r => [.exi fun rA : Option Addr => .exi fun rc : Nat => .exi fun r_ : List (Sl × List B3) => .sep (.pur (r = .slice rA (tops r_).length rc ∧ conts r_ = compM n pv.toNat 0)) (.sep (Own 26 (SyC pv) rA rc (tops r_)) (RowsA 65 B3C r_))]) := by
 obtain ⟨k, rfl⟩ := Int.eq_ofNat_of_zero_le h0
 exact l10All_ok n k w hv hn hM hxs
set_option maxRecDepth 100000 in
set_option maxHeartbeats 1000000 in
theorem l10Number_ok (v_ : Int) (w : World) : Does Tryz.prog 125 [.int .i64 v_] w [] (fun r => [.pur (r = .int .i64 (if v_ = 3 then 1 else if v_ = 7 then 30 else if v_ = 9 then 840 else 0))]) := by
 refine Does.enter Tryz.func125 rfl rfl [(0, .int .i64 v_)] rfl (V.seq (V.region (O.m rfl (O.nil (X.next (V.seq (V.seq (V.region (O.m rfl (O.nil (X.next ?_)))))))))))
 refine V.block (V.seq (V.region (O.q rfl (Pu.eql rfl rfl rfl) (O.m rfl (O.nil (X.next (V.condD rfl (fun c1 => ?_) (fun c1 => ?_))))))))
 ·exact V.seq (V.region (O.m rfl (O.nil (X.next (V.ret (X.blockRet (X.thenRet (X.ret1 rfl rfl (fun w hw => St.retP (iv (by rw [if_pos c1])) hw)))))))))
 ·refine V.seq (V.region (O.q rfl (Pu.eql rfl rfl rfl) (O.m rfl (O.nil (X.next (V.condD rfl (fun c2 => ?_) (fun c2 => ?_)))))))
  ·exact V.seq (V.region (O.m rfl (O.nil (X.next (V.ret (X.blockRet (X.thenRet (X.ret1 rfl rfl (fun w hw => St.retP (iv (by rw [if_neg c1, if_pos c2])) hw)))))))))
  ·refine V.seq (V.region (O.q rfl (Pu.eql rfl rfl rfl) (O.m rfl (O.nil (X.next (V.condD rfl (fun c3 => ?_) (fun c3 => ?_)))))))
   ·exact V.seq (V.region (O.m rfl (O.nil (X.next (V.ret (X.blockRet (X.thenRet (X.ret1 rfl rfl (fun w hw => St.retP (iv (by rw [if_neg c1, if_neg c2, if_pos c3])) hw)))))))))
   ·exact V.skip (X.blockNormal (X.next (V.seq (V.region (O.m rfl (O.nil (X.next (V.ret (X.ret1 rfl rfl (fun w hw => St.retP (iv (by rw [if_neg c1, if_neg c2, if_neg c3])) hw))))))))))
theorem num_zero (v : Int) : (if v = 3 then (1 : Int) else if v = 7 then 30 else if v = 9 then 840 else 0) = 0 ↔ ¬ few9 v := by
 unfold few9
 (repeat' split) <;> omega
set_option maxRecDepth 100000 in
set_option maxHeartbeats 1000000 in
theorem l10Code_ok (v : Int) (bs : List B3) (A : Option Addr) (c : Nat) (w : World) (hx : Rd B3C w A bs) (lx : bs.length ≤ 4611686018427387904) : Does Tryz.prog 85 [.agg #[.int .i64 v, .slice A bs.length c]] w [] (fun r => [.pur (r = .int .i64 (if STS v bs then if Few v bs then 0 else 5 else 1))]) := by
 refine Does.enter Tryz.func85 rfl rfl [(0, .agg #[.int .i64 v, .slice A bs.length c])] rfl (V.seq (V.region (O.f rfl (Ef.box rfl rfl rfl) ?_)))
 rintro _ _ ⟨b1, rfl, rfl⟩
 refine O.m rfl (O.nil (X.next (V.seq (V.block (V.seq (V.region (O.q rfl (Pu.loadAgg rfl ag26 sz26 rfl rfl (Ld.whole 0 rfl)) (O.f rfl (Ef.callP call53 rfl rfl (fun w hw => l01Is_ok _ bs _ _ w ((Ld.old hx) w hw) (by omega))) ?_))))))))
 rintro _ _ ⟨rfl, rfl⟩
 refine O.q rfl (Pu.not rfl rfl) (O.m rfl (O.nil (X.next (V.condNot rfl (fun c1 => ?_) (fun c1 => ?_)))))
 ·exact V.seq (V.region (O.m rfl (O.nil (X.next (V.ret (X.blockRet (X.thenRet (X.ret1 rfl rfl (fun w hw => St.retP (iv (by rw [if_neg c1])) hw)))))))))
 ·have hS := c1
  have hmul := sts_mul c1
  have hlo := c1.lo
  have hhi := c1.hi
  have hfw := c1.few
  refine V.seq (V.region (O.q rfl (Pu.loadAgg rfl ag26 sz26 rfl rfl (Ld.whole 0 rfl)) (O.f rfl (Ef.callP call65 rfl rfl (fun w hw => l01Full_ok  v bs _ _ w ((Ld.old hx) w hw) (by first | omega | (simp only [tops_len, conts_len, bl, List.length_append, List.length_cons, List.length_nil] at *; omega)) (by first | assumption | omega | (try dsimp only at *; omega)) (by first | assumption | omega | (try dsimp only at *; omega)) (by first | assumption | omega | (try dsimp only at *; omega)))) ?_)))
  rintro _ _ ⟨rfl, rfl⟩
  refine O.q rfl (Pu.not rfl rfl) (O.m rfl (O.splitN 11 rfl (fun c2 => ?_) (fun c2 => ?_)))
  ·refine O.g rfl (O.g rfl (O.g rfl (O.g rfl (O.m rfl (O.m rfl (O.nil (X.next (V.condT rfl (V.seq (V.region (O.m rfl ?_)))))))))))
   exact O.nil (X.next (V.ret (X.blockRet (X.thenRet (X.ret1 rfl rfl (fun w hw => St.retP (iv (by rw [if_pos hS, if_neg (fun h => c2 h.2)])) hw))))))
  ·refine O.gq rfl (Pu.fieldAddr 0 rfl Tryz.underlying26 rfl sz2 rfl rfl) (O.gq rfl (Pu.load rfl pl2 rfl (Ld.blk 0 rfl rfl)) (O.gf rfl (Ef.callP call125 rfl rfl (fun w hw => l10Number_ok  v w   )) ?_))
   rintro _ _ ⟨rfl, rfl⟩
   refine O.gq rfl (Pu.eql rfl rfl rfl) (O.m rfl (O.m rfl (O.nil (X.next (V.condD rfl (fun c3 => ?_) (fun c3 => ?_))))))
   ·exact V.seq (V.region (O.m rfl (O.nil (X.next (V.ret (X.blockRet (X.thenRet (X.ret1 rfl rfl (fun w hw => St.retP (iv (by rw [if_pos hS, if_neg (fun h => (num_zero v).1 c3 h.1)])) hw)))))))))
   ·exact V.skip (X.blockNormal (X.next (V.seq (V.region (O.m rfl (O.nil (X.next (V.ret (X.ret1 rfl rfl (fun w hw => St.retP (iv (by rw [if_pos hS, if_pos ⟨Decidable.byContradiction (fun h => c3 ((num_zero v).2 h)), c2⟩])) hw))))))))))
set_option maxRecDepth 100000 in
set_option maxHeartbeats 1000000 in
theorem implCommon_ok (xs : List B3) (ys : List B3) (xsA : Option Addr) (xsc : Nat) (ysA : Option Addr) (ysc : Nat) (w : World) (hxs : Rd B3C w xsA xs) (hys : Rd B3C w ysA ys) (lxs : xs.length ≤ 1099511627776) (lys : ys.length ≤ 1099511627776) : Does Tryz.prog 57 [.slice xsA xs.length xsc, .slice ysA ys.length ysc] w [] (fun rv_ => [.exi fun (rA : Option Addr) => .exi fun (rc : Nat) => .exi fun (r : List B3) => .sep (.pur (rv_ = .slice rA r.length rc ∧ r = (xs.filter fun b => decide (b ∈ ys)))) (Own 65 B3C rA rc r)]) := by
 refine Does.enter Tryz.func57 rfl rfl [(0, .slice xsA xs.length xsc), (1, .slice ysA ys.length ysc)] rfl (V.seq (V.region (O.m rfl (O.nil (X.next (V.seq (V.region (O.m rfl (O.nil (X.next (V.seq ?_)))))))))))
 refine V.seq (V.region (O.m rfl (O.q rfl (Pu.len rfl Tryz.underlying24 rfl) (O.m rfl (O.nil (X.next (V.block (V.map (fun w hw => St.addNil (T := 65) (C := B3C) hw) (V.loop2 (β := (Option Addr) × Nat × (List B3) × Nat) (fun x => [(5, .slice x.1 x.2.2.1.length x.2.1), (10, .int .i64 (x.2.2.2 : Int))]) _ (fun x => [Own 65 B3C x.1 x.2.1 x.2.2.1]) (fun x => x.2.2.2 ≤ xs.length ∧ x.2.2.1 = ((xs.take x.2.2.2).filter fun b => decide (b ∈ ys))) (fun x => xs.length - x.2.2.2) (none, 0, [], 0) (by (try dsimp only); exact ⟨by omega, rfl⟩) (Ent.cons rfl (Ent.cons rfl (Ent.nil _))) (Ent.cons (t := 1) rfl (Ent.cons (t := 8) rfl (Ent.cons (t := 9) rfl (Ent.nil _)))) (Sub.k (Sub.nil _)) ?_)))))))))
 rintro ⟨outA, outc, out, i⟩ ⟨hi, ho⟩
 dsimp only at hi ho ⊢
 have hol : out.length ≤ xs.length := by rw [ho]; exact Nat.le_trans (List.length_filter_le _ _) (by rw [List.length_take]; omega)
 refine V.seq (V.region (O.q rfl (Pu.lss rfl rfl rfl) (O.nil (X.next (V.seq (V.condD rfl (fun c1 => ?_) (fun c1 => ?_)))))))
 ·refine V.skip (X.next (V.seq (V.block (V.seq (V.region (O.q rfl (Pu.indexAddr (i) rfl Tryz.underlying24 sz65 rfl rfl (by omega) (by omega) (hxs.some (by omega))) ?_))))))
  have e1 : i < xs.length := by omega
  refine O.q rfl (Pu.loadAgg' (v := B3.v (xs[i]'e1)) rfl rfl ag65 sz65 rfl rfl (Ld.rds (Ld.old hxs) (k := i) e1 rfl)) (O.f rfl (Ef.alloc rfl zr65 rfl) ?_)
  rintro _ _ ⟨b1, rfl, rfl⟩
  refine O.s rfl rfl (Ef.storeAll 0 rfl sz65 rfl rfl rfl rfl (by simp [Value.oneCell']) rfl) ?_
  rintro _ _ rfl
  refine O.nil (X.next (V.seq (V.region (O.m rfl (O.q rfl (Pu.loadAgg' (v := B3.v (xs[i]'e1)) rfl rfl ag65 sz65 rfl rfl (Ld.whole 0 rfl)) (O.f rfl (Ef.callP call95 rfl rfl (fun w hw => containsBl_ok  ys (xs[i]'e1) _ _ w ((Ld.old hys) w hw) (by first | omega | (simp only [tops_len, conts_len, bl, List.length_append, List.length_cons, List.length_nil] at *; omega)) )) ?_))))))
  rintro _ _ ⟨rfl, rfl⟩
  refine O.nil (X.next (V.condD rfl (fun c2 => ?_) (fun c2 => ?_)))
  ·refine V.region (O.m rfl (O.q rfl (Pu.loadAgg' (v := B3.v (xs[i]'e1)) rfl rfl ag65 sz65 rfl rfl (Ld.whole 0 rfl)) (O.f rfl (Ef.build B3C ([(xs[i]'e1)] : List B3) rfl Tryz.underlying24 inf65 rfl rfl rfl (by first | decide | (simp; done)) (by kernel_rfl)) ?_)))
   rintro _ _ ⟨A1, hA1, rfl, rfl⟩
   refine O.f rfl (Ef.append (xs := out) (ys := ([(xs[i]'e1)] : List B3)) 2 rfl Tryz.underlying24 inf65 rfl rfl rfl rfl rfl rfl hA1 (Ld.own 0 (by exact rfl)) (by simp only [List.length_append, List.length_cons, List.length_nil] at *; omega) (by decide)) ?_
   rintro _ _ ⟨A2, k1, rfl, rfl, hA2⟩
   replace hA2 := hA2 (.inr (by simp))
   exact O.m rfl (O.nil (X.blockNormal (X.next (V.region (O.q rfl (Pu.add64 (r := ((i + 1 : Nat) : Int)) rfl (by omega) rfl rfl rfl) (O.m rfl (O.nil (X.back2 (A2, k1, (out ++ ([(xs[i]'e1)] : List B3)), i + 1) (by (try dsimp only); exact ⟨by omega, by rw [take_snoc (by omega), List.filter_append, ho]; simp [c2]⟩) (by first | omega | (dsimp only; omega)) (Ent.cons rfl (Ent.cons rfl (Ent.nil _))) (Ent.cons (t := 1) rfl (Ent.cons (t := 8) rfl (Ent.cons (t := 9) rfl (Ent.nil _)))) (Sub.keep 2 rfl (Sub.nil _))))))))))
  ·exact V.skip (X.blockNormal (X.next (V.region (O.q rfl (Pu.add64 (r := ((i + 1 : Nat) : Int)) rfl (by omega) rfl rfl rfl) (O.m rfl (O.nil (X.back2 (outA, outc, out, i + 1) (by (try dsimp only); exact ⟨by omega, by rw [take_snoc (by omega), List.filter_append, ho]; simp [c2]⟩) (by first | omega | (dsimp only; omega)) (Ent.cons rfl (Ent.cons rfl (Ent.nil _))) (Ent.cons (t := 1) rfl (Ent.cons (t := 8) rfl (Ent.cons (t := 9) rfl (Ent.nil _)))) (Sub.keep 1 rfl (Sub.nil _)))))))))
 ·refine V.exit (X.thenExit (X.thenExit (X.blockHit (X.next (V.seq (V.region (O.m rfl (O.m rfl (O.nil (X.next (V.ret ?_)))))))))))
  exact X.ret1 rfl rfl (fun w hw => St.mkExi outA (St.mkExi outc (St.mkExi out (St.unsep (St.addPur ⟨rfl, by rw [ho, List.take_of_length_le (by omega)]⟩ (hw.sub (Sub.k (Sub.nil _))))))))
def layI_ren : Go.Shelf.Ren := ⟨fun | 5 => 119 | 8 => 151 | 7 => 150 | 19 => 171 | 20 => 172 | 10 => 162 | 11 => 163 | 12 => 164 | 13 => 165 | 14 => 166 | 15 => 167 | 16 => 168 | 17 => 169 | 18 => 170 | 30 => 182 | 31 => 183 | 32 => 184 | 33 => 185 | 34 => 186 | 35 => 124 | 40 => 198 | n => n, fun | 23 => 53 | 25 => 2 | 3 => 3 | 32 => 111 | 22 => 53 | 0 => 0 | 44 => 192 | 46 => 99 | 4 => 4 | 36 => 184 | 35 => 183 | 41 => 189 | 5 => 5 | 9 => 9 | 53 => 200 | 57 => 204 | 63 => 213 | 64 => 214 | n => n, fun | n => n⟩
theorem layI : SlLaysM.n5 Tryz.prog layI_ren where
  mixed := by kernel_rfl
  f5 := ⟨Tryz.f119.name, by decide, Tryz.func119.trans (congrArg some (by kernel_rfl))⟩
  f7 := ⟨Tryz.f150.name, by decide, Tryz.func150.trans (congrArg some (by kernel_rfl))⟩
  f8 := Tryz.func151.trans (congrArg some (by kernel_rfl))
  f10 := ⟨Tryz.f162.name, by decide, Tryz.func162.trans (congrArg some (by kernel_rfl))⟩
  f11 := ⟨Tryz.f163.name, by decide, Tryz.func163.trans (congrArg some (by kernel_rfl))⟩
  f12 := ⟨Tryz.f164.name, by decide, Tryz.func164.trans (congrArg some (by kernel_rfl))⟩
  f13 := ⟨Tryz.f165.name, by decide, Tryz.func165.trans (congrArg some (by kernel_rfl))⟩
  f14 := ⟨Tryz.f166.name, by decide, Tryz.func166.trans (congrArg some (by kernel_rfl))⟩
  f15 := ⟨Tryz.f167.name, by decide, Tryz.func167.trans (congrArg some (by kernel_rfl))⟩
  f16 := ⟨Tryz.f168.name, by decide, Tryz.func168.trans (congrArg some (by kernel_rfl))⟩
  f17 := ⟨Tryz.f169.name, by decide, Tryz.func169.trans (congrArg some (by kernel_rfl))⟩
  f18 := ⟨Tryz.f170.name, by decide, Tryz.func170.trans (congrArg some (by kernel_rfl))⟩
  f19 := Tryz.func171.trans (congrArg some (by kernel_rfl))
  f20 := Tryz.func172.trans (congrArg some (by kernel_rfl))
  f30 := ⟨Tryz.f182.name, by decide, Tryz.func182.trans (congrArg some (by kernel_rfl))⟩
  f31 := Tryz.func183.trans (congrArg some (by kernel_rfl))
  f32 := Tryz.func184.trans (congrArg some (by kernel_rfl))
  f33 := ⟨Tryz.f185.name, by decide, Tryz.func185.trans (congrArg some (by kernel_rfl))⟩
  f34 := ⟨Tryz.f186.name, by decide, Tryz.func186.trans (congrArg some (by kernel_rfl))⟩
  f35 := ⟨Tryz.f124.name, by decide, Tryz.func124.trans (congrArg some (by kernel_rfl))⟩
  f40 := ⟨Tryz.f198.name, by decide, Tryz.func198.trans (congrArg some (by kernel_rfl))⟩
  t0 := Tryz.underlying0
  a0 := Tryz.isAgg0
  z0 := Tryz.sizeOf0
  v0 := Tryz.zeroValue0
  t3 := Tryz.underlying3
  a3 := Tryz.isAgg3
  z3 := Tryz.sizeOf3
  v3 := Tryz.zeroValue3
  t4 := Tryz.underlying4
  a4 := Tryz.isAgg4
  z4 := Tryz.sizeOf4
  v4 := Tryz.zeroValue4
  t5 := Tryz.underlying5
  a5 := Tryz.isAgg5
  z5 := Tryz.sizeOf5
  v5 := Tryz.zeroValue5
  t9 := Tryz.underlying9
  a9 := Tryz.isAgg9
  z9 := Tryz.sizeOf9
  v9 := Tryz.zeroValue9
  t22 := Tryz.underlying53
  a22 := Tryz.isAgg53
  z22 := Tryz.sizeOf53
  v22 := Tryz.zeroValue53
  t23 := Tryz.underlying53
  a23 := Tryz.isAgg53
  z23 := Tryz.sizeOf53
  v23 := Tryz.zeroValue53
  t25 := Tryz.underlying2
  a25 := Tryz.isAgg2
  z25 := Tryz.sizeOf2
  v25 := Tryz.zeroValue2
  t32 := Tryz.underlying111
  a32 := Tryz.isAgg111
  z32 := Tryz.sizeOf111
  v32 := Tryz.zeroValue111
  t35 := Tryz.underlying183
  a35 := Tryz.isAgg183
  z35 := Tryz.sizeOf183
  v35 := Tryz.zeroValue183
  t36 := Tryz.underlying184
  a36 := Tryz.isAgg184
  z36 := Tryz.sizeOf184
  v36 := Tryz.zeroValue184
  t41 := Tryz.underlying189
  a41 := Tryz.isAgg189
  z41 := Tryz.sizeOf189
  v41 := Tryz.zeroValue189
  t44 := Tryz.underlying192
  a44 := Tryz.isAgg192
  z44 := Tryz.sizeOf192
  v44 := Tryz.zeroValue192
  t46 := Tryz.underlying99
  a46 := Tryz.isAgg99
  z46 := Tryz.sizeOf99
  v46 := Tryz.zeroValue99
  t53 := Tryz.underlying200
  a53 := Tryz.isAgg200
  z53 := Tryz.sizeOf200
  v53 := Tryz.zeroValue200
  t57 := Tryz.underlying204
  a57 := Tryz.isAgg204
  z57 := Tryz.sizeOf204
  v57 := Tryz.zeroValue204
  t63 := Tryz.underlying213
  a63 := Tryz.isAgg213
  z63 := Tryz.sizeOf213
  v63 := Tryz.zeroValue213
  t64 := Tryz.underlying214
  a64 := Tryz.isAgg214
  z64 := Tryz.sizeOf214
  v64 := Tryz.zeroValue214
theorem sortInt_ok (xs : List Int) (xsA : Option Addr) (xsc : Nat) (w0 : World) (H : List Assn) (lxs : xs.length ≤ 1099511627776) : Does Tryz.prog 119 [.slice xsA xs.length xsc] w0 (Own 2 I64 xsA xsc xs :: H) (fun v => [.sep (.pur (v = .tuple #[])) (Own 2 I64 xsA xsc (sortI xs))] ++ H) :=
  sortI_does layI (by omega)
theorem sort3_ok (x y z : Int) (g c T : Nat) (w0 : World) (H : List Assn) : Does Tryz.prog 119 [.slice (some ⟨g, 0, none⟩) 3 c] w0 (Blk g [.int .i64 x, .int .i64 y, .int .i64 z] T :: H) (fun v => [.sep (.pur (v = .tuple #[])) (Blk g [.int .i64 (lo3 x y z), .int .i64 (mi3 x y z), .int .i64 (hi3 x y z)] T)] ++ H) :=
  sort3_blk layI x y z
def layB_ren : Go.Shelf.Ren := ⟨fun | 6 => 156 | 15 => 151 | 14 => 173 | 28 => 171 | 29 => 172 | 20 => 187 | 21 => 188 | 22 => 189 | 23 => 190 | 24 => 191 | 25 => 192 | 26 => 193 | 27 => 194 | 46 => 199 | 47 => 183 | 48 => 184 | 49 => 200 | 50 => 201 | 57 => 203 | n => n, fun | 22 => 24 | 24 => 65 | 25 => 172 | 3 => 3 | 39 => 111 | 0 => 0 | 53 => 192 | 55 => 99 | 4 => 4 | 46 => 184 | 45 => 183 | 50 => 189 | 5 => 5 | 9 => 9 | 66 => 200 | 70 => 204 | 76 => 213 | 77 => 214 | n => n, fun | n => n⟩
theorem layB : SlLaysF0.n6 Tryz.prog layB_ren where
  mixed := by kernel_rfl
  f6 := ⟨Tryz.f156.name, by decide, Tryz.func156.trans (congrArg some (by kernel_rfl))⟩
  f14 := ⟨Tryz.f173.name, by decide, Tryz.func173.trans (congrArg some (by kernel_rfl))⟩
  f15 := Tryz.func151.trans (congrArg some (by kernel_rfl))
  f20 := ⟨Tryz.f187.name, by decide, Tryz.func187.trans (congrArg some (by kernel_rfl))⟩
  f21 := ⟨Tryz.f188.name, by decide, Tryz.func188.trans (congrArg some (by kernel_rfl))⟩
  f22 := ⟨Tryz.f189.name, by decide, Tryz.func189.trans (congrArg some (by kernel_rfl))⟩
  f23 := ⟨Tryz.f190.name, by decide, Tryz.func190.trans (congrArg some (by kernel_rfl))⟩
  f24 := ⟨Tryz.f191.name, by decide, Tryz.func191.trans (congrArg some (by kernel_rfl))⟩
  f25 := ⟨Tryz.f192.name, by decide, Tryz.func192.trans (congrArg some (by kernel_rfl))⟩
  f26 := ⟨Tryz.f193.name, by decide, Tryz.func193.trans (congrArg some (by kernel_rfl))⟩
  f27 := ⟨Tryz.f194.name, by decide, Tryz.func194.trans (congrArg some (by kernel_rfl))⟩
  f28 := Tryz.func171.trans (congrArg some (by kernel_rfl))
  f29 := Tryz.func172.trans (congrArg some (by kernel_rfl))
  f46 := ⟨Tryz.f199.name, by decide, Tryz.func199.trans (congrArg some (by kernel_rfl))⟩
  f47 := Tryz.func183.trans (congrArg some (by kernel_rfl))
  f48 := Tryz.func184.trans (congrArg some (by kernel_rfl))
  f49 := ⟨Tryz.f200.name, by decide, Tryz.func200.trans (congrArg some (by kernel_rfl))⟩
  f50 := ⟨Tryz.f201.name, by decide, Tryz.func201.trans (congrArg some (by kernel_rfl))⟩
  f57 := ⟨Tryz.f203.name, by decide, Tryz.func203.trans (congrArg some (by kernel_rfl))⟩
  t0 := Tryz.underlying0
  a0 := Tryz.isAgg0
  z0 := Tryz.sizeOf0
  v0 := Tryz.zeroValue0
  t3 := Tryz.underlying3
  a3 := Tryz.isAgg3
  z3 := Tryz.sizeOf3
  v3 := Tryz.zeroValue3
  t4 := Tryz.underlying4
  a4 := Tryz.isAgg4
  z4 := Tryz.sizeOf4
  v4 := Tryz.zeroValue4
  t5 := Tryz.underlying5
  a5 := Tryz.isAgg5
  z5 := Tryz.sizeOf5
  v5 := Tryz.zeroValue5
  t9 := Tryz.underlying9
  a9 := Tryz.isAgg9
  z9 := Tryz.sizeOf9
  v9 := Tryz.zeroValue9
  t22 := Tryz.underlying24
  a22 := Tryz.isAgg24
  z22 := Tryz.sizeOf24
  v22 := Tryz.zeroValue24
  t25 := Tryz.underlying172
  a25 := Tryz.isAgg172
  z25 := Tryz.sizeOf172
  v25 := Tryz.zeroValue172
  t39 := Tryz.underlying111
  a39 := Tryz.isAgg111
  z39 := Tryz.sizeOf111
  v39 := Tryz.zeroValue111
  t45 := Tryz.underlying183
  a45 := Tryz.isAgg183
  z45 := Tryz.sizeOf183
  v45 := Tryz.zeroValue183
  t46 := Tryz.underlying184
  a46 := Tryz.isAgg184
  z46 := Tryz.sizeOf184
  v46 := Tryz.zeroValue184
  t50 := Tryz.underlying189
  a50 := Tryz.isAgg189
  z50 := Tryz.sizeOf189
  v50 := Tryz.zeroValue189
  t53 := Tryz.underlying192
  a53 := Tryz.isAgg192
  z53 := Tryz.sizeOf192
  v53 := Tryz.zeroValue192
  t55 := Tryz.underlying99
  a55 := Tryz.isAgg99
  z55 := Tryz.sizeOf99
  v55 := Tryz.zeroValue99
  t66 := Tryz.underlying200
  a66 := Tryz.isAgg200
  z66 := Tryz.sizeOf200
  v66 := Tryz.zeroValue200
  t70 := Tryz.underlying204
  a70 := Tryz.isAgg204
  z70 := Tryz.sizeOf204
  v70 := Tryz.zeroValue204
  t76 := Tryz.underlying213
  a76 := Tryz.isAgg213
  z76 := Tryz.sizeOf213
  v76 := Tryz.zeroValue213
  t77 := Tryz.underlying214
  a77 := Tryz.isAgg214
  z77 := Tryz.sizeOf214
  v77 := Tryz.zeroValue214
theorem sortB_ok (xs : List B3) (xsA : Option Addr) (xsc : Nat) (w0 : World) (H : List Assn) (lxs : xs.length ≤ 1099511627776) : Does Tryz.prog 156 [.slice xsA xs.length xsc, .func (.func 108) #[] #[]] w0 (Own 65 B3C xsA xsc xs :: H) (fun v => [.exi fun ys : List B3 => .sep (.pur (v = .tuple #[] ∧ ys.Perm xs ∧ SrtB ys)) (Own 65 B3C xsA xsc ys)] ++ H) :=
  (sortK_does (C := B3C) layB Tryz.isAgg65 Tryz.sizeOf65 (fun x y => cmpL (bl x) (bl y)) swoB call108 (fun zs W _ x y => compare_ok x y W) (by omega)).mono (fun v w hs => by
    obtain ⟨ys, hs⟩ := St.exi hs
    obtain ⟨⟨h1, h2, h3⟩, h4⟩ := hs.sep.pur
    exact St.mkExi ys (St.unsep (St.addPur ⟨h1, h2, srt_of h3⟩ h4)))
set_option maxRecDepth 100000 in
set_option maxHeartbeats 1000000 in
theorem blockOf_ok (a : Int) (b : Int) (c_ : Int) (w : World) : Does Tryz.prog 131 [.int .i64 a, .int .i64 b, .int .i64 c_] w [] (fun r => [.pur (r = B3.v (bk3 a b c_))]) := by
 refine Does.enter Tryz.func131 rfl rfl [(0, .int .i64 a), (1, .int .i64 b), (2, .int .i64 c_)] rfl (V.seq (V.region (O.f rfl (Ef.alloc rfl zr65 rfl) ?_)))
 rintro _ _ ⟨b1, rfl, rfl⟩
 refine O.nil (X.next (V.seq (V.region (O.m rfl (O.m rfl (O.m rfl (O.q rfl (Pu.buildA (cs := [.int .i64 a, .int .i64 b, .int .i64 c_]) (v := B3.v (a, b, c_)) rfl rfl Tryz.underlying65 zr65 sz2 rfl (by kernel_rfl)) (O.f rfl (Ef.alloc rfl zr65 rfl) ?_))))))))
 rintro _ _ ⟨b2, rfl, rfl⟩
 refine O.s rfl rfl (Ef.storeAll 0 rfl sz65 rfl rfl rfl rfl (by simp [Value.oneCell']) rfl) ?_
 rintro _ _ rfl
 refine O.nil (X.next (V.seq (V.region (O.q rfl (Pu.slicePtr rfl Tryz.underlying65 sz2 rfl) (O.f rfl (Ef.call call119 rfl rfl (Does.pre (fun w hw => hw.sub (Sub.k (Sub.k (Sub.nil _)))) (sort3_ok a b c_ _ _ _ w _))) ?_)))))
 rintro _ _ rfl
 refine O.sep (O.pur ?_)
 rintro rfl
 refine O.nil (X.next (V.seq (V.region (O.q rfl (Pu.loadAgg' (v := B3.v (bk3 a b c_)) rfl rfl ag65 sz65 rfl rfl (Ld.whole 0 rfl)) (O.s rfl rfl (Ef.storeAll 1 rfl sz65 rfl rfl rfl rfl (by simp [Value.oneCell']) rfl) ?_)))))
 rintro _ _ rfl
 exact O.nil (X.next (V.ret (X.retCell rfl ag65 sz65 rfl rfl (Ld.whole 1 rfl) (fun w hw => St.retP (rfl) hw))))
set_option maxRecDepth 100000 in
set_option maxHeartbeats 1000000 in
theorem sorted_ok (blocks : List B3) (blocksA : Option Addr) (blocksc : Nat) (w : World) (hblocks : Rd B3C w blocksA blocks) (lblocks : blocks.length ≤ 1099511627776) (lb : blocks.length ≤ 1000000) : Does Tryz.prog 135 [.slice blocksA blocks.length blocksc] w [] (fun rv_ => [.exi fun (rA : Option Addr) => .exi fun (rc : Nat) => .exi fun (r : List B3) => .sep (.pur (rv_ = .slice rA r.length rc ∧ r.Perm blocks ∧ SrtB r)) (Own 65 B3C rA rc r)]) := by
 refine Does.enter Tryz.func135 rfl rfl [(0, .slice blocksA blocks.length blocksc)] rfl (V.seq (V.region (O.m rfl (O.nil (X.next (V.seq (V.region (O.m rfl (O.f rfl (Ef.call1 call41 rfl rfl (fun w hw => cloneB_ok blocks _ _ w ((Ld.old hblocks) w hw) (by first | omega | (simp only [tops_len] at *; omega)))) ?_)))))))))
 rintro _ _ rfl
 refine O.exi (fun p1 => O.sep (O.pur ?_))
 rintro ⟨rfl, hp1⟩
 refine O.m rfl (O.nil (X.next (V.seq (V.region (O.m rfl (O.f rfl (Ef.call call156 rfl rfl (Does.pre (fun w hw => hw.sub (Sub.k (Sub.nil _))) (sortB_ok  (p1.2) _ _ w _   (by rw [hp1]; omega)))) ?_))))))
 rintro _ _ rfl
 refine O.exi (fun ys1 => O.sep (O.pur ?_))
 rintro ⟨rfl, hys1_1, hys1_2⟩
 exact O.nil (X.next (V.seq (V.region (O.m rfl (O.m rfl (O.nil (X.next (V.ret (X.ret1 rfl rfl (fun w hw => St.mkExi (p1.1.1) (St.mkExi (p1.1.2) (St.mkExi ys1 (St.unsep (St.addPur ⟨(by rw [hys1_1.length_eq]), hys1_1.trans (by rw [hp1]), hys1_2⟩ (hw.sub (Sub.k (Sub.nil _)))))))))))))))))
set_option maxRecDepth 100000 in
set_option maxHeartbeats 1000000 in
theorem system_ok (v_ : Int) (blocks : List B3) (blocksA : Option Addr) (blocksc : Nat) (w : World) (hblocks : Rd B3C w blocksA blocks) (lblocks : blocks.length ≤ 1099511627776) (lb : blocks.length ≤ 1000000) : Does Tryz.prog 102 [.int .i64 v_, .slice blocksA blocks.length blocksc] w [] (fun rv_ => [.exi fun (rA : Option Addr) => .exi fun (rc : Nat) => .exi fun (r : List B3) => .sep (.pur (rv_ = .agg #[.int .i64 v_, .slice rA r.length rc] ∧ r.Perm blocks ∧ SrtB r)) (Own 65 B3C rA rc r)]) := by
 refine Does.enter Tryz.func102 rfl rfl [(0, .int .i64 v_), (1, .slice blocksA blocks.length blocksc)] rfl (V.seq (V.region (O.f rfl (Ef.alloc rfl zr26 rfl) ?_)))
 rintro _ _ ⟨b1, rfl, rfl⟩
 refine O.nil (X.next (V.seq (V.region (O.m rfl (O.m rfl (O.f rfl (Ef.call1 call135 rfl rfl (fun w hw => sorted_ok  blocks _ _ w ((Ld.old hblocks) w hw) (by first | omega | (simp only [tops_len, conts_len, bl, List.length_append, List.length_cons, List.length_nil] at *; omega)) (by first | assumption | omega | (try dsimp only at *; omega)))) ?_))))))
 rintro _ _ rfl
 refine O.exi (fun r1A => O.exi (fun r1c => O.exi (fun r1 => O.sep (O.pur ?_))))
 rintro ⟨rfl, hr1_1, hr1_2⟩
 refine O.q rfl (Pu.buildS (cs := [.int .i64 v_, .slice r1A r1.length r1c]) rfl rfl Tryz.underlying26 zr26 (by kernel_rfl) rfl (by kernel_rfl)) (O.s rfl rfl (Ef.storeAll 1 rfl sz26 rfl rfl rfl rfl (by simp [Value.oneCell']) rfl) ?_)
 rintro _ _ rfl
 exact O.nil (X.next (V.ret (X.retCell rfl ag26 sz26 rfl rfl (Ld.whole 1 rfl) (fun w hw => St.mkExi r1A (St.mkExi r1c (St.mkExi r1 (St.unsep (St.addPur ⟨rfl, hr1_1, hr1_2⟩ (hw.sub (Sub.k (Sub.nil _)))))))))))
set_option maxRecDepth 100000 in
set_option maxHeartbeats 1000000 in
theorem renumbered_ok (v : Int) (bs : List B3) (p : List Int) (A : Option Addr) (c : Nat) (pA : Option Addr) (pc : Nat) (w : World) (hx : Rd B3C w A bs) (hp : Rd I64 w pA p) (lx : bs.length ≤ 4611686018427387904) (lp : p.length ≤ 1099511627776) (hb : ∀ b ∈ bs, good (p.length : Int) b) (lb : bs.length ≤ 1000) : Does Tryz.prog 91 [.agg #[.int .i64 v, .slice A bs.length c], .slice pA p.length pc] w [] (fun rv_ => [.exi fun (rA : Option Addr) => .exi fun (rc : Nat) => .exi fun (r : List B3) => .sep (.pur (rv_ = .agg #[.int .i64 v, .slice rA r.length rc] ∧ r.Perm (bs.map (renB p)) ∧ SrtB r)) (Own 65 B3C rA rc r)]) := by
 refine Does.enter Tryz.func91 rfl rfl [(0, .agg #[.int .i64 v, .slice A bs.length c]), (1, .slice pA p.length pc)] rfl (V.seq (V.region (O.f rfl (Ef.box rfl rfl rfl) ?_)))
 rintro _ _ ⟨b1, rfl, rfl⟩
 refine O.f rfl (Ef.alloc rfl zr26 rfl) ?_
 rintro _ _ ⟨b2, rfl, rfl⟩
 refine O.nil (X.next (V.seq (V.region (O.m rfl (O.nil (X.next (V.seq (V.seq (V.region (O.q rfl (Pu.fieldAddr 1 rfl Tryz.underlying26 rfl sz24 rfl rfl) (O.q rfl (Pu.load rfl pl24 rfl (Ld.blk 1 rfl rfl)) ?_)))))))))))
 refine O.q rfl (Pu.len rfl Tryz.underlying24 rfl) (O.m rfl (O.nil (X.next (V.block (V.map (fun w hw => St.addNil (T := 65) (C := B3C) hw) (V.loop3 (β := (Option Addr) × Nat × (List B3) × Nat) (fun x => [(5, .slice x.1 x.2.2.1.length x.2.1), (11, .int .i64 (x.2.2.2 : Int))]) _ (fun x => [Own 65 B3C x.1 x.2.1 x.2.2.1]) _ (fun x => x.2.2.2 ≤ bs.length ∧ x.2.2.1 = (bs.take x.2.2.2).map (renB p)) (fun x => bs.length - x.2.2.2) (none, 0, [], 0) (by (try dsimp only); exact ⟨by omega, rfl⟩) (Ent.cons rfl (Ent.cons rfl (Ent.nil _))) (Ent.cons (t := 1) rfl (Ent.cons (t := 2) rfl (Ent.cons (t := 4) rfl (Ent.cons (t := 9) rfl (Ent.cons (t := 10) rfl (Ent.nil _)))))) (Sub.k (Sub.k (Sub.k (Sub.nil _)))) ?_))))))
 rintro ⟨listA, listc, list, i⟩ ⟨hi, ho⟩
 dsimp only at hi ho ⊢
 have hol : list.length ≤ bs.length := by rw [ho, List.length_map, List.length_take]; omega
 refine V.seq (V.region (O.q rfl (Pu.lss rfl rfl rfl) (O.nil (X.next (V.seq (V.condD rfl (fun c1 => ?_) (fun c1 => ?_)))))))
 ·refine V.skip (X.next (V.seq (V.block (V.seq (V.region (O.q rfl (Pu.indexAddr (i) rfl Tryz.underlying24 sz65 rfl rfl (by omega) (by omega) (hx.some (by omega))) ?_))))))
  have e1 : i < bs.length := by omega
  refine O.q rfl (Pu.loadAgg' (v := B3.v (bs[i]'e1)) rfl rfl ag65 sz65 rfl rfl (Ld.rds (Ld.old hx) (k := i) e1 rfl)) (O.f rfl (Ef.alloc rfl zr65 rfl) ?_)
  rintro _ _ ⟨b3, rfl, rfl⟩
  refine O.s rfl rfl (Ef.storeAll 0 rfl sz65 rfl rfl rfl rfl (by simp [Value.oneCell']) rfl) ?_
  rintro _ _ rfl
  refine O.nil (X.next ?_)
  have e1 : i < bs.length := by omega
  have hg := hb (bs[i]'e1) (List.getElem_mem e1)
  unfold good at hg
  refine V.drawS mo (by kernel_rfl) (Sub.k (Sub.keep 1 rfl (Sub.keep 1 rfl (Sub.nil _)))) (fun hwf => D.m 0 rfl (D.m 1 rfl (D.q 2 rfl (Pu.indexArr 0 0 rfl Tryz.underlying65 sz2 rfl rfl (by decide) (by decide) (by decide)) (D.q 3 rfl (Pu.load rfl pl2 rfl (Ld.blk 0 rfl rfl)) (D.q 4 rfl (Pu.indexAddr (((bs[i]'e1).1).toNat) rfl Tryz.underlying53 sz2 rfl rfl (by omega) (by omega) (hp.some (by omega))) ?_)))))
  have e2 : ((bs[i]'e1).1).toNat < p.length := by omega
  refine D.q 5 rfl (Pu.load rfl pl2 rfl (Ld.rd (Ld.old hp) (k := ((bs[i]'e1).1).toNat) e2 rfl rfl)) (D.m 6 rfl (D.q 7 rfl (Pu.indexArr 1 1 rfl Tryz.underlying65 sz2 rfl rfl (by decide) (by decide) (by decide)) (D.q 8 rfl (Pu.load rfl pl2 rfl (Ld.blk 0 rfl rfl)) (D.q 9 rfl (Pu.indexAddr (((bs[i]'e1).2.1).toNat) rfl Tryz.underlying53 sz2 rfl rfl (by omega) (by omega) (hp.some (by omega))) ?_))))
  have e3 : ((bs[i]'e1).2.1).toNat < p.length := by omega
  refine D.q 10 rfl (Pu.load rfl pl2 rfl (Ld.rd (Ld.old hp) (k := ((bs[i]'e1).2.1).toNat) e3 rfl rfl)) (D.m 11 rfl (D.q 12 rfl (Pu.indexArr 2 2 rfl Tryz.underlying65 sz2 rfl rfl (by decide) (by decide) (by decide)) (D.q 13 rfl (Pu.load rfl pl2 rfl (Ld.blk 0 rfl rfl)) (D.q 14 rfl (Pu.indexAddr (((bs[i]'e1).2.2).toNat) rfl Tryz.underlying53 sz2 rfl rfl (by omega) (by omega) (hp.some (by omega))) ?_))))
  have e4 : ((bs[i]'e1).2.2).toNat < p.length := by omega
  refine D.q 15 rfl (Pu.load rfl pl2 rfl (Ld.rd (Ld.old hp) (k := ((bs[i]'e1).2.2).toNat) e4 rfl rfl)) (D.f hwf 16 rfl (Ef.callP call131 rfl rfl (fun w hw => blockOf_ok  (p[((bs[i]'e1).1).toNat]'e2) (p[((bs[i]'e1).2.1).toNat]'e3) (p[((bs[i]'e1).2.2).toNat]'e4) w   )) ?_)
  rintro _ _ ⟨rfl, rfl⟩ hs
  refine ⟨fun w hw => hw.sub (Sub.k (Sub.keep 1 rfl (Sub.keep 1 rfl (Sub.nil _)))), (D.f hwf 17 rfl (Ef.build B3C ([(bk3 (p[((bs[i]'e1).1).toNat]'e2) (p[((bs[i]'e1).2.1).toNat]'e3) (p[((bs[i]'e1).2.2).toNat]'e4))] : List B3) rfl Tryz.underlying24 inf65 rfl rfl rfl (by first | decide | (simp; done)) (by kernel_rfl)) ?_)⟩
  rintro _ _ ⟨A1, hA1, rfl, rfl⟩ hs
  refine ⟨fun w hw => hw.sub (Sub.keep 1 rfl (Sub.keep 2 rfl (Sub.keep 2 rfl (Sub.nil _)))), (D.f hwf 18 rfl (Ef.append (xs := list) (ys := ([(bk3 (p[((bs[i]'e1).1).toNat]'e2) (p[((bs[i]'e1).2.1).toNat]'e3) (p[((bs[i]'e1).2.2).toNat]'e4))] : List B3)) 2 rfl Tryz.underlying24 inf65 rfl rfl rfl rfl rfl rfl hA1 (Ld.own 0 (by exact rfl)) (by simp only [List.length_append, List.length_cons, List.length_nil] at *; omega) (by decide)) ?_)⟩
  rintro _ _ ⟨A2, k1, rfl, rfl, hA2⟩ hs
  replace hA2 := hA2 (.inr (by simp))
  exact ⟨fun w hw => hw.sub (Sub.keep 1 rfl (Sub.keep 2 rfl (Sub.keep 2 rfl (Sub.nil _)))), (D.last hwf (e := 19) rfl rfl rfl rfl rfl rfl (Pu.assign rfl rfl) (X.blockNormal (X.next (V.region (O.q rfl (Pu.add64 (r := ((i + 1 : Nat) : Int)) rfl (by omega) rfl rfl rfl) (O.m rfl (O.nil (X.back3 (A2, k1, (list ++ ([(bk3 (p[((bs[i]'e1).1).toNat]'e2) (p[((bs[i]'e1).2.1).toNat]'e3) (p[((bs[i]'e1).2.2).toNat]'e4))] : List B3)), i + 1) (by (try dsimp only); exact ⟨by omega, by rw [take_snoc e1, List.map_append, ho]; simp only [List.map_cons, List.map_nil, renB]; rw [getD_at (by omega), getD_at (by omega), getD_at (by omega)]⟩) (by first | omega | (dsimp only; omega)) (Ent.cons rfl (Ent.cons rfl (Ent.nil _))) (Ent.cons (t := 1) rfl (Ent.cons (t := 2) rfl (Ent.cons (t := 4) rfl (Ent.cons (t := 9) rfl (Ent.cons (t := 10) rfl (Ent.nil _)))))) (Sub.keep 2 rfl (Sub.keep 2 rfl (Sub.keep 2 rfl (Sub.nil _))))))))))))⟩
 ·refine V.exit (X.thenExit (X.thenExit (X.blockHit (X.next (V.seq (V.region (O.q rfl (Pu.fieldAddr 0 rfl Tryz.underlying26 rfl sz2 rfl rfl) (O.q rfl (Pu.load rfl pl2 rfl (Ld.blk 2 rfl rfl)) (O.m rfl (O.f rfl (Ef.call1 call102 rfl rfl (fun w hw => system_ok  v list _ _ w ((Ld.own 0 (by exact rfl)) w hw) (by first | omega | (simp only [tops_len, conts_len, bl, List.length_append, List.length_cons, List.length_nil] at *; omega)) (by first | assumption | omega | (try dsimp only at *; omega)))) ?_))))))))))
  rintro _ _ rfl
  refine O.exi (fun r1A => O.exi (fun r1c => O.exi (fun r1 => O.sep (O.pur ?_))))
  rintro ⟨rfl, hr1_1, hr1_2⟩
  refine O.s rfl rfl (Ef.storeAll 2 rfl sz26 rfl rfl rfl rfl (by simp [Value.oneCell']) rfl) ?_
  rintro _ _ rfl
  exact O.nil (X.next (V.ret (X.retCell rfl ag26 sz26 rfl rfl (Ld.whole 2 rfl) (fun w hw => St.mkExi r1A (St.mkExi r1c (St.mkExi r1 (St.unsep (St.addPur ⟨rfl, by rw [ho, List.take_of_length_le (by omega)] at hr1_1; exact hr1_1, hr1_2⟩ (hw.sub (Sub.k (Sub.nil _)))))))))))
set_option maxRecDepth 100000 in
set_option maxHeartbeats 1000000 in
theorem l01From_ok (code : List UInt8) (codeA : Option Addr) (codec : Nat) (w : World) (hcode : Rd U8C w codeA code) (lcode : code.length ≤ 1099511627776) (lc : code.length ≤ 1048576) : Does Tryz.prog 39 [.slice codeA code.length codec] w [] (fun r => [.exi fun (s : Nat) => .sep (.pur (r = .pointer (some ⟨s, 0, none⟩))) (SrcK 101 codeA codec code s)]) := by
 refine Does.enter Tryz.func39 rfl rfl [(0, .slice codeA code.length codec)] rfl (V.seq (V.region (O.m rfl (O.nil (X.next (V.seq (V.region (O.m rfl (O.m rfl (O.q rfl (Pu.len rfl Tryz.underlying22 rfl) (O.q rfl (Pu.convU' code.length (by omega) ⟨_, Tryz.underlying3⟩ Tryz.underlying99 (by omega) rfl rfl) ?_)))))))))))
 refine O.q rfl (Pu.addU (m := 13551) (n := code.length) rfl rfl rfl) (O.q rfl (Pu.buildS (cs := [.slice codeA code.length codec, .int .i64 (0 : Int), .int .u64 (↑(((13551 + code.length) % 18446744073709551616)) : Int)]) rfl rfl Tryz.underlying101 zr101 (by kernel_rfl) rfl (by kernel_rfl)) (O.f rfl (Ef.box rfl rfl rfl) ?_))
 rintro _ _ ⟨b1, rfl, rfl⟩
 refine O.m rfl (O.nil (X.next (V.seq (V.seq (V.map (fun w hw => SrcK.mk (a := 0) (h := ((13551 + code.length) % 18446744073709551616)) ⟨by omega, by omega⟩ hw) (V.region (O.m rfl (O.nil (X.next (V.block (V.loop3 (β := Nat) (fun i => [(4, .int .i64 (i : Int))]) _ (fun i => []) _ (fun i => i ≤ code.length) (fun i => code.length - i) 0 (by omega) (Ent.cons rfl (Ent.nil _)) (Ent.cons (t := 0) rfl (Ent.cons (t := 3) rfl (Ent.nil _))) (Sub.k (Sub.nil _)) ?_)))))))))))
 rintro i hi
 refine V.seq (V.seq (V.region (O.m rfl (O.m rfl (O.q rfl (Pu.len rfl Tryz.underlying22 rfl) (O.q rfl (Pu.lss rfl rfl rfl) (O.m rfl (O.splitD 16 rfl (fun c1 => ?_) (fun c1 => ?_)))))))))
 ·refine O.gm rfl (O.gq rfl (Pu.lss rfl rfl rfl) (O.m rfl (O.nil (X.next (V.condD rfl (fun c2 => ?_) (fun c2 => ?_))))))
  ·refine V.skip (X.next (V.seq (V.block (V.srcK (fun at1 word1 hat1 hword1 => V.draw mo (by kernel_rfl) (fun hwf => D.m 0 rfl (D.m 1 rfl (D.m 2 rfl (D.q 3 rfl (Pu.fieldAddr 2 rfl Tryz.underlying101 rfl sz99 rfl rfl) (D.q 4 rfl (Pu.load rfl pl99 rfl (Ld.blk 0 rfl rfl)) (D.q 5 rfl (Pu.mulU (m := word1) (n := 1099511628211) rfl rfl rfl) ?_)))))))))))
   refine D.m 6 rfl (D.m 7 rfl (D.q 8 rfl (Pu.indexAddr (i) rfl Tryz.underlying22 sz5 rfl rfl (by omega) (by omega) (hcode.some (by omega))) ?_))
   have e1 : i < code.length := by omega
   have hu1 := UInt8.toNat_lt (code[i]'e1)
   refine D.q 9 rfl (Pu.load rfl pl5 rfl (Ld.rd (Ld.old hcode) (k := i) e1 rfl rfl)) (D.q 10 rfl (Pu.convU' ((code[i]'e1).toNat) (by omega) ⟨_, Tryz.underlying5⟩ Tryz.underlying99 (by omega) rfl rfl) (D.q 11 rfl (Pu.addU (m := (word1 * 1099511628211 % 18446744073709551616)) (n := (code[i]'e1).toNat) rfl rfl rfl) (D.q 12 rfl (Pu.addU (m := (((word1 * 1099511628211 % 18446744073709551616) + (code[i]'e1).toNat) % 18446744073709551616)) (n := 179) rfl rfl rfl) (D.m 13 rfl (D.q 14 rfl (Pu.fieldAddr 2 rfl Tryz.underlying101 rfl sz99 rfl rfl) (D.effX (Hs' := []) hwf (e := 15) rfl rfl rfl rfl (Ef.store1 (cs' := [_, _, _]) 0 rfl sz99 rfl rfl rfl rfl rfl (ltb rfl) rfl) rfl [13] rfl (List.forall_mem_cons.2 ⟨⟨35, _, rfl, rfl, Det.of rfl rfl rfl (Pu.nilCheck rfl rfl)⟩, List.forall_mem_nil _⟩) ?_))))))
   rintro _ _ rfl
   exact ⟨fun w hw => hw.sub (Sub.nil _), (D.done hwf rfl (X.blockNormal (X.next (V.map (fun w hw => SrcK.mk (a := at1) (h := (((((word1 * 1099511628211 % 18446744073709551616) + (code[i]'e1).toNat) % 18446744073709551616) + 179) % 18446744073709551616)) ⟨by omega, by omega⟩ hw) (V.region (O.m rfl (O.q rfl (Pu.add64 (r := ((i + 1 : Nat) : Int)) rfl (by omega) rfl rfl rfl) (O.m rfl (O.nil (X.back3 (i + 1) (by omega) (by first | omega | (dsimp only; omega)) (Ent.cons rfl (Ent.nil _)) (Ent.cons (t := 0) rfl (Ent.cons (t := 3) rfl (Ent.nil _))) (Sub.k (Sub.nil _))))))))))))⟩
  ·refine V.exit (X.thenExit (X.thenExit (X.blockHit (X.next (V.seq (V.region (O.m rfl (O.m rfl (O.nil (X.next (V.ret ?_)))))))))))
   exact X.ret1 rfl rfl (fun w hw => St.mkExi b1 (St.unsep (St.addPur rfl (hw.sub (Sub.k (Sub.nil _))))))
 ·refine O.g rfl (O.g rfl (O.m rfl (O.nil (X.next (V.condF rfl (V.exit (X.thenExit (X.thenExit (X.blockHit (X.next (V.seq ?_)))))))))))
  exact V.region (O.m rfl (O.m rfl (O.nil (X.next (V.ret (X.ret1 rfl rfl (fun w hw => St.mkExi b1 (St.unsep (St.addPur rfl (hw.sub (Sub.k (Sub.nil _))))))))))))
set_option maxRecDepth 100000 in
set_option maxHeartbeats 1000000 in
theorem l01Next_ok (cA : Option Addr) (cc : Nat) (code : List UInt8) (s : Nat) (n : Int) (w0 : World) (H : List Assn) (hc : Rd U8C w0 cA code) (lc : code.length ≤ 1048576) : Does Tryz.prog 49 [.pointer (some ⟨s, 0, none⟩), .int .i64 n] w0 (SrcK 101 cA cc code s :: H) (fun rv_ => [.exi fun (r : Int) => .sep (.pur (rv_ = .int .i64 r ∧ 0 ≤ r ∧ (n < 1 → r = 0) ∧ (1 ≤ n → r < n))) (SrcK 101 cA cc code s)] ++ H) := by
 refine Does.enter Tryz.func49 rfl rfl [(0, .pointer (some ⟨s, 0, none⟩)), (1, .int .i64 n)] rfl (V.seq (V.region (O.m rfl (O.nil (X.next (V.seq (V.seq (V.region (O.m rfl (O.q rfl (Pu.lss rfl rfl rfl) (O.nil ?_)))))))))))
 refine X.next (V.condD rfl (fun c1 => ?_) (fun c1 => ?_))
 ·exact V.seq (V.region (O.m rfl (O.nil (X.next (V.ret (X.thenRet (X.ret1 rfl rfl (fun w hw => St.mkExi (0 : Int) (St.unsep (St.addPur ⟨rfl, by omega, by omega, by omega⟩ (hw.sub (Sub.k (Sub.refl _)))))))))))))
 ·refine V.skip (X.next (V.seq (V.srcK (fun at1 word1 hat1 hword1 => V.region (O.m rfl (O.m rfl (O.m rfl (O.q rfl (Pu.fieldAddr 2 rfl Tryz.underlying101 rfl sz99 rfl rfl) (O.q rfl (Pu.load rfl pl99 rfl (Ld.blk 0 rfl rfl)) (O.q rfl (Pu.mulU (m := word1) (n := 6364136223846793005) rfl rfl rfl) (O.q rfl (Pu.addU (m := (word1 * 6364136223846793005 % 18446744073709551616)) (n := 1442695040888963407) rfl rfl rfl) ?_)))))))))))
  refine O.m rfl (O.q rfl (Pu.fieldAddr 2 rfl Tryz.underlying101 rfl sz99 rfl rfl) (O.s rfl rfl (Ef.store1 (cs' := [_, _, _]) 0 rfl sz99 rfl rfl rfl rfl rfl (ltb rfl) rfl) ?_))
  rintro _ _ rfl
  refine O.nil (X.next (V.seq (V.region (O.m rfl (O.m rfl (O.q rfl (Pu.fieldAddr 2 rfl Tryz.underlying101 rfl sz99 rfl rfl) (O.q rfl (Pu.load rfl pl99 rfl (Ld.blk 0 rfl rfl)) (O.q rfl (Pu.shr (m := (((word1 * 6364136223846793005 % 18446744073709551616) + 1442695040888963407) % 18446744073709551616)) (p := 33) K64.u (by omega) rfl rfl rfl) ?_))))))))
  have hle1 := and_le_r (m := ((((word1 * 6364136223846793005 % 18446744073709551616) + 1442695040888963407) % 18446744073709551616) >>> 33)) (n := 16777215)
  refine O.q rfl (Pu.andU (m := ((((word1 * 6364136223846793005 % 18446744073709551616) + 1442695040888963407) % 18446744073709551616) >>> 33)) (n := 16777215) (Nat.lt_of_le_of_lt (Nat.shiftRight_le _ _) (by omega)) (by decide) rfl rfl rfl) (O.q rfl (Pu.conv64 ⟨_, Tryz.underlying99⟩ Tryz.underlying2 (by omega) rfl rfl) (O.m rfl (O.nil (X.next (V.seq (V.seq (V.draw mo (by kernel_rfl) (fun hwf => D.m 0 rfl (D.m 1 rfl (D.q 2 rfl (Pu.fieldAddr 1 rfl Tryz.underlying101 rfl sz3 rfl rfl) (D.q 3 rfl (Pu.load rfl pl3 rfl (Ld.blk 0 rfl rfl)) ?_)))))))))))
  refine D.m 4 rfl (D.m 5 rfl (D.q 6 rfl (Pu.fieldAddr 0 rfl Tryz.underlying101 rfl sz22 rfl rfl) (D.q 7 rfl (Pu.load rfl pl22 rfl (Ld.blk 0 rfl rfl)) (D.q 8 rfl (Pu.len rfl Tryz.underlying22 rfl) (D.q 9 rfl (Pu.lss rfl rfl rfl) (D.done hwf rfl (X.next (V.condD rfl (fun c2 => ?_) (fun c2 => ?_)))))))))
  ·refine V.seq (V.draw mo (by kernel_rfl) (fun hwf => D.m 0 rfl (D.m 1 rfl (D.m 2 rfl (D.q 3 rfl (Pu.fieldAddr 0 rfl Tryz.underlying101 rfl sz22 rfl rfl) (D.q 4 rfl (Pu.load rfl pl22 rfl (Ld.blk 0 rfl rfl)) (D.m 5 rfl (D.m 6 rfl (D.q 7 rfl (Pu.fieldAddr 1 rfl Tryz.underlying101 rfl sz3 rfl rfl) (D.q 8 rfl (Pu.load rfl pl3 rfl (Ld.blk 0 rfl rfl)) (D.q 9 rfl (Pu.indexAddr (at1) rfl Tryz.underlying22 sz5 rfl rfl (by omega) (by omega) (hc.some (by omega))) ?_)))))))))))
   have e1 : at1 < code.length := by omega
   have hu1 := UInt8.toNat_lt (code[at1]'e1)
   refine D.q 10 rfl (Pu.load rfl pl5 rfl (Ld.rd (Ld.old hc) (k := at1) e1 rfl rfl)) (D.q 11 rfl (Pu.conv64 ⟨_, Tryz.underlying5⟩ Tryz.underlying2 (by omega) rfl rfl) (D.q 12 rfl (Pu.add64 (r := (((((((word1 * 6364136223846793005 % 18446744073709551616) + 1442695040888963407) % 18446744073709551616) >>> 33) &&& 16777215) + (code[at1]'e1).toNat : Nat) : Int)) (by omega) (by omega) rfl rfl rfl) (D.last hwf (e := 13) rfl rfl rfl rfl rfl rfl (Pu.assign rfl rfl) (X.next (V.region (O.m rfl (O.m rfl (O.m rfl (O.q rfl (Pu.fieldAddr 1 rfl Tryz.underlying101 rfl sz3 rfl rfl) (O.q rfl (Pu.load rfl pl3 rfl (Ld.blk 0 rfl rfl)) (O.q rfl (Pu.add64 (r := ((at1 + 1 : Nat) : Int)) rfl (by omega) rfl rfl rfl) ?_)))))))))))
   refine O.m rfl (O.q rfl (Pu.fieldAddr 1 rfl Tryz.underlying101 rfl sz3 rfl rfl) (O.s rfl rfl (Ef.store1 (cs' := [_, _, _]) 0 rfl sz3 rfl rfl rfl rfl rfl (ltb rfl) rfl) ?_))
   rintro _ _ rfl
   refine O.nil (X.next (V.seq (V.map (fun w hw => SrcK.mk (a := at1 + 1) (h := (((word1 * 6364136223846793005 % 18446744073709551616) + 1442695040888963407) % 18446744073709551616)) ⟨by omega, by omega⟩ hw) (V.region (O.m rfl (O.m rfl (O.q rfl (Pu.rem64 (by omega) (by omega) rfl rfl rfl) (O.m rfl (O.nil (X.next (V.ret ?_)))))))))))
   exact X.ret1 rfl rfl (fun w hw => St.mkExi ((↑((((((word1 * 6364136223846793005 % 18446744073709551616) + 1442695040888963407) % 18446744073709551616) >>> 33) &&& 16777215) + (code[at1]'e1).toNat) : Int) % n) (St.unsep (St.addPur ⟨rfl, Int.emod_nonneg _ (by omega), fun h => by omega, fun h => Int.emod_lt_of_pos _ (by omega)⟩ (hw.sub (Sub.k (Sub.refl _))))))
  ·refine V.skip (X.next (V.seq (V.map (fun w hw => SrcK.mk (a := at1) (h := (((word1 * 6364136223846793005 % 18446744073709551616) + 1442695040888963407) % 18446744073709551616)) ⟨by omega, by omega⟩ hw) (V.region (O.m rfl (O.m rfl (O.q rfl (Pu.rem64 (by omega) (by omega) rfl rfl rfl) (O.m rfl (O.nil (X.next (V.ret ?_)))))))))))
   exact X.ret1 rfl rfl (fun w hw => St.mkExi ((↑((((((word1 * 6364136223846793005 % 18446744073709551616) + 1442695040888963407) % 18446744073709551616) >>> 33) &&& 16777215)) : Int) % n) (St.unsep (St.addPur ⟨rfl, Int.emod_nonneg _ (by omega), fun h => by omega, fun h => Int.emod_lt_of_pos _ (by omega)⟩ (hw.sub (Sub.k (Sub.refl _))))))
end Go.Proofs.YthlmfgmmbfbhhaaGreat
