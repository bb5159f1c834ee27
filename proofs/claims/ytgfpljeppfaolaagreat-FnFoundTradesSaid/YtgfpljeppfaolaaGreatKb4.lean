/-
  Contracts, part 4.
-/
import Derived.Test.YtgfpljeppfaolaaGreatKb3
set_option linter.unusedVariables false
set_option linter.unusedSimpArgs false
namespace Go.Proofs.YtgfpljeppfaolaaGreat
open Go Go.RowKit Go.Vc Go.Proofs
set_option maxRecDepth 100000 in
set_option maxHeartbeats 1000000 in
theorem l01Turned_ok (blocks : List B3) (v_ : Int) (a : Int) (b : Int) (c_ : Int) (blocksA : Option Addr) (blocksc : Nat) (w0 : World) (H : List Assn) (hv : 0 < v_ ∧ v_ ≤ 15) (ha : (0 ≤ a ∧ a ≤ 1000)) (hb : (0 ≤ b ∧ b ≤ 1000)) (hc : (0 ≤ c_ ∧ c_ ≤ 1000)) (lb : blocks.length ≤ 1000) : Does Tryz.prog 187 [.slice blocksA blocks.length blocksc, .int .i64 v_, .int .i64 a, .int .i64 b, .int .i64 c_] w0 (Own 81 B3C blocksA blocksc blocks :: H) (fun rv_ => [.exi fun (rA : Option Addr) => .exi fun (rc : Nat) => .exi fun (r : List B3) => .sep (.pur (rv_ = .slice rA r.length rc ∧ r = rowT v_ blocks (a, b, c_) v_.toNat)) (Own 81 B3C rA rc r)] ++ H) := by
 refine Does.enter Tryz.func187 rfl rfl [(0, .slice blocksA blocks.length blocksc), (1, .int .i64 v_), (2, .int .i64 a), (3, .int .i64 b), (4, .int .i64 c_)] rfl (Za (O.m rfl (Zc (O.m rfl (Zf ?_)))))
 refine Vb (V.loop3 (β := (Option Addr) × Nat × (List B3) × Nat) (fun x => [(0, .slice x.1 x.2.2.1.length x.2.1), (11, .int .i64 (x.2.2.2 : Int))]) _ (fun x => [Own 81 B3C x.1 x.2.1 x.2.2.1]) _ (fun x => x.2.2.2 ≤ v_.toNat ∧ x.2.2.1 = rowT v_ blocks (a, b, c_) x.2.2.2) (fun x => v_.toNat - x.2.2.2) (blocksA, blocksc, blocks, 0) (by (try dsimp only); exact ⟨by omega, rfl⟩) (Ent.cons rfl (Ent.cons rfl (Ent.nil _))) (Ent.cons (t := 1) rfl (Ent.cons (t := 2) rfl (Ent.cons (t := 3) rfl (Ent.cons (t := 4) rfl (Ent.nil _))))) (Sub.t [0] 0 rfl) ?_)
 rintro ⟨zA, zc, z, i⟩ ⟨hi, hz⟩
 dsimp only at hi hz ⊢
 have hzl : z.length ≤ blocks.length + i := by rw [hz]; exact rowT_len i
 refine Zj (O.m rfl (O.m rfl (O.q rfl (Pu.lss rfl rfl rfl) (Zf (V.condD rfl (fun c1 => ?_) (fun c1 => ?_))))))
 ·refine Vk (Xn (Vs (Vb (Vs (V.draw mo (by kernel_rfl) (fun hwf => D.m 0 rfl (D.m 1 rfl (D.q 2 rfl (Pu.add64 rfl (by omega) rfl rfl rfl) (D.m 3 rfl (D.q 4 rfl (Pu.rem64 (by omega) (by omega) rfl rfl rfl) (D.m 5 rfl ?_)))))))))))
  refine D.m 6 rfl (D.q 7 rfl (Pu.add64 rfl (by omega) rfl rfl rfl) (D.m 8 rfl (D.q 9 rfl (Pu.rem64 (by omega) (by omega) rfl rfl rfl) (D.m 10 rfl (D.m 11 rfl (D.q 12 rfl (Pu.add64 rfl (by omega) rfl rfl rfl) (D.m 13 rfl (D.q 14 rfl (Pu.rem64 (by omega) (by omega) rfl rfl rfl) (D.either hwf (e1 := 15) (e2 := 16) rfl ?_ ?_)))))))))
  ·refine ⟨_, _, rfl, rfl, fun _ _ => wanted_none rfl _, Ef.callP call80 rfl rfl (fun w hw => l01BlockD_ok  ((a + (↑i : Int)) % v_) ((b + (↑i : Int)) % v_) ((c_ + (↑i : Int)) % v_) w   (by have h1 := Int.emod_nonneg (a + (i : Int)) (show v_ ≠ 0 by omega); have h2 := Int.emod_lt_of_pos (a + (i : Int)) (show 0 < v_ by omega); omega) (by have h1 := Int.emod_nonneg (b + (i : Int)) (show v_ ≠ 0 by omega); have h2 := Int.emod_lt_of_pos (b + (i : Int)) (show 0 < v_ by omega); omega) (by have h1 := Int.emod_nonneg (c_ + (i : Int)) (show v_ ≠ 0 by omega); have h2 := Int.emod_lt_of_pos (c_ + (i : Int)) (show 0 < v_ by omega); omega)), rfl, rfl, ?_⟩
   rintro _ _ ⟨rfl, rfl⟩ hs
   refine ⟨fun w hw => hw, (D.f hwf 16 rfl (Ef.alloc rfl zr81 rfl) ?_)⟩
   rintro _ _ ⟨b1, rfl, rfl⟩ hs
   refine ⟨fun w hw => hw.sub (Sub.t [1] 1 rfl), (D.f hwf 17 rfl (Ef.storeAll 0 rfl sz81 rfl rfl rfl rfl (by simp [Value.oneCell']) rfl) ?_)⟩
   rintro _ _ rfl hs
   refine ⟨fun w hw => hw.sub (Sub.t [1] 1 rfl), (D.m 18 rfl (D.done hwf rfl (Xn (Zj (O.m rfl (Zi (V.loop3 (β := Bool × Nat) (fun x => [(13, .bool x.1), (14, .int .i64 (x.2 : Int))]) _ (fun x => []) _ (fun x => x.2 ≤ z.length ∧ x.1 = decide (bkT v_ (a, b, c_) i ∈ z.take x.2)) (fun x => z.length - x.2) (false, 0) (by (try dsimp only); exact ⟨by omega, by simp⟩) (Ent.cons rfl (Ent.cons rfl (Ent.nil _))) (Ent.cons (t := 0) rfl (Ent.cons (t := 1) rfl (Ent.cons (t := 2) rfl (Ent.cons (t := 3) rfl (Ent.cons (t := 4) rfl (Ent.cons (t := 11) rfl (Ent.cons (t := 12) rfl (Ent.nil _)))))))) (Sub.t [0,0] 0 rfl) ?_)))))))⟩
   rintro ⟨known, k⟩ ⟨hk, hk2⟩
   dsimp only at hk hk2 ⊢
   refine Zj (O.m rfl (O.m rfl (O.q rfl (Pu.len rfl ut24 rfl) (O.q rfl (Pu.lss rfl rfl rfl) (Zf (V.condD rfl (fun c2 => ?_) (fun c2 => ?_)))))))
   ·refine Vk (Xn (Vs (Vb (V.draw mo (by kernel_rfl) (fun hwf => D.m 0 rfl (D.m 1 rfl (D.splitB 43 rfl (fun c3 => ?_) (fun c3 => ?_))))))))
    ·subst c3
     refine D.g 2 rfl (D.g 3 rfl (D.g 4 rfl (D.g 5 rfl (D.g 6 rfl (D.g 7 rfl (D.m 8 rfl (D.last hwf (e := 9) rfl rfl rfl rfl rfl rfl (Pu.assign rfl rfl) (Xb (Xn (Vr (O.m rfl ?_)))))))))))
     exact O.q rfl (Pu.add64 (r := ((k + 1 : Nat) : Int)) rfl (by omega) rfl rfl rfl) (O.m rfl (On (X.back3 (true, k + 1) (by (try dsimp only); exact ⟨by omega, by rw [take_snoc (by omega)]; have h := hk2.symm; rw [decide_eq_true_eq] at h; exact (decide_eq_true (List.mem_append.2 (.inl h))).symm⟩) (by first | omega | (dsimp only; omega)) (Ent.cons rfl (Ent.cons rfl (Ent.nil _))) (Ent.cons (t := 0) rfl (Ent.cons (t := 1) rfl (Ent.cons (t := 2) rfl (Ent.cons (t := 3) rfl (Ent.cons (t := 4) rfl (Ent.cons (t := 11) rfl (Ent.cons (t := 12) rfl (Ent.nil _)))))))) (Sub.t [0,0] 0 rfl))))
    ·subst c3
     refine D.gm 2 rfl (D.gm 3 rfl (D.gq 4 rfl (Pu.indexAddrS (k) rfl ut24 sz81 rfl rfl (by omega) (by omega) (fun w hw => Own.some hw (i := 1) (by exact rfl) (by omega))) ?_))
     have e1 : k < z.length := by omega
     exact D.gq 5 rfl (Pu.loadAgg' (v := B3.v (z[k]'e1)) rfl rfl ag81 sz81 rfl rfl (Ld.rds (C := B3C) (Ld.own 1 (by exact rfl)) (k := k) e1 rfl)) (D.gq 6 rfl (Pu.loadAgg' (v := B3.v (bk3 ((a + (↑i : Int)) % v_) ((b + (↑i : Int)) % v_) ((c_ + (↑i : Int)) % v_))) rfl rfl ag81 sz81 rfl rfl (Ld.whole 0 rfl)) (D.gq 7 rfl (Pu.eqlB3 ut81 ut2 sz2 (by kernel_rfl) rfl rfl rfl) (D.m 8 rfl (D.last hwf (e := 9) rfl rfl rfl rfl rfl rfl (Pu.assign rfl rfl) (Xb (Xn (Vr (O.m rfl (O.q rfl (Pu.add64 (r := ((k + 1 : Nat) : Int)) rfl (by omega) rfl rfl rfl) (O.m rfl (On (X.back3 ((decide ((z[k]'e1) = (bk3 ((a + (↑i : Int)) % v_) ((b + (↑i : Int)) % v_) ((c_ + (↑i : Int)) % v_)))), k + 1) (by (try dsimp only); exact ⟨by omega, by rw [take_snoc (by omega)]; have h := hk2.symm; rw [decide_eq_false_iff_not] at h; apply decide_eq_decide.2; rw [List.mem_append, List.mem_singleton]; exact ⟨fun e => .inr e.symm, fun e => e.elim (fun e => absurd e h) Eq.symm⟩⟩) (by first | omega | (dsimp only; omega)) (Ent.cons rfl (Ent.cons rfl (Ent.nil _))) (Ent.cons (t := 0) rfl (Ent.cons (t := 1) rfl (Ent.cons (t := 2) rfl (Ent.cons (t := 3) rfl (Ent.cons (t := 4) rfl (Ent.cons (t := 11) rfl (Ent.cons (t := 12) rfl (Ent.nil _)))))))) (Sub.t [0,0] 0 rfl)))))))))))))
   ·refine Zd (O.m rfl (O.q rfl (Pu.not rfl rfl) (Zf (V.cond rfl (fun c4 => ?_) (fun c4 => ?_)))))
    ·have hnk : ¬ bkT v_ (a, b, c_) i ∈ z := by rw [List.take_of_length_le (by omega)] at hk2; intro h; rw [decide_eq_true h] at hk2; simp_all
     refine Vr (O.m rfl (O.q rfl (Pu.loadAgg' (v := B3.v (bk3 ((a + (↑i : Int)) % v_) ((b + (↑i : Int)) % v_) ((c_ + (↑i : Int)) % v_))) rfl rfl ag81 sz81 rfl rfl (Ld.whole 0 rfl)) (O.f rfl (Ef.build B3C ([(bk3 ((a + (↑i : Int)) % v_) ((b + (↑i : Int)) % v_) ((c_ + (↑i : Int)) % v_))] : List B3) rfl ut24 inf81 rfl rfl rfl (by first | decide | (simp; done)) (by kernel_rfl)) ?_)))
     rintro _ _ ⟨A1, hA1, rfl, rfl⟩
     refine O.f rfl (Ef.append (xs := z) (ys := ([(bk3 ((a + (↑i : Int)) % v_) ((b + (↑i : Int)) % v_) ((c_ + (↑i : Int)) % v_))] : List B3)) 2 rfl ut24 inf81 rfl rfl rfl rfl rfl rfl hA1 (Ld.own 0 (by exact rfl)) (by simp only [List.length_append, List.length_cons, List.length_nil] at *; omega) (by decide)) ?_
     rintro _ _ ⟨A2, k1, rfl, rfl, hA2⟩
     replace hA2 := hA2 (.inr (by simp))
     exact O.m rfl (Zk (O.m rfl (O.q rfl (Pu.add64 (r := ((i + 1 : Nat) : Int)) rfl (by omega) rfl rfl rfl) (O.m rfl (On (X.back3 (A2, k1, (z ++ ([(bk3 ((a + (↑i : Int)) % v_) ((b + (↑i : Int)) % v_) ((c_ + (↑i : Int)) % v_))] : List B3)), i + 1) (by (try dsimp only); exact ⟨by omega, by rw [hz]; exact (rowT_no (by rw [← hz]; exact hnk)).symm⟩) (by first | omega | (dsimp only; omega)) (Ent.cons rfl (Ent.cons rfl (Ent.nil _))) (Ent.cons (t := 1) rfl (Ent.cons (t := 2) rfl (Ent.cons (t := 3) rfl (Ent.cons (t := 4) rfl (Ent.nil _))))) (Sub.t [2] 2 rfl)))))))
    ·have hkn : bkT v_ (a, b, c_) i ∈ z := by rw [List.take_of_length_le (by omega)] at hk2; apply Decidable.byContradiction; intro h; rw [decide_eq_false h] at hk2; simp_all
     exact Zg (O.m rfl (O.q rfl (Pu.add64 (r := ((i + 1 : Nat) : Int)) rfl (by omega) rfl rfl rfl) (O.m rfl (On (X.back3 (zA, zc, z, i + 1) (by (try dsimp only); exact ⟨by omega, by rw [hz]; exact (rowT_yes (by rw [← hz]; exact hkn)).symm⟩) (by first | omega | (dsimp only; omega)) (Ent.cons rfl (Ent.cons rfl (Ent.nil _))) (Ent.cons (t := 1) rfl (Ent.cons (t := 2) rfl (Ent.cons (t := 3) rfl (Ent.cons (t := 4) rfl (Ent.nil _))))) (Sub.t [1] 1 rfl))))))
  ·refine ⟨_, _, rfl, rfl, fun _ _ => wanted_none rfl _, Ef.alloc rfl zr81 rfl, rfl, rfl, ?_⟩
   rintro _ _ ⟨b1, rfl, rfl⟩ hs
   refine ⟨fun w hw => hw.sub (Sub.t [1] 1 rfl), (D.f hwf 15 rfl (Ef.callP call80 rfl rfl (fun w hw => l01BlockD_ok  ((a + (↑i : Int)) % v_) ((b + (↑i : Int)) % v_) ((c_ + (↑i : Int)) % v_) w   (by have h1 := Int.emod_nonneg (a + (i : Int)) (show v_ ≠ 0 by omega); have h2 := Int.emod_lt_of_pos (a + (i : Int)) (show 0 < v_ by omega); omega) (by have h1 := Int.emod_nonneg (b + (i : Int)) (show v_ ≠ 0 by omega); have h2 := Int.emod_lt_of_pos (b + (i : Int)) (show 0 < v_ by omega); omega) (by have h1 := Int.emod_nonneg (c_ + (i : Int)) (show v_ ≠ 0 by omega); have h2 := Int.emod_lt_of_pos (c_ + (i : Int)) (show 0 < v_ by omega); omega))) ?_)⟩
   rintro _ _ ⟨rfl, rfl⟩ hs
   refine ⟨fun w hw => hw.sub (Sub.t [1] 1 rfl), (D.f hwf 17 rfl (Ef.storeAll 0 rfl sz81 rfl rfl rfl rfl (by simp [Value.oneCell']) rfl) ?_)⟩
   rintro _ _ rfl hs
   refine ⟨fun w hw => hw.sub (Sub.t [1] 1 rfl), (D.m 18 rfl (D.done hwf rfl (Xn (Zj (O.m rfl (Zi (V.loop3 (β := Bool × Nat) (fun x => [(13, .bool x.1), (14, .int .i64 (x.2 : Int))]) _ (fun x => []) _ (fun x => x.2 ≤ z.length ∧ x.1 = decide (bkT v_ (a, b, c_) i ∈ z.take x.2)) (fun x => z.length - x.2) (false, 0) (by (try dsimp only); exact ⟨by omega, by simp⟩) (Ent.cons rfl (Ent.cons rfl (Ent.nil _))) (Ent.cons (t := 0) rfl (Ent.cons (t := 1) rfl (Ent.cons (t := 2) rfl (Ent.cons (t := 3) rfl (Ent.cons (t := 4) rfl (Ent.cons (t := 11) rfl (Ent.cons (t := 12) rfl (Ent.nil _)))))))) (Sub.t [0,0] 0 rfl) ?_)))))))⟩
   rintro ⟨known, k⟩ ⟨hk, hk2⟩
   dsimp only at hk hk2 ⊢
   refine Zj (O.m rfl (O.m rfl (O.q rfl (Pu.len rfl ut24 rfl) (O.q rfl (Pu.lss rfl rfl rfl) (Zf (V.condD rfl (fun c2 => ?_) (fun c2 => ?_)))))))
   ·refine Vk (Xn (Vs (Vb (V.draw mo (by kernel_rfl) (fun hwf => D.m 0 rfl (D.m 1 rfl (D.splitB 43 rfl (fun c3 => ?_) (fun c3 => ?_))))))))
    ·subst c3
     refine D.g 2 rfl (D.g 3 rfl (D.g 4 rfl (D.g 5 rfl (D.g 6 rfl (D.g 7 rfl (D.m 8 rfl (D.last hwf (e := 9) rfl rfl rfl rfl rfl rfl (Pu.assign rfl rfl) (Xb (Xn (Vr (O.m rfl ?_)))))))))))
     exact O.q rfl (Pu.add64 (r := ((k + 1 : Nat) : Int)) rfl (by omega) rfl rfl rfl) (O.m rfl (On (X.back3 (true, k + 1) (by (try dsimp only); exact ⟨by omega, by rw [take_snoc (by omega)]; have h := hk2.symm; rw [decide_eq_true_eq] at h; exact (decide_eq_true (List.mem_append.2 (.inl h))).symm⟩) (by first | omega | (dsimp only; omega)) (Ent.cons rfl (Ent.cons rfl (Ent.nil _))) (Ent.cons (t := 0) rfl (Ent.cons (t := 1) rfl (Ent.cons (t := 2) rfl (Ent.cons (t := 3) rfl (Ent.cons (t := 4) rfl (Ent.cons (t := 11) rfl (Ent.cons (t := 12) rfl (Ent.nil _)))))))) (Sub.t [0,0] 0 rfl))))
    ·subst c3
     refine D.gm 2 rfl (D.gm 3 rfl (D.gq 4 rfl (Pu.indexAddrS (k) rfl ut24 sz81 rfl rfl (by omega) (by omega) (fun w hw => Own.some hw (i := 1) (by exact rfl) (by omega))) ?_))
     have e1 : k < z.length := by omega
     exact D.gq 5 rfl (Pu.loadAgg' (v := B3.v (z[k]'e1)) rfl rfl ag81 sz81 rfl rfl (Ld.rds (C := B3C) (Ld.own 1 (by exact rfl)) (k := k) e1 rfl)) (D.gq 6 rfl (Pu.loadAgg' (v := B3.v (bk3 ((a + (↑i : Int)) % v_) ((b + (↑i : Int)) % v_) ((c_ + (↑i : Int)) % v_))) rfl rfl ag81 sz81 rfl rfl (Ld.whole 0 rfl)) (D.gq 7 rfl (Pu.eqlB3 ut81 ut2 sz2 (by kernel_rfl) rfl rfl rfl) (D.m 8 rfl (D.last hwf (e := 9) rfl rfl rfl rfl rfl rfl (Pu.assign rfl rfl) (Xb (Xn (Vr (O.m rfl (O.q rfl (Pu.add64 (r := ((k + 1 : Nat) : Int)) rfl (by omega) rfl rfl rfl) (O.m rfl (On (X.back3 ((decide ((z[k]'e1) = (bk3 ((a + (↑i : Int)) % v_) ((b + (↑i : Int)) % v_) ((c_ + (↑i : Int)) % v_)))), k + 1) (by (try dsimp only); exact ⟨by omega, by rw [take_snoc (by omega)]; have h := hk2.symm; rw [decide_eq_false_iff_not] at h; apply decide_eq_decide.2; rw [List.mem_append, List.mem_singleton]; exact ⟨fun e => .inr e.symm, fun e => e.elim (fun e => absurd e h) Eq.symm⟩⟩) (by first | omega | (dsimp only; omega)) (Ent.cons rfl (Ent.cons rfl (Ent.nil _))) (Ent.cons (t := 0) rfl (Ent.cons (t := 1) rfl (Ent.cons (t := 2) rfl (Ent.cons (t := 3) rfl (Ent.cons (t := 4) rfl (Ent.cons (t := 11) rfl (Ent.cons (t := 12) rfl (Ent.nil _)))))))) (Sub.t [0,0] 0 rfl)))))))))))))
   ·refine Zd (O.m rfl (O.q rfl (Pu.not rfl rfl) (Zf (V.cond rfl (fun c4 => ?_) (fun c4 => ?_)))))
    ·have hnk : ¬ bkT v_ (a, b, c_) i ∈ z := by rw [List.take_of_length_le (by omega)] at hk2; intro h; rw [decide_eq_true h] at hk2; simp_all
     refine Vr (O.m rfl (O.q rfl (Pu.loadAgg' (v := B3.v (bk3 ((a + (↑i : Int)) % v_) ((b + (↑i : Int)) % v_) ((c_ + (↑i : Int)) % v_))) rfl rfl ag81 sz81 rfl rfl (Ld.whole 0 rfl)) (O.f rfl (Ef.build B3C ([(bk3 ((a + (↑i : Int)) % v_) ((b + (↑i : Int)) % v_) ((c_ + (↑i : Int)) % v_))] : List B3) rfl ut24 inf81 rfl rfl rfl (by first | decide | (simp; done)) (by kernel_rfl)) ?_)))
     rintro _ _ ⟨A1, hA1, rfl, rfl⟩
     refine O.f rfl (Ef.append (xs := z) (ys := ([(bk3 ((a + (↑i : Int)) % v_) ((b + (↑i : Int)) % v_) ((c_ + (↑i : Int)) % v_))] : List B3)) 2 rfl ut24 inf81 rfl rfl rfl rfl rfl rfl hA1 (Ld.own 0 (by exact rfl)) (by simp only [List.length_append, List.length_cons, List.length_nil] at *; omega) (by decide)) ?_
     rintro _ _ ⟨A2, k1, rfl, rfl, hA2⟩
     replace hA2 := hA2 (.inr (by simp))
     exact O.m rfl (Zk (O.m rfl (O.q rfl (Pu.add64 (r := ((i + 1 : Nat) : Int)) rfl (by omega) rfl rfl rfl) (O.m rfl (On (X.back3 (A2, k1, (z ++ ([(bk3 ((a + (↑i : Int)) % v_) ((b + (↑i : Int)) % v_) ((c_ + (↑i : Int)) % v_))] : List B3)), i + 1) (by (try dsimp only); exact ⟨by omega, by rw [hz]; exact (rowT_no (by rw [← hz]; exact hnk)).symm⟩) (by first | omega | (dsimp only; omega)) (Ent.cons rfl (Ent.cons rfl (Ent.nil _))) (Ent.cons (t := 1) rfl (Ent.cons (t := 2) rfl (Ent.cons (t := 3) rfl (Ent.cons (t := 4) rfl (Ent.nil _))))) (Sub.t [2] 2 rfl)))))))
    ·have hkn : bkT v_ (a, b, c_) i ∈ z := by rw [List.take_of_length_le (by omega)] at hk2; apply Decidable.byContradiction; intro h; rw [decide_eq_false h] at hk2; simp_all
     exact Zg (O.m rfl (O.q rfl (Pu.add64 (r := ((i + 1 : Nat) : Int)) rfl (by omega) rfl rfl rfl) (O.m rfl (On (X.back3 (zA, zc, z, i + 1) (by (try dsimp only); exact ⟨by omega, by rw [hz]; exact (rowT_yes (by rw [← hz]; exact hkn)).symm⟩) (by first | omega | (dsimp only; omega)) (Ent.cons rfl (Ent.cons rfl (Ent.nil _))) (Ent.cons (t := 1) rfl (Ent.cons (t := 2) rfl (Ent.cons (t := 3) rfl (Ent.cons (t := 4) rfl (Ent.nil _))))) (Sub.t [1] 1 rfl))))))
 ·refine Zd (O.m rfl (O.m rfl (Ze ?_)))
  exact X.ret1 rfl rfl (fun w hw => St.mkExi zA (St.mkExi zc (St.mkExi z (St.unsep (St.addPur ⟨rfl, by rw [hz, show i = v_.toNat by omega]⟩ (hw.sub (Sub.t [0] 0 rfl)))))))
set_option maxRecDepth 100000 in
set_option maxHeartbeats 1000000 in
theorem l01NamedD0_ok (w : World) : Does Tryz.prog 144 [.string (ByteArray.mk #[115, 105, 110, 103, 108, 101])] w [] (fun rv_ => [.exi fun (rA : Option Addr) => .exi fun (rc : Nat) => .exi fun (r : List B3) => .sep (.pur (rv_ = .tuple #[.agg #[.int .i64 3, .slice rA r.length rc], .bool true] ∧ DrS 4000 3 r)) (Own 81 B3C rA rc r)]) := by
 refine Does.enter Tryz.func144 rfl rfl [(0, .string (ByteArray.mk #[115, 105, 110, 103, 108, 101]))] rfl (Za (O.f rfl (Ef.alloc rfl zr26 rfl) ?_))
 rintro _ _ ⟨b1, rfl, rfl⟩
 refine O.m rfl (Zb (O.f rfl (Ef.build B3C ([] : List B3) rfl ut24 inf81 rfl rfl rfl (by first | decide | (simp; done)) (by kernel_rfl)) ?_))
 rintro _ _ ⟨A1, hA1, rfl, rfl⟩
 refine O.m rfl (Zc (O.m rfl (Zi (Za ?_))))
 refine O.q rfl (Pu.eqlStr (b := true) (by kernel_rfl) rfl rfl rfl) (O.m rfl (Zf (V.condT rfl (Za (O.q rfl (Pu.buildA (cs := [.int .i64 (0 : Int), .int .i64 (1 : Int), .int .i64 (2 : Int)]) (v := B3.v ((0 : Int), (1 : Int), (2 : Int))) rfl rfl ut81 zr81 sz2 rfl (by kernel_rfl)) (O.f rfl (Ef.build B3C ([((0 : Int), (1 : Int), (2 : Int))] : List B3) rfl ut24 inf81 rfl rfl rfl (by first | decide | (simp; done)) (by kernel_rfl)) ?_))))))
 rintro _ _ ⟨A2, hA2, rfl, rfl⟩
 refine O.f rfl (Ef.call1 call151 rfl rfl (fun w hw => l01Made_ok  (3 : Int) ([((0 : Int), (1 : Int), (2 : Int))] : List B3) _ _ w ((Ld.own 0 (by exact rfl)) w hw) (by simp) (by simp))) ?_
 rintro _ _ rfl
 refine O.exi (fun r1A => O.exi (fun r1c => O.exi (fun r1 => O.sep (O.pur ?_))))
 rintro ⟨rfl, hr1_1, hr1_2⟩
 refine O.s rfl rfl (Ef.storeAll 3 rfl sz26 rfl rfl rfl rfl (by simp [Value.oneCell']) rfl) ?_
 rintro _ _ rfl
 exact O.m rfl (Ze (Xq (Xr (X.retCell2 rfl ag26 sz26 rfl rfl rfl (Ld.whole 3 rfl) (fun w hw => St.mkExi r1A (St.mkExi r1c (St.mkExi r1 (St.unsep (St.addPur ⟨rfl, DrS.perm ⟨by decide, by decide, by decide⟩ hr1_1⟩ (hw.sub (Sub.s [0] rfl)))))))))))
set_option maxRecDepth 100000 in
set_option maxHeartbeats 1000000 in
theorem l01NamedD1_ok (w : World) : Does Tryz.prog 144 [.string (ByteArray.mk #[102, 97, 110, 111])] w [] (fun rv_ => [.exi fun (rA : Option Addr) => .exi fun (rc : Nat) => .exi fun (r : List B3) => .sep (.pur (rv_ = .tuple #[.agg #[.int .i64 7, .slice rA r.length rc], .bool true] ∧ DrS 4000 7 r)) (Own 81 B3C rA rc r)]) := by
 refine Does.enter Tryz.func144 rfl rfl [(0, .string (ByteArray.mk #[102, 97, 110, 111]))] rfl (Za (O.f rfl (Ef.alloc rfl zr26 rfl) ?_))
 rintro _ _ ⟨b1, rfl, rfl⟩
 refine O.m rfl (Zb (O.f rfl (Ef.build B3C ([] : List B3) rfl ut24 inf81 rfl rfl rfl (by first | decide | (simp; done)) (by kernel_rfl)) ?_))
 rintro _ _ ⟨A1, hA1, rfl, rfl⟩
 refine O.m rfl (Zc (O.m rfl (Zi (Za ?_))))
 refine O.q rfl (Pu.eqlStr (b := false) (by kernel_rfl) rfl rfl rfl) (O.m rfl (Zf (V.condF rfl (Za (O.q rfl (Pu.eqlStr (b := true) (by kernel_rfl) rfl rfl rfl) (O.m rfl (Zf (V.condT rfl ?_))))))))
 refine Za (O.m rfl (O.f rfl (Ef.call call187 rfl rfl (Does.pre (fun w hw => hw.sub (Sub.s [0,0] rfl)) (l01Turned_ok  ([] : List B3) (7 : Int) (0 : Int) (1 : Int) (3 : Int) _ _ w _   (by decide) (by decide) (by decide) (by decide) (by first | (simp; done) | (rw [hr1_1]; decide +kernel) | (rw [hr2_1, hr1_1]; decide +kernel))))) ?_))
 rintro _ _ rfl
 refine O.exi (fun r1A => O.exi (fun r1c => O.exi (fun r1 => O.sep (O.pur ?_))))
 rintro ⟨rfl, hr1_1⟩
 refine O.f rfl (Ef.call1 call151 rfl rfl (fun w hw => l01Made_ok  (7 : Int) r1 _ _ w ((Ld.own 0 (by exact rfl)) w hw) (by rw [hr1_1]; decide +kernel) (by rw [hr1_1]; decide +kernel))) ?_
 rintro _ _ rfl
 refine O.exi (fun r2A => O.exi (fun r2c => O.exi (fun r2 => O.sep (O.pur ?_))))
 rintro ⟨rfl, hr2_1, hr2_2⟩
 refine O.s rfl rfl (Ef.storeAll 2 rfl sz26 rfl rfl rfl rfl (by simp [Value.oneCell']) rfl) ?_
 rintro _ _ rfl
 exact O.m rfl (Ze (Xq (Xr (X.retCell2 rfl ag26 sz26 rfl rfl rfl (Ld.whole 2 rfl) (fun w hw => St.mkExi r2A (St.mkExi r2c (St.mkExi r2 (St.unsep (St.addPur ⟨rfl, DrS.perm (bs := r1) (by rw [hr1_1]; exact ⟨by decide, by decide +kernel, by decide +kernel⟩) hr2_1⟩ (hw.sub (Sub.s [0] rfl)))))))))))
set_option maxRecDepth 100000 in
set_option maxHeartbeats 1000000 in
theorem l01NamedD2_ok (w : World) : Does Tryz.prog 144 [.string (ByteArray.mk #[97, 102, 102, 105, 110, 101])] w [] (fun rv_ => [.exi fun (rA : Option Addr) => .exi fun (rc : Nat) => .exi fun (r : List B3) => .sep (.pur (rv_ = .tuple #[.agg #[.int .i64 9, .slice rA r.length rc], .bool true] ∧ DrS 4000 9 r)) (Own 81 B3C rA rc r)]) := by
 refine Does.enter Tryz.func144 rfl rfl [(0, .string (ByteArray.mk #[97, 102, 102, 105, 110, 101]))] rfl (Za (O.f rfl (Ef.alloc rfl zr26 rfl) ?_))
 rintro _ _ ⟨b1, rfl, rfl⟩
 refine O.m rfl (Zb (O.f rfl (Ef.build B3C ([] : List B3) rfl ut24 inf81 rfl rfl rfl (by first | decide | (simp; done)) (by kernel_rfl)) ?_))
 rintro _ _ ⟨A1, hA1, rfl, rfl⟩
 refine O.m rfl (Zc (O.m rfl (Zi (Za ?_))))
 refine O.q rfl (Pu.eqlStr (b := false) (by kernel_rfl) rfl rfl rfl) (O.m rfl (Zf (V.condF rfl (Za (O.q rfl (Pu.eqlStr (b := false) (by kernel_rfl) rfl rfl rfl) (O.m rfl (Zf (V.condF rfl ?_))))))))
 refine Za (O.q rfl (Pu.eqlStr (b := false) (by kernel_rfl) rfl rfl rfl) (O.m rfl (Zf (V.condF rfl (Za (O.q rfl (Pu.eqlStr (b := false) (by kernel_rfl) rfl rfl rfl) (O.m rfl (On ?_))))))))
 refine Xn (V.condF rfl (Zj (O.q rfl (Pu.eqlStr (b := true) (by kernel_rfl) rfl rfl rfl) (O.m rfl (Zf (V.condT rfl (Vk (Xn ?_))))))))
 refine V.condT rfl (Za (O.m rfl (Zc (O.m rfl (O.q rfl (Pu.eqlStr (b := false) (by kernel_rfl) rfl rfl rfl) (On ?_))))))
 refine Xn (V.condF rfl (Vk (Xn (Zj (O.m rfl (Zi (V.loop3 (β := (Option Addr) × Nat × (List B3) × Nat) (fun x => [(4, .slice x.1 x.2.2.1.length x.2.1), (6, .int .i64 (x.2.2.2 : Int))]) _ (fun x => [Own 81 B3C x.1 x.2.1 x.2.2.1]) _ (fun x => x.2.2.2 ≤ 9 ∧ (∀ d ∈ x.2.2.1, good 9 d) ∧ x.2.2.1.length ≤ 225 * x.2.2.2) (fun x => 9 - x.2.2.2) (A1, 0, ([] : List B3), 0) (by (try dsimp only); exact ⟨by omega, by simp, by simp⟩) (Ent.cons rfl (Ent.cons rfl (Ent.nil _))) (Ent.cons (t := 2) rfl (Ent.cons (t := 5) rfl (Ent.nil _))) (Sub.s [0,0] rfl) ?_)))))))
 rintro ⟨z0A, z0c, z0, a⟩ ⟨ha, hg0, hl0⟩
 dsimp only at ha hg0 hl0 ⊢
 refine Zj (O.m rfl (O.m rfl (O.q rfl (Pu.lss rfl rfl rfl) (Zf (V.condD rfl (fun c1 => ?_) (fun c1 => ?_))))))
 ·refine Zh (O.m rfl (O.q rfl (Pu.add64 (r := ((a + 1 : Nat) : Int)) rfl (by omega) rfl rfl rfl) (O.m rfl (Zi ?_))))
  refine V.loop3 (β := (Option Addr) × Nat × (List B3) × Nat) (fun x => [(4, .slice x.1 x.2.2.1.length x.2.1), (7, .int .i64 (x.2.2.2 : Int))]) _ (fun x => [Own 81 B3C x.1 x.2.1 x.2.2.1]) _ (fun x => a < x.2.2.2 ∧ x.2.2.2 ≤ 9 ∧ (∀ d ∈ x.2.2.1, good 9 d) ∧ x.2.2.1.length ≤ 225 * a + 15 * x.2.2.2) (fun x => 9 - x.2.2.2) (z0A, z0c, z0, a + 1) (by (try dsimp only); exact ⟨by omega, by omega, hg0, by omega⟩) (Ent.cons rfl (Ent.cons rfl (Ent.nil _))) (Ent.cons (t := 2) rfl (Ent.cons (t := 5) rfl (Ent.cons (t := 6) rfl (Ent.nil _)))) (Sub.s [0,0] rfl) ?_
  rintro ⟨z1A, z1c, z1, b⟩ ⟨hab, hb, hg1, hl1⟩
  dsimp only at hab hb hg1 hl1 ⊢
  refine Zj (O.m rfl (O.m rfl (O.q rfl (Pu.lss rfl rfl rfl) (Zf (V.condD rfl (fun c2 => ?_) (fun c2 => ?_))))))
  ·refine Zh (O.m rfl (O.q rfl (Pu.add64 (r := ((b + 1 : Nat) : Int)) rfl (by omega) rfl rfl rfl) (O.m rfl (Zi ?_))))
   refine V.loop3 (β := (Option Addr) × Nat × (List B3) × Nat) (fun x => [(4, .slice x.1 x.2.2.1.length x.2.1), (8, .int .i64 (x.2.2.2 : Int))]) _ (fun x => [Own 81 B3C x.1 x.2.1 x.2.2.1]) _ (fun x => b < x.2.2.2 ∧ x.2.2.2 ≤ 9 ∧ (∀ d ∈ x.2.2.1, good 9 d) ∧ x.2.2.1.length ≤ 225 * a + 15 * b + x.2.2.2) (fun x => 9 - x.2.2.2) (z1A, z1c, z1, b + 1) (by (try dsimp only); exact ⟨by omega, by omega, hg1, by omega⟩) (Ent.cons rfl (Ent.cons rfl (Ent.nil _))) (Ent.cons (t := 2) rfl (Ent.cons (t := 5) rfl (Ent.cons (t := 6) rfl (Ent.cons (t := 7) rfl (Ent.nil _))))) (Sub.s [0,0] rfl) ?_
   rintro ⟨z2A, z2c, z2, e⟩ ⟨hbe, he, hg2, hl2⟩
   dsimp only at hbe he hg2 hl2 ⊢
   refine Zj (O.m rfl (O.m rfl (O.q rfl (Pu.lss rfl rfl rfl) (Zf (V.condD rfl (fun c3 => ?_) (fun c3 => ?_))))))
   ·refine Zh (O.m rfl (O.q rfl (Pu.isT (by decide) (Pu.eql rfl rfl rfl)) (O.m rfl (O.gm rfl (O.gq rfl (Pu.quo64 (by omega) (by omega) (by omega) rfl rfl rfl) (O.gm rfl ?_))))))
    refine O.gq rfl (Pu.quo64 (by omega) (by omega) (by omega) rfl rfl rfl) (O.gq rfl (Pu.add64 rfl (by omega) rfl rfl rfl) (O.gm rfl (O.gq rfl (Pu.quo64 (by omega) (by omega) (by omega) rfl rfl rfl) (O.gq rfl (Pu.add64 rfl (by omega) rfl rfl rfl) (O.gq rfl (Pu.rem64 (by omega) (by omega) rfl rfl rfl) (O.gq rfl (Pu.eql rfl rfl rfl) (O.m rfl (O.m rfl (O.splitD 72 rfl (fun c4 => ?_) (fun c4 => ?_))))))))))
    ·refine O.gm rfl (O.gq rfl (Pu.rem64 (by omega) (by omega) rfl rfl rfl) (O.gm rfl (O.gq rfl (Pu.rem64 (by omega) (by omega) rfl rfl rfl) (O.gq rfl (Pu.add64 rfl (by omega) rfl rfl rfl) (O.gm rfl (O.gq rfl (Pu.rem64 (by omega) (by omega) rfl rfl rfl) (O.gq rfl (Pu.add64 rfl (by omega) rfl rfl rfl) (O.gq rfl (Pu.rem64 (by omega) (by omega) rfl rfl rfl) (O.gq rfl (Pu.eql rfl rfl rfl) (O.m rfl (O.m rfl (O.splitD 84 rfl (fun c5 => ?_) (fun c5 => ?_)))))))))))))
     ·refine O.g rfl (O.g rfl (O.g rfl (O.g rfl (O.g rfl (O.g rfl (O.g rfl (O.g rfl (O.g rfl (O.g rfl (O.g rfl (O.g rfl ?_)))))))))))
      refine O.g rfl (O.m rfl (Zf (V.condT rfl (Vr (O.m rfl (O.m rfl (O.m rfl (O.m rfl (O.q rfl (Pu.buildA (cs := [.int .i64 (↑a : Int), .int .i64 (↑b : Int), .int .i64 (↑e : Int)]) (v := B3.v ((↑a : Int), (↑b : Int), (↑e : Int))) rfl rfl ut81 zr81 sz2 rfl (by kernel_rfl)) (O.f rfl (Ef.build B3C ([((↑a : Int), (↑b : Int), (↑e : Int))] : List B3) rfl ut24 inf81 rfl rfl rfl (by first | decide | (simp; done)) (by kernel_rfl)) ?_))))))))))
      rintro _ _ ⟨A2, hA2, rfl, rfl⟩
      refine O.f rfl (Ef.append (xs := z2) (ys := ([((↑a : Int), (↑b : Int), (↑e : Int))] : List B3)) 1 rfl ut24 inf81 rfl rfl rfl rfl rfl rfl hA2 (Ld.own 0 (by exact rfl)) (by simp only [List.length_append, List.length_cons, List.length_nil] at *; omega) (by decide)) ?_
      rintro _ _ ⟨A3, k1, rfl, rfl, hA3⟩
      replace hA3 := hA3 (.inr (by simp))
      exact O.m rfl (Zk (O.m rfl (O.q rfl (Pu.add64 (r := ((e + 1 : Nat) : Int)) rfl (by omega) rfl rfl rfl) (O.m rfl (On (X.back3 (A3, k1, (z2 ++ ([((↑a : Int), (↑b : Int), (↑e : Int))] : List B3)), e + 1) (by (try dsimp only); exact ⟨by omega, by omega, (by first | exact hg2 | exact good_snoc hg2 (by unfold good; simp only; omega)), (by first | omega | (simp only [List.length_append, List.length_singleton]; omega))⟩) (by first | omega | (dsimp only; omega)) (Ent.cons rfl (Ent.cons rfl (Ent.nil _))) (Ent.cons (t := 2) rfl (Ent.cons (t := 5) rfl (Ent.cons (t := 6) rfl (Ent.cons (t := 7) rfl (Ent.nil _))))) (Sub.s [1,1] rfl)))))))
     ·refine O.gm rfl (O.gq rfl (Pu.isF (by decide) (Pu.eql rfl rfl rfl)) (O.gm rfl (O.g rfl (O.g rfl (O.g rfl (O.g rfl (O.g rfl (O.g rfl (O.g rfl (O.g rfl (O.g rfl ?_)))))))))))
      refine O.gm rfl (O.m rfl (Zf (V.condF rfl (Zg (O.m rfl (O.q rfl (Pu.add64 (r := ((e + 1 : Nat) : Int)) rfl (by omega) rfl rfl rfl) (O.m rfl ?_)))))))
      exact On (X.back3 (z2A, z2c, z2, e + 1) (by (try dsimp only); exact ⟨by omega, by omega, (by first | exact hg2 | exact good_snoc hg2 (by unfold good; simp only; omega)), (by first | omega | (simp only [List.length_append, List.length_singleton]; omega))⟩) (by first | omega | (dsimp only; omega)) (Ent.cons rfl (Ent.cons rfl (Ent.nil _))) (Ent.cons (t := 2) rfl (Ent.cons (t := 5) rfl (Ent.cons (t := 6) rfl (Ent.cons (t := 7) rfl (Ent.nil _))))) (Sub.s [0,0] rfl))
    ·refine O.g rfl (O.g rfl (O.g rfl (O.g rfl (O.g rfl (O.g rfl (O.g rfl (O.g rfl (O.g rfl (O.g rfl (O.m rfl (O.m rfl ?_)))))))))))
     refine O.gm rfl (O.gq rfl (Pu.isF (by decide) (Pu.eql rfl rfl rfl)) (O.gm rfl (O.g rfl (O.g rfl (O.g rfl (O.g rfl (O.g rfl (O.g rfl (O.g rfl (O.g rfl (O.g rfl ?_)))))))))))
     refine O.gm rfl (O.m rfl (Zf (V.condF rfl (Zg (O.m rfl (O.q rfl (Pu.add64 (r := ((e + 1 : Nat) : Int)) rfl (by omega) rfl rfl rfl) (O.m rfl ?_)))))))
     exact On (X.back3 (z2A, z2c, z2, e + 1) (by (try dsimp only); exact ⟨by omega, by omega, (by first | exact hg2 | exact good_snoc hg2 (by unfold good; simp only; omega)), (by first | omega | (simp only [List.length_append, List.length_singleton]; omega))⟩) (by first | omega | (dsimp only; omega)) (Ent.cons rfl (Ent.cons rfl (Ent.nil _))) (Ent.cons (t := 2) rfl (Ent.cons (t := 5) rfl (Ent.cons (t := 6) rfl (Ent.cons (t := 7) rfl (Ent.nil _))))) (Sub.s [0,0] rfl))
   ·exact Ve (Xe (Xe (Xh (Xb (Xn (Vr (O.m rfl (O.q rfl (Pu.add64 (r := ((b + 1 : Nat) : Int)) rfl (by omega) rfl rfl rfl) (O.m rfl (On (X.back3 (z2A, z2c, z2, b + 1) (by (try dsimp only); exact ⟨by omega, by omega, hg2, by omega⟩) (by first | omega | (dsimp only; omega)) (Ent.cons rfl (Ent.cons rfl (Ent.nil _))) (Ent.cons (t := 2) rfl (Ent.cons (t := 5) rfl (Ent.cons (t := 6) rfl (Ent.nil _)))) (Sub.s [0,0] rfl))))))))))))
  ·exact Ve (Xe (Xe (Xh (Xb (Xn (Vr (O.m rfl (O.q rfl (Pu.add64 (r := ((a + 1 : Nat) : Int)) rfl (by omega) rfl rfl rfl) (O.m rfl (On (X.back3 (z1A, z1c, z1, a + 1) (by (try dsimp only); exact ⟨by omega, hg1, by omega⟩) (by first | omega | (dsimp only; omega)) (Ent.cons rfl (Ent.cons rfl (Ent.nil _))) (Ent.cons (t := 2) rfl (Ent.cons (t := 5) rfl (Ent.nil _))) (Sub.s [0,0] rfl))))))))))))
 ·refine Zd (O.m rfl (O.m rfl (O.f rfl (Ef.call1 call151 rfl rfl (fun w hw => l01Made_ok  (9 : Int) z0 _ _ w ((Ld.own 0 (by exact rfl)) w hw) (by first | omega | (simp only [tops_len, conts_len, bl, List.length_append, List.length_cons, List.length_nil] at *; omega)) (by first | assumption | omega | (try dsimp only at *; omega)))) ?_)))
  rintro _ _ rfl
  refine O.exi (fun r1A => O.exi (fun r1c => O.exi (fun r1 => O.sep (O.pur ?_))))
  rintro ⟨rfl, hr1_1, hr1_2⟩
  refine O.s rfl rfl (Ef.storeAll 2 rfl sz26 rfl rfl rfl rfl (by simp [Value.oneCell']) rfl) ?_
  rintro _ _ rfl
  exact O.m rfl (Ze (Xq (Xr (X.retCell2 rfl ag26 sz26 rfl rfl rfl (Ld.whole 2 rfl) (fun w hw => St.mkExi r1A (St.mkExi r1c (St.mkExi r1 (St.unsep (St.addPur ⟨rfl, DrS.perm ⟨by decide, hg0, by omega⟩ hr1_1⟩ (hw.sub (Sub.s [0] rfl)))))))))))
set_option maxRecDepth 100000 in
set_option maxHeartbeats 1000000 in
theorem l01NamedD3_ok (w : World) : Does Tryz.prog 144 [.string (ByteArray.mk #[99, 121, 99, 108, 105, 99, 49, 51])] w [] (fun rv_ => [.exi fun (rA : Option Addr) => .exi fun (rc : Nat) => .exi fun (r : List B3) => .sep (.pur (rv_ = .tuple #[.agg #[.int .i64 13, .slice rA r.length rc], .bool true] ∧ DrS 4000 13 r)) (Own 81 B3C rA rc r)]) := by
 refine Does.enter Tryz.func144 rfl rfl [(0, .string (ByteArray.mk #[99, 121, 99, 108, 105, 99, 49, 51]))] rfl (Za (O.f rfl (Ef.alloc rfl zr26 rfl) ?_))
 rintro _ _ ⟨b1, rfl, rfl⟩
 refine O.m rfl (Zb (O.f rfl (Ef.build B3C ([] : List B3) rfl ut24 inf81 rfl rfl rfl (by first | decide | (simp; done)) (by kernel_rfl)) ?_))
 rintro _ _ ⟨A1, hA1, rfl, rfl⟩
 refine O.m rfl (Zc (O.m rfl (Zi (Za ?_))))
 refine O.q rfl (Pu.eqlStr (b := false) (by kernel_rfl) rfl rfl rfl) (O.m rfl (Zf (V.condF rfl (Za (O.q rfl (Pu.eqlStr (b := false) (by kernel_rfl) rfl rfl rfl) (O.m rfl (Zf (V.condF rfl ?_))))))))
 refine Za (O.q rfl (Pu.eqlStr (b := true) (by kernel_rfl) rfl rfl rfl) (O.m rfl (Zf (V.condT rfl (Za (O.m rfl (O.f rfl (Ef.call call187 rfl rfl (Does.pre (fun w hw => hw.sub (Sub.s [0,0] rfl)) (l01Turned_ok  ([] : List B3) (13 : Int) (0 : Int) (1 : Int) (4 : Int) _ _ w _   (by decide) (by decide) (by decide) (by decide) (by first | (simp; done) | (rw [hr1_1]; decide +kernel) | (rw [hr2_1, hr1_1]; decide +kernel))))) ?_)))))))
 rintro _ _ rfl
 refine O.exi (fun r1A => O.exi (fun r1c => O.exi (fun r1 => O.sep (O.pur ?_))))
 rintro ⟨rfl, hr1_1⟩
 refine O.f rfl (Ef.call call187 rfl rfl (Does.pre (fun w hw => hw.sub (Sub.s [0,0] rfl)) (l01Turned_ok  r1 (13 : Int) (0 : Int) (2 : Int) (7 : Int) _ _ w _   (by decide) (by decide) (by decide) (by decide) (by first | (simp; done) | (rw [hr1_1]; decide +kernel) | (rw [hr2_1, hr1_1]; decide +kernel))))) ?_
 rintro _ _ rfl
 refine O.exi (fun r2A => O.exi (fun r2c => O.exi (fun r2 => O.sep (O.pur ?_))))
 rintro ⟨rfl, hr2_1⟩
 refine O.f rfl (Ef.call1 call151 rfl rfl (fun w hw => l01Made_ok  (13 : Int) r2 _ _ w ((Ld.own 0 (by exact rfl)) w hw) (by rw [hr2_1, hr1_1]; decide +kernel) (by rw [hr2_1, hr1_1]; decide +kernel))) ?_
 rintro _ _ rfl
 refine O.exi (fun r3A => O.exi (fun r3c => O.exi (fun r3 => O.sep (O.pur ?_))))
 rintro ⟨rfl, hr3_1, hr3_2⟩
 refine O.s rfl rfl (Ef.storeAll 2 rfl sz26 rfl rfl rfl rfl (by simp [Value.oneCell']) rfl) ?_
 rintro _ _ rfl
 exact O.m rfl (Ze (Xq (Xr (X.retCell2 rfl ag26 sz26 rfl rfl rfl (Ld.whole 2 rfl) (fun w hw => St.mkExi r3A (St.mkExi r3c (St.mkExi r3 (St.unsep (St.addPur ⟨rfl, DrS.perm (bs := r2) (by rw [hr2_1, hr1_1]; exact ⟨by decide, by decide +kernel, by decide +kernel⟩) hr3_1⟩ (hw.sub (Sub.s [0] rfl)))))))))))
set_option maxRecDepth 100000 in
set_option maxHeartbeats 1000000 in
theorem l01NamedD4_ok (w : World) : Does Tryz.prog 144 [.string (ByteArray.mk #[99, 121, 99, 108, 105, 99, 49, 53])] w [] (fun rv_ => [.exi fun (rA : Option Addr) => .exi fun (rc : Nat) => .exi fun (r : List B3) => .sep (.pur (rv_ = .tuple #[.agg #[.int .i64 15, .slice rA r.length rc], .bool true] ∧ DrS 4000 15 r)) (Own 81 B3C rA rc r)]) := by
 refine Does.enter Tryz.func144 rfl rfl [(0, .string (ByteArray.mk #[99, 121, 99, 108, 105, 99, 49, 53]))] rfl (Za (O.f rfl (Ef.alloc rfl zr26 rfl) ?_))
 rintro _ _ ⟨b1, rfl, rfl⟩
 refine O.m rfl (Zb (O.f rfl (Ef.build B3C ([] : List B3) rfl ut24 inf81 rfl rfl rfl (by first | decide | (simp; done)) (by kernel_rfl)) ?_))
 rintro _ _ ⟨A1, hA1, rfl, rfl⟩
 refine O.m rfl (Zc (O.m rfl (Zi (Za ?_))))
 refine O.q rfl (Pu.eqlStr (b := false) (by kernel_rfl) rfl rfl rfl) (O.m rfl (Zf (V.condF rfl (Za (O.q rfl (Pu.eqlStr (b := false) (by kernel_rfl) rfl rfl rfl) (O.m rfl (Zf (V.condF rfl ?_))))))))
 refine Za (O.q rfl (Pu.eqlStr (b := false) (by kernel_rfl) rfl rfl rfl) (O.m rfl (Zf (V.condF rfl (Za (O.q rfl (Pu.eqlStr (b := true) (by kernel_rfl) rfl rfl rfl) (O.m rfl (On ?_))))))))
 refine Xn (V.condT rfl (Za (O.m rfl (O.f rfl (Ef.call call187 rfl rfl (Does.pre (fun w hw => hw.sub (Sub.s [0,0] rfl)) (l01Turned_ok  ([] : List B3) (15 : Int) (0 : Int) (1 : Int) (4 : Int) _ _ w _   (by decide) (by decide) (by decide) (by decide) (by first | (simp; done) | (rw [hr1_1]; decide +kernel) | (rw [hr2_1, hr1_1]; decide +kernel))))) ?_))))
 rintro _ _ rfl
 refine O.exi (fun r1A => O.exi (fun r1c => O.exi (fun r1 => O.sep (O.pur ?_))))
 rintro ⟨rfl, hr1_1⟩
 refine O.f rfl (Ef.call call187 rfl rfl (Does.pre (fun w hw => hw.sub (Sub.s [0,0] rfl)) (l01Turned_ok  r1 (15 : Int) (0 : Int) (2 : Int) (8 : Int) _ _ w _   (by decide) (by decide) (by decide) (by decide) (by first | (simp; done) | (rw [hr1_1]; decide +kernel) | (rw [hr2_1, hr1_1]; decide +kernel))))) ?_
 rintro _ _ rfl
 refine O.exi (fun r2A => O.exi (fun r2c => O.exi (fun r2 => O.sep (O.pur ?_))))
 rintro ⟨rfl, hr2_1⟩
 refine O.f rfl (Ef.call call187 rfl rfl (Does.pre (fun w hw => hw.sub (Sub.s [0,0] rfl)) (l01Turned_ok  r2 (15 : Int) (0 : Int) (5 : Int) (10 : Int) _ _ w _   (by decide) (by decide) (by decide) (by decide) (by first | (simp; done) | (rw [hr1_1]; decide +kernel) | (rw [hr2_1, hr1_1]; decide +kernel))))) ?_
 rintro _ _ rfl
 refine O.exi (fun r3A => O.exi (fun r3c => O.exi (fun r3 => O.sep (O.pur ?_))))
 rintro ⟨rfl, hr3_1⟩
 refine O.f rfl (Ef.call1 call151 rfl rfl (fun w hw => l01Made_ok  (15 : Int) r3 _ _ w ((Ld.own 0 (by exact rfl)) w hw) (by rw [hr3_1, hr2_1, hr1_1]; decide +kernel) (by rw [hr3_1, hr2_1, hr1_1]; decide +kernel))) ?_
 rintro _ _ rfl
 refine O.exi (fun r4A => O.exi (fun r4c => O.exi (fun r4 => O.sep (O.pur ?_))))
 rintro ⟨rfl, hr4_1, hr4_2⟩
 refine O.s rfl rfl (Ef.storeAll 2 rfl sz26 rfl rfl rfl rfl (by simp [Value.oneCell']) rfl) ?_
 rintro _ _ rfl
 exact O.m rfl (Ze (Xq (Xr (X.retCell2 rfl ag26 sz26 rfl rfl rfl (Ld.whole 2 rfl) (fun w hw => St.mkExi r4A (St.mkExi r4c (St.mkExi r4 (St.unsep (St.addPur ⟨rfl, DrS.perm (bs := r3) (by rw [hr3_1, hr2_1, hr1_1]; exact ⟨by decide, by decide +kernel, by decide +kernel⟩) hr4_1⟩ (hw.sub (Sub.s [0] rfl)))))))))))
set_option maxRecDepth 100000 in
set_option maxHeartbeats 1000000 in
theorem l01NamedD5_ok (w : World) : Does Tryz.prog 144 [.string (ByteArray.mk #[112, 114, 111, 106, 101, 99, 116, 105, 118, 101, 49, 53])] w [] (fun rv_ => [.exi fun (rA : Option Addr) => .exi fun (rc : Nat) => .exi fun (r : List B3) => .sep (.pur (rv_ = .tuple #[.agg #[.int .i64 15, .slice rA r.length rc], .bool true] ∧ DrS 4000 15 r)) (Own 81 B3C rA rc r)]) := by
 refine Does.enter Tryz.func144 rfl rfl [(0, .string (ByteArray.mk #[112, 114, 111, 106, 101, 99, 116, 105, 118, 101, 49, 53]))] rfl (Za (O.f rfl (Ef.alloc rfl zr26 rfl) ?_))
 rintro _ _ ⟨b1, rfl, rfl⟩
 refine O.m rfl (Zb (O.f rfl (Ef.build B3C ([] : List B3) rfl ut24 inf81 rfl rfl rfl (by first | decide | (simp; done)) (by kernel_rfl)) ?_))
 rintro _ _ ⟨A1, hA1, rfl, rfl⟩
 refine O.m rfl (Zc (O.m rfl (Zi (Za ?_))))
 refine O.q rfl (Pu.eqlStr (b := false) (by kernel_rfl) rfl rfl rfl) (O.m rfl (Zf (V.condF rfl (Za (O.q rfl (Pu.eqlStr (b := false) (by kernel_rfl) rfl rfl rfl) (O.m rfl (Zf (V.condF rfl ?_))))))))
 refine Za (O.q rfl (Pu.eqlStr (b := false) (by kernel_rfl) rfl rfl rfl) (O.m rfl (Zf (V.condF rfl (Za (O.q rfl (Pu.eqlStr (b := false) (by kernel_rfl) rfl rfl rfl) (O.m rfl (On ?_))))))))
 refine Xn (V.condF rfl (Zj (O.q rfl (Pu.eqlStr (b := false) (by kernel_rfl) rfl rfl rfl) (O.m rfl (Zf (V.condF rfl (Vr (O.q rfl (Pu.eqlStr (b := true) (by kernel_rfl) rfl rfl rfl) ?_))))))))
 refine O.m rfl (Zf (V.condT rfl (Za (O.m rfl (Zc ?_)))))
 refine O.m rfl (O.q rfl (Pu.eqlStr (b := true) (by kernel_rfl) rfl rfl rfl) (Zf (V.condT rfl (Vr (O.m rfl (Zc ?_))))))
 refine O.m rfl (Zi (V.loop3 (β := (Option Addr) × Nat × (List B3) × Nat) (fun x => [(4, .slice x.1 x.2.2.1.length x.2.1), (6, .int .i64 (x.2.2.2 : Int))]) _ (fun x => [Own 81 B3C x.1 x.2.1 x.2.2.1]) _ (fun x => x.2.2.2 ≤ 15 ∧ (∀ d ∈ x.2.2.1, good 15 d) ∧ x.2.2.1.length ≤ 225 * x.2.2.2) (fun x => 15 - x.2.2.2) (A1, 0, ([] : List B3), 0) (by (try dsimp only); exact ⟨by omega, by simp, by simp⟩) (Ent.cons rfl (Ent.cons rfl (Ent.nil _))) (Ent.cons (t := 2) rfl (Ent.cons (t := 5) rfl (Ent.nil _))) (Sub.s [0,0] rfl) ?_))
 rintro ⟨z0A, z0c, z0, a⟩ ⟨ha, hg0, hl0⟩
 dsimp only at ha hg0 hl0 ⊢
 refine Zj (O.m rfl (O.m rfl (O.q rfl (Pu.lss rfl rfl rfl) (Zf (V.condD rfl (fun c1 => ?_) (fun c1 => ?_))))))
 ·refine Zh (O.m rfl (O.q rfl (Pu.add64 (r := ((a + 1 : Nat) : Int)) rfl (by omega) rfl rfl rfl) (O.m rfl (Zi ?_))))
  refine V.loop3 (β := (Option Addr) × Nat × (List B3) × Nat) (fun x => [(4, .slice x.1 x.2.2.1.length x.2.1), (7, .int .i64 (x.2.2.2 : Int))]) _ (fun x => [Own 81 B3C x.1 x.2.1 x.2.2.1]) _ (fun x => a < x.2.2.2 ∧ x.2.2.2 ≤ 15 ∧ (∀ d ∈ x.2.2.1, good 15 d) ∧ x.2.2.1.length ≤ 225 * a + 15 * x.2.2.2) (fun x => 15 - x.2.2.2) (z0A, z0c, z0, a + 1) (by (try dsimp only); exact ⟨by omega, by omega, hg0, by omega⟩) (Ent.cons rfl (Ent.cons rfl (Ent.nil _))) (Ent.cons (t := 2) rfl (Ent.cons (t := 5) rfl (Ent.cons (t := 6) rfl (Ent.nil _)))) (Sub.s [0,0] rfl) ?_
  rintro ⟨z1A, z1c, z1, b⟩ ⟨hab, hb, hg1, hl1⟩
  dsimp only at hab hb hg1 hl1 ⊢
  refine Zj (O.m rfl (O.m rfl (O.q rfl (Pu.lss rfl rfl rfl) (Zf (V.condD rfl (fun c2 => ?_) (fun c2 => ?_))))))
  ·refine Zh (O.m rfl (O.q rfl (Pu.add64 (r := ((b + 1 : Nat) : Int)) rfl (by omega) rfl rfl rfl) (O.m rfl (Zi ?_))))
   refine V.loop3 (β := (Option Addr) × Nat × (List B3) × Nat) (fun x => [(4, .slice x.1 x.2.2.1.length x.2.1), (8, .int .i64 (x.2.2.2 : Int))]) _ (fun x => [Own 81 B3C x.1 x.2.1 x.2.2.1]) _ (fun x => b < x.2.2.2 ∧ x.2.2.2 ≤ 15 ∧ (∀ d ∈ x.2.2.1, good 15 d) ∧ x.2.2.1.length ≤ 225 * a + 15 * b + x.2.2.2) (fun x => 15 - x.2.2.2) (z1A, z1c, z1, b + 1) (by (try dsimp only); exact ⟨by omega, by omega, hg1, by omega⟩) (Ent.cons rfl (Ent.cons rfl (Ent.nil _))) (Ent.cons (t := 2) rfl (Ent.cons (t := 5) rfl (Ent.cons (t := 6) rfl (Ent.cons (t := 7) rfl (Ent.nil _))))) (Sub.s [0,0] rfl) ?_
   rintro ⟨z2A, z2c, z2, e⟩ ⟨hbe, he, hg2, hl2⟩
   dsimp only at hbe he hg2 hl2 ⊢
   refine Zj (O.m rfl (O.m rfl (O.q rfl (Pu.lss rfl rfl rfl) (Zf (V.condD rfl (fun c3 => ?_) (fun c3 => ?_))))))
   ·refine Zh (O.m rfl (O.q rfl (Pu.isF (by decide) (Pu.eql rfl rfl rfl)) (O.m rfl (O.g rfl (O.g rfl (O.g rfl ?_))))))
    refine O.g rfl (O.g rfl (O.g rfl (O.g rfl (O.g rfl (O.g rfl (O.g rfl (O.m rfl (O.m rfl (O.g rfl (O.g rfl (O.g rfl ?_)))))))))))
    refine O.g rfl (O.g rfl (O.g rfl (O.g rfl (O.g rfl (O.g rfl (O.g rfl (O.m rfl (O.m rfl (O.gm rfl (O.gq rfl (Pu.isT (by decide) (Pu.eql rfl rfl rfl)) (O.gm rfl ?_)))))))))))
    refine O.gm rfl (O.gq rfl (Pu.add64 (r := ((a + 1 : Nat) : Int)) rfl (by omega) rfl rfl rfl) (O.gm rfl (O.gq rfl (Pu.add64 (r := ((b + 1 : Nat) : Int)) rfl (by omega) rfl rfl rfl) (O.gq rfl (Pu.xor (m := a + 1) (n := b + 1) K64.i (by omega) (by omega) rfl rfl rfl) (O.gm rfl (O.gq rfl (Pu.add64 (r := ((e + 1 : Nat) : Int)) rfl (by omega) rfl rfl rfl) (O.gq rfl (Pu.xor (m := (a + 1 ^^^ b + 1)) (n := e + 1) K64.i (xor_lt (by omega) (by omega)) (by omega) rfl rfl rfl) (O.gq rfl (Pu.eql rfl rfl rfl) (O.gm rfl (O.m rfl (On ?_)))))))))))
    refine Xn (V.condD rfl (fun c4 => ?_) (fun c4 => ?_))
    ·refine Vr (O.m rfl (O.m rfl (O.m rfl (O.m rfl (O.q rfl (Pu.buildA (cs := [.int .i64 (↑a : Int), .int .i64 (↑b : Int), .int .i64 (↑e : Int)]) (v := B3.v ((↑a : Int), (↑b : Int), (↑e : Int))) rfl rfl ut81 zr81 sz2 rfl (by kernel_rfl)) (O.f rfl (Ef.build B3C ([((↑a : Int), (↑b : Int), (↑e : Int))] : List B3) rfl ut24 inf81 rfl rfl rfl (by first | decide | (simp; done)) (by kernel_rfl)) ?_))))))
     rintro _ _ ⟨A2, hA2, rfl, rfl⟩
     refine O.f rfl (Ef.append (xs := z2) (ys := ([((↑a : Int), (↑b : Int), (↑e : Int))] : List B3)) 1 rfl ut24 inf81 rfl rfl rfl rfl rfl rfl hA2 (Ld.own 0 (by exact rfl)) (by simp only [List.length_append, List.length_cons, List.length_nil] at *; omega) (by decide)) ?_
     rintro _ _ ⟨A3, k1, rfl, rfl, hA3⟩
     replace hA3 := hA3 (.inr (by simp))
     exact O.m rfl (Zk (O.m rfl (O.q rfl (Pu.add64 (r := ((e + 1 : Nat) : Int)) rfl (by omega) rfl rfl rfl) (O.m rfl (On (X.back3 (A3, k1, (z2 ++ ([((↑a : Int), (↑b : Int), (↑e : Int))] : List B3)), e + 1) (by (try dsimp only); exact ⟨by omega, by omega, (by first | exact hg2 | exact good_snoc hg2 (by unfold good; simp only; omega)), (by first | omega | (simp only [List.length_append, List.length_singleton]; omega))⟩) (by first | omega | (dsimp only; omega)) (Ent.cons rfl (Ent.cons rfl (Ent.nil _))) (Ent.cons (t := 2) rfl (Ent.cons (t := 5) rfl (Ent.cons (t := 6) rfl (Ent.cons (t := 7) rfl (Ent.nil _))))) (Sub.s [1,1] rfl)))))))
    ·exact Zg (O.m rfl (O.q rfl (Pu.add64 (r := ((e + 1 : Nat) : Int)) rfl (by omega) rfl rfl rfl) (O.m rfl (On (X.back3 (z2A, z2c, z2, e + 1) (by (try dsimp only); exact ⟨by omega, by omega, (by first | exact hg2 | exact good_snoc hg2 (by unfold good; simp only; omega)), (by first | omega | (simp only [List.length_append, List.length_singleton]; omega))⟩) (by first | omega | (dsimp only; omega)) (Ent.cons rfl (Ent.cons rfl (Ent.nil _))) (Ent.cons (t := 2) rfl (Ent.cons (t := 5) rfl (Ent.cons (t := 6) rfl (Ent.cons (t := 7) rfl (Ent.nil _))))) (Sub.s [0,0] rfl))))))
   ·exact Ve (Xe (Xe (Xh (Xb (Xn (Vr (O.m rfl (O.q rfl (Pu.add64 (r := ((b + 1 : Nat) : Int)) rfl (by omega) rfl rfl rfl) (O.m rfl (On (X.back3 (z2A, z2c, z2, b + 1) (by (try dsimp only); exact ⟨by omega, by omega, hg2, by omega⟩) (by first | omega | (dsimp only; omega)) (Ent.cons rfl (Ent.cons rfl (Ent.nil _))) (Ent.cons (t := 2) rfl (Ent.cons (t := 5) rfl (Ent.cons (t := 6) rfl (Ent.nil _)))) (Sub.s [0,0] rfl))))))))))))
  ·exact Ve (Xe (Xe (Xh (Xb (Xn (Vr (O.m rfl (O.q rfl (Pu.add64 (r := ((a + 1 : Nat) : Int)) rfl (by omega) rfl rfl rfl) (O.m rfl (On (X.back3 (z1A, z1c, z1, a + 1) (by (try dsimp only); exact ⟨by omega, hg1, by omega⟩) (by first | omega | (dsimp only; omega)) (Ent.cons rfl (Ent.cons rfl (Ent.nil _))) (Ent.cons (t := 2) rfl (Ent.cons (t := 5) rfl (Ent.nil _))) (Sub.s [0,0] rfl))))))))))))
 ·refine Zd (O.m rfl (O.m rfl (O.f rfl (Ef.call1 call151 rfl rfl (fun w hw => l01Made_ok  (15 : Int) z0 _ _ w ((Ld.own 0 (by exact rfl)) w hw) (by first | omega | (simp only [tops_len, conts_len, bl, List.length_append, List.length_cons, List.length_nil] at *; omega)) (by first | assumption | omega | (try dsimp only at *; omega)))) ?_)))
  rintro _ _ rfl
  refine O.exi (fun r1A => O.exi (fun r1c => O.exi (fun r1 => O.sep (O.pur ?_))))
  rintro ⟨rfl, hr1_1, hr1_2⟩
  refine O.s rfl rfl (Ef.storeAll 2 rfl sz26 rfl rfl rfl rfl (by simp [Value.oneCell']) rfl) ?_
  rintro _ _ rfl
  exact O.m rfl (Ze (Xq (Xr (X.retCell2 rfl ag26 sz26 rfl rfl rfl (Ld.whole 2 rfl) (fun w hw => St.mkExi r1A (St.mkExi r1c (St.mkExi r1 (St.unsep (St.addPur ⟨rfl, DrS.perm ⟨by decide, hg0, by omega⟩ hr1_1⟩ (hw.sub (Sub.s [0] rfl)))))))))))
theorem l01NamedAny_ok (x : ByteArray) (w : World) (hx : x ∈ nmL) : Does Tryz.prog 144 [.string x] w [] (fun v => [.exi fun pv : Int => .exi fun rA : Option Addr => .exi fun rc : Nat => .exi fun r : List B3 => .sep (.pur (v = .tuple #[.agg #[.int .i64 pv, .slice rA r.length rc], .bool true] ∧ DrS 4000 pv r)) (Own 81 B3C rA rc r)]) := by
 unfold nmL at hx
 simp only [List.mem_cons, List.not_mem_nil, or_false] at hx
 rcases hx with rfl | rfl | rfl | rfl | rfl | rfl
 ·exact (l01NamedD0_ok w).mono (fun v w hs => St.mkExi 3 hs)
 ·exact (l01NamedD1_ok w).mono (fun v w hs => St.mkExi 7 hs)
 ·exact (l01NamedD2_ok w).mono (fun v w hs => St.mkExi 9 hs)
 ·exact (l01NamedD3_ok w).mono (fun v w hs => St.mkExi 13 hs)
 ·exact (l01NamedD4_ok w).mono (fun v w hs => St.mkExi 15 hs)
 ·exact (l01NamedD5_ok w).mono (fun v w hs => St.mkExi 15 hs)
theorem l01OwnN_ok (xs : List Int) (n : Nat) (A : Option Addr) (c : Nat) (w : World) (hn : n = xs.length) (hx : Rd I64 w A xs) (hA : A.isSome = true) (lx : xs.length ≤ 1099511627776) : Does Tryz.prog 125 [.slice A n c] w [] (fun v => [.exi fun p : (Option Addr × Nat) × List Int => .sep (.pur (v = .slice p.1.1 p.2.length p.1.2 ∧ p.2 = xs)) (Own 2 I64 p.1.1 p.1.2 p.2)]) := by
 subst hn
 exact l01Own_ok xs A c w hx hA lx
set_option maxRecDepth 100000 in
set_option maxHeartbeats 1000000 in
theorem l01DrawOrder_ok (cA : Option Addr) (cc : Nat) (code : List UInt8) (s : Nat) (n : Int) (w0 : World) (H : List Assn) (hc : Rd U8C w0 cA code) (lc : code.length ≤ 1048576) (hn : 0 ≤ n ∧ n ≤ 1000) : Does Tryz.prog 84 [.pointer (some ⟨s, 0, none⟩), .int .i64 n] w0 (SrcK 133 cA cc code s :: H) (fun rv_ => [.exi fun (rA : Option Addr) => .exi fun (rc : Nat) => .exi fun (r : List Int) => .sep (.pur (rv_ = .slice rA r.length rc ∧ OrdP n r)) (.sep (Own 2 I64 rA rc r) (SrcK 133 cA cc code s))] ++ H) := by
 refine Does.enter Tryz.func84 rfl rfl [(0, .pointer (some ⟨s, 0, none⟩)), (1, .int .i64 n)] rfl (Za (O.m rfl (Zb (O.f rfl (Ef.build I64 ([] : List Int) rfl ut49 inf2 rfl rfl rfl (by first | decide | (simp; done)) (by kernel_rfl)) ?_))))
 rintro _ _ ⟨A1, hA1, rfl, rfl⟩
 refine O.m rfl (Zc (O.m rfl (Zi (V.loop3 (β := (Option Addr) × Nat × (List Int) × Nat) (fun x => [(5, .slice x.1 x.2.2.1.length x.2.1), (6, .int .i64 (x.2.2.2 : Int))]) _ (fun x => [Own 2 I64 x.1 x.2.1 x.2.2.1]) _ (fun x => x.2.2.2 ≤ n.toNat ∧ OrdP (x.2.2.2 : Int) x.2.2.1 ∧ x.1.isSome = true) (fun x => n.toNat - x.2.2.2) (A1, 0, ([] : List Int), 0) (by (try dsimp only); exact ⟨by omega, ord_nil, hA1⟩) (Ent.cons rfl (Ent.cons rfl (Ent.nil _))) (Ent.cons (t := 0) rfl (Ent.cons (t := 1) rfl (Ent.nil _))) (Sub.t [0,0] 0 rfl) ?_))))
 rintro ⟨outA, outc, out, i⟩ ⟨hi, ho, hoS⟩
 dsimp only at hi ho hoS ⊢
 have hol := ho.1
 refine Zj (O.m rfl (O.m rfl (O.q rfl (Pu.lss rfl rfl rfl) (Zf (V.condD rfl (fun c1 => ?_) (fun c1 => ?_))))))
 ·refine Zh (O.m rfl (O.m rfl (O.q rfl (Pu.add64 (r := ((i + 1 : Nat) : Int)) rfl (by omega) rfl rfl rfl) (O.f rfl (Ef.call call68 rfl rfl (Does.pre (fun w hw => hw.sub (Sub.t [1,0] 0 rfl)) (l01Next_ok _ _ _ s (↑(i + 1) : Int) w0 _   (by first | assumption | omega | (try dsimp only at *; omega)) (by first | assumption | omega | (try dsimp only at *; omega))))) ?_))))
  rintro _ _ rfl
  refine O.exi (fun r1 => O.sep (O.pur ?_))
  rintro ⟨rfl, hr1_1, hr1_2, hr1_3⟩
  refine O.m rfl (Zf (V.fact (fun w hw => Own.cap hw (i := 1) rfl) (fun hcap => ?_)))
  have hol := ho.1
  have hdl : (out.drop r1.toNat).length = out.length - r1.toNat := List.length_drop
  refine V.draw mo (by kernel_rfl) (fun hwf => D.m 0 rfl (D.m 1 rfl (D.q 2 rfl (Pu.sliceH ((r1).toNat) rfl ut49 sz2 rfl rfl (by omega) (by omega)) (D.m 4 rfl (D.m 7 rfl (D.m 8 rfl (D.q 9 rfl (Pu.sliceL ((r1).toNat) rfl ut49 sz2 rfl rfl (by omega) (by omega)) (D.twoBC hwf (e1 := 5) (e2 := 3) rfl rfl rfl rfl rfl rfl rfl rfl rfl rfl rfl rfl rfl rfl rfl rfl rfl (fun H hs => Ef.build I64 ([(↑i : Int)] : List Int) rfl ut49 inf2 rfl rfl rfl (by first | decide | (simp; done)) (by kernel_rfl)) (fun H hs => Ef.call1 call125 rfl rfl (fun w hw => l01OwnN_ok (out.take ((r1).toNat)) _ _ _ w (by rw [List.length_take]; omega) (((Ld.own 1 (by exact rfl)) w (hs w hw)).take ((r1).toNat)) hoS (by rw [List.length_take]; omega))) ?_))))))))
  rintro A2 _ hA2
  refine D.exi (fun p1 => D.sep (D.pur1 ?_))
  rintro ⟨rfl, hp1⟩
  have hpl : p1.2.length = r1.toNat := by rw [hp1, List.length_take]; omega
  refine D.f hwf 6 rfl (Ef.append (xs := p1.2) (ys := ([(↑i : Int)] : List Int)) 0 rfl ut49 inf2 rfl rfl rfl rfl rfl rfl hA2 (Ld.own 1 (by exact rfl)) (by simp only [List.length_append, List.length_cons, List.length_nil] at *; omega) (by decide)) ?_
  rintro _ _ ⟨A3, k1, rfl, rfl, hA3⟩ hs
  replace hA3 := hA3 (.inr (by simp))
  refine ⟨fun w hw => hw.sub (Sub.t [2,2] 2 rfl), (D.f hwf 10 rfl (Ef.append (xs := (p1.2 ++ ([(↑i : Int)] : List Int))) (ys := (out.drop ((r1).toNat))) 0 rfl ut49 inf2 rfl rfl rfl rfl rfl (by first | (simp only [List.length_take, List.length_drop]; done) | (simp only [List.length_take, List.length_drop]; omega)) (by split <;> simp [hoS]) (fun w hw => ((Ld.own 3 (by exact rfl)) w hw).drop rfl (Own.cap hw (i := 3) (by exact rfl))) (by simp only [List.length_append, List.length_cons, List.length_nil] at *; omega) (by decide)) ?_)⟩
  rintro _ _ ⟨A4, k2, rfl, rfl, hA4⟩ hs
  replace hA4 := hA4 (.inl hA3)
  exact ⟨fun w hw => hw.sub (Sub.t [2,2] 2 rfl), (D.last hwf (e := 11) rfl rfl rfl rfl rfl rfl (Pu.assign rfl rfl) (Xb (Xn (Vr (O.m rfl (O.q rfl (Pu.add64 (r := ((i + 1 : Nat) : Int)) rfl (by omega) rfl rfl rfl) (O.m rfl (On (X.back3 (A4, k2, ((p1.2 ++ ([(↑i : Int)] : List Int)) ++ (out.drop ((r1).toNat))), i + 1) (by (try dsimp only); exact ⟨by omega, by rw [hp1]; exact ord_ins ho, hA4⟩) (by first | omega | (dsimp only; omega)) (Ent.cons rfl (Ent.cons rfl (Ent.nil _))) (Ent.cons (t := 0) rfl (Ent.cons (t := 1) rfl (Ent.nil _))) (Sub.t [0,1] 2 rfl))))))))))⟩
 ·refine Zd (O.m rfl (O.m rfl (Ze ?_)))
  exact X.ret1 rfl rfl (fun w hw => St.mkExi outA (St.mkExi outc (St.mkExi out (St.unsep (St.addPur ⟨rfl, (by have e : (i : Int) = n := (by omega); rw [← e]; exact ho)⟩ (St.unsep (hw.sub (Sub.t [0,0] 0 rfl))))))))
set_option maxRecDepth 100000 in
set_option maxHeartbeats 1000000 in
theorem l01Free_ok (v : Int) (bs : List B3) (b : B3) (A : Option Addr) (c : Nat) (w : World) (hx : Rd B3C w A bs) (lx : bs.length ≤ 4611686018427387904) : Does Tryz.prog 174 [.agg #[.int .i64 v, .slice A bs.length c], B3.v b] w [] (fun r => [.pur (r = .bool (decide (∀ d ∈ bs, common d b ≤ 1)))]) := by
 refine Does.enter Tryz.func174 rfl rfl [(0, .agg #[.int .i64 v, .slice A bs.length c]), (1, B3.v b)] rfl (Za (O.f rfl (Ef.box rfl rfl rfl) ?_))
 rintro _ _ ⟨b1, rfl, rfl⟩
 refine O.f rfl (Ef.box rfl rfl rfl) ?_
 rintro _ _ ⟨b2, rfl, rfl⟩
 refine O.m rfl (Zc (O.m rfl (Zi (V.loop3 (β := Nat) (fun i => [(5, .int .i64 (i : Int))]) _ (fun i => []) _ (fun i => i ≤ bs.length ∧ ∀ j (hj : j < bs.length), j < i → common bs[j] b ≤ 1) (fun i => bs.length - i) 0 ⟨by omega, fun j hj h => by omega⟩ (Ent.cons rfl (Ent.nil _)) (Ent.cons (t := 2) rfl (Ent.cons (t := 3) rfl (Ent.nil _))) (Sub.s [0,0] rfl) ?_))))
 rintro i ⟨hi, hn⟩
 refine Zj (O.m rfl (O.q rfl (Pu.fieldAddr 1 rfl ut26 rfl sz24 rfl rfl) (O.q rfl (Pu.load rfl pl24 rfl (Ld.blk 1 rfl rfl)) (O.q rfl (Pu.len rfl ut24 rfl) (O.q rfl (Pu.lss rfl rfl rfl) (Zf (V.condD rfl (fun c1 => ?_) (fun c1 => ?_))))))))
 ·refine Vk (Xn (Vs (Vb (Vs (V.draw mo (by kernel_rfl) (fun hwf => D.q 0 rfl (Pu.fieldAddr 1 rfl ut26 rfl sz24 rfl rfl) (D.q 1 rfl (Pu.load rfl pl24 rfl (Ld.blk 1 rfl rfl)) (D.m 2 rfl (D.q 3 rfl (Pu.indexAddr (i) rfl ut24 sz81 rfl rfl (by omega) (by omega) (hx.some (by omega))) ?_)))))))))
  have e1 : i < bs.length := by omega
  refine D.q 4 rfl (Pu.loadAgg' (v := B3.v (bs[i]'e1)) rfl rfl ag81 sz81 rfl rfl (Ld.rds (Ld.old hx) (k := i) e1 rfl)) (D.q 5 rfl (Pu.loadAgg' (v := B3.v b) rfl rfl ag81 sz81 rfl rfl (Ld.whole 0 rfl)) (D.f hwf 6 rfl (Ef.callP call65 rfl rfl (fun w hw => l01Common_ok _ _ _)) ?_))
  rintro _ _ ⟨rfl, rfl⟩ hs
  refine ⟨fun w hw => hw, (D.q 7 rfl (Pu.gtr rfl rfl rfl) (D.done hwf rfl (Xn (V.condD rfl (fun c2 => ?_) (fun c2 => ?_)))))⟩
  ·exact Za (O.m rfl (Ze (Xq (Xr (Xr (Xq (Xr (X.ret1 rfl rfl (fun w hw => St.retP (boolF (fun h => by have := h _ (List.getElem_mem e1); omega)) hw)))))))))
  ·exact Zg (O.m rfl (O.q rfl (Pu.add64 (r := ((i + 1 : Nat) : Int)) rfl (by omega) rfl rfl rfl) (O.m rfl (On (X.back3 (i + 1) ⟨by omega, fun j hj h => by by_cases e : j = i; (· subst e; omega); (· exact hn j hj (by omega))⟩ (by first | omega | (dsimp only; omega)) (Ent.cons rfl (Ent.nil _)) (Ent.cons (t := 2) rfl (Ent.cons (t := 3) rfl (Ent.nil _))) (Sub.s [0,0] rfl))))))
 ·exact Zd (O.m rfl (Ze (X.ret1 rfl rfl (fun w hw => St.retP (boolT (fun d hd => by obtain ⟨j, hj, rfl⟩ := List.getElem_of_mem hd; exact hn j hj (by omega))) hw))))
set_option maxRecDepth 100000 in
set_option maxHeartbeats 1000000 in
theorem l01DrawOf_ok (cA : Option Addr) (cc : Nat) (code : List UInt8) (s : Nat) (v_ : Int) (w0 : World) (H : List Assn) (hc : Rd U8C w0 cA code) (lc : code.length ≤ 1048576) (hv : 3 ≤ v_ ∧ v_ ≤ 15) : Does Tryz.prog 183 [.pointer (some ⟨s, 0, none⟩), .int .i64 v_] w0 (SrcK 133 cA cc code s :: H) (fun rv_ => [.exi fun (rA : Option Addr) => .exi fun (rc : Nat) => .exi fun (r : List B3) => .sep (.pur (rv_ = .agg #[.int .i64 v_, .slice rA r.length rc] ∧ DrS 40 v_ r)) (.sep (Own 81 B3C rA rc r) (SrcK 133 cA cc code s))] ++ H) := by
 refine Does.enter Tryz.func183 rfl rfl [(0, .pointer (some ⟨s, 0, none⟩)), (1, .int .i64 v_)] rfl (Za (O.f rfl (Ef.alloc rfl zr26 rfl) ?_))
 rintro _ _ ⟨b1, rfl, rfl⟩
 refine Zb (O.m rfl (O.f rfl (Ef.build B3C ([] : List B3) rfl ut24 inf81 rfl rfl rfl (by first | decide | (simp; done)) (by kernel_rfl)) ?_))
 rintro _ _ ⟨A1, hA1, rfl, rfl⟩
 refine O.q rfl (Pu.buildS (cs := [.int .i64 v_, .slice A1 0 0]) rfl rfl ut26 zr26 (by kernel_rfl) rfl (by kernel_rfl)) (O.f rfl (Ef.alloc rfl zr26 rfl) ?_)
 rintro _ _ ⟨b2, rfl, rfl⟩
 refine O.s rfl rfl (Ef.storeAll 0 rfl sz26 rfl rfl rfl rfl (by simp [Value.oneCell']) rfl) ?_
 rintro _ _ rfl
 refine Zc (O.m rfl (O.m rfl (O.f rfl (Ef.build I64 ([(4 : Int), (12 : Int), (40 : Int)] : List Int) rfl ut49 inf2 rfl rfl rfl (by first | decide | (simp; done)) (by kernel_rfl)) ?_)))
 rintro _ _ ⟨A2, hA2, rfl, rfl⟩
 refine O.f rfl (Ef.call call145 rfl rfl (Does.pre (fun w hw => hw.sub (Sub.t [4,0,0,0,0] 0 rfl)) (l01Pick_ok _ _ _ s ([(4 : Int), (12 : Int), (40 : Int)] : List Int) _ _ w0 _ (Ld.own 0 (by exact rfl)) (by first | omega | (simp only [tops_len, conts_len, bl, List.length_append, List.length_cons, List.length_nil] at *; omega)) (by first | assumption | omega | (try dsimp only at *; omega)) (by first | assumption | omega | (try dsimp only at *; omega)) (by first | (simp; done) | omega)))) ?_
 rintro _ _ rfl
 refine O.exi (fun r1 => O.sep (O.pur ?_))
 rintro ⟨rfl, hr1_1⟩
 have hp40 : 0 ≤ r1 ∧ r1 ≤ 40 := by simp only [List.mem_cons, List.not_mem_nil, or_false] at hr1_1; omega
 refine O.f rfl (Ef.call call68 rfl rfl (Does.pre (fun w hw => hw.sub (Sub.t [0,0,0,0,0] 0 rfl)) (l01Next_ok _ _ _ s r1 w0 _   (by first | assumption | omega | (try dsimp only at *; omega)) (by first | assumption | omega | (try dsimp only at *; omega))))) ?_
 rintro _ _ rfl
 refine O.exi (fun r2 => O.sep (O.pur ?_))
 rintro ⟨rfl, hr2_1, hr2_2, hr2_3⟩
 refine O.m rfl (Zi (V.loop3 (β := Int × (Option Addr) × Nat × (List B3)) (fun x => [(6, .int .i64 (x.1 : Int))]) _ (fun x => [Blk b2 [.int .i64 v_, .slice x.2.1 x.2.2.2.length x.2.2.1] 26, Own 81 B3C x.2.1 x.2.2.1 x.2.2.2]) _ (fun x => (∀ b ∈ x.2.2.2, good v_ b) ∧ x.2.2.2.length + x.1.toNat ≤ 40) (fun x => x.1.toNat) (r2, A1, 0, ([] : List B3)) (by (try dsimp only); exact ⟨by simp, by simp only [List.length_nil]; omega⟩) (Ent.cons rfl (Ent.nil _)) (Ent.cons (t := 0) rfl (Ent.cons (t := 1) rfl (Ent.cons (t := 4) rfl (Ent.cons (t := 5) rfl (Ent.nil _))))) (Sub.t [2,2,0,0,0] 0 rfl) ?_))
 rintro ⟨k, xsA, xsc, xs⟩ ⟨hg, hl⟩
 dsimp only at hg hl ⊢
 refine Zj (O.m rfl (O.q rfl (Pu.gtr rfl rfl rfl) (Zf (V.condD rfl (fun c1 => ?_) (fun c1 => ?_)))))
 ·refine Zh (O.m rfl (O.m rfl (O.f rfl (Ef.call call84 rfl rfl (Does.pre (fun w hw => hw.sub (Sub.t [2,0,0,0,0] 0 rfl)) (l01DrawOrder_ok _ _ _ s v_ w0 _   (by first | assumption | omega | (try dsimp only at *; omega)) (by first | assumption | omega | (try dsimp only at *; omega)) (by omega)))) ?_)))
  rintro _ _ rfl
  refine O.exi (fun r3A => O.exi (fun r3c => O.exi (fun r3 => O.sep (O.pur ?_))))
  rintro ⟨rfl, hr3_1⟩
  refine O.sep (O.m rfl (Zf (Vs ?_)))
  have hol := hr3_1.1
  have g0 := ord_at hr3_1 (i := 0) (by omega)
  have g1 := ord_at hr3_1 (i := 1) (by omega)
  have g2 := ord_at hr3_1 (i := 2) (by omega)
  have hgb := good_bk3 g0 g1 g2 (ord_ne hr3_1 (by omega) (by omega) (by decide)) (ord_ne hr3_1 (by omega) (by omega) (by decide)) (ord_ne hr3_1 (by omega) (by omega) (by decide))
  refine V.draw mo (by kernel_rfl) (fun hwf => D.m 0 rfl (D.q 1 rfl (Pu.indexAddrS (0) rfl ut49 sz2 rfl rfl (by omega) (by omega) (fun w hw => Own.some hw (i := 0) (by exact rfl) (by omega))) ?_))
  have e1 : 0 < r3.length := by omega
  refine D.q 2 rfl (Pu.load rfl pl2 rfl (Ld.rd (Ld.own 0 (by exact rfl)) (k := 0) e1 rfl rfl)) (D.m 3 rfl (D.q 4 rfl (Pu.indexAddrS (1) rfl ut49 sz2 rfl rfl (by omega) (by omega) (fun w hw => Own.some hw (i := 0) (by exact rfl) (by omega))) ?_))
  have e2 : 1 < r3.length := by omega
  refine D.q 5 rfl (Pu.load rfl pl2 rfl (Ld.rd (Ld.own 0 (by exact rfl)) (k := 1) e2 rfl rfl)) (D.m 6 rfl (D.q 7 rfl (Pu.indexAddrS (2) rfl ut49 sz2 rfl rfl (by omega) (by omega) (fun w hw => Own.some hw (i := 0) (by exact rfl) (by omega))) ?_))
  have e3 : 2 < r3.length := by omega
  refine D.q 8 rfl (Pu.load rfl pl2 rfl (Ld.rd (Ld.own 0 (by exact rfl)) (k := 2) e3 rfl rfl)) (D.either hwf (e1 := 9) (e2 := 10) rfl ?_ ?_)
  ·refine ⟨_, _, rfl, rfl, fun _ _ => wanted_none rfl _, Ef.callP call80 rfl rfl (fun w hw => l01BlockD_ok  (r3[0]'e1) (r3[1]'e2) (r3[2]'e3) w   (by first | assumption | omega | (try dsimp only at *; omega)) (by first | assumption | omega | (try dsimp only at *; omega)) (by first | assumption | omega | (try dsimp only at *; omega))), rfl, rfl, ?_⟩
   rintro _ _ ⟨rfl, rfl⟩ hs
   refine ⟨fun w hw => hw, (D.f hwf 10 rfl (Ef.alloc rfl zr81 rfl) ?_)⟩
   rintro _ _ ⟨b3, rfl, rfl⟩ hs
   refine ⟨fun w hw => hw.sub (Sub.t [1,1,1,1,1,1] 1 rfl), (D.f hwf 11 rfl (Ef.storeAll 0 rfl sz81 rfl rfl rfl rfl (by simp [Value.oneCell']) rfl) ?_)⟩
   rintro _ _ rfl hs
   refine ⟨fun w hw => hw.sub (Sub.t [1,1,1,1,1,1] 1 rfl), (D.done hwf rfl (Xn (Za (O.q rfl (Pu.loadAgg rfl ag26 sz26 rfl rfl (Ld.whole 3 rfl)) (O.q rfl (Pu.loadAgg' (v := B3.v (bk3 (r3[0]'e1) (r3[1]'e2) (r3[2]'e3))) rfl rfl ag81 sz81 rfl rfl (Ld.whole 0 rfl)) (O.f rfl (Ef.callP call174 rfl rfl (fun w hw => l01Free_ok  v_ xs (bk3 (r3[0]'e1) (r3[1]'e2) (r3[2]'e3)) _ _ w ((Ld.own 4 (by exact rfl)) w hw) (by first | omega | (simp only [tops_len, conts_len, bl, List.length_append, List.length_cons, List.length_nil] at *; omega)) )) ?_))))))⟩
   rintro _ _ ⟨rfl, rfl⟩
   refine Zf (V.condD rfl (fun c2 => ?_) (fun c2 => ?_))
   ·refine V.draw mo (by kernel_rfl) (fun hwf => D.m 0 rfl (D.q 2 rfl (Pu.fieldAddr 1 rfl ut26 rfl sz24 rfl rfl) (D.q 3 rfl (Pu.load rfl pl24 rfl (Ld.blk 3 rfl rfl)) (D.q 5 rfl (Pu.loadAgg' (v := B3.v (bk3 (r3[0]'e1) (r3[1]'e2) (r3[2]'e3))) rfl rfl ag81 sz81 rfl rfl (Ld.whole 0 rfl)) (D.either hwf (e1 := 1) (e2 := 6) rfl ?_ ?_)))))
    ·refine ⟨_, _, rfl, rfl, fun _ _ => wanted_none rfl _, Ef.build B3C ([] : List B3) rfl ut24 inf81 rfl rfl rfl (by first | decide | (simp; done)) (by kernel_rfl), rfl, rfl, ?_⟩
     rintro _ _ ⟨A3, hA3, rfl, rfl⟩ hs
     refine ⟨fun w hw => hw.sub (Sub.t [1,1,1,1,1,1,1] 1 rfl), (D.either hwf (e1 := 4) (e2 := 6) rfl ?_ ?_)⟩
     ·refine ⟨_, _, rfl, rfl, fun _ _ => wanted_none rfl _, Ef.appendN (xs := ([] : List B3)) (ys := xs) 0 rfl ut24 inf81 rfl rfl rfl rfl rfl rfl (fun w hw h => Own.nilc hw (i := 5) (by exact rfl) h) (Ld.own 5 (by exact rfl)) (by simp only [List.length_append, List.length_cons, List.length_nil] at *; omega) (by decide), rfl, rfl, ?_⟩
      rintro _ _ ⟨A4, k1, rfl, rfl, hA4⟩ hs
      replace hA4 := hA4 (.inl hA3)
      refine ⟨fun w hw => hw.sub (Sub.t [1,1,1,1,1,1,1] 1 rfl), (D.f hwf 6 rfl (Ef.build B3C ([(bk3 (r3[0]'e1) (r3[1]'e2) (r3[2]'e3))] : List B3) rfl ut24 inf81 rfl rfl rfl (by first | decide | (simp; done)) (by kernel_rfl)) ?_)⟩
      rintro _ _ ⟨A5, hA5, rfl, rfl⟩ hs
      refine ⟨fun w hw => hw.sub (Sub.t [2,2,2,2,2,2,2] 2 rfl), (D.f hwf 7 rfl (Ef.append (xs := (([] : List B3) ++ xs)) (ys := ([(bk3 (r3[0]'e1) (r3[1]'e2) (r3[2]'e3))] : List B3)) 1 rfl ut24 inf81 rfl rfl rfl rfl rfl rfl hA5 (Ld.own 0 (by exact rfl)) (by simp only [List.length_append, List.length_cons, List.length_nil] at *; omega) (by decide)) ?_)⟩
      rintro _ _ ⟨A6, k2, rfl, rfl, hA6⟩ hs
      replace hA6 := hA6 (.inr (by simp))
      refine ⟨fun w hw => hw.sub (Sub.t [2,2,2,2,2,2,2] 2 rfl), (D.f hwf 8 rfl (Ef.call1 call151 rfl rfl (fun w hw => l01Made_ok  v_ ((([] : List B3) ++ xs) ++ ([(bk3 (r3[0]'e1) (r3[1]'e2) (r3[2]'e3))] : List B3)) _ _ w ((Ld.own 1 (by exact rfl)) w hw) (by first | omega | (simp only [List.length_append, List.length_cons, List.length_nil, List.length_take, List.length_drop]; omega)) (by first | omega | (simp only [List.length_append, List.length_cons, List.length_nil, List.length_take, List.length_drop]; omega)))) ?_)⟩
      rintro _ _ rfl hs
      refine ⟨fun w hw => hs w hw.tail, (D.exi (fun r4A => D.exi (fun r4c => D.exi (fun r4 => D.sep (D.pur1 ?_)))))⟩
      rintro ⟨rfl, hr4_1, hr4_2⟩
      refine D.effX (Hs' := []) hwf (e := 9) rfl rfl rfl rfl (Ef.storeAll 6 rfl sz26 rfl rfl rfl rfl (by simp [Value.oneCell']) rfl) rfl [] rfl (List.forall_mem_nil _) ?_
      rintro _ _ rfl
      exact ⟨fun w hw => hw.sub (Sub.nil _), (D.done hwf rfl (Xb (Xn (Vr (O.m rfl (O.q rfl (Pu.sub64 rfl (by omega) rfl rfl rfl) (O.m rfl (On (X.back3 ((k - (1 : Int)), r4A, r4c, r4) (by (try dsimp only); exact ⟨fun d hd => good_snoc hg hgb d (hr4_1.mem_iff.1 hd), by have h := hr4_1.length_eq; simp only [List.length_append, List.length_singleton, List.length_nil] at h; omega⟩) (by first | omega | (dsimp only; omega)) (Ent.cons rfl (Ent.nil _)) (Ent.cons (t := 0) rfl (Ent.cons (t := 1) rfl (Ent.cons (t := 4) rfl (Ent.cons (t := 5) rfl (Ent.nil _))))) (Sub.t [6,0,4,5,5] 5 rfl))))))))))⟩
     ·refine ⟨_, _, rfl, rfl, fun _ _ => wanted_none rfl _, Ef.build B3C ([(bk3 (r3[0]'e1) (r3[1]'e2) (r3[2]'e3))] : List B3) rfl ut24 inf81 rfl rfl rfl (by first | decide | (simp; done)) (by kernel_rfl), rfl, rfl, ?_⟩
      rintro _ _ ⟨A4, hA4, rfl, rfl⟩ hs
      refine ⟨fun w hw => hw.sub (Sub.t [2,2,2,2,2,2,2] 2 rfl), (D.f hwf 4 rfl (Ef.appendN (xs := ([] : List B3)) (ys := xs) 1 rfl ut24 inf81 rfl rfl rfl rfl rfl rfl (fun w hw h => Own.nilc hw (i := 6) (by exact rfl) h) (Ld.own 6 (by exact rfl)) (by simp only [List.length_append, List.length_cons, List.length_nil] at *; omega) (by decide)) ?_)⟩
      rintro _ _ ⟨A5, k1, rfl, rfl, hA5⟩ hs
      replace hA5 := hA5 (.inl hA3)
      refine ⟨fun w hw => hw.sub (Sub.t [2,2,2,2,2,2,2] 2 rfl), (D.f hwf 7 rfl (Ef.append (xs := (([] : List B3) ++ xs)) (ys := ([(bk3 (r3[0]'e1) (r3[1]'e2) (r3[2]'e3))] : List B3)) 1 rfl ut24 inf81 rfl rfl rfl rfl rfl rfl hA4 (Ld.own 0 (by exact rfl)) (by simp only [List.length_append, List.length_cons, List.length_nil] at *; omega) (by decide)) ?_)⟩
      rintro _ _ ⟨A6, k2, rfl, rfl, hA6⟩ hs
      replace hA6 := hA6 (.inr (by simp))
      refine ⟨fun w hw => hw.sub (Sub.t [2,2,2,2,2,2,2] 2 rfl), (D.f hwf 8 rfl (Ef.call1 call151 rfl rfl (fun w hw => l01Made_ok  v_ ((([] : List B3) ++ xs) ++ ([(bk3 (r3[0]'e1) (r3[1]'e2) (r3[2]'e3))] : List B3)) _ _ w ((Ld.own 1 (by exact rfl)) w hw) (by first | omega | (simp only [List.length_append, List.length_cons, List.length_nil, List.length_take, List.length_drop]; omega)) (by first | omega | (simp only [List.length_append, List.length_cons, List.length_nil, List.length_take, List.length_drop]; omega)))) ?_)⟩
      rintro _ _ rfl hs
      refine ⟨fun w hw => hs w hw.tail, (D.exi (fun r4A => D.exi (fun r4c => D.exi (fun r4 => D.sep (D.pur1 ?_)))))⟩
      rintro ⟨rfl, hr4_1, hr4_2⟩
      refine D.effX (Hs' := []) hwf (e := 9) rfl rfl rfl rfl (Ef.storeAll 6 rfl sz26 rfl rfl rfl rfl (by simp [Value.oneCell']) rfl) rfl [] rfl (List.forall_mem_nil _) ?_
      rintro _ _ rfl
      exact ⟨fun w hw => hw.sub (Sub.nil _), (D.done hwf rfl (Xb (Xn (Vr (O.m rfl (O.q rfl (Pu.sub64 rfl (by omega) rfl rfl rfl) (O.m rfl (On (X.back3 ((k - (1 : Int)), r4A, r4c, r4) (by (try dsimp only); exact ⟨fun d hd => good_snoc hg hgb d (hr4_1.mem_iff.1 hd), by have h := hr4_1.length_eq; simp only [List.length_append, List.length_singleton, List.length_nil] at h; omega⟩) (by first | omega | (dsimp only; omega)) (Ent.cons rfl (Ent.nil _)) (Ent.cons (t := 0) rfl (Ent.cons (t := 1) rfl (Ent.cons (t := 4) rfl (Ent.cons (t := 5) rfl (Ent.nil _))))) (Sub.t [6,0,4,5,5] 5 rfl))))))))))⟩
    ·refine ⟨_, _, rfl, rfl, fun _ _ => wanted_none rfl _, Ef.build B3C ([(bk3 (r3[0]'e1) (r3[1]'e2) (r3[2]'e3))] : List B3) rfl ut24 inf81 rfl rfl rfl (by first | decide | (simp; done)) (by kernel_rfl), rfl, rfl, ?_⟩
     rintro _ _ ⟨A3, hA3, rfl, rfl⟩ hs
     refine ⟨fun w hw => hw.sub (Sub.t [1,1,1,1,1,1,1] 1 rfl), (D.f hwf 1 rfl (Ef.build B3C ([] : List B3) rfl ut24 inf81 rfl rfl rfl (by first | decide | (simp; done)) (by kernel_rfl)) ?_)⟩
     rintro _ _ ⟨A4, hA4, rfl, rfl⟩ hs
     refine ⟨fun w hw => hw.sub (Sub.t [2,2,2,2,2,2,2] 2 rfl), (D.f hwf 4 rfl (Ef.appendN (xs := ([] : List B3)) (ys := xs) 0 rfl ut24 inf81 rfl rfl rfl rfl rfl rfl (fun w hw h => Own.nilc hw (i := 6) (by exact rfl) h) (Ld.own 6 (by exact rfl)) (by simp only [List.length_append, List.length_cons, List.length_nil] at *; omega) (by decide)) ?_)⟩
     rintro _ _ ⟨A5, k1, rfl, rfl, hA5⟩ hs
     replace hA5 := hA5 (.inl hA4)
     refine ⟨fun w hw => hw.sub (Sub.t [2,2,2,2,2,2,2] 2 rfl), (D.f hwf 7 rfl (Ef.append (xs := (([] : List B3) ++ xs)) (ys := ([(bk3 (r3[0]'e1) (r3[1]'e2) (r3[2]'e3))] : List B3)) 0 rfl ut24 inf81 rfl rfl rfl rfl rfl rfl hA3 (Ld.own 1 (by exact rfl)) (by simp only [List.length_append, List.length_cons, List.length_nil] at *; omega) (by decide)) ?_)⟩
     rintro _ _ ⟨A6, k2, rfl, rfl, hA6⟩ hs
     replace hA6 := hA6 (.inr (by simp))
     refine ⟨fun w hw => hw.sub (Sub.t [2,2,2,2,2,2,2] 2 rfl), (D.f hwf 8 rfl (Ef.call1 call151 rfl rfl (fun w hw => l01Made_ok  v_ ((([] : List B3) ++ xs) ++ ([(bk3 (r3[0]'e1) (r3[1]'e2) (r3[2]'e3))] : List B3)) _ _ w ((Ld.own 0 (by exact rfl)) w hw) (by first | omega | (simp only [List.length_append, List.length_cons, List.length_nil, List.length_take, List.length_drop]; omega)) (by first | omega | (simp only [List.length_append, List.length_cons, List.length_nil, List.length_take, List.length_drop]; omega)))) ?_)⟩
     rintro _ _ rfl hs
     refine ⟨fun w hw => hs w hw.tail, (D.exi (fun r4A => D.exi (fun r4c => D.exi (fun r4 => D.sep (D.pur1 ?_)))))⟩
     rintro ⟨rfl, hr4_1, hr4_2⟩
     refine D.effX (Hs' := []) hwf (e := 9) rfl rfl rfl rfl (Ef.storeAll 6 rfl sz26 rfl rfl rfl rfl (by simp [Value.oneCell']) rfl) rfl [] rfl (List.forall_mem_nil _) ?_
     rintro _ _ rfl
     exact ⟨fun w hw => hw.sub (Sub.nil _), (D.done hwf rfl (Xb (Xn (Vr (O.m rfl (O.q rfl (Pu.sub64 rfl (by omega) rfl rfl rfl) (O.m rfl (On (X.back3 ((k - (1 : Int)), r4A, r4c, r4) (by (try dsimp only); exact ⟨fun d hd => good_snoc hg hgb d (hr4_1.mem_iff.1 hd), by have h := hr4_1.length_eq; simp only [List.length_append, List.length_singleton, List.length_nil] at h; omega⟩) (by first | omega | (dsimp only; omega)) (Ent.cons rfl (Ent.nil _)) (Ent.cons (t := 0) rfl (Ent.cons (t := 1) rfl (Ent.cons (t := 4) rfl (Ent.cons (t := 5) rfl (Ent.nil _))))) (Sub.t [6,0,4,5,5] 5 rfl))))))))))⟩
   ·exact Zg (O.m rfl (O.q rfl (Pu.sub64 rfl (by omega) rfl rfl rfl) (O.m rfl (On (X.back3 ((k - (1 : Int)), xsA, xsc, xs) (by (try dsimp only); exact ⟨hg, by omega⟩) (by first | omega | (dsimp only; omega)) (Ent.cons rfl (Ent.nil _)) (Ent.cons (t := 0) rfl (Ent.cons (t := 1) rfl (Ent.cons (t := 4) rfl (Ent.cons (t := 5) rfl (Ent.nil _))))) (Sub.t [3,3,2,2,2] 2 rfl))))))
  ·refine ⟨_, _, rfl, rfl, fun _ _ => wanted_none rfl _, Ef.alloc rfl zr81 rfl, rfl, rfl, ?_⟩
   rintro _ _ ⟨b3, rfl, rfl⟩ hs
   refine ⟨fun w hw => hw.sub (Sub.t [1,1,1,1,1,1] 1 rfl), (D.f hwf 9 rfl (Ef.callP call80 rfl rfl (fun w hw => l01BlockD_ok  (r3[0]'e1) (r3[1]'e2) (r3[2]'e3) w   (by first | assumption | omega | (try dsimp only at *; omega)) (by first | assumption | omega | (try dsimp only at *; omega)) (by first | assumption | omega | (try dsimp only at *; omega)))) ?_)⟩
   rintro _ _ ⟨rfl, rfl⟩ hs
   refine ⟨fun w hw => hw.sub (Sub.t [1,1,1,1,1,1] 1 rfl), (D.f hwf 11 rfl (Ef.storeAll 0 rfl sz81 rfl rfl rfl rfl (by simp [Value.oneCell']) rfl) ?_)⟩
   rintro _ _ rfl hs
   refine ⟨fun w hw => hw.sub (Sub.t [1,1,1,1,1,1] 1 rfl), (D.done hwf rfl (Xn (Za (O.q rfl (Pu.loadAgg rfl ag26 sz26 rfl rfl (Ld.whole 3 rfl)) (O.q rfl (Pu.loadAgg' (v := B3.v (bk3 (r3[0]'e1) (r3[1]'e2) (r3[2]'e3))) rfl rfl ag81 sz81 rfl rfl (Ld.whole 0 rfl)) (O.f rfl (Ef.callP call174 rfl rfl (fun w hw => l01Free_ok  v_ xs (bk3 (r3[0]'e1) (r3[1]'e2) (r3[2]'e3)) _ _ w ((Ld.own 4 (by exact rfl)) w hw) (by first | omega | (simp only [tops_len, conts_len, bl, List.length_append, List.length_cons, List.length_nil] at *; omega)) )) ?_))))))⟩
   rintro _ _ ⟨rfl, rfl⟩
   refine Zf (V.condD rfl (fun c2 => ?_) (fun c2 => ?_))
   ·refine V.draw mo (by kernel_rfl) (fun hwf => D.m 0 rfl (D.q 2 rfl (Pu.fieldAddr 1 rfl ut26 rfl sz24 rfl rfl) (D.q 3 rfl (Pu.load rfl pl24 rfl (Ld.blk 3 rfl rfl)) (D.q 5 rfl (Pu.loadAgg' (v := B3.v (bk3 (r3[0]'e1) (r3[1]'e2) (r3[2]'e3))) rfl rfl ag81 sz81 rfl rfl (Ld.whole 0 rfl)) (D.either hwf (e1 := 1) (e2 := 6) rfl ?_ ?_)))))
    ·refine ⟨_, _, rfl, rfl, fun _ _ => wanted_none rfl _, Ef.build B3C ([] : List B3) rfl ut24 inf81 rfl rfl rfl (by first | decide | (simp; done)) (by kernel_rfl), rfl, rfl, ?_⟩
     rintro _ _ ⟨A3, hA3, rfl, rfl⟩ hs
     refine ⟨fun w hw => hw.sub (Sub.t [1,1,1,1,1,1,1] 1 rfl), (D.either hwf (e1 := 4) (e2 := 6) rfl ?_ ?_)⟩
     ·refine ⟨_, _, rfl, rfl, fun _ _ => wanted_none rfl _, Ef.appendN (xs := ([] : List B3)) (ys := xs) 0 rfl ut24 inf81 rfl rfl rfl rfl rfl rfl (fun w hw h => Own.nilc hw (i := 5) (by exact rfl) h) (Ld.own 5 (by exact rfl)) (by simp only [List.length_append, List.length_cons, List.length_nil] at *; omega) (by decide), rfl, rfl, ?_⟩
      rintro _ _ ⟨A4, k1, rfl, rfl, hA4⟩ hs
      replace hA4 := hA4 (.inl hA3)
      refine ⟨fun w hw => hw.sub (Sub.t [1,1,1,1,1,1,1] 1 rfl), (D.f hwf 6 rfl (Ef.build B3C ([(bk3 (r3[0]'e1) (r3[1]'e2) (r3[2]'e3))] : List B3) rfl ut24 inf81 rfl rfl rfl (by first | decide | (simp; done)) (by kernel_rfl)) ?_)⟩
      rintro _ _ ⟨A5, hA5, rfl, rfl⟩ hs
      refine ⟨fun w hw => hw.sub (Sub.t [2,2,2,2,2,2,2] 2 rfl), (D.f hwf 7 rfl (Ef.append (xs := (([] : List B3) ++ xs)) (ys := ([(bk3 (r3[0]'e1) (r3[1]'e2) (r3[2]'e3))] : List B3)) 1 rfl ut24 inf81 rfl rfl rfl rfl rfl rfl hA5 (Ld.own 0 (by exact rfl)) (by simp only [List.length_append, List.length_cons, List.length_nil] at *; omega) (by decide)) ?_)⟩
      rintro _ _ ⟨A6, k2, rfl, rfl, hA6⟩ hs
      replace hA6 := hA6 (.inr (by simp))
      refine ⟨fun w hw => hw.sub (Sub.t [2,2,2,2,2,2,2] 2 rfl), (D.f hwf 8 rfl (Ef.call1 call151 rfl rfl (fun w hw => l01Made_ok  v_ ((([] : List B3) ++ xs) ++ ([(bk3 (r3[0]'e1) (r3[1]'e2) (r3[2]'e3))] : List B3)) _ _ w ((Ld.own 1 (by exact rfl)) w hw) (by first | omega | (simp only [List.length_append, List.length_cons, List.length_nil, List.length_take, List.length_drop]; omega)) (by first | omega | (simp only [List.length_append, List.length_cons, List.length_nil, List.length_take, List.length_drop]; omega)))) ?_)⟩
      rintro _ _ rfl hs
      refine ⟨fun w hw => hs w hw.tail, (D.exi (fun r4A => D.exi (fun r4c => D.exi (fun r4 => D.sep (D.pur1 ?_)))))⟩
      rintro ⟨rfl, hr4_1, hr4_2⟩
      refine D.effX (Hs' := []) hwf (e := 9) rfl rfl rfl rfl (Ef.storeAll 6 rfl sz26 rfl rfl rfl rfl (by simp [Value.oneCell']) rfl) rfl [] rfl (List.forall_mem_nil _) ?_
      rintro _ _ rfl
      exact ⟨fun w hw => hw.sub (Sub.nil _), (D.done hwf rfl (Xb (Xn (Vr (O.m rfl (O.q rfl (Pu.sub64 rfl (by omega) rfl rfl rfl) (O.m rfl (On (X.back3 ((k - (1 : Int)), r4A, r4c, r4) (by (try dsimp only); exact ⟨fun d hd => good_snoc hg hgb d (hr4_1.mem_iff.1 hd), by have h := hr4_1.length_eq; simp only [List.length_append, List.length_singleton, List.length_nil] at h; omega⟩) (by first | omega | (dsimp only; omega)) (Ent.cons rfl (Ent.nil _)) (Ent.cons (t := 0) rfl (Ent.cons (t := 1) rfl (Ent.cons (t := 4) rfl (Ent.cons (t := 5) rfl (Ent.nil _))))) (Sub.t [6,0,4,5,5] 5 rfl))))))))))⟩
     ·refine ⟨_, _, rfl, rfl, fun _ _ => wanted_none rfl _, Ef.build B3C ([(bk3 (r3[0]'e1) (r3[1]'e2) (r3[2]'e3))] : List B3) rfl ut24 inf81 rfl rfl rfl (by first | decide | (simp; done)) (by kernel_rfl), rfl, rfl, ?_⟩
      rintro _ _ ⟨A4, hA4, rfl, rfl⟩ hs
      refine ⟨fun w hw => hw.sub (Sub.t [2,2,2,2,2,2,2] 2 rfl), (D.f hwf 4 rfl (Ef.appendN (xs := ([] : List B3)) (ys := xs) 1 rfl ut24 inf81 rfl rfl rfl rfl rfl rfl (fun w hw h => Own.nilc hw (i := 6) (by exact rfl) h) (Ld.own 6 (by exact rfl)) (by simp only [List.length_append, List.length_cons, List.length_nil] at *; omega) (by decide)) ?_)⟩
      rintro _ _ ⟨A5, k1, rfl, rfl, hA5⟩ hs
      replace hA5 := hA5 (.inl hA3)
      refine ⟨fun w hw => hw.sub (Sub.t [2,2,2,2,2,2,2] 2 rfl), (D.f hwf 7 rfl (Ef.append (xs := (([] : List B3) ++ xs)) (ys := ([(bk3 (r3[0]'e1) (r3[1]'e2) (r3[2]'e3))] : List B3)) 1 rfl ut24 inf81 rfl rfl rfl rfl rfl rfl hA4 (Ld.own 0 (by exact rfl)) (by simp only [List.length_append, List.length_cons, List.length_nil] at *; omega) (by decide)) ?_)⟩
      rintro _ _ ⟨A6, k2, rfl, rfl, hA6⟩ hs
      replace hA6 := hA6 (.inr (by simp))
      refine ⟨fun w hw => hw.sub (Sub.t [2,2,2,2,2,2,2] 2 rfl), (D.f hwf 8 rfl (Ef.call1 call151 rfl rfl (fun w hw => l01Made_ok  v_ ((([] : List B3) ++ xs) ++ ([(bk3 (r3[0]'e1) (r3[1]'e2) (r3[2]'e3))] : List B3)) _ _ w ((Ld.own 1 (by exact rfl)) w hw) (by first | omega | (simp only [List.length_append, List.length_cons, List.length_nil, List.length_take, List.length_drop]; omega)) (by first | omega | (simp only [List.length_append, List.length_cons, List.length_nil, List.length_take, List.length_drop]; omega)))) ?_)⟩
      rintro _ _ rfl hs
      refine ⟨fun w hw => hs w hw.tail, (D.exi (fun r4A => D.exi (fun r4c => D.exi (fun r4 => D.sep (D.pur1 ?_)))))⟩
      rintro ⟨rfl, hr4_1, hr4_2⟩
      refine D.effX (Hs' := []) hwf (e := 9) rfl rfl rfl rfl (Ef.storeAll 6 rfl sz26 rfl rfl rfl rfl (by simp [Value.oneCell']) rfl) rfl [] rfl (List.forall_mem_nil _) ?_
      rintro _ _ rfl
      exact ⟨fun w hw => hw.sub (Sub.nil _), (D.done hwf rfl (Xb (Xn (Vr (O.m rfl (O.q rfl (Pu.sub64 rfl (by omega) rfl rfl rfl) (O.m rfl (On (X.back3 ((k - (1 : Int)), r4A, r4c, r4) (by (try dsimp only); exact ⟨fun d hd => good_snoc hg hgb d (hr4_1.mem_iff.1 hd), by have h := hr4_1.length_eq; simp only [List.length_append, List.length_singleton, List.length_nil] at h; omega⟩) (by first | omega | (dsimp only; omega)) (Ent.cons rfl (Ent.nil _)) (Ent.cons (t := 0) rfl (Ent.cons (t := 1) rfl (Ent.cons (t := 4) rfl (Ent.cons (t := 5) rfl (Ent.nil _))))) (Sub.t [6,0,4,5,5] 5 rfl))))))))))⟩
    ·refine ⟨_, _, rfl, rfl, fun _ _ => wanted_none rfl _, Ef.build B3C ([(bk3 (r3[0]'e1) (r3[1]'e2) (r3[2]'e3))] : List B3) rfl ut24 inf81 rfl rfl rfl (by first | decide | (simp; done)) (by kernel_rfl), rfl, rfl, ?_⟩
     rintro _ _ ⟨A3, hA3, rfl, rfl⟩ hs
     refine ⟨fun w hw => hw.sub (Sub.t [1,1,1,1,1,1,1] 1 rfl), (D.f hwf 1 rfl (Ef.build B3C ([] : List B3) rfl ut24 inf81 rfl rfl rfl (by first | decide | (simp; done)) (by kernel_rfl)) ?_)⟩
     rintro _ _ ⟨A4, hA4, rfl, rfl⟩ hs
     refine ⟨fun w hw => hw.sub (Sub.t [2,2,2,2,2,2,2] 2 rfl), (D.f hwf 4 rfl (Ef.appendN (xs := ([] : List B3)) (ys := xs) 0 rfl ut24 inf81 rfl rfl rfl rfl rfl rfl (fun w hw h => Own.nilc hw (i := 6) (by exact rfl) h) (Ld.own 6 (by exact rfl)) (by simp only [List.length_append, List.length_cons, List.length_nil] at *; omega) (by decide)) ?_)⟩
     rintro _ _ ⟨A5, k1, rfl, rfl, hA5⟩ hs
     replace hA5 := hA5 (.inl hA4)
     refine ⟨fun w hw => hw.sub (Sub.t [2,2,2,2,2,2,2] 2 rfl), (D.f hwf 7 rfl (Ef.append (xs := (([] : List B3) ++ xs)) (ys := ([(bk3 (r3[0]'e1) (r3[1]'e2) (r3[2]'e3))] : List B3)) 0 rfl ut24 inf81 rfl rfl rfl rfl rfl rfl hA3 (Ld.own 1 (by exact rfl)) (by simp only [List.length_append, List.length_cons, List.length_nil] at *; omega) (by decide)) ?_)⟩
     rintro _ _ ⟨A6, k2, rfl, rfl, hA6⟩ hs
     replace hA6 := hA6 (.inr (by simp))
     refine ⟨fun w hw => hw.sub (Sub.t [2,2,2,2,2,2,2] 2 rfl), (D.f hwf 8 rfl (Ef.call1 call151 rfl rfl (fun w hw => l01Made_ok  v_ ((([] : List B3) ++ xs) ++ ([(bk3 (r3[0]'e1) (r3[1]'e2) (r3[2]'e3))] : List B3)) _ _ w ((Ld.own 0 (by exact rfl)) w hw) (by first | omega | (simp only [List.length_append, List.length_cons, List.length_nil, List.length_take, List.length_drop]; omega)) (by first | omega | (simp only [List.length_append, List.length_cons, List.length_nil, List.length_take, List.length_drop]; omega)))) ?_)⟩
     rintro _ _ rfl hs
     refine ⟨fun w hw => hs w hw.tail, (D.exi (fun r4A => D.exi (fun r4c => D.exi (fun r4 => D.sep (D.pur1 ?_)))))⟩
     rintro ⟨rfl, hr4_1, hr4_2⟩
     refine D.effX (Hs' := []) hwf (e := 9) rfl rfl rfl rfl (Ef.storeAll 6 rfl sz26 rfl rfl rfl rfl (by simp [Value.oneCell']) rfl) rfl [] rfl (List.forall_mem_nil _) ?_
     rintro _ _ rfl
     exact ⟨fun w hw => hw.sub (Sub.nil _), (D.done hwf rfl (Xb (Xn (Vr (O.m rfl (O.q rfl (Pu.sub64 rfl (by omega) rfl rfl rfl) (O.m rfl (On (X.back3 ((k - (1 : Int)), r4A, r4c, r4) (by (try dsimp only); exact ⟨fun d hd => good_snoc hg hgb d (hr4_1.mem_iff.1 hd), by have h := hr4_1.length_eq; simp only [List.length_append, List.length_singleton, List.length_nil] at h; omega⟩) (by first | omega | (dsimp only; omega)) (Ent.cons rfl (Ent.nil _)) (Ent.cons (t := 0) rfl (Ent.cons (t := 1) rfl (Ent.cons (t := 4) rfl (Ent.cons (t := 5) rfl (Ent.nil _))))) (Sub.t [6,0,4,5,5] 5 rfl))))))))))⟩
   ·exact Zg (O.m rfl (O.q rfl (Pu.sub64 rfl (by omega) rfl rfl rfl) (O.m rfl (On (X.back3 ((k - (1 : Int)), xsA, xsc, xs) (by (try dsimp only); exact ⟨hg, by omega⟩) (by first | omega | (dsimp only; omega)) (Ent.cons rfl (Ent.nil _)) (Ent.cons (t := 0) rfl (Ent.cons (t := 1) rfl (Ent.cons (t := 4) rfl (Ent.cons (t := 5) rfl (Ent.nil _))))) (Sub.t [3,3,2,2,2] 2 rfl))))))
 ·refine Zd (O.q rfl (Pu.loadAgg rfl ag26 sz26 rfl rfl (Ld.whole 0 rfl)) (O.s rfl rfl (Ef.storeAll 4 rfl sz26 rfl rfl rfl rfl (by simp [Value.oneCell']) rfl) ?_))
  rintro _ _ rfl
  exact Ze (X.retCell rfl ag26 sz26 rfl rfl (Ld.whole 4 rfl) (fun w hw => St.mkExi xsA (St.mkExi xsc (St.mkExi xs (St.unsep (St.addPur ⟨rfl, ⟨hv, hg, by omega⟩⟩ (St.unsep (hw.sub (Sub.t [1,1] 3 rfl)))))))))
set_option maxRecDepth 100000 in
set_option maxHeartbeats 1000000 in
theorem l01Switched_ok (cA : Option Addr) (cc : Nat) (code : List UInt8) (n : Nat) (s : Nat) (v : Int) (bs : List B3) (A : Option Addr) (c : Nat) (w0 : World) (H : List Assn) (hc : Rd U8C w0 cA code) (lc : code.length ≤ 1048576) (hD : DrS n v bs) (hn : n ≤ 5000) : Does Tryz.prog 85 [.pointer (some ⟨s, 0, none⟩), .agg #[.int .i64 v, .slice A bs.length c]] w0 (SrcK 133 cA cc code s :: Own 81 B3C A c bs :: H) (fun rv_ => [.exi fun (rA : Option Addr) => .exi fun (rc : Nat) => .exi fun (r : List B3) => .sep (.pur (rv_ = .agg #[.int .i64 v, .slice rA r.length rc] ∧ DrS (n + 4) v r)) (.sep (Own 81 B3C rA rc r) (SrcK 133 cA cc code s))] ++ H) := by
 refine Does.enter Tryz.func85 rfl rfl [(0, .pointer (some ⟨s, 0, none⟩)), (1, .agg #[.int .i64 v, .slice A bs.length c])] rfl ?_
 have hv := hD.1
 have hg := hD.2.1
 have hl := hD.2.2
 have hg15 := hD.g15
 refine Za (O.f rfl (Ef.box rfl rfl rfl) ?_)
 rintro _ _ ⟨b1, rfl, rfl⟩
 refine O.f rfl (Ef.alloc rfl zr26 rfl) ?_
 rintro _ _ ⟨b2, rfl, rfl⟩
 refine Zb (O.m rfl (O.q rfl (Pu.fieldAddr 0 rfl ut26 rfl sz2 rfl rfl) (O.q rfl (Pu.load rfl pl2 rfl (Ld.blk 1 rfl rfl)) (O.f rfl (Ef.call call84 rfl rfl (Does.pre (fun w hw => hw.sub (Sub.t [2,0,0,0] 0 rfl)) (l01DrawOrder_ok _ _ _ s v w0 _   (by first | assumption | omega | (try dsimp only at *; omega)) (by first | assumption | omega | (try dsimp only at *; omega)) (by omega)))) ?_))))
 rintro _ _ rfl
 refine O.exi (fun r1A => O.exi (fun r1c => O.exi (fun r1 => O.sep (O.pur ?_))))
 rintro ⟨rfl, hr1_1⟩
 refine O.sep ?_
 have hol := hr1_1.1
 refine O.m rfl (Zf (Vs (V.draw mo (by kernel_rfl) (fun hwf => D.m 0 rfl (D.q 1 rfl (Pu.indexAddrS (0) rfl ut49 sz2 rfl rfl (by omega) (by omega) (fun w hw => Own.some hw (i := 0) (by exact rfl) (by omega))) ?_)))))
 have e1 : 0 < r1.length := by omega
 refine D.q 2 rfl (Pu.load rfl pl2 rfl (Ld.rd (Ld.own 0 (by exact rfl)) (k := 0) e1 rfl rfl)) (D.m 3 rfl (D.q 4 rfl (Pu.indexAddrS (1) rfl ut49 sz2 rfl rfl (by omega) (by omega) (fun w hw => Own.some hw (i := 0) (by exact rfl) (by omega))) ?_))
 have e2 : 1 < r1.length := by omega
 refine D.q 5 rfl (Pu.load rfl pl2 rfl (Ld.rd (Ld.own 0 (by exact rfl)) (k := 1) e2 rfl rfl)) (D.m 6 rfl (D.m 7 rfl (D.done hwf rfl (Xn (Zj (O.m rfl (Zi ?_)))))))
 refine V.loop3 (β := Nat) (fun i => [(8, .int .i64 (i : Int))]) _ (fun i => []) _ (fun i => 2 ≤ i ∧ i ≤ r1.length) (fun i => r1.length - i) 2 ⟨by omega, by omega⟩ (Ent.cons rfl (Ent.nil _)) (Ent.cons (t := 3) rfl (Ent.cons (t := 4) rfl (Ent.cons (t := 5) rfl (Ent.cons (t := 6) rfl (Ent.cons (t := 7) rfl (Ent.nil _)))))) (Sub.t [0,0,0,0,0] 0 rfl) ?_
 rintro i ⟨hi2, hi⟩
 refine Zj (O.m rfl (O.m rfl (O.q rfl (Pu.len rfl ut49 rfl) (O.q rfl (Pu.lss rfl rfl rfl) (Zf (V.condD rfl (fun c1 => ?_) (fun c1 => ?_)))))))
 ·refine Zh (O.m rfl (O.m rfl (O.q rfl (Pu.indexAddrS (i) rfl ut49 sz2 rfl rfl (by omega) (by omega) (fun w hw => Own.some hw (i := 0) (by exact rfl) (by omega))) ?_)))
  have e3 : i < r1.length := by omega
  refine O.q rfl (Pu.load rfl pl2 rfl (Ld.rd (Ld.own 0 (by exact rfl)) (k := i) e3 rfl rfl)) (O.m rfl (Zf (Vs ?_)))
  have g0 := ord_at hr1_1 (i := 0) (by omega)
  have g1 := ord_at hr1_1 (i := 1) (by omega)
  have gi := ord_at hr1_1 (i := i) (by omega)
  have n01 := ord_ne hr1_1 (i := 0) (j := 1) (by omega) (by omega) (by decide)
  have n0i := ord_ne hr1_1 (i := 0) (j := i) (by omega) (by omega) (by omega)
  have n1i := ord_ne hr1_1 (i := 1) (j := i) (by omega) (by omega) (by omega)
  refine Vr (O.q rfl (Pu.loadAgg rfl ag26 sz26 rfl rfl (Ld.whole 3 rfl)) (O.m rfl (O.m rfl (O.f rfl (Ef.callP call78 rfl rfl (fun w hw => l01Third_ok  v bs (r1[0]'e1) (r1[i]'e3) _ _ w ((Ld.own 4 (by exact rfl)) w hw) (by first | omega | (simp only [tops_len, conts_len, bl, List.length_append, List.length_cons, List.length_nil] at *; omega)) hg15 (by omega) (by omega))) ?_))))
  rintro _ _ ⟨rfl, rfl⟩
  refine O.m rfl (Zb (O.q rfl (Pu.loadAgg rfl ag26 sz26 rfl rfl (Ld.whole 3 rfl)) (O.m rfl (O.m rfl (O.f rfl (Ef.callP call78 rfl rfl (fun w hw => l01Third_ok  v bs (r1[1]'e2) (r1[i]'e3) _ _ w ((Ld.own 4 (by exact rfl)) w hw) (by first | omega | (simp only [tops_len, conts_len, bl, List.length_append, List.length_cons, List.length_nil] at *; omega)) hg15 (by omega) (by omega))) ?_)))))
  rintro _ _ ⟨rfl, rfl⟩
  refine O.m rfl (Zc (O.m rfl (O.q rfl (Pu.lss rfl rfl rfl) (O.m rfl (O.splitD 46 rfl (fun c2 => ?_) (fun c2 => ?_))))))
  ·refine O.g rfl (O.g rfl (O.m rfl (O.m rfl (O.g rfl (O.g rfl (O.g rfl (O.m rfl (O.m rfl (O.g rfl (O.g rfl (O.g rfl ?_)))))))))))
   refine O.m rfl (Zf (V.condT rfl (Ve (Xe (Xh (Xn (Vr (O.m rfl (O.q rfl (Pu.add64 (r := ((i + 1 : Nat) : Int)) rfl (by omega) rfl rfl rfl) (O.m rfl ?_))))))))))
   exact On (X.back3 (i + 1) ⟨by omega, by omega⟩ (by first | omega | (dsimp only; omega)) (Ent.cons rfl (Ent.nil _)) (Ent.cons (t := 3) rfl (Ent.cons (t := 4) rfl (Ent.cons (t := 5) rfl (Ent.cons (t := 6) rfl (Ent.cons (t := 7) rfl (Ent.nil _)))))) (Sub.t [0,0,0,0,0] 0 rfl))
  ·refine O.gm rfl (O.gq rfl (Pu.lss rfl rfl rfl) (O.m rfl (O.m rfl (O.splitD 50 rfl (fun c3 => ?_) (fun c3 => ?_)))))
   ·refine O.g rfl (O.g rfl (O.g rfl (O.m rfl (O.m rfl (O.g rfl (O.g rfl (O.g rfl (O.m rfl (Zf (V.condT rfl ?_))))))))))
    exact Ve (Xe (Xh (Xn (Vr (O.m rfl (O.q rfl (Pu.add64 (r := ((i + 1 : Nat) : Int)) rfl (by omega) rfl rfl rfl) (O.m rfl (On (X.back3 (i + 1) ⟨by omega, by omega⟩ (by first | omega | (dsimp only; omega)) (Ent.cons rfl (Ent.nil _)) (Ent.cons (t := 3) rfl (Ent.cons (t := 4) rfl (Ent.cons (t := 5) rfl (Ent.cons (t := 6) rfl (Ent.cons (t := 7) rfl (Ent.nil _)))))) (Sub.t [0,0,0,0,0] 0 rfl))))))))))
   ·refine O.gm rfl (O.gm rfl (O.gq rfl (Pu.eql rfl rfl rfl) (O.m rfl (O.m rfl (O.splitD 55 rfl (fun c4 => ?_) (fun c4 => ?_))))))
    ·refine O.g rfl (O.g rfl (O.g rfl (O.m rfl (Zf (V.condT rfl (Ve (Xe (Xh (Xn (Vr ?_))))))))))
     exact O.m rfl (O.q rfl (Pu.add64 (r := ((i + 1 : Nat) : Int)) rfl (by omega) rfl rfl rfl) (O.m rfl (On (X.back3 (i + 1) ⟨by omega, by omega⟩ (by first | omega | (dsimp only; omega)) (Ent.cons rfl (Ent.nil _)) (Ent.cons (t := 3) rfl (Ent.cons (t := 4) rfl (Ent.cons (t := 5) rfl (Ent.cons (t := 6) rfl (Ent.cons (t := 7) rfl (Ent.nil _)))))) (Sub.t [0,0,0,0,0] 0 rfl)))))
    ·refine O.gm rfl (O.gm rfl (O.gq rfl (Pu.eql rfl rfl rfl) (O.m rfl (Zf (V.condD rfl (fun c5 => ?_) (fun c5 => ?_))))))
     ·exact Ve (Xe (Xh (Xn (Vr (O.m rfl (O.q rfl (Pu.add64 (r := ((i + 1 : Nat) : Int)) rfl (by omega) rfl rfl rfl) (O.m rfl (On (X.back3 (i + 1) ⟨by omega, by omega⟩ (by first | omega | (dsimp only; omega)) (Ent.cons rfl (Ent.nil _)) (Ent.cons (t := 3) rfl (Ent.cons (t := 4) rfl (Ent.cons (t := 5) rfl (Ent.cons (t := 6) rfl (Ent.cons (t := 7) rfl (Ent.nil _)))))) (Sub.t [0,0,0,0,0] 0 rfl))))))))))
     ·refine Vk (Xn (Vs ?_))
      have te : (0 ≤ (third bs (r1[0]'e1) (r1[i]'e3)) ∧ (third bs (r1[0]'e1) (r1[i]'e3)) < v) ∧ (third bs (r1[0]'e1) (r1[i]'e3)) ≠ (r1[0]'e1) ∧ (third bs (r1[0]'e1) (r1[i]'e3)) ≠ (r1[i]'e3) := third_good hg n0i (by omega)
      have tf : (0 ≤ (third bs (r1[1]'e2) (r1[i]'e3)) ∧ (third bs (r1[1]'e2) (r1[i]'e3)) < v) ∧ (third bs (r1[1]'e2) (r1[i]'e3)) ≠ (r1[1]'e2) ∧ (third bs (r1[1]'e2) (r1[i]'e3)) ≠ (r1[i]'e3) := third_good hg n1i (by omega)
      refine Vr (O.q rfl (Pu.loadAgg rfl ag26 sz26 rfl rfl (Ld.whole 3 rfl)) (O.m rfl (O.m rfl (O.f rfl (Ef.callP call78 rfl rfl (fun w hw => l01Third_ok  v bs (r1[0]'e1) (third bs (r1[1]'e2) (r1[i]'e3)) _ _ w ((Ld.own 4 (by exact rfl)) w hw) (by first | omega | (simp only [tops_len, conts_len, bl, List.length_append, List.length_cons, List.length_nil] at *; omega)) hg15 (by omega) (by omega))) ?_))))
      rintro _ _ ⟨rfl, rfl⟩
      refine O.m rfl (Zc (O.m rfl (O.q rfl (Pu.lss rfl rfl rfl) (O.m rfl (O.splitD 66 rfl (fun c6 => ?_) (fun c6 => ?_))))))
      ·refine O.g rfl (O.g rfl (O.g rfl (O.m rfl (O.m rfl (O.g rfl (O.g rfl (O.g rfl (O.g rfl (O.g rfl (O.g rfl (O.m rfl ?_)))))))))))
       exact Zf (V.condT rfl (Ve (Xe (Xh (Xn (Vr (O.m rfl (O.q rfl (Pu.add64 (r := ((i + 1 : Nat) : Int)) rfl (by omega) rfl rfl rfl) (O.m rfl (On (X.back3 (i + 1) ⟨by omega, by omega⟩ (by first | omega | (dsimp only; omega)) (Ent.cons rfl (Ent.nil _)) (Ent.cons (t := 3) rfl (Ent.cons (t := 4) rfl (Ent.cons (t := 5) rfl (Ent.cons (t := 6) rfl (Ent.cons (t := 7) rfl (Ent.nil _)))))) (Sub.t [0,0,0,0,0] 0 rfl))))))))))))
      ·refine O.gm rfl (O.gm rfl (O.gq rfl (Pu.eql rfl rfl rfl) (O.m rfl (O.m rfl (O.splitD 71 rfl (fun c7 => ?_) (fun c7 => ?_))))))
       ·refine O.g rfl (O.g rfl (O.g rfl (O.g rfl (O.g rfl (O.g rfl (O.m rfl (Zf (V.condT rfl (Ve (Xe ?_))))))))))
        exact Xh (Xn (Vr (O.m rfl (O.q rfl (Pu.add64 (r := ((i + 1 : Nat) : Int)) rfl (by omega) rfl rfl rfl) (O.m rfl (On (X.back3 (i + 1) ⟨by omega, by omega⟩ (by first | omega | (dsimp only; omega)) (Ent.cons rfl (Ent.nil _)) (Ent.cons (t := 3) rfl (Ent.cons (t := 4) rfl (Ent.cons (t := 5) rfl (Ent.cons (t := 6) rfl (Ent.cons (t := 7) rfl (Ent.nil _)))))) (Sub.t [0,0,0,0,0] 0 rfl))))))))
       ·refine O.gq rfl (Pu.loadAgg rfl ag26 sz26 rfl rfl (Ld.whole 3 rfl)) (O.gm rfl (O.gm rfl (O.gf rfl (Ef.callP call78 rfl rfl (fun w hw => l01Third_ok  v bs (r1[1]'e2) (third bs (r1[0]'e1) (r1[i]'e3)) _ _ w ((Ld.own 4 (by exact rfl)) w hw) (by first | omega | (simp only [tops_len, conts_len, bl, List.length_append, List.length_cons, List.length_nil] at *; omega)) hg15 (by omega) (by omega))) ?_)))
        rintro _ _ ⟨rfl, rfl⟩
        refine O.gm rfl (O.gq rfl (Pu.neq rfl rfl rfl) (O.m rfl (Zf (V.condNot rfl (fun c8 => ?_) (fun c8 => ?_)))))
        ·exact Ve (Xe (Xh (Xn (Vr (O.m rfl (O.q rfl (Pu.add64 (r := ((i + 1 : Nat) : Int)) rfl (by omega) rfl rfl rfl) (O.m rfl (On (X.back3 (i + 1) ⟨by omega, by omega⟩ (by first | omega | (dsimp only; omega)) (Ent.cons rfl (Ent.nil _)) (Ent.cons (t := 3) rfl (Ent.cons (t := 4) rfl (Ent.cons (t := 5) rfl (Ent.cons (t := 6) rfl (Ent.cons (t := 7) rfl (Ent.nil _)))))) (Sub.t [0,0,0,0,0] 0 rfl))))))))))
        ·refine Vk (Xn (Vs ?_))
         have td : (0 ≤ (third bs (r1[0]'e1) (third bs (r1[1]'e2) (r1[i]'e3))) ∧ (third bs (r1[0]'e1) (third bs (r1[1]'e2) (r1[i]'e3))) < v) ∧ (third bs (r1[0]'e1) (third bs (r1[1]'e2) (r1[i]'e3))) ≠ (r1[0]'e1) ∧ (third bs (r1[0]'e1) (third bs (r1[1]'e2) (r1[i]'e3))) ≠ (third bs (r1[1]'e2) (r1[i]'e3)) := third_good hg (by omega) (by omega)
         have tg := third_good hg (a := (r1[1]'e2)) (b := (third bs (r1[0]'e1) (r1[i]'e3))) (by omega) (by omega)
         have q1 : good v (bk3 (r1[1]'e2) (r1[i]'e3) (third bs (r1[0]'e1) (r1[i]'e3))) := good_bk3 (by omega) (by omega) (by omega) (by omega) (by omega) (by omega)
         have q2 : good v (bk3 (r1[1]'e2) (third bs (r1[0]'e1) (third bs (r1[1]'e2) (r1[i]'e3))) (third bs (r1[1]'e2) (r1[i]'e3))) := good_bk3 (by omega) (by omega) (by omega) (by omega) (by omega) (by omega)
         have q3 : good v (bk3 (r1[0]'e1) (r1[i]'e3) (third bs (r1[1]'e2) (r1[i]'e3))) := good_bk3 (by omega) (by omega) (by omega) (by omega) (by omega) (by omega)
         have q4 : good v (bk3 (r1[0]'e1) (third bs (r1[0]'e1) (third bs (r1[1]'e2) (r1[i]'e3))) (third bs (r1[0]'e1) (r1[i]'e3))) := good_bk3 (by omega) (by omega) (by omega) (by omega) (by omega) (by omega)
         refine Vr (O.m rfl (O.m rfl (O.m rfl (O.f rfl (Ef.callP call80 rfl rfl (fun w hw => l01BlockD_ok  (r1[1]'e2) (r1[i]'e3) (third bs (r1[0]'e1) (r1[i]'e3)) w   (by first | assumption | omega | (try dsimp only at *; omega)) (by first | assumption | omega | (try dsimp only at *; omega)) (by first | assumption | omega | (try dsimp only at *; omega)))) ?_))))
         rintro _ _ ⟨rfl, rfl⟩
         refine O.m rfl (O.m rfl (O.m rfl (O.f rfl (Ef.callP call80 rfl rfl (fun w hw => l01BlockD_ok  (r1[1]'e2) (third bs (r1[0]'e1) (third bs (r1[1]'e2) (r1[i]'e3))) (third bs (r1[1]'e2) (r1[i]'e3)) w   (by first | assumption | omega | (try dsimp only at *; omega)) (by first | assumption | omega | (try dsimp only at *; omega)) (by first | assumption | omega | (try dsimp only at *; omega)))) ?_)))
         rintro _ _ ⟨rfl, rfl⟩
         refine O.m rfl (O.m rfl (O.m rfl (O.f rfl (Ef.callP call80 rfl rfl (fun w hw => l01BlockD_ok  (r1[0]'e1) (r1[i]'e3) (third bs (r1[1]'e2) (r1[i]'e3)) w   (by first | assumption | omega | (try dsimp only at *; omega)) (by first | assumption | omega | (try dsimp only at *; omega)) (by first | assumption | omega | (try dsimp only at *; omega)))) ?_)))
         rintro _ _ ⟨rfl, rfl⟩
         refine O.m rfl (O.m rfl (O.m rfl (O.f rfl (Ef.callP call80 rfl rfl (fun w hw => l01BlockD_ok  (r1[0]'e1) (third bs (r1[0]'e1) (third bs (r1[1]'e2) (r1[i]'e3))) (third bs (r1[0]'e1) (r1[i]'e3)) w   (by first | assumption | omega | (try dsimp only at *; omega)) (by first | assumption | omega | (try dsimp only at *; omega)) (by first | assumption | omega | (try dsimp only at *; omega)))) ?_)))
         rintro _ _ ⟨rfl, rfl⟩
         refine O.f rfl (Ef.build B3C ([(bk3 (r1[1]'e2) (r1[i]'e3) (third bs (r1[0]'e1) (r1[i]'e3))), (bk3 (r1[1]'e2) (third bs (r1[0]'e1) (third bs (r1[1]'e2) (r1[i]'e3))) (third bs (r1[1]'e2) (r1[i]'e3))), (bk3 (r1[0]'e1) (r1[i]'e3) (third bs (r1[1]'e2) (r1[i]'e3))), (bk3 (r1[0]'e1) (third bs (r1[0]'e1) (third bs (r1[1]'e2) (r1[i]'e3))) (third bs (r1[0]'e1) (r1[i]'e3)))] : List B3) rfl ut24 inf81 rfl rfl rfl (by first | decide | (simp; done)) (by kernel_rfl)) ?_
         rintro _ _ ⟨A1, hA1, rfl, rfl⟩
         refine O.m rfl (Zb (O.m rfl (O.m rfl (O.m rfl (O.f rfl (Ef.callP call80 rfl rfl (fun w hw => l01BlockD_ok  (r1[0]'e1) (r1[i]'e3) (third bs (r1[0]'e1) (r1[i]'e3)) w   (by first | assumption | omega | (try dsimp only at *; omega)) (by first | assumption | omega | (try dsimp only at *; omega)) (by first | assumption | omega | (try dsimp only at *; omega)))) ?_)))))
         rintro _ _ ⟨rfl, rfl⟩
         refine O.m rfl (O.m rfl (O.m rfl (O.f rfl (Ef.callP call80 rfl rfl (fun w hw => l01BlockD_ok  (r1[0]'e1) (third bs (r1[0]'e1) (third bs (r1[1]'e2) (r1[i]'e3))) (third bs (r1[1]'e2) (r1[i]'e3)) w   (by first | assumption | omega | (try dsimp only at *; omega)) (by first | assumption | omega | (try dsimp only at *; omega)) (by first | assumption | omega | (try dsimp only at *; omega)))) ?_)))
         rintro _ _ ⟨rfl, rfl⟩
         refine O.m rfl (O.m rfl (O.m rfl (O.f rfl (Ef.callP call80 rfl rfl (fun w hw => l01BlockD_ok  (r1[1]'e2) (r1[i]'e3) (third bs (r1[1]'e2) (r1[i]'e3)) w   (by first | assumption | omega | (try dsimp only at *; omega)) (by first | assumption | omega | (try dsimp only at *; omega)) (by first | assumption | omega | (try dsimp only at *; omega)))) ?_)))
         rintro _ _ ⟨rfl, rfl⟩
         refine O.m rfl (O.m rfl (O.m rfl (O.f rfl (Ef.callP call80 rfl rfl (fun w hw => l01BlockD_ok  (r1[1]'e2) (third bs (r1[0]'e1) (third bs (r1[1]'e2) (r1[i]'e3))) (third bs (r1[0]'e1) (r1[i]'e3)) w   (by first | assumption | omega | (try dsimp only at *; omega)) (by first | assumption | omega | (try dsimp only at *; omega)) (by first | assumption | omega | (try dsimp only at *; omega)))) ?_)))
         rintro _ _ ⟨rfl, rfl⟩
         refine O.f rfl (Ef.build B3C ([(bk3 (r1[0]'e1) (r1[i]'e3) (third bs (r1[0]'e1) (r1[i]'e3))), (bk3 (r1[0]'e1) (third bs (r1[0]'e1) (third bs (r1[1]'e2) (r1[i]'e3))) (third bs (r1[1]'e2) (r1[i]'e3))), (bk3 (r1[1]'e2) (r1[i]'e3) (third bs (r1[1]'e2) (r1[i]'e3))), (bk3 (r1[1]'e2) (third bs (r1[0]'e1) (third bs (r1[1]'e2) (r1[i]'e3))) (third bs (r1[0]'e1) (r1[i]'e3)))] : List B3) rfl ut24 inf81 rfl rfl rfl (by first | decide | (simp; done)) (by kernel_rfl)) ?_
         rintro _ _ ⟨A2, hA2, rfl, rfl⟩
         refine O.m rfl (Zc (O.m rfl (Zi (V.loop3 (β := (Option Addr) × Nat × (List B3) × Nat) (fun x => [(13, .slice x.1 x.2.2.1.length x.2.1), (15, .int .i64 (x.2.2.2 : Int))]) _ (fun x => [Own 81 B3C x.1 x.2.1 x.2.2.1]) _ (fun x => x.2.2.2 ≤ bs.length ∧ (∀ d ∈ x.2.2.1, good v d) ∧ x.2.2.1.length ≤ 4 + x.2.2.2) (fun x => bs.length - x.2.2.2) (A1, 4, ([(bk3 (r1[1]'e2) (r1[i]'e3) (third bs (r1[0]'e1) (r1[i]'e3))), (bk3 (r1[1]'e2) (third bs (r1[0]'e1) (third bs (r1[1]'e2) (r1[i]'e3))) (third bs (r1[1]'e2) (r1[i]'e3))), (bk3 (r1[0]'e1) (r1[i]'e3) (third bs (r1[1]'e2) (r1[i]'e3))), (bk3 (r1[0]'e1) (third bs (r1[0]'e1) (third bs (r1[1]'e2) (r1[i]'e3))) (third bs (r1[0]'e1) (r1[i]'e3)))] : List B3), 0) (by (try dsimp only); exact ⟨by omega, (by intro d hd; simp only [List.mem_cons, List.not_mem_nil, or_false] at hd; rcases hd with rfl | rfl | rfl | rfl; (· exact q1); (· exact q2); (· exact q3); (· exact q4)), by simp⟩) (Ent.cons rfl (Ent.cons rfl (Ent.nil _))) (Ent.cons (t := 3) rfl (Ent.cons (t := 4) rfl (Ent.cons (t := 5) rfl (Ent.cons (t := 6) rfl (Ent.cons (t := 7) rfl (Ent.cons (t := 8) rfl (Ent.cons (t := 14) rfl (Ent.nil _)))))))) (Sub.t [1,0,0,0,0,0,0] 0 rfl) ?_))))
         rintro ⟨blocksA, blocksc, blocks, k⟩ ⟨hk, hgb, hlb⟩
         dsimp only at hk hgb hlb ⊢
         refine Zj (O.m rfl (O.q rfl (Pu.fieldAddr 1 rfl ut26 rfl sz24 rfl rfl) (O.q rfl (Pu.load rfl pl24 rfl (Ld.blk 5 rfl rfl)) (O.q rfl (Pu.len rfl ut24 rfl) (O.q rfl (Pu.lss rfl rfl rfl) (Zf (V.condD rfl (fun c9 => ?_) (fun c9 => ?_))))))))
         ·refine Vk (Xn (Vs (Vb (Vs (V.draw mo (by kernel_rfl) (fun hwf => D.q 0 rfl (Pu.fieldAddr 1 rfl ut26 rfl sz24 rfl rfl) (D.q 1 rfl (Pu.load rfl pl24 rfl (Ld.blk 5 rfl rfl)) (D.m 2 rfl (D.q 3 rfl (Pu.indexAddrS (k) rfl ut24 sz81 rfl rfl (by omega) (by omega) (fun w hw => Own.some hw (i := 6) (by exact rfl) (by omega))) ?_)))))))))
          have e4 : k < bs.length := by omega
          refine D.q 4 rfl (Pu.loadAgg' (v := B3.v (bs[k]'e4)) rfl rfl ag81 sz81 rfl rfl (Ld.rds (C := B3C) (Ld.own 6 (by exact rfl)) (k := k) e4 rfl)) (D.m 5 rfl (D.q 6 rfl (Pu.indexAddr (0) rfl ut24 sz81 rfl rfl (by omega) (by simp) hA2) ?_))
          have e5 : 0 < ([(bk3 (r1[0]'e1) (r1[i]'e3) (third bs (r1[0]'e1) (r1[i]'e3))), (bk3 (r1[0]'e1) (third bs (r1[0]'e1) (third bs (r1[1]'e2) (r1[i]'e3))) (third bs (r1[1]'e2) (r1[i]'e3))), (bk3 (r1[1]'e2) (r1[i]'e3) (third bs (r1[1]'e2) (r1[i]'e3))), (bk3 (r1[1]'e2) (third bs (r1[0]'e1) (third bs (r1[1]'e2) (r1[i]'e3))) (third bs (r1[0]'e1) (r1[i]'e3)))] : List B3).length := by simp
          refine D.q 7 rfl (Pu.loadAgg' (v := B3.v (([(bk3 (r1[0]'e1) (r1[i]'e3) (third bs (r1[0]'e1) (r1[i]'e3))), (bk3 (r1[0]'e1) (third bs (r1[0]'e1) (third bs (r1[1]'e2) (r1[i]'e3))) (third bs (r1[1]'e2) (r1[i]'e3))), (bk3 (r1[1]'e2) (r1[i]'e3) (third bs (r1[1]'e2) (r1[i]'e3))), (bk3 (r1[1]'e2) (third bs (r1[0]'e1) (third bs (r1[1]'e2) (r1[i]'e3))) (third bs (r1[0]'e1) (r1[i]'e3)))] : List B3)[0]'e5)) rfl rfl ag81 sz81 rfl rfl (Ld.rds (C := B3C) (Ld.own 1 (by exact rfl)) (k := 0) e5 rfl)) (D.q 8 rfl (Pu.neqB3 ut81 ut2 sz2 (by kernel_rfl) rfl rfl rfl) (D.m 9 rfl (D.splitN 129 rfl (fun c10 => ?_) (fun c10 => ?_))))
          ·refine D.gq 10 rfl (Pu.fieldAddr 1 rfl ut26 rfl sz24 rfl rfl) (D.gq 11 rfl (Pu.load rfl pl24 rfl (Ld.blk 5 rfl rfl)) (D.gm 12 rfl (D.gq 13 rfl (Pu.indexAddrS (k) rfl ut24 sz81 rfl rfl (by omega) (by omega) (fun w hw => Own.some hw (i := 6) (by exact rfl) (by omega))) (D.gq 14 rfl (Pu.loadAgg' (v := B3.v (bs[k]'e4)) rfl rfl ag81 sz81 rfl rfl (Ld.rds (C := B3C) (Ld.own 6 (by exact rfl)) (k := k) e4 rfl)) (D.gm 15 rfl (D.gq 16 rfl (Pu.indexAddr (1) rfl ut24 sz81 rfl rfl (by omega) (by simp) hA2) ?_))))))
           have e6 : 1 < ([(bk3 (r1[0]'e1) (r1[i]'e3) (third bs (r1[0]'e1) (r1[i]'e3))), (bk3 (r1[0]'e1) (third bs (r1[0]'e1) (third bs (r1[1]'e2) (r1[i]'e3))) (third bs (r1[1]'e2) (r1[i]'e3))), (bk3 (r1[1]'e2) (r1[i]'e3) (third bs (r1[1]'e2) (r1[i]'e3))), (bk3 (r1[1]'e2) (third bs (r1[0]'e1) (third bs (r1[1]'e2) (r1[i]'e3))) (third bs (r1[0]'e1) (r1[i]'e3)))] : List B3).length := by simp
           refine D.gq 17 rfl (Pu.loadAgg' (v := B3.v (([(bk3 (r1[0]'e1) (r1[i]'e3) (third bs (r1[0]'e1) (r1[i]'e3))), (bk3 (r1[0]'e1) (third bs (r1[0]'e1) (third bs (r1[1]'e2) (r1[i]'e3))) (third bs (r1[1]'e2) (r1[i]'e3))), (bk3 (r1[1]'e2) (r1[i]'e3) (third bs (r1[1]'e2) (r1[i]'e3))), (bk3 (r1[1]'e2) (third bs (r1[0]'e1) (third bs (r1[1]'e2) (r1[i]'e3))) (third bs (r1[0]'e1) (r1[i]'e3)))] : List B3)[1]'e6)) rfl rfl ag81 sz81 rfl rfl (Ld.rds (C := B3C) (Ld.own 1 (by exact rfl)) (k := 1) e6 rfl)) (D.gq 18 rfl (Pu.neqB3 ut81 ut2 sz2 (by kernel_rfl) rfl rfl rfl) (D.m 19 rfl (D.m 20 rfl (D.splitN 140 rfl (fun c11 => ?_) (fun c11 => ?_)))))
           ·refine D.gq 21 rfl (Pu.fieldAddr 1 rfl ut26 rfl sz24 rfl rfl) (D.gq 22 rfl (Pu.load rfl pl24 rfl (Ld.blk 5 rfl rfl)) (D.gm 23 rfl (D.gq 24 rfl (Pu.indexAddrS (k) rfl ut24 sz81 rfl rfl (by omega) (by omega) (fun w hw => Own.some hw (i := 6) (by exact rfl) (by omega))) (D.gq 25 rfl (Pu.loadAgg' (v := B3.v (bs[k]'e4)) rfl rfl ag81 sz81 rfl rfl (Ld.rds (C := B3C) (Ld.own 6 (by exact rfl)) (k := k) e4 rfl)) (D.gm 26 rfl (D.gq 27 rfl (Pu.indexAddr (2) rfl ut24 sz81 rfl rfl (by omega) (by simp) hA2) ?_))))))
            have e7 : 2 < ([(bk3 (r1[0]'e1) (r1[i]'e3) (third bs (r1[0]'e1) (r1[i]'e3))), (bk3 (r1[0]'e1) (third bs (r1[0]'e1) (third bs (r1[1]'e2) (r1[i]'e3))) (third bs (r1[1]'e2) (r1[i]'e3))), (bk3 (r1[1]'e2) (r1[i]'e3) (third bs (r1[1]'e2) (r1[i]'e3))), (bk3 (r1[1]'e2) (third bs (r1[0]'e1) (third bs (r1[1]'e2) (r1[i]'e3))) (third bs (r1[0]'e1) (r1[i]'e3)))] : List B3).length := by simp
            refine D.gq 28 rfl (Pu.loadAgg' (v := B3.v (([(bk3 (r1[0]'e1) (r1[i]'e3) (third bs (r1[0]'e1) (r1[i]'e3))), (bk3 (r1[0]'e1) (third bs (r1[0]'e1) (third bs (r1[1]'e2) (r1[i]'e3))) (third bs (r1[1]'e2) (r1[i]'e3))), (bk3 (r1[1]'e2) (r1[i]'e3) (third bs (r1[1]'e2) (r1[i]'e3))), (bk3 (r1[1]'e2) (third bs (r1[0]'e1) (third bs (r1[1]'e2) (r1[i]'e3))) (third bs (r1[0]'e1) (r1[i]'e3)))] : List B3)[2]'e7)) rfl rfl ag81 sz81 rfl rfl (Ld.rds (C := B3C) (Ld.own 1 (by exact rfl)) (k := 2) e7 rfl)) (D.gq 29 rfl (Pu.neqB3 ut81 ut2 sz2 (by kernel_rfl) rfl rfl rfl) (D.m 30 rfl (D.m 31 rfl (D.splitN 151 rfl (fun c12 => ?_) (fun c12 => ?_)))))
            ·refine D.gq 32 rfl (Pu.fieldAddr 1 rfl ut26 rfl sz24 rfl rfl) (D.gq 33 rfl (Pu.load rfl pl24 rfl (Ld.blk 5 rfl rfl)) (D.gm 34 rfl (D.gq 35 rfl (Pu.indexAddrS (k) rfl ut24 sz81 rfl rfl (by omega) (by omega) (fun w hw => Own.some hw (i := 6) (by exact rfl) (by omega))) (D.gq 36 rfl (Pu.loadAgg' (v := B3.v (bs[k]'e4)) rfl rfl ag81 sz81 rfl rfl (Ld.rds (C := B3C) (Ld.own 6 (by exact rfl)) (k := k) e4 rfl)) (D.gm 37 rfl (D.gq 38 rfl (Pu.indexAddr (3) rfl ut24 sz81 rfl rfl (by omega) (by simp) hA2) ?_))))))
             have e8 : 3 < ([(bk3 (r1[0]'e1) (r1[i]'e3) (third bs (r1[0]'e1) (r1[i]'e3))), (bk3 (r1[0]'e1) (third bs (r1[0]'e1) (third bs (r1[1]'e2) (r1[i]'e3))) (third bs (r1[1]'e2) (r1[i]'e3))), (bk3 (r1[1]'e2) (r1[i]'e3) (third bs (r1[1]'e2) (r1[i]'e3))), (bk3 (r1[1]'e2) (third bs (r1[0]'e1) (third bs (r1[1]'e2) (r1[i]'e3))) (third bs (r1[0]'e1) (r1[i]'e3)))] : List B3).length := by simp
             refine D.gq 39 rfl (Pu.loadAgg' (v := B3.v (([(bk3 (r1[0]'e1) (r1[i]'e3) (third bs (r1[0]'e1) (r1[i]'e3))), (bk3 (r1[0]'e1) (third bs (r1[0]'e1) (third bs (r1[1]'e2) (r1[i]'e3))) (third bs (r1[1]'e2) (r1[i]'e3))), (bk3 (r1[1]'e2) (r1[i]'e3) (third bs (r1[1]'e2) (r1[i]'e3))), (bk3 (r1[1]'e2) (third bs (r1[0]'e1) (third bs (r1[1]'e2) (r1[i]'e3))) (third bs (r1[0]'e1) (r1[i]'e3)))] : List B3)[3]'e8)) rfl rfl ag81 sz81 rfl rfl (Ld.rds (C := B3C) (Ld.own 1 (by exact rfl)) (k := 3) e8 rfl)) (D.gq 40 rfl (Pu.neqB3 ut81 ut2 sz2 (by kernel_rfl) rfl rfl rfl) (D.m 41 rfl (D.done hwf rfl (Xn (V.condNot rfl (fun c13 => ?_) (fun c13 => ?_))))))
             ·refine Vr (O.m rfl (O.q rfl (Pu.fieldAddr 1 rfl ut26 rfl sz24 rfl rfl) (O.q rfl (Pu.load rfl pl24 rfl (Ld.blk 5 rfl rfl)) (O.m rfl (O.q rfl (Pu.indexAddrS (k) rfl ut24 sz81 rfl rfl (by omega) (by omega) (fun w hw => Own.some hw (i := 6) (by exact rfl) (by omega))) (O.q rfl (Pu.loadAgg' (v := B3.v (bs[k]'e4)) rfl rfl ag81 sz81 rfl rfl (Ld.rds (C := B3C) (Ld.own 6 (by exact rfl)) (k := k) e4 rfl)) (O.f rfl (Ef.build B3C ([(bs[k]'e4)] : List B3) rfl ut24 inf81 rfl rfl rfl (by first | decide | (simp; done)) (by kernel_rfl)) ?_)))))))
              rintro _ _ ⟨A3, hA3, rfl, rfl⟩
              refine O.f rfl (Ef.append (xs := blocks) (ys := ([(bs[k]'e4)] : List B3)) 1 rfl ut24 inf81 rfl rfl rfl rfl rfl rfl hA3 (Ld.own 0 (by exact rfl)) (by simp only [List.length_append, List.length_cons, List.length_nil] at *; omega) (by decide)) ?_
              rintro _ _ ⟨A4, k1, rfl, rfl, hA4⟩
              replace hA4 := hA4 (.inr (by simp))
              exact O.m rfl (Zk (O.m rfl (O.q rfl (Pu.add64 (r := ((k + 1 : Nat) : Int)) rfl (by omega) rfl rfl rfl) (O.m rfl (On (X.back3 (A4, k1, (blocks ++ ([(bs[k]'e4)] : List B3)), k + 1) (by (try dsimp only); exact ⟨by omega, (by first | exact hgb | exact good_snoc hgb (hg _ (List.getElem_mem _))), (by first | omega | (simp only [List.length_append, List.length_singleton]; omega))⟩) (by first | omega | (dsimp only; omega)) (Ent.cons rfl (Ent.cons rfl (Ent.nil _))) (Ent.cons (t := 3) rfl (Ent.cons (t := 4) rfl (Ent.cons (t := 5) rfl (Ent.cons (t := 6) rfl (Ent.cons (t := 7) rfl (Ent.cons (t := 8) rfl (Ent.cons (t := 14) rfl (Ent.nil _)))))))) (Sub.t [1,1,1,1,1,1,1] 1 rfl)))))))
             ·exact Zg (O.m rfl (O.q rfl (Pu.add64 (r := ((k + 1 : Nat) : Int)) rfl (by omega) rfl rfl rfl) (O.m rfl (On (X.back3 (blocksA, blocksc, blocks, k + 1) (by (try dsimp only); exact ⟨by omega, (by first | exact hgb | exact good_snoc hgb (hg _ (List.getElem_mem _))), (by first | omega | (simp only [List.length_append, List.length_singleton]; omega))⟩) (by first | omega | (dsimp only; omega)) (Ent.cons rfl (Ent.cons rfl (Ent.nil _))) (Ent.cons (t := 3) rfl (Ent.cons (t := 4) rfl (Ent.cons (t := 5) rfl (Ent.cons (t := 6) rfl (Ent.cons (t := 7) rfl (Ent.cons (t := 8) rfl (Ent.cons (t := 14) rfl (Ent.nil _)))))))) (Sub.t [0,0,0,0,0,0,0] 0 rfl))))))
            ·refine D.g 32 rfl (D.g 33 rfl (D.g 34 rfl (D.g 35 rfl (D.g 36 rfl (D.g 37 rfl (D.g 38 rfl (D.g 39 rfl (D.g 40 rfl (D.m 41 rfl (D.done hwf rfl (Xn ?_)))))))))))
             exact V.condF rfl (Zg (O.m rfl (O.q rfl (Pu.add64 (r := ((k + 1 : Nat) : Int)) rfl (by omega) rfl rfl rfl) (O.m rfl (On (X.back3 (blocksA, blocksc, blocks, k + 1) (by (try dsimp only); exact ⟨by omega, (by first | exact hgb | exact good_snoc hgb (hg _ (List.getElem_mem _))), (by first | omega | (simp only [List.length_append, List.length_singleton]; omega))⟩) (by first | omega | (dsimp only; omega)) (Ent.cons rfl (Ent.cons rfl (Ent.nil _))) (Ent.cons (t := 3) rfl (Ent.cons (t := 4) rfl (Ent.cons (t := 5) rfl (Ent.cons (t := 6) rfl (Ent.cons (t := 7) rfl (Ent.cons (t := 8) rfl (Ent.cons (t := 14) rfl (Ent.nil _)))))))) (Sub.t [0,0,0,0,0,0,0] 0 rfl)))))))
           ·refine D.g 21 rfl (D.g 22 rfl (D.g 23 rfl (D.g 24 rfl (D.g 25 rfl (D.g 26 rfl (D.g 27 rfl (D.g 28 rfl (D.g 29 rfl (D.m 30 rfl (D.m 31 rfl (D.g 32 rfl ?_)))))))))))
            refine D.g 33 rfl (D.g 34 rfl (D.g 35 rfl (D.g 36 rfl (D.g 37 rfl (D.g 38 rfl (D.g 39 rfl (D.g 40 rfl (D.m 41 rfl (D.done hwf rfl (Xn (V.condF rfl ?_)))))))))))
            exact Zg (O.m rfl (O.q rfl (Pu.add64 (r := ((k + 1 : Nat) : Int)) rfl (by omega) rfl rfl rfl) (O.m rfl (On (X.back3 (blocksA, blocksc, blocks, k + 1) (by (try dsimp only); exact ⟨by omega, (by first | exact hgb | exact good_snoc hgb (hg _ (List.getElem_mem _))), (by first | omega | (simp only [List.length_append, List.length_singleton]; omega))⟩) (by first | omega | (dsimp only; omega)) (Ent.cons rfl (Ent.cons rfl (Ent.nil _))) (Ent.cons (t := 3) rfl (Ent.cons (t := 4) rfl (Ent.cons (t := 5) rfl (Ent.cons (t := 6) rfl (Ent.cons (t := 7) rfl (Ent.cons (t := 8) rfl (Ent.cons (t := 14) rfl (Ent.nil _)))))))) (Sub.t [0,0,0,0,0,0,0] 0 rfl))))))
          ·refine D.g 10 rfl (D.g 11 rfl (D.g 12 rfl (D.g 13 rfl (D.g 14 rfl (D.g 15 rfl (D.g 16 rfl (D.g 17 rfl (D.g 18 rfl (D.m 19 rfl (D.m 20 rfl (D.g 21 rfl ?_)))))))))))
           refine D.g 22 rfl (D.g 23 rfl (D.g 24 rfl (D.g 25 rfl (D.g 26 rfl (D.g 27 rfl (D.g 28 rfl (D.g 29 rfl (D.m 30 rfl (D.m 31 rfl (D.g 32 rfl (D.g 33 rfl ?_)))))))))))
           refine D.g 34 rfl (D.g 35 rfl (D.g 36 rfl (D.g 37 rfl (D.g 38 rfl (D.g 39 rfl (D.g 40 rfl (D.m 41 rfl (D.done hwf rfl (Xn (V.condF rfl (Vk ?_)))))))))))
           exact Xb (Xn (Vr (O.m rfl (O.q rfl (Pu.add64 (r := ((k + 1 : Nat) : Int)) rfl (by omega) rfl rfl rfl) (O.m rfl (On (X.back3 (blocksA, blocksc, blocks, k + 1) (by (try dsimp only); exact ⟨by omega, (by first | exact hgb | exact good_snoc hgb (hg _ (List.getElem_mem _))), (by first | omega | (simp only [List.length_append, List.length_singleton]; omega))⟩) (by first | omega | (dsimp only; omega)) (Ent.cons rfl (Ent.cons rfl (Ent.nil _))) (Ent.cons (t := 3) rfl (Ent.cons (t := 4) rfl (Ent.cons (t := 5) rfl (Ent.cons (t := 6) rfl (Ent.cons (t := 7) rfl (Ent.cons (t := 8) rfl (Ent.cons (t := 14) rfl (Ent.nil _)))))))) (Sub.t [0,0,0,0,0,0,0] 0 rfl))))))))
         ·refine Zd (O.q rfl (Pu.fieldAddr 0 rfl ut26 rfl sz2 rfl rfl) (O.q rfl (Pu.load rfl pl2 rfl (Ld.blk 5 rfl rfl)) (O.m rfl (O.f rfl (Ef.call1 call151 rfl rfl (fun w hw => l01Made_ok  v blocks _ _ w ((Ld.own 0 (by exact rfl)) w hw) (by first | omega | (simp only [List.length_append, List.length_cons, List.length_nil, List.length_take, List.length_drop]; omega)) (by first | omega | (simp only [List.length_append, List.length_cons, List.length_nil, List.length_take, List.length_drop]; omega)))) ?_))))
          rintro _ _ rfl
          refine O.exi (fun r2A => O.exi (fun r2c => O.exi (fun r2 => O.sep (O.pur ?_))))
          rintro ⟨rfl, hr2_1, hr2_2⟩
          refine O.s rfl rfl (Ef.storeAll 5 rfl sz26 rfl rfl rfl rfl (by simp [Value.oneCell']) rfl) ?_
          rintro _ _ rfl
          exact Ze (Xq (Xr (Xr (Xq (Xr (X.retCell rfl ag26 sz26 rfl rfl (Ld.whole 5 rfl) (fun w hw => St.mkExi r2A (St.mkExi r2c (St.mkExi r2 (St.unsep (St.addPur ⟨rfl, DrS.perm ⟨hv, hgb, by omega⟩ hr2_1⟩ (St.unsep (hw.sub (Sub.t [0,3] 6 rfl))))))))))))))
 ·refine Zd (O.q rfl (Pu.loadAgg rfl ag26 sz26 rfl rfl (Ld.whole 3 rfl)) (O.s rfl rfl (Ef.storeAll 2 rfl sz26 rfl rfl rfl rfl (by simp [Value.oneCell']) rfl) ?_))
  rintro _ _ rfl
  exact Ze (X.retCell rfl ag26 sz26 rfl rfl (Ld.whole 2 rfl) (fun w hw => St.mkExi A (St.mkExi c (St.mkExi bs (St.unsep (St.addPur ⟨rfl, hD.mono (by omega)⟩ (St.unsep (hw.sub (Sub.t [4,1] 3 rfl)))))))))
end Go.Proofs.YtgfpljeppfaolaaGreat
