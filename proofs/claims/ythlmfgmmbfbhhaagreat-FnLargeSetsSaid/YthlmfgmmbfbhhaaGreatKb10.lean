/-
  Contracts, part 10.
-/
import Derived.Test.YthlmfgmmbfbhhaaGreatKb9
set_option linter.unusedVariables false
set_option linter.unusedSimpArgs false
namespace Go.Proofs.YthlmfgmmbfbhhaaGreat
open Go Go.RowKit Go.Vc Go.Proofs
set_option maxRecDepth 100000 in
set_option maxHeartbeats 1000000 in
theorem DrawIsFamily_ok (code : List UInt8) (codeA : Option Addr) (codec : Nat) (w : World) (hcode : Rd U8C w codeA code) (lcode : code.length ≤ 1099511627776) (lc : code.length ≤ 1048576) : Does Tryz.prog 17 [.slice codeA code.length codec] w [] (fun rv_ => [.exi fun (rA : Option Addr) => .exi fun (rc : Nat) => .exi fun (r : PsL) => .sep (.pur (rv_ = .slice rA (topP r).length rc ∧ r.length ≤ 5 ∧ ∀ k (hk : k < r.length), (r[k]).2.2.length ≤ 4200)) (.sep (Own 26 SyP rA rc (topP r)) (RowsA 65 B3C (rowP r)))]) := by
 refine Does.enter Tryz.func17 rfl rfl [(0, .slice codeA code.length codec)] rfl (V.seq (V.region (O.m rfl (O.nil (X.next (V.seq (V.region (O.m rfl (O.f rfl (Ef.call1 call39 rfl rfl (fun w hw => l01From_ok  code _ _ w ((Ld.old hcode) w hw) (by first | omega | (simp only [tops_len, conts_len, bl, List.length_append, List.length_cons, List.length_nil] at *; omega)) (by first | assumption | omega | (try dsimp only at *; omega)))) ?_)))))))))
 rintro _ _ rfl
 refine O.exi (fun s1 => O.sep (O.pur ?_))
 rintro rfl
 refine O.m rfl (O.nil (X.next (V.seq (V.region (O.f rfl (Ef.build (SyC 9) ([] : List Sl) rfl Tryz.underlying28 inf26 rfl rfl rfl (by first | decide | (simp; done)) (by kernel_rfl)) ?_)))))
 rintro _ _ ⟨A1, hA1, rfl, rfl⟩
 refine O.m rfl (O.nil (X.next (V.seq (V.region (O.f rfl (Ef.call1 call59 rfl rfl (fun w hw => l01NamedD2_ok   w   )) ?_)))))
 rintro _ _ rfl
 refine O.exi (fun r1A => O.exi (fun r1c => O.exi (fun r1 => O.sep (O.pur ?_))))
 rintro ⟨rfl, hr1_1⟩
 have hDn := hr1_1
 have hvn := hDn.1
 have hln := hDn.2.2
 refine O.m rfl (O.m rfl (O.m rfl (O.f rfl (Ef.alloc rfl zr26 rfl) ?_)))
 rintro _ _ ⟨b1, rfl, rfl⟩
 refine O.s rfl rfl (Ef.storeAll 0 rfl sz26 rfl rfl rfl rfl (by simp [Value.oneCell']) rfl) ?_
 rintro _ _ rfl
 refine O.m rfl (O.nil (X.next (V.seq (V.drawS mo (by kernel_rfl) (Sub.k (Sub.k (Sub.k (Sub.nil _)))) (fun hwf => D.q 0 rfl (Pu.loadAgg rfl ag26 sz26 rfl rfl (Ld.whole 0 rfl)) (D.m 1 rfl (D.f hwf 2 rfl (Ef.call call61 rfl rfl (Does.pre (fun w hw => hw.sub (Sub.keep 3 rfl (Sub.k (Sub.k (Sub.k (Sub.nil _)))))) (l01DrawOrder_ok _ _ _ s1 (9 : Int) w _   (by first | assumption | omega | (try dsimp only at *; omega)) (by first | assumption | omega | (try dsimp only at *; omega)) (by omega)))) ?_)))))))
 rintro _ _ rfl hs
 refine ⟨fun w hw => hw.tail.sub (Sub.k (Sub.k (Sub.k (Sub.nil _)))), (D.exi (fun r2A => D.exi (fun r2c => D.exi (fun r2 => D.sep (D.pur1 ?_)))))⟩
 rintro ⟨rfl, hr2_1⟩
 refine D.sep ?_
 have holr2 := hr2_1.1
 refine D.f hwf 3 rfl (Ef.call1 call60 rfl rfl (fun w hw => l01RenamedD_ok  9 r1 r2 _ _ _ _ w ((Ld.own 3 (by exact rfl)) w hw) ((Ld.own 0 (by exact rfl)) w hw) (by first | omega | (simp only [tops_len, conts_len, bl, List.length_append, List.length_cons, List.length_nil] at *; omega)) (by first | omega | (simp only [tops_len, conts_len, bl, List.length_append, List.length_cons, List.length_nil] at *; omega)) (by rw [hr2_1.1]; exact hDn.2.1) (by omega) (fun q hq => by have := hr2_1.2.2 q hq; omega))) ?_
 rintro _ _ rfl hs
 refine ⟨fun w hw => hs w hw.tail, (D.exi (fun r3A => D.exi (fun r3c => D.exi (fun r3 => D.sep (D.pur1 ?_)))))⟩
 rintro ⟨rfl, hr3_1, hr3_2⟩
 have hDr1 := hDn.ren hr2_1 hr3_1
 have hlr1 := hDr1.2.2
 refine D.effX (Hs' := []) hwf (e := 4) rfl rfl rfl rfl (Ef.storeAll 3 rfl sz26 rfl rfl rfl rfl (by simp [Value.oneCell']) rfl) rfl [] rfl (List.forall_mem_nil _) ?_
 rintro _ _ rfl
 refine ⟨fun w hw => hw.sub (Sub.nil _), (D.done hwf rfl (X.next (V.seq (V.seq (V.region (O.m rfl (O.f rfl (Ef.call call49 rfl rfl (Does.pre (fun w hw => hw.sub (Sub.keep 2 rfl (Sub.k (Sub.k (Sub.k (Sub.k (Sub.k (Sub.nil _)))))))) (l01Next_ok _ _ _ s1 (5 : Int) w _   (by first | assumption | omega | (try dsimp only at *; omega)) (by first | assumption | omega | (try dsimp only at *; omega))))) ?_)))))))⟩
 rintro _ _ rfl
 refine O.exi (fun r4 => O.sep (O.pur ?_))
 rintro ⟨rfl, hr4_1, hr4_2, hr4_3⟩
 refine O.m rfl (O.nil (X.next (V.block (V.map (fun w hw => RowsA.nil (T := 65) (C := B3C) hw) (V.loop3 (β := (Option Addr) × Nat × (List (Sl × List B3)) × Int) (fun x => [(4, .slice x.1 (tops x.2.2.1).length x.2.1), (7, .int .i64 (x.2.2.2 : Int))]) _ (fun x => [Own 26 (SyC 9) x.1 x.2.1 (tops x.2.2.1), RowsA 65 B3C x.2.2.1]) _ (fun x => 0 ≤ x.2.2.2 ∧ x.2.2.1.length + x.2.2.2.toNat ≤ 4 ∧ ∀ q ∈ conts x.2.2.1, q.length ≤ 4200) (fun x => x.2.2.2.toNat) (A1, 0, [], r4) (by (try dsimp only); exact ⟨by omega, by simp only [List.length_nil]; omega, fun q hq => by simp [conts] at hq⟩) (Ent.cons rfl (Ent.cons rfl (Ent.nil _))) (Ent.cons (t := 3) rfl (Ent.cons (t := 5) rfl (Ent.nil _))) (Sub.keep 6 rfl (Sub.k (Sub.k (Sub.k (Sub.k (Sub.k (Sub.k (Sub.nil _)))))))) ?_)))))
 rintro ⟨outA, outc, out, k⟩ ⟨hk0, hkl, hsm⟩
 dsimp only at hk0 hkl hsm ⊢
 refine V.fact (RowsA.len 1 rfl) (fun hn_out => ?_)
 have htl_out := tops_len out
 refine V.seq (V.seq (V.region (O.m rfl (O.q rfl (Pu.gtr rfl rfl rfl) (O.nil (X.next (V.condD rfl (fun c1 => ?_) (fun c1 => ?_))))))))
 ·refine V.skip (X.next (V.seq (V.block (V.seq (V.drawS mo (by kernel_rfl) (Sub.k (Sub.k (Sub.keep 1 rfl (Sub.keep 1 rfl (Sub.keep 1 rfl (Sub.keep 1 rfl (Sub.nil _))))))) (fun hwf => D.q 0 rfl (Pu.loadAgg rfl ag26 sz26 rfl rfl (Ld.whole 4 rfl)) (D.m 1 rfl (D.either hwf (e1 := 2) (e2 := 4) rfl ?_ ?_))))))))
  ·refine ⟨_, _, rfl, rfl, fun _ _ => wanted_none rfl _, Ef.call call61 rfl rfl (Does.pre (fun w hw => hw.sub (Sub.keep 2 rfl (Sub.k (Sub.k (Sub.k (Sub.k (Sub.k (Sub.k (Sub.nil _))))))))) (l01DrawOrder_ok _ _ _ s1 (9 : Int) w _   (by first | assumption | omega | (try dsimp only at *; omega)) (by first | assumption | omega | (try dsimp only at *; omega)) (by omega))), rfl, rfl, ?_⟩
   rintro _ _ rfl hs
   refine ⟨fun w hw => hw.tail.sub (Sub.k (Sub.k (Sub.k (Sub.k (Sub.k (Sub.k (Sub.nil _))))))), (D.exi (fun r5A => D.exi (fun r5c => D.exi (fun r5 => D.sep (D.pur1 ?_)))))⟩
   rintro ⟨rfl, hr5_1⟩
   refine D.sep ?_
   have holr5 := hr5_1.1
   refine D.either hwf (e1 := 3) (e2 := 4) rfl ?_ ?_
   ·refine ⟨_, _, rfl, rfl, fun _ _ => wanted_none rfl _, Ef.call1 call60 rfl rfl (fun w hw => l01RenamedD_ok  9 r3 r5 _ _ _ _ w ((Ld.own 4 (by exact rfl)) w hw) ((Ld.own 0 (by exact rfl)) w hw) (by first | omega | (simp only [tops_len, conts_len, bl, List.length_append, List.length_cons, List.length_nil] at *; omega)) (by first | omega | (simp only [tops_len, conts_len, bl, List.length_append, List.length_cons, List.length_nil] at *; omega)) (by rw [hr5_1.1]; exact hDr1.2.1) (by omega) (fun q hq => by have := hr5_1.2.2 q hq; omega)), rfl, rfl, ?_⟩
    rintro _ _ rfl hs
    refine ⟨fun w hw => hs w hw.tail, (D.exi (fun r6A => D.exi (fun r6c => D.exi (fun r6 => D.sep (D.pur1 ?_)))))⟩
    rintro ⟨rfl, hr6_1, hr6_2⟩
    have hDr2 := hDr1.ren hr5_1 hr6_1
    have hlr2 := hDr2.2.2
    refine D.f hwf 4 rfl (Ef.alloc rfl zr26 rfl) ?_
    rintro _ _ ⟨b2, rfl, rfl⟩ hs
    refine ⟨fun w hw => hw.sub (Sub.keep 4 rfl (Sub.keep 4 rfl (Sub.keep 4 rfl (Sub.keep 4 rfl (Sub.keep 4 rfl (Sub.keep 4 rfl (Sub.nil _))))))), (D.f hwf 5 rfl (Ef.storeAll 0 rfl sz26 rfl rfl rfl rfl (by simp [Value.oneCell']) rfl) ?_)⟩
    rintro _ _ rfl hs
    refine ⟨fun w hw => hw.sub (Sub.keep 4 rfl (Sub.keep 4 rfl (Sub.keep 4 rfl (Sub.keep 4 rfl (Sub.keep 4 rfl (Sub.keep 4 rfl (Sub.nil _))))))), (D.done hwf rfl (X.next (V.seq (V.region (O.m rfl (O.nil (X.next (V.seq (V.seq (V.region (O.m rfl ?_)))))))))))⟩
    refine O.nil (X.next (V.block (V.loop3 (β := Bool × Nat) (fun x => [(9, .bool x.1), (10, .int .i64 (x.2 : Int))]) _ (fun x => []) _ (fun x => x.2 ≤ out.length) (fun x => out.length - x.2) (true, 0) (by (try dsimp only); exact (by omega)) (Ent.cons rfl (Ent.cons rfl (Ent.nil _))) (Ent.cons (t := 3) rfl (Ent.cons (t := 4) rfl (Ent.cons (t := 5) rfl (Ent.cons (t := 7) rfl (Ent.cons (t := 8) rfl (Ent.nil _)))))) (Sub.k (Sub.k (Sub.k (Sub.k (Sub.k (Sub.k (Sub.k (Sub.k (Sub.k (Sub.k (Sub.nil _))))))))))) ?_)))
    rintro ⟨fits, i⟩ hi
    dsimp only at hi ⊢
    refine V.seq (V.seq (V.region (O.m rfl (O.m rfl (O.q rfl (Pu.len rfl Tryz.underlying28 rfl) (O.q rfl (Pu.lss rfl rfl rfl) (O.nil (X.next (V.condD rfl (fun c2 => ?_) (fun c2 => ?_))))))))))
    ·refine V.skip (X.next (V.seq (V.block (V.draw mo (by kernel_rfl) (fun hwf => D.m 0 rfl (D.m 1 rfl (D.splitB 39 rfl (fun c3 => ?_) (fun c3 => ?_))))))))
     ·subst c3
      refine D.gq 2 rfl (Pu.loadAgg rfl ag26 sz26 rfl rfl (Ld.whole 0 rfl)) (D.gm 3 rfl (D.gm 4 rfl (D.gq 5 rfl (Pu.indexAddrS (i) rfl Tryz.underlying28 sz26 rfl rfl (by omega) (by omega) (fun w hw => Own.some hw (i := 4) (by exact rfl) (by omega))) ?_)))
      have e1 : i < out.length := by have := tops_len out; omega
      refine D.gq 6 rfl (Pu.loadAgg' (v := .agg #[.int .i64 9, .slice (out[i]'e1).1.A (out[i]'e1).2.length (out[i]'e1).1.c]) rfl rfl ag26 sz26 rfl rfl (Ld.rowY (Ld.own 4 (by exact rfl)) hn_out e1 rfl)) (D.geff hwf (e := 7) rfl rfl rfl rfl rfl rfl (Ef.callP call58 rfl rfl (fun w hw => l10Common_ok  9 r6 9 ((out[i]'e1).2) _ _ _ _ w ((Ld.own 1 (by exact rfl)) w hw) ((Ld.rows 5 (by exact rfl) e1) w hw) (by omega) (by have h9 := hsm (out[i]).2 (List.mem_map_of_mem (List.getElem_mem (by omega))); omega) (by omega) (by have h9 := hsm (out[i]).2 (List.mem_map_of_mem (List.getElem_mem (by omega))); omega))) rfl rfl rfl ?_)
      rintro _ _ ⟨rfl, rfl⟩ hs
      exact ⟨fun w hw => hw, (D.gq 8 rfl (Pu.eql rfl rfl rfl) (D.m 9 rfl (D.last hwf (e := 10) rfl rfl rfl rfl rfl rfl (Pu.assign rfl rfl) (X.blockNormal (X.next (V.region (O.m rfl (O.q rfl (Pu.add64 (r := ((i + 1 : Nat) : Int)) rfl (by omega) rfl rfl rfl) (O.m rfl (O.nil (X.back3 ((decide ((↑(((r6.filter fun b => decide (b ∈ ((out[i]'e1).2))).length)) : Int) = (0 : Int))), i + 1) (by (try dsimp only); exact (by omega)) (by first | omega | (dsimp only; omega)) (Ent.cons rfl (Ent.cons rfl (Ent.nil _))) (Ent.cons (t := 3) rfl (Ent.cons (t := 4) rfl (Ent.cons (t := 5) rfl (Ent.cons (t := 7) rfl (Ent.cons (t := 8) rfl (Ent.nil _)))))) (Sub.k (Sub.k (Sub.k (Sub.k (Sub.k (Sub.k (Sub.k (Sub.k (Sub.k (Sub.k (Sub.nil _))))))))))))))))))))))⟩
     ·subst c3
      refine D.g 2 rfl (D.g 3 rfl (D.g 4 rfl (D.g 5 rfl (D.g 6 rfl (D.g 7 rfl (D.g 8 rfl (D.m 9 rfl (D.last hwf (e := 10) rfl rfl rfl rfl rfl rfl (Pu.assign rfl rfl) (X.blockNormal (X.next (V.region ?_)))))))))))
      exact O.m rfl (O.q rfl (Pu.add64 (r := ((i + 1 : Nat) : Int)) rfl (by omega) rfl rfl rfl) (O.m rfl (O.nil (X.back3 (false, i + 1) (by (try dsimp only); exact (by omega)) (by first | omega | (dsimp only; omega)) (Ent.cons rfl (Ent.cons rfl (Ent.nil _))) (Ent.cons (t := 3) rfl (Ent.cons (t := 4) rfl (Ent.cons (t := 5) rfl (Ent.cons (t := 7) rfl (Ent.cons (t := 8) rfl (Ent.nil _)))))) (Sub.k (Sub.k (Sub.k (Sub.k (Sub.k (Sub.k (Sub.k (Sub.k (Sub.k (Sub.k (Sub.nil _)))))))))))))))
    ·refine V.exit (X.thenExit (X.thenExit (X.blockHit (X.next (V.seq (V.region (O.m rfl (O.m rfl (O.splitB 49 rfl (fun c4 => ?_) (fun c4 => ?_))))))))))
     ·subst c4
      refine O.g rfl (O.g rfl (O.g rfl (O.m rfl (O.nil (X.next (V.condT rfl (V.region (O.m rfl (O.q rfl (Pu.loadAgg rfl ag26 sz26 rfl rfl (Ld.whole 0 rfl)) (O.f rfl (Ef.build (SyC 9) ([⟨r6A, r6.length, r6c⟩] : List Sl) rfl Tryz.underlying28 inf26 rfl rfl rfl (by first | decide | (simp; done)) (by kernel_rfl)) ?_))))))))))
      rintro _ _ ⟨A2, hA2, rfl, rfl⟩
      refine O.f rfl (Ef.append (xs := (tops out)) (ys := ([⟨r6A, r6.length, r6c⟩] : List Sl)) 5 rfl Tryz.underlying28 inf26 rfl rfl rfl rfl rfl rfl hA2 (Ld.own 0 (by exact rfl)) (by simp only [List.length_append, List.length_cons, List.length_nil] at *; omega) (by decide)) ?_
      rintro _ _ ⟨A3, k1, rfl, rfl, hA3⟩
      replace hA3 := hA3 (.inr (by simp))
      exact O.map (fun w hw => snoc_heap (ps := out) (xs := r6) (hw.sub (Sub.keep 5 rfl (Sub.keep 5 rfl (Sub.keep 2 rfl (Sub.k (Sub.k (Sub.k (Sub.k (Sub.k (Sub.k (Sub.k (Sub.k (Sub.nil _)))))))))))))) (O.m rfl (O.nil (X.blockNormal (X.next (V.region (O.m rfl (O.q rfl (Pu.sub64 rfl (by omega) rfl rfl rfl) (O.m rfl (O.nil (X.back3 (A3, k1, (out ++ [((⟨r6A, r6.length, r6c⟩ : Sl), r6)]), (k - (1 : Int))) (by (try dsimp only); exact ⟨by omega, by simp only [List.length_append, List.length_singleton]; omega, fun q hq => by rw [conts_append] at hq; rcases List.mem_append.1 hq with h | h; (· exact hsm q h); (· have h2 : q = _ := List.mem_singleton.1 h; rw [h2]; show r6.length ≤ 4200; omega)⟩) (by first | omega | (dsimp only; omega)) (Ent.cons' rfl (by first | rfl | (simp only [tops_append]; done) | (simp only [tops_append]; rfl)) (Ent.cons rfl (Ent.nil _))) (Ent.cons (t := 3) rfl (Ent.cons (t := 5) rfl (Ent.nil _))) (Sub.k (Sub.k (Sub.keep 3 rfl (Sub.keep 3 rfl (Sub.keep 3 rfl (Sub.keep 3 rfl (Sub.keep 3 rfl (Sub.nil _))))))))))))))))))
     ·subst c4
      refine O.gm rfl (O.gf rfl (Ef.call call49 rfl rfl (Does.pre (fun w hw => hw.sub (Sub.keep 3 rfl (Sub.k (Sub.k (Sub.k (Sub.k (Sub.k (Sub.k (Sub.k (Sub.k (Sub.k (Sub.nil _)))))))))))) (l01Next_ok _ _ _ s1 (4 : Int) w _   (by first | assumption | omega | (try dsimp only at *; omega)) (by first | assumption | omega | (try dsimp only at *; omega))))) ?_)
      rintro _ _ rfl
      refine O.exi (fun r7 => O.sep (O.pur ?_))
      rintro ⟨rfl, hr7_1, hr7_2, hr7_3⟩
      refine O.gq rfl (Pu.eql rfl rfl rfl) (O.m rfl (O.nil (X.next (V.condD rfl (fun c5 => ?_) (fun c5 => ?_)))))
      ·refine V.region (O.m rfl (O.q rfl (Pu.loadAgg rfl ag26 sz26 rfl rfl (Ld.whole 1 rfl)) (O.f rfl (Ef.build (SyC 9) ([⟨r6A, r6.length, r6c⟩] : List Sl) rfl Tryz.underlying28 inf26 rfl rfl rfl (by first | decide | (simp; done)) (by kernel_rfl)) ?_)))
       rintro _ _ ⟨A4, hA4, rfl, rfl⟩
       refine O.f rfl (Ef.append (xs := (tops out)) (ys := ([⟨r6A, r6.length, r6c⟩] : List Sl)) 5 rfl Tryz.underlying28 inf26 rfl rfl rfl rfl rfl rfl hA4 (Ld.own 0 (by exact rfl)) (by simp only [List.length_append, List.length_cons, List.length_nil] at *; omega) (by decide)) ?_
       rintro _ _ ⟨A5, k2, rfl, rfl, hA5⟩
       replace hA5 := hA5 (.inr (by simp))
       exact O.map (fun w hw => snoc_heap (ps := out) (xs := r6) (hw.sub (Sub.keep 5 rfl (Sub.keep 5 rfl (Sub.keep 3 rfl (Sub.k (Sub.k (Sub.k (Sub.k (Sub.k (Sub.k (Sub.k (Sub.k (Sub.nil _)))))))))))))) (O.m rfl (O.nil (X.blockNormal (X.next (V.region (O.m rfl (O.q rfl (Pu.sub64 rfl (by omega) rfl rfl rfl) (O.m rfl (O.nil (X.back3 (A5, k2, (out ++ [((⟨r6A, r6.length, r6c⟩ : Sl), r6)]), (k - (1 : Int))) (by (try dsimp only); exact ⟨by omega, by simp only [List.length_append, List.length_singleton]; omega, fun q hq => by rw [conts_append] at hq; rcases List.mem_append.1 hq with h | h; (· exact hsm q h); (· have h2 : q = _ := List.mem_singleton.1 h; rw [h2]; show r6.length ≤ 4200; omega)⟩) (by first | omega | (dsimp only; omega)) (Ent.cons' rfl (by first | rfl | (simp only [tops_append]; done) | (simp only [tops_append]; rfl)) (Ent.cons rfl (Ent.nil _))) (Ent.cons (t := 3) rfl (Ent.cons (t := 5) rfl (Ent.nil _))) (Sub.k (Sub.k (Sub.keep 1 rfl (Sub.keep 3 rfl (Sub.keep 3 rfl (Sub.keep 3 rfl (Sub.keep 3 rfl (Sub.nil _))))))))))))))))))
      ·exact V.skip (X.blockNormal (X.next (V.region (O.m rfl (O.q rfl (Pu.sub64 rfl (by omega) rfl rfl rfl) (O.m rfl (O.nil (X.back3 (outA, outc, out, (k - (1 : Int))) (by (try dsimp only); exact ⟨by omega, by omega, hsm⟩) (by first | omega | (dsimp only; omega)) (Ent.cons' rfl (by first | rfl | (simp only [tops_append]; done) | (simp only [tops_append]; rfl)) (Ent.cons rfl (Ent.nil _))) (Ent.cons (t := 3) rfl (Ent.cons (t := 5) rfl (Ent.nil _))) (Sub.keep 4 rfl (Sub.keep 4 rfl (Sub.k (Sub.keep 3 rfl (Sub.keep 3 rfl (Sub.keep 3 rfl (Sub.keep 3 rfl (Sub.nil _))))))))))))))))
   ·refine ⟨_, _, rfl, rfl, fun _ _ => wanted_none rfl _, Ef.alloc rfl zr26 rfl, rfl, rfl, ?_⟩
    rintro _ _ ⟨b2, rfl, rfl⟩ hs
    refine ⟨fun w hw => hw.sub (Sub.keep 3 rfl (Sub.keep 3 rfl (Sub.keep 3 rfl (Sub.keep 3 rfl (Sub.keep 3 rfl (Sub.keep 3 rfl (Sub.nil _))))))), (D.f hwf 3 rfl (Ef.call1 call60 rfl rfl (fun w hw => l01RenamedD_ok  9 r3 r5 _ _ _ _ w ((Ld.own 5 (by exact rfl)) w hw) ((Ld.own 1 (by exact rfl)) w hw) (by first | omega | (simp only [tops_len, conts_len, bl, List.length_append, List.length_cons, List.length_nil] at *; omega)) (by first | omega | (simp only [tops_len, conts_len, bl, List.length_append, List.length_cons, List.length_nil] at *; omega)) (by rw [hr5_1.1]; exact hDr1.2.1) (by omega) (fun q hq => by have := hr5_1.2.2 q hq; omega))) ?_)⟩
    rintro _ _ rfl hs
    refine ⟨fun w hw => hs w hw.tail, (D.exi (fun r6A => D.exi (fun r6c => D.exi (fun r6 => D.sep (D.pur1 ?_)))))⟩
    rintro ⟨rfl, hr6_1, hr6_2⟩
    have hDr3 := hDr1.ren hr5_1 hr6_1
    have hlr3 := hDr3.2.2
    refine D.f hwf 5 rfl (Ef.storeAll 1 rfl sz26 rfl rfl rfl rfl (by simp [Value.oneCell']) rfl) ?_
    rintro _ _ rfl hs
    refine ⟨fun w hw => hw.sub (Sub.keep 4 rfl (Sub.keep 4 rfl (Sub.keep 4 rfl (Sub.keep 4 rfl (Sub.keep 4 rfl (Sub.keep 4 rfl (Sub.nil _))))))), (D.done hwf rfl (X.next (V.seq (V.region (O.m rfl (O.nil (X.next (V.seq (V.seq (V.region (O.m rfl ?_)))))))))))⟩
    refine O.nil (X.next (V.block (V.loop3 (β := Bool × Nat) (fun x => [(9, .bool x.1), (10, .int .i64 (x.2 : Int))]) _ (fun x => []) _ (fun x => x.2 ≤ out.length) (fun x => out.length - x.2) (true, 0) (by (try dsimp only); exact (by omega)) (Ent.cons rfl (Ent.cons rfl (Ent.nil _))) (Ent.cons (t := 3) rfl (Ent.cons (t := 4) rfl (Ent.cons (t := 5) rfl (Ent.cons (t := 7) rfl (Ent.cons (t := 8) rfl (Ent.nil _)))))) (Sub.k (Sub.k (Sub.k (Sub.k (Sub.k (Sub.k (Sub.k (Sub.k (Sub.k (Sub.k (Sub.nil _))))))))))) ?_)))
    rintro ⟨fits, i⟩ hi
    dsimp only at hi ⊢
    refine V.seq (V.seq (V.region (O.m rfl (O.m rfl (O.q rfl (Pu.len rfl Tryz.underlying28 rfl) (O.q rfl (Pu.lss rfl rfl rfl) (O.nil (X.next (V.condD rfl (fun c2 => ?_) (fun c2 => ?_))))))))))
    ·refine V.skip (X.next (V.seq (V.block (V.draw mo (by kernel_rfl) (fun hwf => D.m 0 rfl (D.m 1 rfl (D.splitB 39 rfl (fun c3 => ?_) (fun c3 => ?_))))))))
     ·subst c3
      refine D.gq 2 rfl (Pu.loadAgg rfl ag26 sz26 rfl rfl (Ld.whole 1 rfl)) (D.gm 3 rfl (D.gm 4 rfl (D.gq 5 rfl (Pu.indexAddrS (i) rfl Tryz.underlying28 sz26 rfl rfl (by omega) (by omega) (fun w hw => Own.some hw (i := 4) (by exact rfl) (by omega))) ?_)))
      have e1 : i < out.length := by have := tops_len out; omega
      refine D.gq 6 rfl (Pu.loadAgg' (v := .agg #[.int .i64 9, .slice (out[i]'e1).1.A (out[i]'e1).2.length (out[i]'e1).1.c]) rfl rfl ag26 sz26 rfl rfl (Ld.rowY (Ld.own 4 (by exact rfl)) hn_out e1 rfl)) (D.geff hwf (e := 7) rfl rfl rfl rfl rfl rfl (Ef.callP call58 rfl rfl (fun w hw => l10Common_ok  9 r6 9 ((out[i]'e1).2) _ _ _ _ w ((Ld.own 0 (by exact rfl)) w hw) ((Ld.rows 5 (by exact rfl) e1) w hw) (by omega) (by have h9 := hsm (out[i]).2 (List.mem_map_of_mem (List.getElem_mem (by omega))); omega) (by omega) (by have h9 := hsm (out[i]).2 (List.mem_map_of_mem (List.getElem_mem (by omega))); omega))) rfl rfl rfl ?_)
      rintro _ _ ⟨rfl, rfl⟩ hs
      exact ⟨fun w hw => hw, (D.gq 8 rfl (Pu.eql rfl rfl rfl) (D.m 9 rfl (D.last hwf (e := 10) rfl rfl rfl rfl rfl rfl (Pu.assign rfl rfl) (X.blockNormal (X.next (V.region (O.m rfl (O.q rfl (Pu.add64 (r := ((i + 1 : Nat) : Int)) rfl (by omega) rfl rfl rfl) (O.m rfl (O.nil (X.back3 ((decide ((↑(((r6.filter fun b => decide (b ∈ ((out[i]'e1).2))).length)) : Int) = (0 : Int))), i + 1) (by (try dsimp only); exact (by omega)) (by first | omega | (dsimp only; omega)) (Ent.cons rfl (Ent.cons rfl (Ent.nil _))) (Ent.cons (t := 3) rfl (Ent.cons (t := 4) rfl (Ent.cons (t := 5) rfl (Ent.cons (t := 7) rfl (Ent.cons (t := 8) rfl (Ent.nil _)))))) (Sub.k (Sub.k (Sub.k (Sub.k (Sub.k (Sub.k (Sub.k (Sub.k (Sub.k (Sub.k (Sub.nil _))))))))))))))))))))))⟩
     ·subst c3
      refine D.g 2 rfl (D.g 3 rfl (D.g 4 rfl (D.g 5 rfl (D.g 6 rfl (D.g 7 rfl (D.g 8 rfl (D.m 9 rfl (D.last hwf (e := 10) rfl rfl rfl rfl rfl rfl (Pu.assign rfl rfl) (X.blockNormal (X.next (V.region ?_)))))))))))
      exact O.m rfl (O.q rfl (Pu.add64 (r := ((i + 1 : Nat) : Int)) rfl (by omega) rfl rfl rfl) (O.m rfl (O.nil (X.back3 (false, i + 1) (by (try dsimp only); exact (by omega)) (by first | omega | (dsimp only; omega)) (Ent.cons rfl (Ent.cons rfl (Ent.nil _))) (Ent.cons (t := 3) rfl (Ent.cons (t := 4) rfl (Ent.cons (t := 5) rfl (Ent.cons (t := 7) rfl (Ent.cons (t := 8) rfl (Ent.nil _)))))) (Sub.k (Sub.k (Sub.k (Sub.k (Sub.k (Sub.k (Sub.k (Sub.k (Sub.k (Sub.k (Sub.nil _)))))))))))))))
    ·refine V.exit (X.thenExit (X.thenExit (X.blockHit (X.next (V.seq (V.region (O.m rfl (O.m rfl (O.splitB 49 rfl (fun c4 => ?_) (fun c4 => ?_))))))))))
     ·subst c4
      refine O.g rfl (O.g rfl (O.g rfl (O.m rfl (O.nil (X.next (V.condT rfl (V.region (O.m rfl (O.q rfl (Pu.loadAgg rfl ag26 sz26 rfl rfl (Ld.whole 1 rfl)) (O.f rfl (Ef.build (SyC 9) ([⟨r6A, r6.length, r6c⟩] : List Sl) rfl Tryz.underlying28 inf26 rfl rfl rfl (by first | decide | (simp; done)) (by kernel_rfl)) ?_))))))))))
      rintro _ _ ⟨A2, hA2, rfl, rfl⟩
      refine O.f rfl (Ef.append (xs := (tops out)) (ys := ([⟨r6A, r6.length, r6c⟩] : List Sl)) 5 rfl Tryz.underlying28 inf26 rfl rfl rfl rfl rfl rfl hA2 (Ld.own 0 (by exact rfl)) (by simp only [List.length_append, List.length_cons, List.length_nil] at *; omega) (by decide)) ?_
      rintro _ _ ⟨A3, k1, rfl, rfl, hA3⟩
      replace hA3 := hA3 (.inr (by simp))
      exact O.map (fun w hw => snoc_heap (ps := out) (xs := r6) (hw.sub (Sub.keep 5 rfl (Sub.keep 5 rfl (Sub.keep 1 rfl (Sub.k (Sub.k (Sub.k (Sub.k (Sub.k (Sub.k (Sub.k (Sub.k (Sub.nil _)))))))))))))) (O.m rfl (O.nil (X.blockNormal (X.next (V.region (O.m rfl (O.q rfl (Pu.sub64 rfl (by omega) rfl rfl rfl) (O.m rfl (O.nil (X.back3 (A3, k1, (out ++ [((⟨r6A, r6.length, r6c⟩ : Sl), r6)]), (k - (1 : Int))) (by (try dsimp only); exact ⟨by omega, by simp only [List.length_append, List.length_singleton]; omega, fun q hq => by rw [conts_append] at hq; rcases List.mem_append.1 hq with h | h; (· exact hsm q h); (· have h2 : q = _ := List.mem_singleton.1 h; rw [h2]; show r6.length ≤ 4200; omega)⟩) (by first | omega | (dsimp only; omega)) (Ent.cons' rfl (by first | rfl | (simp only [tops_append]; done) | (simp only [tops_append]; rfl)) (Ent.cons rfl (Ent.nil _))) (Ent.cons (t := 3) rfl (Ent.cons (t := 5) rfl (Ent.nil _))) (Sub.k (Sub.k (Sub.keep 3 rfl (Sub.keep 3 rfl (Sub.keep 3 rfl (Sub.keep 3 rfl (Sub.keep 3 rfl (Sub.nil _))))))))))))))))))
     ·subst c4
      refine O.gm rfl (O.gf rfl (Ef.call call49 rfl rfl (Does.pre (fun w hw => hw.sub (Sub.keep 3 rfl (Sub.k (Sub.k (Sub.k (Sub.k (Sub.k (Sub.k (Sub.k (Sub.k (Sub.k (Sub.nil _)))))))))))) (l01Next_ok _ _ _ s1 (4 : Int) w _   (by first | assumption | omega | (try dsimp only at *; omega)) (by first | assumption | omega | (try dsimp only at *; omega))))) ?_)
      rintro _ _ rfl
      refine O.exi (fun r7 => O.sep (O.pur ?_))
      rintro ⟨rfl, hr7_1, hr7_2, hr7_3⟩
      refine O.gq rfl (Pu.eql rfl rfl rfl) (O.m rfl (O.nil (X.next (V.condD rfl (fun c5 => ?_) (fun c5 => ?_)))))
      ·refine V.region (O.m rfl (O.q rfl (Pu.loadAgg rfl ag26 sz26 rfl rfl (Ld.whole 2 rfl)) (O.f rfl (Ef.build (SyC 9) ([⟨r6A, r6.length, r6c⟩] : List Sl) rfl Tryz.underlying28 inf26 rfl rfl rfl (by first | decide | (simp; done)) (by kernel_rfl)) ?_)))
       rintro _ _ ⟨A4, hA4, rfl, rfl⟩
       refine O.f rfl (Ef.append (xs := (tops out)) (ys := ([⟨r6A, r6.length, r6c⟩] : List Sl)) 5 rfl Tryz.underlying28 inf26 rfl rfl rfl rfl rfl rfl hA4 (Ld.own 0 (by exact rfl)) (by simp only [List.length_append, List.length_cons, List.length_nil] at *; omega) (by decide)) ?_
       rintro _ _ ⟨A5, k2, rfl, rfl, hA5⟩
       replace hA5 := hA5 (.inr (by simp))
       exact O.map (fun w hw => snoc_heap (ps := out) (xs := r6) (hw.sub (Sub.keep 5 rfl (Sub.keep 5 rfl (Sub.keep 2 rfl (Sub.k (Sub.k (Sub.k (Sub.k (Sub.k (Sub.k (Sub.k (Sub.k (Sub.nil _)))))))))))))) (O.m rfl (O.nil (X.blockNormal (X.next (V.region (O.m rfl (O.q rfl (Pu.sub64 rfl (by omega) rfl rfl rfl) (O.m rfl (O.nil (X.back3 (A5, k2, (out ++ [((⟨r6A, r6.length, r6c⟩ : Sl), r6)]), (k - (1 : Int))) (by (try dsimp only); exact ⟨by omega, by simp only [List.length_append, List.length_singleton]; omega, fun q hq => by rw [conts_append] at hq; rcases List.mem_append.1 hq with h | h; (· exact hsm q h); (· have h2 : q = _ := List.mem_singleton.1 h; rw [h2]; show r6.length ≤ 4200; omega)⟩) (by first | omega | (dsimp only; omega)) (Ent.cons' rfl (by first | rfl | (simp only [tops_append]; done) | (simp only [tops_append]; rfl)) (Ent.cons rfl (Ent.nil _))) (Ent.cons (t := 3) rfl (Ent.cons (t := 5) rfl (Ent.nil _))) (Sub.k (Sub.k (Sub.keep 1 rfl (Sub.keep 3 rfl (Sub.keep 3 rfl (Sub.keep 3 rfl (Sub.keep 3 rfl (Sub.nil _))))))))))))))))))
      ·exact V.skip (X.blockNormal (X.next (V.region (O.m rfl (O.q rfl (Pu.sub64 rfl (by omega) rfl rfl rfl) (O.m rfl (O.nil (X.back3 (outA, outc, out, (k - (1 : Int))) (by (try dsimp only); exact ⟨by omega, by omega, hsm⟩) (by first | omega | (dsimp only; omega)) (Ent.cons' rfl (by first | rfl | (simp only [tops_append]; done) | (simp only [tops_append]; rfl)) (Ent.cons rfl (Ent.nil _))) (Ent.cons (t := 3) rfl (Ent.cons (t := 5) rfl (Ent.nil _))) (Sub.keep 4 rfl (Sub.keep 4 rfl (Sub.k (Sub.keep 3 rfl (Sub.keep 3 rfl (Sub.keep 3 rfl (Sub.keep 3 rfl (Sub.nil _))))))))))))))))
  ·refine ⟨_, _, rfl, rfl, fun _ _ => wanted_none rfl _, Ef.alloc rfl zr26 rfl, rfl, rfl, ?_⟩
   rintro _ _ ⟨b2, rfl, rfl⟩ hs
   refine ⟨fun w hw => hw.sub (Sub.keep 1 rfl (Sub.keep 1 rfl (Sub.keep 2 rfl (Sub.keep 2 rfl (Sub.keep 2 rfl (Sub.keep 2 rfl (Sub.nil _))))))), (D.f hwf 2 rfl (Ef.call call61 rfl rfl (Does.pre (fun w hw => hw.sub (Sub.keep 3 rfl (Sub.k (Sub.k (Sub.k (Sub.k (Sub.k (Sub.k (Sub.k (Sub.nil _)))))))))) (l01DrawOrder_ok _ _ _ s1 (9 : Int) w _   (by first | assumption | omega | (try dsimp only at *; omega)) (by first | assumption | omega | (try dsimp only at *; omega)) (by omega)))) ?_)⟩
   rintro _ _ rfl hs
   refine ⟨fun w hw => hw.tail.sub (Sub.keep 1 rfl (Sub.keep 1 rfl (Sub.keep 1 rfl (Sub.keep 1 rfl (Sub.keep 1 rfl (Sub.keep 1 rfl (Sub.nil _))))))), (D.exi (fun r5A => D.exi (fun r5c => D.exi (fun r5 => D.sep (D.pur1 ?_)))))⟩
   rintro ⟨rfl, hr5_1⟩
   refine D.sep ?_
   have holr5 := hr5_1.1
   refine D.f hwf 3 rfl (Ef.call1 call60 rfl rfl (fun w hw => l01RenamedD_ok  9 r3 r5 _ _ _ _ w ((Ld.own 5 (by exact rfl)) w hw) ((Ld.own 0 (by exact rfl)) w hw) (by first | omega | (simp only [tops_len, conts_len, bl, List.length_append, List.length_cons, List.length_nil] at *; omega)) (by first | omega | (simp only [tops_len, conts_len, bl, List.length_append, List.length_cons, List.length_nil] at *; omega)) (by rw [hr5_1.1]; exact hDr1.2.1) (by omega) (fun q hq => by have := hr5_1.2.2 q hq; omega))) ?_
   rintro _ _ rfl hs
   refine ⟨fun w hw => hs w hw.tail, (D.exi (fun r6A => D.exi (fun r6c => D.exi (fun r6 => D.sep (D.pur1 ?_)))))⟩
   rintro ⟨rfl, hr6_1, hr6_2⟩
   have hDr4 := hDr1.ren hr5_1 hr6_1
   have hlr4 := hDr4.2.2
   refine D.f hwf 5 rfl (Ef.storeAll 3 rfl sz26 rfl rfl rfl rfl (by simp [Value.oneCell']) rfl) ?_
   rintro _ _ rfl hs
   refine ⟨fun w hw => hw.sub (Sub.keep 4 rfl (Sub.keep 4 rfl (Sub.keep 4 rfl (Sub.keep 4 rfl (Sub.keep 4 rfl (Sub.keep 4 rfl (Sub.nil _))))))), (D.done hwf rfl (X.next (V.seq (V.region (O.m rfl (O.nil (X.next (V.seq (V.seq (V.region (O.m rfl ?_)))))))))))⟩
   refine O.nil (X.next (V.block (V.loop3 (β := Bool × Nat) (fun x => [(9, .bool x.1), (10, .int .i64 (x.2 : Int))]) _ (fun x => []) _ (fun x => x.2 ≤ out.length) (fun x => out.length - x.2) (true, 0) (by (try dsimp only); exact (by omega)) (Ent.cons rfl (Ent.cons rfl (Ent.nil _))) (Ent.cons (t := 3) rfl (Ent.cons (t := 4) rfl (Ent.cons (t := 5) rfl (Ent.cons (t := 7) rfl (Ent.cons (t := 8) rfl (Ent.nil _)))))) (Sub.k (Sub.k (Sub.k (Sub.k (Sub.k (Sub.k (Sub.k (Sub.k (Sub.k (Sub.k (Sub.nil _))))))))))) ?_)))
   rintro ⟨fits, i⟩ hi
   dsimp only at hi ⊢
   refine V.seq (V.seq (V.region (O.m rfl (O.m rfl (O.q rfl (Pu.len rfl Tryz.underlying28 rfl) (O.q rfl (Pu.lss rfl rfl rfl) (O.nil (X.next (V.condD rfl (fun c2 => ?_) (fun c2 => ?_))))))))))
   ·refine V.skip (X.next (V.seq (V.block (V.draw mo (by kernel_rfl) (fun hwf => D.m 0 rfl (D.m 1 rfl (D.splitB 39 rfl (fun c3 => ?_) (fun c3 => ?_))))))))
    ·subst c3
     refine D.gq 2 rfl (Pu.loadAgg rfl ag26 sz26 rfl rfl (Ld.whole 3 rfl)) (D.gm 3 rfl (D.gm 4 rfl (D.gq 5 rfl (Pu.indexAddrS (i) rfl Tryz.underlying28 sz26 rfl rfl (by omega) (by omega) (fun w hw => Own.some hw (i := 4) (by exact rfl) (by omega))) ?_)))
     have e1 : i < out.length := by have := tops_len out; omega
     refine D.gq 6 rfl (Pu.loadAgg' (v := .agg #[.int .i64 9, .slice (out[i]'e1).1.A (out[i]'e1).2.length (out[i]'e1).1.c]) rfl rfl ag26 sz26 rfl rfl (Ld.rowY (Ld.own 4 (by exact rfl)) hn_out e1 rfl)) (D.geff hwf (e := 7) rfl rfl rfl rfl rfl rfl (Ef.callP call58 rfl rfl (fun w hw => l10Common_ok  9 r6 9 ((out[i]'e1).2) _ _ _ _ w ((Ld.own 0 (by exact rfl)) w hw) ((Ld.rows 5 (by exact rfl) e1) w hw) (by omega) (by have h9 := hsm (out[i]).2 (List.mem_map_of_mem (List.getElem_mem (by omega))); omega) (by omega) (by have h9 := hsm (out[i]).2 (List.mem_map_of_mem (List.getElem_mem (by omega))); omega))) rfl rfl rfl ?_)
     rintro _ _ ⟨rfl, rfl⟩ hs
     exact ⟨fun w hw => hw, (D.gq 8 rfl (Pu.eql rfl rfl rfl) (D.m 9 rfl (D.last hwf (e := 10) rfl rfl rfl rfl rfl rfl (Pu.assign rfl rfl) (X.blockNormal (X.next (V.region (O.m rfl (O.q rfl (Pu.add64 (r := ((i + 1 : Nat) : Int)) rfl (by omega) rfl rfl rfl) (O.m rfl (O.nil (X.back3 ((decide ((↑(((r6.filter fun b => decide (b ∈ ((out[i]'e1).2))).length)) : Int) = (0 : Int))), i + 1) (by (try dsimp only); exact (by omega)) (by first | omega | (dsimp only; omega)) (Ent.cons rfl (Ent.cons rfl (Ent.nil _))) (Ent.cons (t := 3) rfl (Ent.cons (t := 4) rfl (Ent.cons (t := 5) rfl (Ent.cons (t := 7) rfl (Ent.cons (t := 8) rfl (Ent.nil _)))))) (Sub.k (Sub.k (Sub.k (Sub.k (Sub.k (Sub.k (Sub.k (Sub.k (Sub.k (Sub.k (Sub.nil _))))))))))))))))))))))⟩
    ·subst c3
     refine D.g 2 rfl (D.g 3 rfl (D.g 4 rfl (D.g 5 rfl (D.g 6 rfl (D.g 7 rfl (D.g 8 rfl (D.m 9 rfl (D.last hwf (e := 10) rfl rfl rfl rfl rfl rfl (Pu.assign rfl rfl) (X.blockNormal (X.next (V.region ?_)))))))))))
     exact O.m rfl (O.q rfl (Pu.add64 (r := ((i + 1 : Nat) : Int)) rfl (by omega) rfl rfl rfl) (O.m rfl (O.nil (X.back3 (false, i + 1) (by (try dsimp only); exact (by omega)) (by first | omega | (dsimp only; omega)) (Ent.cons rfl (Ent.cons rfl (Ent.nil _))) (Ent.cons (t := 3) rfl (Ent.cons (t := 4) rfl (Ent.cons (t := 5) rfl (Ent.cons (t := 7) rfl (Ent.cons (t := 8) rfl (Ent.nil _)))))) (Sub.k (Sub.k (Sub.k (Sub.k (Sub.k (Sub.k (Sub.k (Sub.k (Sub.k (Sub.k (Sub.nil _)))))))))))))))
   ·refine V.exit (X.thenExit (X.thenExit (X.blockHit (X.next (V.seq (V.region (O.m rfl (O.m rfl (O.splitB 49 rfl (fun c4 => ?_) (fun c4 => ?_))))))))))
    ·subst c4
     refine O.g rfl (O.g rfl (O.g rfl (O.m rfl (O.nil (X.next (V.condT rfl (V.region (O.m rfl (O.q rfl (Pu.loadAgg rfl ag26 sz26 rfl rfl (Ld.whole 3 rfl)) (O.f rfl (Ef.build (SyC 9) ([⟨r6A, r6.length, r6c⟩] : List Sl) rfl Tryz.underlying28 inf26 rfl rfl rfl (by first | decide | (simp; done)) (by kernel_rfl)) ?_))))))))))
     rintro _ _ ⟨A2, hA2, rfl, rfl⟩
     refine O.f rfl (Ef.append (xs := (tops out)) (ys := ([⟨r6A, r6.length, r6c⟩] : List Sl)) 5 rfl Tryz.underlying28 inf26 rfl rfl rfl rfl rfl rfl hA2 (Ld.own 0 (by exact rfl)) (by simp only [List.length_append, List.length_cons, List.length_nil] at *; omega) (by decide)) ?_
     rintro _ _ ⟨A3, k1, rfl, rfl, hA3⟩
     replace hA3 := hA3 (.inr (by simp))
     exact O.map (fun w hw => snoc_heap (ps := out) (xs := r6) (hw.sub (Sub.keep 5 rfl (Sub.keep 5 rfl (Sub.keep 1 rfl (Sub.k (Sub.k (Sub.k (Sub.k (Sub.k (Sub.k (Sub.k (Sub.k (Sub.nil _)))))))))))))) (O.m rfl (O.nil (X.blockNormal (X.next (V.region (O.m rfl (O.q rfl (Pu.sub64 rfl (by omega) rfl rfl rfl) (O.m rfl (O.nil (X.back3 (A3, k1, (out ++ [((⟨r6A, r6.length, r6c⟩ : Sl), r6)]), (k - (1 : Int))) (by (try dsimp only); exact ⟨by omega, by simp only [List.length_append, List.length_singleton]; omega, fun q hq => by rw [conts_append] at hq; rcases List.mem_append.1 hq with h | h; (· exact hsm q h); (· have h2 : q = _ := List.mem_singleton.1 h; rw [h2]; show r6.length ≤ 4200; omega)⟩) (by first | omega | (dsimp only; omega)) (Ent.cons' rfl (by first | rfl | (simp only [tops_append]; done) | (simp only [tops_append]; rfl)) (Ent.cons rfl (Ent.nil _))) (Ent.cons (t := 3) rfl (Ent.cons (t := 5) rfl (Ent.nil _))) (Sub.k (Sub.k (Sub.keep 2 rfl (Sub.keep 3 rfl (Sub.keep 3 rfl (Sub.keep 3 rfl (Sub.keep 3 rfl (Sub.nil _))))))))))))))))))
    ·subst c4
     refine O.gm rfl (O.gf rfl (Ef.call call49 rfl rfl (Does.pre (fun w hw => hw.sub (Sub.keep 2 rfl (Sub.k (Sub.k (Sub.k (Sub.k (Sub.k (Sub.k (Sub.k (Sub.k (Sub.k (Sub.nil _)))))))))))) (l01Next_ok _ _ _ s1 (4 : Int) w _   (by first | assumption | omega | (try dsimp only at *; omega)) (by first | assumption | omega | (try dsimp only at *; omega))))) ?_)
     rintro _ _ rfl
     refine O.exi (fun r7 => O.sep (O.pur ?_))
     rintro ⟨rfl, hr7_1, hr7_2, hr7_3⟩
     refine O.gq rfl (Pu.eql rfl rfl rfl) (O.m rfl (O.nil (X.next (V.condD rfl (fun c5 => ?_) (fun c5 => ?_)))))
     ·refine V.region (O.m rfl (O.q rfl (Pu.loadAgg rfl ag26 sz26 rfl rfl (Ld.whole 3 rfl)) (O.f rfl (Ef.build (SyC 9) ([⟨r6A, r6.length, r6c⟩] : List Sl) rfl Tryz.underlying28 inf26 rfl rfl rfl (by first | decide | (simp; done)) (by kernel_rfl)) ?_)))
      rintro _ _ ⟨A4, hA4, rfl, rfl⟩
      refine O.f rfl (Ef.append (xs := (tops out)) (ys := ([⟨r6A, r6.length, r6c⟩] : List Sl)) 5 rfl Tryz.underlying28 inf26 rfl rfl rfl rfl rfl rfl hA4 (Ld.own 0 (by exact rfl)) (by simp only [List.length_append, List.length_cons, List.length_nil] at *; omega) (by decide)) ?_
      rintro _ _ ⟨A5, k2, rfl, rfl, hA5⟩
      replace hA5 := hA5 (.inr (by simp))
      exact O.map (fun w hw => snoc_heap (ps := out) (xs := r6) (hw.sub (Sub.keep 5 rfl (Sub.keep 5 rfl (Sub.keep 2 rfl (Sub.k (Sub.k (Sub.k (Sub.k (Sub.k (Sub.k (Sub.k (Sub.k (Sub.nil _)))))))))))))) (O.m rfl (O.nil (X.blockNormal (X.next (V.region (O.m rfl (O.q rfl (Pu.sub64 rfl (by omega) rfl rfl rfl) (O.m rfl (O.nil (X.back3 (A5, k2, (out ++ [((⟨r6A, r6.length, r6c⟩ : Sl), r6)]), (k - (1 : Int))) (by (try dsimp only); exact ⟨by omega, by simp only [List.length_append, List.length_singleton]; omega, fun q hq => by rw [conts_append] at hq; rcases List.mem_append.1 hq with h | h; (· exact hsm q h); (· have h2 : q = _ := List.mem_singleton.1 h; rw [h2]; show r6.length ≤ 4200; omega)⟩) (by first | omega | (dsimp only; omega)) (Ent.cons' rfl (by first | rfl | (simp only [tops_append]; done) | (simp only [tops_append]; rfl)) (Ent.cons rfl (Ent.nil _))) (Ent.cons (t := 3) rfl (Ent.cons (t := 5) rfl (Ent.nil _))) (Sub.k (Sub.k (Sub.keep 1 rfl (Sub.keep 3 rfl (Sub.keep 3 rfl (Sub.keep 3 rfl (Sub.keep 3 rfl (Sub.nil _))))))))))))))))))
     ·exact V.skip (X.blockNormal (X.next (V.region (O.m rfl (O.q rfl (Pu.sub64 rfl (by omega) rfl rfl rfl) (O.m rfl (O.nil (X.back3 (outA, outc, out, (k - (1 : Int))) (by (try dsimp only); exact ⟨by omega, by omega, hsm⟩) (by first | omega | (dsimp only; omega)) (Ent.cons' rfl (by first | rfl | (simp only [tops_append]; done) | (simp only [tops_append]; rfl)) (Ent.cons rfl (Ent.nil _))) (Ent.cons (t := 3) rfl (Ent.cons (t := 5) rfl (Ent.nil _))) (Sub.keep 4 rfl (Sub.keep 4 rfl (Sub.k (Sub.keep 3 rfl (Sub.keep 3 rfl (Sub.keep 3 rfl (Sub.keep 3 rfl (Sub.nil _))))))))))))))))
 ·refine V.exit (X.thenExit (X.thenExit (X.blockHit (X.next (V.seq (V.seq (V.map (fun w hw => ps_of (hw.sub (Sub.k (Sub.k (Sub.k (Sub.k (Sub.k (Sub.k (Sub.k (Sub.nil _)))))))))) ?_)))))))
  rw [show (tops out).length = (topP (withV 9 out)).length from by rw [topP_len, withV_len, tops_len]]
  have hpl := withV_len 9 out
  have hptl := topP_len (withV 9 out)
  have hpr : ∀ k (hk : k < (withV 9 out).length), ((withV 9 out)[k]).2.2.length ≤ 4200 := fun k hk => by rw [withV_at (by omega)]; exact hsm _ (List.mem_map_of_mem (List.getElem_mem (by omega)))
  refine V.region (O.m rfl (O.f rfl (Ef.call call49 rfl rfl (Does.pre (fun w hw => hw.sub (Sub.keep 2 rfl (Sub.k (Sub.k (Sub.k (Sub.k (Sub.k (Sub.k (Sub.nil _))))))))) (l01Next_ok _ _ _ s1 (12 : Int) w _   (by first | assumption | omega | (try dsimp only at *; omega)) (by first | assumption | omega | (try dsimp only at *; omega))))) ?_))
  rintro _ _ rfl
  refine O.exi (fun r5 => O.sep (O.pur ?_))
  rintro ⟨rfl, hr5_1, hr5_2, hr5_3⟩
  refine O.q rfl (Pu.eql rfl rfl rfl) (O.nil (X.next (V.condD rfl (fun c2 => ?_) (fun c2 => ?_))))
  ·refine V.region (O.m rfl (O.m rfl (O.f rfl (Ef.call call48 rfl rfl (Does.pre (fun w hw => hw.sub (Sub.k (Sub.k (Sub.k (Sub.k (Sub.k (Sub.k (Sub.k (Sub.nil _))))))))) (l01Spoil_ok _ _ _ s1 w _   (by first | assumption | omega | (try dsimp only at *; omega)) (by first | assumption | omega | (try dsimp only at *; omega))))) ?_)))
   rintro _ _ rfl
   refine O.exi (fun pv1 => O.exi (fun r6A => O.exi (fun r6c => O.exi (fun r6 => O.sep (O.pur ?_)))))
   rintro ⟨rfl, hpv1_1, hpv1_2⟩
   refine O.sep (O.f rfl (Ef.build SyP ([(pv1, ⟨r6A, r6.length, r6c⟩)] : List (Int × Sl)) rfl Tryz.underlying28 inf26 rfl rfl rfl (by first | decide | (simp; done)) (by kernel_rfl)) ?_)
   rintro _ _ ⟨A2, hA2, rfl, rfl⟩
   refine O.f rfl (Ef.append (xs := (topP (withV 9 out))) (ys := ([(pv1, ⟨r6A, r6.length, r6c⟩)] : List (Int × Sl))) 3 rfl Tryz.underlying28 inf26 rfl rfl rfl rfl rfl rfl hA2 (Ld.own 0 (by exact rfl)) (by simp only [List.length_append, List.length_cons, List.length_nil] at *; omega) (by decide)) ?_
   rintro _ _ ⟨A3, k1, rfl, rfl, hA3⟩
   replace hA3 := hA3 (.inr (by simp))
   exact O.m rfl (O.nil (X.next (V.seq (V.region (O.m rfl (O.m rfl (O.nil (X.next (V.ret (X.map (fun w hw => ps_snoc (ps := withV 9 out) (hw.sub (Sub.keep 3 rfl (Sub.keep 3 rfl (Sub.keep 1 rfl (Sub.k (Sub.k (Sub.k (Sub.k (Sub.k (Sub.k (Sub.nil _)))))))))))) (X.ret1 rfl rfl (fun w hw => St.mkExi A3 (St.mkExi k1 (St.mkExi ((withV 9 out) ++ [(pv1, ⟨r6A, r6.length, r6c⟩, r6)]) (St.unsep (St.addPur ⟨(by rw [topP_append]; rfl), by rw [List.length_append, List.length_singleton]; omega, (fun k hk => by by_cases e : k < (withV 9 out).length; (· rw [List.getElem_append_left e]; exact hpr k e); (· rw [List.getElem_append_right (by omega)]; rw [List.length_append, List.length_singleton] at hk; have e2 : k - (withV 9 out).length = 0 := (by omega); simp only [e2, List.getElem_cons_zero]; exact hpv1_2))⟩ (St.unsep (hw.sub (Sub.k (Sub.k (Sub.nil _)))))))))))))))))))))
  ·exact V.skip (X.next (V.seq (V.region (O.m rfl (O.m rfl (O.nil (X.next (V.ret (X.ret1 rfl rfl (fun w hw => St.mkExi outA (St.mkExi outc (St.mkExi (withV 9 out) (St.unsep (St.addPur ⟨rfl, by omega, hpr⟩ (St.unsep (hw.sub (Sub.keep 1 rfl (Sub.keep 1 rfl (Sub.nil _)))))))))))))))))))
set_option maxRecDepth 100000 in
set_option maxHeartbeats 1000000 in
theorem systems9_ok (aV : Int) (a : List (Sl × List B3)) (bV : Int) (b : List (Sl × List B3)) (aA : Option Addr) (ac : Nat) (bA : Option Addr) (bc : Nat) (w : World) (ha : RdY aV w aA a) (hb : RdY bV w bA b) (la : a.length ≤ 1099511627776) (lb : b.length ≤ 1099511627776) (hV : aV = bV) (hsa : ∀ i (h : i < a.length), (a[i]).2.length ≤ 1000) (hsb : ∀ i (h : i < b.length), (b[i]).2.length ≤ 1000) : Does Tryz.prog 9 [.slice aA (tops a).length ac, .slice bA (tops b).length bc] w [] (fun r => [.pur (r = .bool (decide (conts a = conts b)))]) := by
 refine Does.enter Tryz.func9 rfl rfl [(0, .slice aA (tops a).length ac), (1, .slice bA (tops b).length bc)] rfl ?_
 have hta := tops_len a
 have htb := tops_len b
 have hca := conts_len a
 have hcb := conts_len b
 refine V.seq (V.region (O.m rfl (O.nil (X.next (V.seq (V.seq (V.region (O.m rfl (O.q rfl (Pu.len rfl Tryz.underlying28 rfl) (O.m rfl (O.q rfl (Pu.len rfl Tryz.underlying28 rfl) ?_)))))))))))
 refine O.q rfl (Pu.neq rfl rfl rfl) (O.nil (X.next (V.condNot rfl (fun c1 => ?_) (fun c1 => ?_))))
 ·exact V.seq (V.region (O.m rfl (O.nil (X.next (V.ret (X.thenRet (X.ret1 rfl rfl (fun w hw => St.retP (boolF (fun h => c1 (by have := congrArg List.length h; omega))) hw))))))))
 ·refine V.skip (X.next (V.seq (V.seq (V.region (O.m rfl (O.nil (X.next (V.block (V.loop2 (β := Nat) (fun i => [(5, .int .i64 (i : Int))]) _ (fun i => []) (fun i => i ≤ a.length ∧ ∀ j (h1 : j < a.length) (h2 : j < b.length), j < i → (a[j]).2 = (b[j]).2) (fun i => a.length - i) 0 ⟨by omega, fun j _ _ h => by omega⟩ (Ent.cons rfl (Ent.nil _)) (Ent.cons (t := 0) rfl (Ent.cons (t := 1) rfl (Ent.nil _))) (Sub.nil _) ?_)))))))))
  rintro i ⟨hi, he⟩
  refine V.seq (V.seq (V.region (O.m rfl (O.m rfl (O.q rfl (Pu.len rfl Tryz.underlying28 rfl) (O.q rfl (Pu.lss rfl rfl rfl) (O.nil (X.next (V.condD rfl (fun c2 => ?_) (fun c2 => ?_))))))))))
  ·refine V.skip (X.next (V.seq (V.block (V.seq ?_))))
   have hsa1 := hsa i (by omega)
   have hsb1 := hsb i (by omega)
   refine V.draw mo (by kernel_rfl) (fun hwf => D.m 0 rfl (D.m 1 rfl (D.q 2 rfl (Pu.indexAddr (i) rfl Tryz.underlying28 sz26 rfl rfl (by omega) (by omega) (ha.top.some (by omega))) ?_)))
   have e1 : i < a.length := by have := tops_len a; omega
   refine D.q 3 rfl (Pu.loadAgg' (v := .agg #[.int .i64 aV, .slice (a[i]'e1).1.A (a[i]'e1).2.length (a[i]'e1).1.c]) rfl rfl ag26 sz26 rfl rfl (Ld.rowY (Ld.old ha.top) ha.len e1 rfl)) (D.m 4 rfl (D.m 5 rfl (D.q 6 rfl (Pu.indexAddr (i) rfl Tryz.underlying28 sz26 rfl rfl (by omega) (by omega) (hb.top.some (by omega))) ?_)))
   have e2 : i < b.length := by have := tops_len b; omega
   refine D.q 7 rfl (Pu.loadAgg' (v := .agg #[.int .i64 bV, .slice (b[i]'e2).1.A (b[i]'e2).2.length (b[i]'e2).1.c]) rfl rfl ag26 sz26 rfl rfl (Ld.rowY (Ld.old hb.top) hb.len e2 rfl)) (D.f hwf 8 rfl (Ef.callP call13 rfl rfl (fun w hw => system9_ok  aV ((a[i]'e1).2) bV ((b[i]'e2).2) _ _ _ _ w ((Ld.old (ha.row i e1)) w hw) ((Ld.old (hb.row i e2)) w hw) (by first | omega | (simp only [tops_len, conts_len, bl, List.length_append, List.length_cons, List.length_nil] at *; omega)) (by first | omega | (simp only [tops_len, conts_len, bl, List.length_append, List.length_cons, List.length_nil] at *; omega)) )) ?_)
   rintro _ _ ⟨rfl, rfl⟩ hs
   refine ⟨fun w hw => hw, (D.q 9 rfl (Pu.not rfl rfl) (D.done hwf rfl (X.next (V.condNot rfl (fun c3 => ?_) (fun c3 => ?_)))))⟩
   ·exact V.seq (V.region (O.m rfl (O.nil (X.next (V.ret (X.blockRet (X.thenRet (X.thenRet (X.blockRet (X.thenRet (X.ret1 rfl rfl (fun w hw => St.retP (boolF (fun h => c3 ⟨hV, by rw [← conts_get a (by omega), ← conts_get b (by omega)]; simp [h]⟩)) hw))))))))))))
   ·exact V.skip (X.blockNormal (X.next (V.region (O.m rfl (O.q rfl (Pu.add64 (r := ((i + 1 : Nat) : Int)) rfl (by omega) rfl rfl rfl) (O.m rfl (O.nil (X.back2 (i + 1) ⟨by omega, fun j h1 h2 hj => by by_cases e : j = i; (· subst e; exact c3.2); (· exact he j h1 h2 (by omega))⟩ (by first | omega | (dsimp only; omega)) (Ent.cons rfl (Ent.nil _)) (Ent.cons (t := 0) rfl (Ent.cons (t := 1) rfl (Ent.nil _))) (Sub.nil _)))))))))
  ·exact V.exit (X.thenExit (X.thenExit (X.blockHit (X.next (V.seq (V.region (O.m rfl (O.nil (X.next (V.ret (X.ret1 rfl rfl (fun w hw => St.retP (boolT (List.ext_getElem (by omega) (fun j h1 h2 => by rw [conts_get, conts_get]; exact he j (by omega) (by omega) (by omega)))) hw))))))))))))
set_option maxRecDepth 100000 in
set_option maxHeartbeats 1000000 in
theorem FnLargeSets_ok (code : List UInt8) (codeA : Option Addr) (codec : Nat) (w : World) (hcode : Rd U8C w codeA code) (lcode : code.length ≤ 9223372036854775807) : Does Tryz.prog 3 [.slice codeA code.length codec] w [] (fun r => [.pur (r = .bool true)]) := by
 refine Does.enter Tryz.func3 rfl rfl [(0, .slice codeA code.length codec)] rfl (V.seq (V.region (O.m rfl (O.nil (X.next (V.seq (V.seq (V.region (O.m rfl (O.f rfl (Ef.callP call5 rfl rfl (fun w hw => big_ok  code _ _ w ((Ld.old hcode) w hw) (by first | omega | (simp only [tops_len, conts_len, bl, List.length_append, List.length_cons, List.length_nil] at *; omega)) )) ?_))))))))))
 rintro _ _ ⟨rfl, rfl⟩
 refine O.nil (X.next (V.condD rfl (fun c1 => ?_) (fun c1 => ?_)))
 ·exact V.seq (V.region (O.m rfl (O.nil (X.next (V.ret (X.thenRet (X.ret1 rfl rfl (fun w hw => St.retP rfl hw))))))))
 ·have lc : code.length ≤ 1048576 := by omega
  refine V.skip (X.next (V.seq (V.region (O.m rfl (O.f rfl (Ef.call1 call6 rfl rfl (fun w hw => DrawLargeSetWith_ok  code _ _ w ((Ld.old hcode) w hw) (by first | omega | (simp only [tops_len, conts_len, bl, List.length_append, List.length_cons, List.length_nil] at *; omega)) (by first | assumption | omega | (try dsimp only at *; omega)))) ?_)))))
  rintro _ _ rfl
  refine O.exi (fun pv1 => O.exi (fun r1A => O.exi (fun r1c => O.exi (fun r1 => O.sep (O.pur ?_)))))
  rintro ⟨rfl, hpv1_1, hpv1_2⟩
  refine O.f rfl (Ef.alloc rfl zr26 rfl) ?_
  rintro _ _ ⟨b1, rfl, rfl⟩
  refine O.s rfl rfl (Ef.storeAll 0 rfl sz26 rfl rfl rfl rfl (by simp [Value.oneCell']) rfl) ?_
  rintro _ _ rfl
  refine O.nil (X.next (V.seq (V.region (O.q rfl (Pu.loadAgg rfl ag26 sz26 rfl rfl (Ld.whole 0 rfl)) (O.f rfl (Ef.call1 call7 rfl rfl (fun w hw => implLargeSetWith_ok  pv1 r1 _ _ w ((Ld.own 1 (by exact rfl)) w hw) (by first | omega | (simp only [tops_len, conts_len, bl, List.length_append, List.length_cons, List.length_nil] at *; omega)) )) ?_)))))
  rintro _ _ rfl
  refine O.exi (fun r2A => O.exi (fun r2c => O.exi (fun r2 => O.sep (O.pur ?_))))
  rintro ⟨rfl, hr2_1⟩
  refine O.sep (O.fact (RowsA.len 1 rfl) (fun hn_r2 => ?_))
  have htl_r2 := tops_len r2
  have hlr1 := lsR_rows hr2_1
  have hsm1 := lsR_small hr2_1
  have htl1 := tops_len r2
  refine O.m rfl (O.m rfl (O.m rfl (O.m rfl (O.m rfl (O.nil (X.next (V.seq (V.seq (V.region (O.q rfl (Pu.loadAgg rfl ag26 sz26 rfl rfl (Ld.whole 2 rfl)) (O.f rfl (Ef.call1 call8 rfl rfl (fun w hw => specLargeSetWith_ok  pv1 r1 _ _ w ((Ld.own 3 (by exact rfl)) w hw) (by first | omega | (simp only [tops_len, conts_len, bl, List.length_append, List.length_cons, List.length_nil] at *; omega)) )) ?_)))))))))))
  rintro _ _ rfl
  refine O.exi (fun r3A => O.exi (fun r3c => O.exi (fun r3 => O.sep (O.pur ?_))))
  rintro ⟨rfl, hr3_1⟩
  refine O.sep (O.fact (RowsA.len 1 rfl) (fun hn_r3 => ?_))
  have htl_r3 := tops_len r3
  have hlr2 := lsR_rows hr3_1
  have hsm2 := lsR_small hr3_1
  have htl2 := tops_len r3
  have heqL : conts r2 = conts r3 := hr2_1.trans hr3_1.symm
  refine O.m rfl (O.m rfl (O.m rfl (O.m rfl (O.m rfl (O.nil (X.next (V.seq (V.region (O.m rfl (O.m rfl (O.q rfl (Pu.neq rfl rfl rfl) ?_)))))))))))
  refine O.m rfl (O.splitN 54 rfl (fun c2 => ?_) (fun c2 => ?_))
  ·refine O.g rfl (O.g rfl (O.g rfl (O.g rfl (O.m rfl (O.nil (X.next (V.condT rfl (V.seq (V.region (O.m rfl (O.nil ?_)))))))))))
   exact X.next (V.ret (X.thenRet (X.ret1 rfl rfl (absurd (by first | assumption | rfl | exact ⟨rfl, rfl⟩ | exact ⟨rfl, by assumption⟩ | exact ⟨⟨rfl, by assumption⟩, rfl, by assumption⟩ | omega | (simp only [*]; done) | (rw [rfl])) c2))))
  ·refine O.gm rfl (O.gm rfl (O.gf rfl (Ef.callP call9 rfl rfl (fun w hw => systems9_ok  9 r2 9 r3 _ _ _ _ w ((Ld.yy 2 3 (by exact rfl) (by exact rfl)) w hw) ((Ld.yy 0 1 (by exact rfl) (by exact rfl)) w hw) (by first | omega | (simp only [tops_len, conts_len, bl, List.length_append, List.length_cons, List.length_nil] at *; omega)) (by first | omega | (simp only [tops_len, conts_len, bl, List.length_append, List.length_cons, List.length_nil] at *; omega)) rfl hlr1 hlr2)) ?_))
   rintro _ _ ⟨rfl, rfl⟩
   refine O.gq rfl (Pu.not rfl rfl) (O.m rfl (O.nil (X.next (V.condNot rfl (fun c3 => ?_) (fun c3 => ?_)))))
   ·exact V.seq (V.region (O.m rfl (O.nil (X.next (V.ret (X.thenRet (X.ret1 rfl rfl (absurd (by first | assumption | rfl | exact ⟨rfl, rfl⟩ | exact ⟨rfl, by assumption⟩ | exact ⟨⟨rfl, by assumption⟩, rfl, by assumption⟩ | omega | (simp only [*]; done) | (rw [rfl])) c3))))))))
   ·refine V.skip (X.next (V.seq (V.region (O.m rfl (O.f rfl (Ef.call1 call10 rfl rfl (fun w hw => DrawTurnSystem_ok  code _ _ w ((Ld.old hcode) w hw) (by first | omega | (simp only [tops_len, conts_len, bl, List.length_append, List.length_cons, List.length_nil] at *; omega)) (by first | assumption | omega | (try dsimp only at *; omega)))) ?_)))))
    rintro _ _ rfl
    refine O.exi (fun pv2 => O.exi (fun r4A => O.exi (fun r4c => O.exi (fun r4 => O.exi (fun k1 => O.sep (O.pur ?_))))))
    rintro ⟨rfl, hpv2_1, hpv2_2⟩
    refine O.m rfl (O.m rfl (O.m rfl (O.f rfl (Ef.alloc rfl zr26 rfl) ?_)))
    rintro _ _ ⟨b2, rfl, rfl⟩
    refine O.s rfl rfl (Ef.storeAll 0 rfl sz26 rfl rfl rfl rfl (by simp [Value.oneCell']) rfl) ?_
    rintro _ _ rfl
    refine O.m rfl (O.nil (X.next (V.seq (V.region (O.q rfl (Pu.loadAgg rfl ag26 sz26 rfl rfl (Ld.whole 0 rfl)) (O.m rfl (O.f rfl (Ef.call1 call11 rfl rfl (fun w hw => implTurnSystem_ok  pv2 r4 k1 _ _ w ((Ld.own 1 (by exact rfl)) w hw) (by first | omega | (simp only [tops_len, conts_len, bl, List.length_append, List.length_cons, List.length_nil] at *; omega)) )) ?_)))))))
    rintro _ _ rfl
    refine O.exi (fun r5A => O.exi (fun r5c => O.exi (fun r5 => O.sep (O.pur ?_))))
    rintro ⟨rfl, hr5_1⟩
    have hlt1 := hr5_1.len
    refine O.m rfl (O.m rfl (O.m rfl (O.f rfl (Ef.alloc rfl zr26 rfl) ?_)))
    rintro _ _ ⟨b3, rfl, rfl⟩
    refine O.s rfl rfl (Ef.storeAll 0 rfl sz26 rfl rfl rfl rfl (by simp [Value.oneCell']) rfl) ?_
    rintro _ _ rfl
    refine O.m rfl (O.nil (X.next (V.seq (V.seq (V.region (O.q rfl (Pu.loadAgg rfl ag26 sz26 rfl rfl (Ld.whole 2 rfl)) (O.m rfl (O.f rfl (Ef.call1 call12 rfl rfl (fun w hw => specTurnSystem_ok  pv2 r4 k1 _ _ w ((Ld.own 3 (by exact rfl)) w hw) (by first | omega | (simp only [tops_len, conts_len, bl, List.length_append, List.length_cons, List.length_nil] at *; omega)) )) ?_))))))))
    rintro _ _ rfl
    refine O.exi (fun r6A => O.exi (fun r6c => O.exi (fun r6 => O.sep (O.pur ?_))))
    rintro ⟨rfl, hr6_1⟩
    have hlt2 := hr6_1.len
    have heqT := hr5_1.unique hr6_1
    refine O.m rfl (O.m rfl (O.m rfl (O.f rfl (Ef.alloc rfl zr26 rfl) ?_)))
    rintro _ _ ⟨b4, rfl, rfl⟩
    refine O.s rfl rfl (Ef.storeAll 0 rfl sz26 rfl rfl rfl rfl (by simp [Value.oneCell']) rfl) ?_
    rintro _ _ rfl
    refine O.m rfl (O.nil (X.next (V.seq (V.region (O.m rfl (O.m rfl (O.q rfl (Pu.neq rfl rfl rfl) (O.m rfl (O.splitN 80 rfl (fun c4 => ?_) (fun c4 => ?_))))))))))
    ·refine O.g rfl (O.g rfl (O.g rfl (O.g rfl (O.m rfl (O.nil (X.next (V.condT rfl (V.seq (V.region (O.m rfl (O.nil ?_)))))))))))
     exact X.next (V.ret (X.thenRet (X.ret1 rfl rfl (absurd (by first | assumption | rfl | exact ⟨rfl, rfl⟩ | exact ⟨rfl, by assumption⟩ | exact ⟨⟨rfl, by assumption⟩, rfl, by assumption⟩ | omega | (simp only [*]; done) | (rw [rfl])) c4))))
    ·refine O.gq rfl (Pu.loadAgg rfl ag26 sz26 rfl rfl (Ld.whole 2 rfl)) (O.gq rfl (Pu.loadAgg rfl ag26 sz26 rfl rfl (Ld.whole 0 rfl)) (O.gf rfl (Ef.callP call13 rfl rfl (fun w hw => system9_ok  (if STS pv2 r4 ∧ 0 ≤ k1 ∧ k1 ≤ pv2 - 1 then pv2 else 0) r5 (if STS pv2 r4 ∧ 0 ≤ k1 ∧ k1 ≤ pv2 - 1 then pv2 else 0) r6 _ _ _ _ w ((Ld.own 3 (by exact rfl)) w hw) ((Ld.own 1 (by exact rfl)) w hw) (by first | omega | (simp only [tops_len, conts_len, bl, List.length_append, List.length_cons, List.length_nil] at *; omega)) (by first | omega | (simp only [tops_len, conts_len, bl, List.length_append, List.length_cons, List.length_nil] at *; omega)) )) ?_))
     rintro _ _ ⟨rfl, rfl⟩
     refine O.gq rfl (Pu.not rfl rfl) (O.m rfl (O.nil (X.next (V.condNot rfl (fun c5 => ?_) (fun c5 => ?_)))))
     ·exact V.seq (V.region (O.m rfl (O.nil (X.next (V.ret (X.thenRet (X.ret1 rfl rfl (absurd (by first | assumption | rfl | exact ⟨rfl, rfl⟩ | exact ⟨rfl, by assumption⟩ | exact ⟨⟨rfl, by assumption⟩, rfl, by assumption⟩ | omega | (simp only [*]; done) | (rw [rfl])) c5))))))))
     ·refine V.skip (X.next (V.seq (V.region (O.m rfl (O.f rfl (Ef.call1 call14 rfl rfl (fun w hw => DrawMateByTurning_ok  code _ _ w ((Ld.old hcode) w hw) (by first | omega | (simp only [tops_len, conts_len, bl, List.length_append, List.length_cons, List.length_nil] at *; omega)) (by first | assumption | omega | (try dsimp only at *; omega)))) ?_)))))
      rintro _ _ rfl
      refine O.exi (fun pv3 => O.exi (fun r7A => O.exi (fun r7c => O.exi (fun r7 => O.sep (O.pur ?_)))))
      rintro ⟨rfl, hpv3_1, hpv3_2⟩
      refine O.f rfl (Ef.alloc rfl zr26 rfl) ?_
      rintro _ _ ⟨b5, rfl, rfl⟩
      refine O.s rfl rfl (Ef.storeAll 0 rfl sz26 rfl rfl rfl rfl (by simp [Value.oneCell']) rfl) ?_
      rintro _ _ rfl
      refine O.nil (X.next (V.seq (V.region (O.q rfl (Pu.loadAgg rfl ag26 sz26 rfl rfl (Ld.whole 0 rfl)) (O.f rfl (Ef.call1 call15 rfl rfl (fun w hw => implMateByTurning_ok  pv3 r7 _ _ w ((Ld.own 1 (by exact rfl)) w hw) (by first | omega | (simp only [tops_len, conts_len, bl, List.length_append, List.length_cons, List.length_nil] at *; omega)) )) ?_)))))
      rintro _ _ rfl
      refine O.exi (fun r8 => O.exi (fun code1 => O.pur ?_))
      rintro ⟨rfl, hr8_1⟩
      refine O.m rfl (O.m rfl (O.m rfl (O.m rfl (O.m rfl (O.nil (X.next (V.seq (V.seq (V.region (O.q rfl (Pu.loadAgg rfl ag26 sz26 rfl rfl (Ld.whole 0 rfl)) (O.f rfl (Ef.call1 call16 rfl rfl (fun w hw => specMateByTurning_ok  pv3 r7 _ _ w ((Ld.own 1 (by exact rfl)) w hw) (by first | omega | (simp only [tops_len, conts_len, bl, List.length_append, List.length_cons, List.length_nil] at *; omega)) )) ?_)))))))))))
      rintro _ _ rfl
      refine O.exi (fun r9 => O.exi (fun code2 => O.pur ?_))
      rintro ⟨rfl, hr9_1⟩
      have heqM := MTR.unique hr8_1 hr9_1
      have heqM1 := heqM.1
      have heqM2 := heqM.2
      refine O.m rfl (O.m rfl (O.m rfl (O.m rfl (O.m rfl (O.nil (X.next (V.seq (V.region (O.m rfl (O.m rfl (O.q rfl (Pu.neq rfl rfl rfl) ?_)))))))))))
      refine O.m rfl (O.splitN 101 rfl (fun c6 => ?_) (fun c6 => ?_))
      ·refine O.g rfl (O.g rfl (O.g rfl (O.m rfl (O.nil (X.next (V.condT rfl (V.seq (V.region (O.m rfl (O.nil (X.next ?_)))))))))))
       exact V.ret (X.thenRet (X.ret1 rfl rfl (absurd (by first | assumption | rfl | exact ⟨rfl, rfl⟩ | exact ⟨rfl, by assumption⟩ | exact ⟨⟨rfl, by assumption⟩, rfl, by assumption⟩ | omega | (simp only [*]; done) | (rw [rfl])) c6)))
      ·refine O.gm rfl (O.gm rfl (O.gq rfl (Pu.neq rfl rfl rfl) (O.m rfl (O.nil (X.next (V.condNot rfl (fun c7 => ?_) (fun c7 => ?_)))))))
       ·exact V.seq (V.region (O.m rfl (O.nil (X.next (V.ret (X.thenRet (X.ret1 rfl rfl (absurd (by first | assumption | rfl | exact ⟨rfl, rfl⟩ | exact ⟨rfl, by assumption⟩ | exact ⟨⟨rfl, by assumption⟩, rfl, by assumption⟩ | omega | (simp only [*]; done) | (rw [rfl])) c7))))))))
       ·refine V.skip (X.next (V.seq (V.region (O.m rfl (O.f rfl (Ef.call1 call17 rfl rfl (fun w hw => DrawIsFamily_ok  code _ _ w ((Ld.old hcode) w hw) (by first | omega | (simp only [tops_len, conts_len, bl, List.length_append, List.length_cons, List.length_nil] at *; omega)) (by first | assumption | omega | (try dsimp only at *; omega)))) ?_)))))
        rintro _ _ rfl
        refine O.exi (fun r10A => O.exi (fun r10c => O.exi (fun r10 => O.sep (O.pur ?_))))
        rintro ⟨rfl, hr10_1, hr10_2⟩
        refine O.sep (O.m rfl (O.nil (X.next (V.seq (V.region (O.m rfl (O.fact (fun w hw => Own.cap hw (i := 0) rfl) (fun hcap1 => O.f rfl (Ef.callP call18 rfl rfl (fun w hw => implIsFamily_ok  r10 ((topP r10).length) r10c _ w (Ld.pss 0 1 (by exact rfl) (by exact rfl) w hw) (by rw [topP_len]) hcap1  (by omega) (fun k hk => by have := hr10_2 k hk; omega))) ?_))))))))
        rintro _ _ ⟨rfl, rfl⟩
        refine O.m rfl (O.m rfl (O.m rfl (O.m rfl (O.m rfl (O.nil (X.next (V.seq (V.seq (V.region (O.m rfl (O.fact (fun w hw => Own.cap hw (i := 0) rfl) (fun hcap2 => ?_))))))))))))
        refine O.f rfl (Ef.callP call19 rfl rfl (fun w hw => specIsFamily_ok  r10 ((topP r10).length) r10c _ w (Ld.pss 0 1 (by exact rfl) (by exact rfl) w hw) (by rw [topP_len]) hcap2  (by omega) (fun k hk => by have := hr10_2 k hk; omega))) ?_
        rintro _ _ ⟨rfl, rfl⟩
        refine O.m rfl (O.m rfl (O.m rfl (O.m rfl (O.m rfl (O.nil (X.next (V.seq (V.region (O.m rfl (O.m rfl (O.q rfl (Pu.neq rfl rfl rfl) ?_)))))))))))
        refine O.m rfl (O.splitN 121 rfl (fun c8 => ?_) (fun c8 => ?_))
        ·refine O.g rfl (O.g rfl (O.g rfl (O.m rfl (O.nil (X.next (V.condT rfl (V.seq (V.region (O.m rfl (O.nil (X.next ?_)))))))))))
         exact V.ret (X.thenRet (X.ret1 rfl rfl (absurd (by first | assumption | rfl | exact ⟨rfl, rfl⟩ | exact ⟨rfl, by assumption⟩ | exact ⟨⟨rfl, by assumption⟩, rfl, by assumption⟩ | omega | (simp only [*]; done) | (rw [rfl])) c8)))
        ·refine O.gm rfl (O.gm rfl (O.gq rfl (Pu.boolNeq Tryz.underlying4 rfl rfl rfl) (O.m rfl (O.nil (X.next (V.cond rfl (fun c9 => ?_) (fun c9 => ?_)))))))
         ·exact (dec_ne Iff.rfl c9).elim
         ·refine V.skip (X.next (V.seq (V.region (O.m rfl (O.f rfl (Ef.call1 call20 rfl rfl (fun w hw => DrawCountFamilies_ok  code _ _ w ((Ld.old hcode) w hw) (by first | omega | (simp only [tops_len, conts_len, bl, List.length_append, List.length_cons, List.length_nil] at *; omega)) (by first | assumption | omega | (try dsimp only at *; omega)))) ?_)))))
          rintro _ _ rfl
          refine O.exi (fun pv4 => O.exi (fun r11A => O.exi (fun r11c => O.exi (fun r11 => O.sep (O.pur ?_)))))
          rintro ⟨rfl, hpv4_1, hpv4_2⟩
          refine O.f rfl (Ef.alloc rfl zr26 rfl) ?_
          rintro _ _ ⟨b6, rfl, rfl⟩
          refine O.s rfl rfl (Ef.storeAll 0 rfl sz26 rfl rfl rfl rfl (by simp [Value.oneCell']) rfl) ?_
          rintro _ _ rfl
          refine O.nil (X.next (V.seq (V.region (O.q rfl (Pu.loadAgg rfl ag26 sz26 rfl rfl (Ld.whole 0 rfl)) (O.f rfl (Ef.callP call21 rfl rfl (fun w hw => implCountFamilies_ok  pv4 r11 _ _ w ((Ld.own 1 (by exact rfl)) w hw) (by first | omega | (simp only [tops_len, conts_len, bl, List.length_append, List.length_cons, List.length_nil] at *; omega)) )) ?_)))))
          rintro _ _ ⟨rfl, rfl⟩
          refine O.m rfl (O.m rfl (O.m rfl (O.m rfl (O.m rfl (O.nil (X.next (V.seq (V.seq (V.region (O.q rfl (Pu.loadAgg rfl ag26 sz26 rfl rfl (Ld.whole 0 rfl)) (O.f rfl (Ef.callP call22 rfl rfl (fun w hw => specCountFamilies_ok  pv4 r11 _ _ w ((Ld.own 1 (by exact rfl)) w hw) (by first | omega | (simp only [tops_len, conts_len, bl, List.length_append, List.length_cons, List.length_nil] at *; omega)) )) ?_)))))))))))
          rintro _ _ ⟨rfl, rfl⟩
          refine O.m rfl (O.m rfl (O.m rfl (O.m rfl (O.m rfl (O.nil (X.next (V.seq (V.region (O.m rfl (O.m rfl (O.q rfl (Pu.neq rfl rfl rfl) ?_)))))))))))
          refine O.m rfl (O.splitN 141 rfl (fun c10 => ?_) (fun c10 => ?_))
          ·refine O.g rfl (O.g rfl (O.g rfl (O.m rfl (O.nil (X.next (V.condT rfl (V.seq (V.region (O.m rfl (O.nil (X.next ?_)))))))))))
           exact V.ret (X.thenRet (X.ret1 rfl rfl (absurd (by first | assumption | rfl | exact ⟨rfl, rfl⟩ | exact ⟨rfl, by assumption⟩ | exact ⟨⟨rfl, by assumption⟩, rfl, by assumption⟩ | omega | (simp only [*]; done) | (rw [rfl])) c10)))
          ·refine O.gm rfl (O.gm rfl (O.gq rfl (Pu.neq rfl rfl rfl) (O.m rfl (O.nil (X.next (V.condNot rfl (fun c11 => ?_) (fun c11 => ?_)))))))
           ·exact V.seq (V.region (O.m rfl (O.nil (X.next (V.ret (X.thenRet (X.ret1 rfl rfl (absurd (by first | assumption | rfl | exact ⟨rfl, rfl⟩ | exact ⟨rfl, by assumption⟩ | exact ⟨⟨rfl, by assumption⟩, rfl, by assumption⟩ | omega | (simp only [*]; done) | (rw [rfl])) c11))))))))
           ·refine V.skip (X.next (V.seq (V.seq (V.region (O.m rfl (O.q rfl (Pu.eql rfl rfl rfl) (O.nil (X.next (V.cut2 [] (Ent.cons (t := 3) rfl (Ent.cons (t := 4) rfl (Ent.cons (t := 5) rfl (Ent.cons (t := 8) rfl (Ent.cons (t := 9) rfl (Ent.cons (t := 10) rfl (Ent.cons (t := 11) rfl (Ent.nil _)))))))) (Sub.k (Sub.k (Sub.k (Sub.k (Sub.k (Sub.k (Sub.k (Sub.k (Sub.k (Sub.k (Sub.k (Sub.k (Sub.k (Sub.k (Sub.k (Sub.k (Sub.k (Sub.k (Sub.nil _))))))))))))))))))) ?_ ?_)))))))))
            ·refine V.condD rfl (fun c12 => ?_) (fun c12 => ?_)
             ·obtain ⟨hSz, hmz1, hmz2, hapz⟩ := mate_ok hr8_1 c12
              refine V.seq (V.region (O.q rfl (Pu.loadAgg rfl ag26 sz26 rfl rfl (Ld.whole 4 rfl)) (O.m rfl (O.f rfl (Ef.call1 call11 rfl rfl (fun w hw => implTurnSystem_ok  pv3 r7 r8 _ _ w ((Ld.own 5 (by exact rfl)) w hw) (by first | omega | (simp only [tops_len, conts_len, bl, List.length_append, List.length_cons, List.length_nil] at *; omega)) )) ?_))))
              rintro _ _ rfl
              refine O.exi (fun r12A => O.exi (fun r12c => O.exi (fun r12 => O.sep (O.pur ?_))))
              rintro ⟨rfl, hr12_1⟩
              have hkm : 0 ≤ r8 ∧ r8 ≤ pv3 - 1 := ⟨by omega, by omega⟩
              have hcdM := code_turn hSz hkm
              have hptM : (if STS pv3 r7 ∧ 0 ≤ r8 ∧ r8 ≤ pv3 - 1 then pv3 else 0) = pv3 := if_pos ⟨hSz, hkm⟩
              have hsoM := hr12_1.sts hSz ⟨hkm.1, by omega⟩
              have hlM := hsoM.2
              have haaM : aaC pv3 r7 (if STS pv3 r7 ∧ 0 ≤ r8 ∧ r8 ≤ pv3 - 1 then pv3 else 0) r12 = 0 := aaC_0 hSz (by rw [hptM]; exact hsoM.1) hptM.symm
              have hapM := turn_apart hSz hkm hr12_1 hapz
              have hboM : aaC pv3 r7 (if STS pv3 r7 ∧ 0 ≤ r8 ∧ r8 ≤ pv3 - 1 then pv3 else 0) r12 = 0 ∧ ApartB r7 r12 := ⟨haaM, hapM⟩
              refine O.m rfl (O.m rfl (O.m rfl (O.f rfl (Ef.alloc rfl zr26 rfl) ?_)))
              rintro _ _ ⟨b7, rfl, rfl⟩
              refine O.s rfl rfl (Ef.storeAll 0 rfl sz26 rfl rfl rfl rfl (by simp [Value.oneCell']) rfl) ?_
              rintro _ _ rfl
              refine O.m rfl (O.nil (X.next (V.seq (V.region (O.q rfl (Pu.loadAgg rfl ag26 sz26 rfl rfl (Ld.whole 6 rfl)) (O.q rfl (Pu.loadAgg rfl ag26 sz26 rfl rfl (Ld.whole 0 rfl)) (O.f rfl (Ef.callP call23 rfl rfl (fun w hw => implAreApart_ok  pv3 r7 (if STS pv3 r7 ∧ 0 ≤ r8 ∧ r8 ≤ pv3 - 1 then pv3 else 0) r12 _ _ _ _ w ((Ld.own 7 (by exact rfl)) w hw) ((Ld.own 1 (by exact rfl)) w hw) (by first | omega | (simp only [tops_len, conts_len, bl, List.length_append, List.length_cons, List.length_nil] at *; omega)) (by first | omega | (simp only [tops_len, conts_len, bl, List.length_append, List.length_cons, List.length_nil] at *; omega)) )) ?_)))))))
              rintro _ _ ⟨rfl, rfl⟩
              refine O.m rfl (O.m rfl (O.m rfl (O.m rfl (O.m rfl (O.nil (X.next (V.seq (V.region (O.m rfl (O.q rfl (Pu.neq rfl rfl rfl) (O.m rfl (O.splitN 162 rfl (fun c13 => ?_) (fun c13 => ?_)))))))))))))
              ·refine O.g rfl (O.g rfl (O.m rfl (O.m rfl (O.g rfl (O.g rfl (O.m rfl (O.m rfl (O.g rfl (O.g rfl (O.m rfl (O.nil ?_)))))))))))
               exact X.next (V.condT rfl (V.seq (V.region (O.m rfl (O.nil (X.next (V.ret (X.thenRet (X.thenRet (X.ret1 rfl rfl (absurd (by first | assumption | rfl | exact ⟨rfl, rfl⟩ | exact ⟨rfl, by assumption⟩ | exact ⟨⟨rfl, by assumption⟩, rfl, by assumption⟩ | omega | (simp only [*]; done) | (rw [rfl])) c13)))))))))))
              ·refine O.gm rfl (O.gq rfl (Pu.neq rfl rfl rfl) (O.m rfl (O.m rfl (O.splitN 166 rfl (fun c14 => ?_) (fun c14 => ?_)))))
               ·refine O.g rfl (O.g rfl (O.m rfl (O.m rfl (O.g rfl (O.g rfl (O.m rfl (O.nil (X.next (V.condT rfl (V.seq (V.region ?_)))))))))))
                exact O.m rfl (O.nil (X.next (V.ret (X.thenRet (X.thenRet (X.ret1 rfl rfl (absurd (by first | assumption | rfl | exact ⟨rfl, rfl⟩ | exact ⟨rfl, by assumption⟩ | exact ⟨⟨rfl, by assumption⟩, rfl, by assumption⟩ | omega | (simp only [*]; done) | (rw [rfl])) c14)))))))
               ·refine O.gm rfl (O.gq rfl (Pu.not rfl rfl) (O.m rfl (O.m rfl (O.splitN 170 rfl (fun c15 => ?_) (fun c15 => ?_)))))
                ·refine O.g rfl (O.g rfl (O.m rfl (O.nil (X.next (V.condT rfl (V.seq (V.region (O.m rfl (O.nil (X.next (V.ret ?_)))))))))))
                 exact X.thenRet (X.thenRet (X.ret1 rfl rfl (absurd (by first | assumption | rfl | exact ⟨rfl, rfl⟩ | exact ⟨rfl, by assumption⟩ | exact ⟨⟨rfl, by assumption⟩, rfl, by assumption⟩ | omega | (simp only [*]; done) | (rw [rfl])) c15)))
                ·refine O.gm rfl (O.gq rfl (Pu.lss rfl rfl rfl) (O.m rfl (O.nil (X.next (V.condD rfl (fun c16 => ?_) (fun c16 => ?_))))))
                 ·exact V.seq (V.region (O.m rfl (O.nil (X.next (V.ret (X.thenRet (X.thenRet (X.ret1 rfl rfl (absurd c16 (by first | omega | assumption))))))))))
                 ·exact V.skip (X.cut (Ent.nil _) (Ent.cons (t := 3) rfl (Ent.cons (t := 4) rfl (Ent.cons (t := 5) rfl (Ent.cons (t := 8) rfl (Ent.cons (t := 9) rfl (Ent.cons (t := 10) rfl (Ent.cons (t := 11) rfl (Ent.nil _)))))))) (Sub.keep 2 rfl (Sub.keep 2 rfl (Sub.keep 2 rfl (Sub.keep 2 rfl (Sub.keep 2 rfl (Sub.keep 2 rfl (Sub.keep 2 rfl (Sub.keep 2 rfl (Sub.keep 2 rfl (Sub.keep 2 rfl (Sub.keep 2 rfl (Sub.keep 2 rfl (Sub.keep 2 rfl (Sub.keep 2 rfl (Sub.keep 2 rfl (Sub.keep 2 rfl (Sub.keep 2 rfl (Sub.keep 2 rfl (Sub.nil _))))))))))))))))))))
             ·exact V.skip (X.cut (Ent.nil _) (Ent.cons (t := 3) rfl (Ent.cons (t := 4) rfl (Ent.cons (t := 5) rfl (Ent.cons (t := 8) rfl (Ent.cons (t := 9) rfl (Ent.cons (t := 10) rfl (Ent.cons (t := 11) rfl (Ent.nil _)))))))) (Sub.k (Sub.k (Sub.k (Sub.k (Sub.k (Sub.k (Sub.k (Sub.k (Sub.k (Sub.k (Sub.k (Sub.k (Sub.k (Sub.k (Sub.k (Sub.k (Sub.k (Sub.k (Sub.nil _))))))))))))))))))))
            ·refine X.next (V.seq (V.seq (V.region (O.m rfl (O.q rfl (Pu.eql rfl rfl rfl) (O.nil (X.next (V.cut2 [] (Ent.cons (t := 3) rfl (Ent.cons (t := 4) rfl (Ent.cons (t := 5) rfl (Ent.nil _)))) (Sub.k (Sub.k (Sub.k (Sub.k (Sub.k (Sub.k (Sub.k (Sub.k (Sub.k (Sub.k (Sub.k (Sub.k (Sub.k (Sub.k (Sub.k (Sub.k (Sub.k (Sub.k (Sub.nil _))))))))))))))))))) ?_ ?_))))))))
             ·refine V.condD rfl (fun c17 => ?_) (fun c17 => ?_)
              ·obtain ⟨hSy, hky⟩ := turn_code c17
               have hptB : (if STS pv2 r4 ∧ 0 ≤ k1 ∧ k1 ≤ pv2 - 1 then pv2 else 0) = pv2 := if_pos ⟨hSy, hky⟩
               have hstB := hr5_1.sts hSy ⟨hky.1, by omega⟩
               have hloy := hSy.lo
               have hhiy := hSy.hi
               refine V.seq (V.draw mo (by kernel_rfl) (fun hwf => D.q 0 rfl (Pu.loadAgg rfl ag26 sz26 rfl rfl (Ld.whole 8 rfl)) (D.q 1 rfl (Pu.fieldAddr 0 rfl Tryz.underlying26 rfl sz2 rfl rfl) (D.q 2 rfl (Pu.load rfl pl2 rfl (Ld.blk 10 rfl rfl)) (D.m 3 rfl (D.q 4 rfl (Pu.sub64 rfl (by omega) rfl rfl rfl) (D.q 5 rfl (Pu.fieldAddr 0 rfl Tryz.underlying26 rfl sz2 rfl rfl) (D.q 6 rfl (Pu.load rfl pl2 rfl (Ld.blk 10 rfl rfl)) (D.q 7 rfl (Pu.rem64 (by omega) (by omega) rfl rfl rfl) (D.either hwf (e1 := 8) (e2 := 12) rfl ?_ ?_))))))))))
               ·refine ⟨_, _, rfl, rfl, fun _ _ => wanted_none rfl _, Ef.call1 call11 rfl rfl (fun w hw => implTurnSystem_ok  (if STS pv2 r4 ∧ 0 ≤ k1 ∧ k1 ≤ pv2 - 1 then pv2 else 0) r5 ((pv2 - k1) % pv2) _ _ w ((Ld.own 9 (by exact rfl)) w hw) (by first | omega | (simp only [tops_len, conts_len, bl, List.length_append, List.length_cons, List.length_nil] at *; omega)) ), rfl, rfl, ?_⟩
                rintro _ _ rfl hs
                refine ⟨fun w hw => hs w hw.tail, (D.exi (fun r13A => D.exi (fun r13c => D.exi (fun r13 => D.sep (D.pur1 ?_)))))⟩
                rintro ⟨rfl, hr13_1⟩
                rw [hptB] at hr13_1
                have hbk := TSR.back hSy ⟨hky.1, by omega⟩ hr5_1 hr13_1
                have hk2 : 0 ≤ ((pv2 - k1) % pv2) ∧ ((pv2 - k1) % pv2) ≤ pv2 - 1 := ⟨Int.emod_nonneg _ (by omega), by have := Int.emod_lt_of_pos (pv2 - k1) (show 0 < pv2 by omega); omega⟩
                have hcd3 : (if STS (if STS pv2 r4 ∧ 0 ≤ k1 ∧ k1 ≤ pv2 - 1 then pv2 else 0) r5 then if 0 ≤ ((pv2 - k1) % pv2) ∧ ((pv2 - k1) % pv2) ≤ (if STS pv2 r4 ∧ 0 ≤ k1 ∧ k1 ≤ pv2 - 1 then pv2 else 0) - 1 then (0 : Int) else 2 else 1) = 0 := by rw [hptB]; exact code_turn hstB.1 hk2
                have hpt3 : (if STS (if STS pv2 r4 ∧ 0 ≤ k1 ∧ k1 ≤ pv2 - 1 then pv2 else 0) r5 ∧ 0 ≤ ((pv2 - k1) % pv2) ∧ ((pv2 - k1) % pv2) ≤ (if STS pv2 r4 ∧ 0 ≤ k1 ∧ k1 ≤ pv2 - 1 then pv2 else 0) - 1 then (if STS pv2 r4 ∧ 0 ≤ k1 ∧ k1 ≤ pv2 - 1 then pv2 else 0) else 0) = pv2 := by rw [hptB]; exact if_pos ⟨hstB.1, hk2⟩
                have hsys3 : (if STS (if STS pv2 r4 ∧ 0 ≤ k1 ∧ k1 ≤ pv2 - 1 then pv2 else 0) r5 ∧ 0 ≤ ((pv2 - k1) % pv2) ∧ ((pv2 - k1) % pv2) ≤ (if STS pv2 r4 ∧ 0 ≤ k1 ∧ k1 ≤ pv2 - 1 then pv2 else 0) - 1 then (if STS pv2 r4 ∧ 0 ≤ k1 ∧ k1 ≤ pv2 - 1 then pv2 else 0) else 0) = pv2 ∧ r13 = r4 := ⟨hpt3, hbk⟩
                have hlB := hstB.2
                have hls := congrArg List.length hbk
                refine D.m 9 rfl (D.m 10 rfl (D.m 11 rfl (D.f hwf 12 rfl (Ef.alloc rfl zr26 rfl) ?_)))
                rintro _ _ ⟨b8, rfl, rfl⟩ hs
                refine ⟨fun w hw => hw.sub (Sub.keep 2 rfl (Sub.keep 2 rfl (Sub.keep 2 rfl (Sub.keep 2 rfl (Sub.keep 2 rfl (Sub.keep 2 rfl (Sub.keep 2 rfl (Sub.keep 2 rfl (Sub.keep 2 rfl (Sub.keep 2 rfl (Sub.keep 2 rfl (Sub.keep 2 rfl (Sub.keep 2 rfl (Sub.keep 2 rfl (Sub.keep 2 rfl (Sub.keep 2 rfl (Sub.keep 2 rfl (Sub.keep 2 rfl (Sub.nil _))))))))))))))))))), (D.f hwf 13 rfl (Ef.storeAll 0 rfl sz26 rfl rfl rfl rfl (by simp [Value.oneCell']) rfl) ?_)⟩
                rintro _ _ rfl hs
                refine ⟨fun w hw => hw.sub (Sub.keep 2 rfl (Sub.keep 2 rfl (Sub.keep 2 rfl (Sub.keep 2 rfl (Sub.keep 2 rfl (Sub.keep 2 rfl (Sub.keep 2 rfl (Sub.keep 2 rfl (Sub.keep 2 rfl (Sub.keep 2 rfl (Sub.keep 2 rfl (Sub.keep 2 rfl (Sub.keep 2 rfl (Sub.keep 2 rfl (Sub.keep 2 rfl (Sub.keep 2 rfl (Sub.keep 2 rfl (Sub.keep 2 rfl (Sub.nil _))))))))))))))))))), (D.m 14 rfl (D.done hwf rfl (X.next (V.seq (V.region (O.m rfl (O.q rfl (Pu.neq rfl rfl rfl) (O.m rfl (O.splitN 190 rfl (fun c18 => ?_) (fun c18 => ?_))))))))))⟩
                ·refine O.g rfl (O.g rfl (O.g rfl (O.g rfl (O.m rfl (O.m rfl (O.g rfl (O.g rfl (O.g rfl (O.g rfl (O.g rfl (O.g rfl ?_)))))))))))
                 refine O.g rfl (O.m rfl (O.nil (X.next (V.condT rfl (V.seq (V.region (O.m rfl (O.nil (X.next (V.ret (X.thenRet ?_)))))))))))
                 exact X.thenRet (X.ret1 rfl rfl (absurd (by first | assumption | rfl | exact ⟨rfl, rfl⟩ | exact ⟨rfl, by assumption⟩ | exact ⟨⟨rfl, by assumption⟩, rfl, by assumption⟩ | omega | (simp only [*]; done) | (rw [rfl])) c18))
                ·refine O.gq rfl (Pu.loadAgg rfl ag26 sz26 rfl rfl (Ld.whole 0 rfl)) (O.gq rfl (Pu.loadAgg rfl ag26 sz26 rfl rfl (Ld.whole 12 rfl)) (O.gf rfl (Ef.callP call13 rfl rfl (fun w hw => system9_ok  (if STS (if STS pv2 r4 ∧ 0 ≤ k1 ∧ k1 ≤ pv2 - 1 then pv2 else 0) r5 ∧ 0 ≤ ((pv2 - k1) % pv2) ∧ ((pv2 - k1) % pv2) ≤ (if STS pv2 r4 ∧ 0 ≤ k1 ∧ k1 ≤ pv2 - 1 then pv2 else 0) - 1 then (if STS pv2 r4 ∧ 0 ≤ k1 ∧ k1 ≤ pv2 - 1 then pv2 else 0) else 0) r13 pv2 r4 _ _ _ _ w ((Ld.own 1 (by exact rfl)) w hw) ((Ld.own 13 (by exact rfl)) w hw) (by first | omega | (simp only [tops_len, conts_len, bl, List.length_append, List.length_cons, List.length_nil] at *; omega)) (by first | omega | (simp only [tops_len, conts_len, bl, List.length_append, List.length_cons, List.length_nil] at *; omega)) )) ?_))
                 rintro _ _ ⟨rfl, rfl⟩
                 refine O.gq rfl (Pu.not rfl rfl) (O.m rfl (O.m rfl (O.splitN 196 rfl (fun c19 => ?_) (fun c19 => ?_))))
                 ·refine O.g rfl (O.g rfl (O.g rfl (O.g rfl (O.g rfl (O.g rfl (O.g rfl (O.m rfl (O.nil (X.next (V.condT rfl (V.seq ?_)))))))))))
                  exact V.region (O.m rfl (O.nil (X.next (V.ret (X.thenRet (X.thenRet (X.ret1 rfl rfl (absurd (by first | assumption | rfl | exact ⟨rfl, rfl⟩ | exact ⟨rfl, by assumption⟩ | exact ⟨⟨rfl, by assumption⟩, rfl, by assumption⟩ | omega | (simp only [*]; done) | (rw [rfl])) c19))))))))
                 ·refine O.gq rfl (Pu.fieldAddr 1 rfl Tryz.underlying26 rfl sz24 rfl rfl) (O.gq rfl (Pu.load rfl pl24 rfl (Ld.blk 10 rfl rfl)) (O.gq rfl (Pu.len rfl Tryz.underlying24 rfl) (O.gq rfl (Pu.fieldAddr 1 rfl Tryz.underlying26 rfl sz24 rfl rfl) (O.gq rfl (Pu.load rfl pl24 rfl (Ld.blk 12 rfl rfl)) (O.gq rfl (Pu.len rfl Tryz.underlying24 rfl) (O.gq rfl (Pu.neq rfl rfl rfl) (O.m rfl (O.nil (X.next (V.condNot rfl (fun c20 => ?_) (fun c20 => ?_)))))))))))
                  ·exact V.seq (V.region (O.m rfl (O.nil (X.next (V.ret (X.thenRet (X.thenRet (X.ret1 rfl rfl (absurd (by first | assumption | rfl | exact ⟨rfl, rfl⟩ | exact ⟨rfl, by assumption⟩ | exact ⟨⟨rfl, by assumption⟩, rfl, by assumption⟩ | omega | (simp only [*]; done) | (rw [rfl])) c20)))))))))
                  ·exact V.skip (X.cut (Ent.nil _) (Ent.cons (t := 3) rfl (Ent.cons (t := 4) rfl (Ent.cons (t := 5) rfl (Ent.nil _)))) (Sub.keep 2 rfl (Sub.keep 2 rfl (Sub.keep 2 rfl (Sub.keep 2 rfl (Sub.keep 2 rfl (Sub.keep 2 rfl (Sub.keep 2 rfl (Sub.keep 2 rfl (Sub.keep 2 rfl (Sub.keep 2 rfl (Sub.keep 2 rfl (Sub.keep 2 rfl (Sub.keep 2 rfl (Sub.keep 2 rfl (Sub.keep 2 rfl (Sub.keep 2 rfl (Sub.keep 2 rfl (Sub.keep 2 rfl (Sub.nil _))))))))))))))))))))
               ·refine ⟨_, _, rfl, rfl, fun _ _ => wanted_none rfl _, Ef.alloc rfl zr26 rfl, rfl, rfl, ?_⟩
                rintro _ _ ⟨b8, rfl, rfl⟩ hs
                refine ⟨fun w hw => hw.sub (Sub.keep 1 rfl (Sub.keep 1 rfl (Sub.keep 1 rfl (Sub.keep 1 rfl (Sub.keep 1 rfl (Sub.keep 1 rfl (Sub.keep 1 rfl (Sub.keep 1 rfl (Sub.keep 1 rfl (Sub.keep 1 rfl (Sub.keep 1 rfl (Sub.keep 1 rfl (Sub.keep 1 rfl (Sub.keep 1 rfl (Sub.keep 1 rfl (Sub.keep 1 rfl (Sub.keep 1 rfl (Sub.keep 1 rfl (Sub.nil _))))))))))))))))))), (D.f hwf 8 rfl (Ef.call1 call11 rfl rfl (fun w hw => implTurnSystem_ok  (if STS pv2 r4 ∧ 0 ≤ k1 ∧ k1 ≤ pv2 - 1 then pv2 else 0) r5 ((pv2 - k1) % pv2) _ _ w ((Ld.own 10 (by exact rfl)) w hw) (by first | omega | (simp only [tops_len, conts_len, bl, List.length_append, List.length_cons, List.length_nil] at *; omega)) )) ?_)⟩
                rintro _ _ rfl hs
                refine ⟨fun w hw => hs w hw.tail, (D.exi (fun r13A => D.exi (fun r13c => D.exi (fun r13 => D.sep (D.pur1 ?_)))))⟩
                rintro ⟨rfl, hr13_1⟩
                rw [hptB] at hr13_1
                have hbk := TSR.back hSy ⟨hky.1, by omega⟩ hr5_1 hr13_1
                have hk2 : 0 ≤ ((pv2 - k1) % pv2) ∧ ((pv2 - k1) % pv2) ≤ pv2 - 1 := ⟨Int.emod_nonneg _ (by omega), by have := Int.emod_lt_of_pos (pv2 - k1) (show 0 < pv2 by omega); omega⟩
                have hcd3 : (if STS (if STS pv2 r4 ∧ 0 ≤ k1 ∧ k1 ≤ pv2 - 1 then pv2 else 0) r5 then if 0 ≤ ((pv2 - k1) % pv2) ∧ ((pv2 - k1) % pv2) ≤ (if STS pv2 r4 ∧ 0 ≤ k1 ∧ k1 ≤ pv2 - 1 then pv2 else 0) - 1 then (0 : Int) else 2 else 1) = 0 := by rw [hptB]; exact code_turn hstB.1 hk2
                have hpt3 : (if STS (if STS pv2 r4 ∧ 0 ≤ k1 ∧ k1 ≤ pv2 - 1 then pv2 else 0) r5 ∧ 0 ≤ ((pv2 - k1) % pv2) ∧ ((pv2 - k1) % pv2) ≤ (if STS pv2 r4 ∧ 0 ≤ k1 ∧ k1 ≤ pv2 - 1 then pv2 else 0) - 1 then (if STS pv2 r4 ∧ 0 ≤ k1 ∧ k1 ≤ pv2 - 1 then pv2 else 0) else 0) = pv2 := by rw [hptB]; exact if_pos ⟨hstB.1, hk2⟩
                have hsys3 : (if STS (if STS pv2 r4 ∧ 0 ≤ k1 ∧ k1 ≤ pv2 - 1 then pv2 else 0) r5 ∧ 0 ≤ ((pv2 - k1) % pv2) ∧ ((pv2 - k1) % pv2) ≤ (if STS pv2 r4 ∧ 0 ≤ k1 ∧ k1 ≤ pv2 - 1 then pv2 else 0) - 1 then (if STS pv2 r4 ∧ 0 ≤ k1 ∧ k1 ≤ pv2 - 1 then pv2 else 0) else 0) = pv2 ∧ r13 = r4 := ⟨hpt3, hbk⟩
                have hlB := hstB.2
                have hls := congrArg List.length hbk
                refine D.m 9 rfl (D.m 10 rfl (D.m 11 rfl (D.f hwf 13 rfl (Ef.storeAll 1 rfl sz26 rfl rfl rfl rfl (by simp [Value.oneCell']) rfl) ?_)))
                rintro _ _ rfl hs
                refine ⟨fun w hw => hw.sub (Sub.keep 2 rfl (Sub.keep 2 rfl (Sub.keep 2 rfl (Sub.keep 2 rfl (Sub.keep 2 rfl (Sub.keep 2 rfl (Sub.keep 2 rfl (Sub.keep 2 rfl (Sub.keep 2 rfl (Sub.keep 2 rfl (Sub.keep 2 rfl (Sub.keep 2 rfl (Sub.keep 2 rfl (Sub.keep 2 rfl (Sub.keep 2 rfl (Sub.keep 2 rfl (Sub.keep 2 rfl (Sub.keep 2 rfl (Sub.nil _))))))))))))))))))), (D.m 14 rfl (D.done hwf rfl (X.next (V.seq (V.region (O.m rfl (O.q rfl (Pu.neq rfl rfl rfl) (O.m rfl (O.splitN 190 rfl (fun c18 => ?_) (fun c18 => ?_))))))))))⟩
                ·refine O.g rfl (O.g rfl (O.g rfl (O.g rfl (O.m rfl (O.m rfl (O.g rfl (O.g rfl (O.g rfl (O.g rfl (O.g rfl (O.g rfl ?_)))))))))))
                 refine O.g rfl (O.m rfl (O.nil (X.next (V.condT rfl (V.seq (V.region (O.m rfl (O.nil (X.next (V.ret (X.thenRet ?_)))))))))))
                 exact X.thenRet (X.ret1 rfl rfl (absurd (by first | assumption | rfl | exact ⟨rfl, rfl⟩ | exact ⟨rfl, by assumption⟩ | exact ⟨⟨rfl, by assumption⟩, rfl, by assumption⟩ | omega | (simp only [*]; done) | (rw [rfl])) c18))
                ·refine O.gq rfl (Pu.loadAgg rfl ag26 sz26 rfl rfl (Ld.whole 1 rfl)) (O.gq rfl (Pu.loadAgg rfl ag26 sz26 rfl rfl (Ld.whole 12 rfl)) (O.gf rfl (Ef.callP call13 rfl rfl (fun w hw => system9_ok  (if STS (if STS pv2 r4 ∧ 0 ≤ k1 ∧ k1 ≤ pv2 - 1 then pv2 else 0) r5 ∧ 0 ≤ ((pv2 - k1) % pv2) ∧ ((pv2 - k1) % pv2) ≤ (if STS pv2 r4 ∧ 0 ≤ k1 ∧ k1 ≤ pv2 - 1 then pv2 else 0) - 1 then (if STS pv2 r4 ∧ 0 ≤ k1 ∧ k1 ≤ pv2 - 1 then pv2 else 0) else 0) r13 pv2 r4 _ _ _ _ w ((Ld.own 0 (by exact rfl)) w hw) ((Ld.own 13 (by exact rfl)) w hw) (by first | omega | (simp only [tops_len, conts_len, bl, List.length_append, List.length_cons, List.length_nil] at *; omega)) (by first | omega | (simp only [tops_len, conts_len, bl, List.length_append, List.length_cons, List.length_nil] at *; omega)) )) ?_))
                 rintro _ _ ⟨rfl, rfl⟩
                 refine O.gq rfl (Pu.not rfl rfl) (O.m rfl (O.m rfl (O.splitN 196 rfl (fun c19 => ?_) (fun c19 => ?_))))
                 ·refine O.g rfl (O.g rfl (O.g rfl (O.g rfl (O.g rfl (O.g rfl (O.g rfl (O.m rfl (O.nil (X.next (V.condT rfl (V.seq ?_)))))))))))
                  exact V.region (O.m rfl (O.nil (X.next (V.ret (X.thenRet (X.thenRet (X.ret1 rfl rfl (absurd (by first | assumption | rfl | exact ⟨rfl, rfl⟩ | exact ⟨rfl, by assumption⟩ | exact ⟨⟨rfl, by assumption⟩, rfl, by assumption⟩ | omega | (simp only [*]; done) | (rw [rfl])) c19))))))))
                 ·refine O.gq rfl (Pu.fieldAddr 1 rfl Tryz.underlying26 rfl sz24 rfl rfl) (O.gq rfl (Pu.load rfl pl24 rfl (Ld.blk 10 rfl rfl)) (O.gq rfl (Pu.len rfl Tryz.underlying24 rfl) (O.gq rfl (Pu.fieldAddr 1 rfl Tryz.underlying26 rfl sz24 rfl rfl) (O.gq rfl (Pu.load rfl pl24 rfl (Ld.blk 12 rfl rfl)) (O.gq rfl (Pu.len rfl Tryz.underlying24 rfl) (O.gq rfl (Pu.neq rfl rfl rfl) (O.m rfl (O.nil (X.next (V.condNot rfl (fun c20 => ?_) (fun c20 => ?_)))))))))))
                  ·exact V.seq (V.region (O.m rfl (O.nil (X.next (V.ret (X.thenRet (X.thenRet (X.ret1 rfl rfl (absurd (by first | assumption | rfl | exact ⟨rfl, rfl⟩ | exact ⟨rfl, by assumption⟩ | exact ⟨⟨rfl, by assumption⟩, rfl, by assumption⟩ | omega | (simp only [*]; done) | (rw [rfl])) c20)))))))))
                  ·exact V.skip (X.cut (Ent.nil _) (Ent.cons (t := 3) rfl (Ent.cons (t := 4) rfl (Ent.cons (t := 5) rfl (Ent.nil _)))) (Sub.keep 2 rfl (Sub.keep 2 rfl (Sub.keep 2 rfl (Sub.keep 2 rfl (Sub.keep 2 rfl (Sub.keep 2 rfl (Sub.keep 2 rfl (Sub.keep 2 rfl (Sub.keep 2 rfl (Sub.keep 2 rfl (Sub.keep 2 rfl (Sub.keep 2 rfl (Sub.keep 2 rfl (Sub.keep 2 rfl (Sub.keep 2 rfl (Sub.keep 2 rfl (Sub.keep 2 rfl (Sub.keep 2 rfl (Sub.nil _))))))))))))))))))))
              ·exact V.skip (X.cut (Ent.nil _) (Ent.cons (t := 3) rfl (Ent.cons (t := 4) rfl (Ent.cons (t := 5) rfl (Ent.nil _)))) (Sub.k (Sub.k (Sub.k (Sub.k (Sub.k (Sub.k (Sub.k (Sub.k (Sub.k (Sub.k (Sub.k (Sub.k (Sub.k (Sub.k (Sub.k (Sub.k (Sub.k (Sub.k (Sub.nil _))))))))))))))))))))
             ·refine X.next (V.seq (V.seq (V.region (O.m rfl (O.q rfl (Pu.neq rfl rfl rfl) (O.nil (X.next (V.condNot rfl (fun c18 => ?_) (fun c18 => ?_)))))))))
              ·exact V.seq (V.region (O.m rfl (O.q rfl (Pu.len rfl Tryz.underlying28 rfl) (O.q rfl (Pu.eql rfl rfl rfl) (O.m rfl (O.nil (X.next (V.ret (X.thenRet (X.ret1 rfl rfl (fun w hw => St.retP (by rw [decide_eq_true (by have h9 := congrArg List.length (hr2_1.trans (lsR_cases.2 c18)); rw [conts_len] at h9; simp only [List.length_nil] at h9; omega)]) hw)))))))))))
              ·obtain ⟨hq1, hq2⟩ := lsR_cases.1.1 (by omega)
               obtain ⟨hq3, hq4, hq5, hq6⟩ := lsR_at hq1 hq2 hr2_1
               obtain ⟨hq7, hq8⟩ := lsR_fam hq1 hq2 hr2_1
               have hq9 := (lf_zero hq1).2.1
               have hqU : fmC (withV 9 r2) = 0 ∧ FamU (withV 9 r2) (withV 9 r2).length := ⟨hq7, hq8⟩
               have hz0 : 0 < r2.length := by omega
               have hl0 := hlr1 0 hz0
               have hq0 : (9 : Int) = pv1 ∧ (r2[0]'hz0).2 = r1 := ⟨hq9.symm, hq4 hz0⟩
               have hq10 : (((tops r2).length : Nat) : Int) = 7 := by omega
               refine V.skip (X.next (V.seq (V.region (O.m rfl (O.fact (fun w hw => Own.cap hw (i := 14) rfl) (fun hcap3 => O.f rfl (Ef.callP call18 rfl rfl (fun w hw => implIsFamily_ok  (withV 9 r2) ((tops r2).length) r2c _ w (RdY.toS ((Ld.yy 14 15 (by exact rfl) (by exact rfl)) w hw)) (by rw [tops_len, withV_len]) hcap3  (by rw [withV_len]; omega) (fun k hk => by rw [withV_len] at hk; rw [withV_at hk]; exact Nat.le_trans (hlr1 k hk) (by decide)))) ?_))))))
               rintro _ _ ⟨rfl, rfl⟩
               refine O.m rfl (O.m rfl (O.m rfl (O.m rfl (O.m rfl (O.nil (X.next (V.seq (V.draw mo (by kernel_rfl) (fun hwf => D.m 0 rfl (D.q 1 rfl (Pu.len rfl Tryz.underlying28 rfl) (D.q 2 rfl (Pu.eql rfl rfl rfl) ?_)))))))))))
               refine D.m 3 rfl (D.splitD 218 rfl (fun c19 => ?_) (fun c19 => ?_))
               ·refine D.gm 4 rfl (D.gq 5 rfl (Pu.indexAddrS (0) rfl Tryz.underlying28 sz26 rfl rfl (by omega) (by omega) (fun w hw => Own.some hw (i := 14) (by exact rfl) (by omega))) ?_)
                have e1 : 0 < r2.length := by have := tops_len r2; omega
                refine D.gq 6 rfl (Pu.loadAgg' (v := .agg #[.int .i64 9, .slice (r2[0]'e1).1.A (r2[0]'e1).2.length (r2[0]'e1).1.c]) rfl rfl ag26 sz26 rfl rfl (Ld.rowY (Ld.own 14 (by exact rfl)) hn_r2 e1 rfl)) (D.gq 7 rfl (Pu.loadAgg rfl ag26 sz26 rfl rfl (Ld.whole 16 rfl)) (D.geff hwf (e := 8) rfl rfl rfl rfl rfl rfl (Ef.callP call13 rfl rfl (fun w hw => system9_ok  9 ((r2[0]'e1).2) pv1 r1 _ _ _ _ w ((Ld.rows 15 (by exact rfl) e1) w hw) ((Ld.own 17 (by exact rfl)) w hw) (by first | omega | (simp only [tops_len, conts_len, bl, List.length_append, List.length_cons, List.length_nil] at *; omega)) (by first | omega | (simp only [tops_len, conts_len, bl, List.length_append, List.length_cons, List.length_nil] at *; omega)) )) rfl rfl rfl ?_))
                rintro _ _ ⟨rfl, rfl⟩ hs
                refine ⟨fun w hw => hw, (D.m 9 rfl (D.m 10 rfl (D.splitD 225 rfl (fun c20 => ?_) (fun c20 => ?_))))⟩
                ·refine D.gm 11 rfl (D.gq 12 rfl (Pu.eql rfl rfl rfl) (D.m 13 rfl (D.m 14 rfl (D.splitD 229 rfl (fun c21 => ?_) (fun c21 => ?_)))))
                 ·exact D.gm 15 rfl (D.m 16 rfl (D.m 17 rfl (D.done hwf rfl (X.next (V.ret (X.ret1 rfl rfl (fun w hw => St.retP (by rw [decide_eq_true hqU]; rfl) hw)))))))
                 ·exact D.g 15 rfl (D.m 16 rfl (D.m 17 rfl (D.done hwf rfl (X.next (V.ret (X.ret1 rfl rfl (absurd (by first | assumption | rfl | exact ⟨rfl, rfl⟩ | exact ⟨rfl, by assumption⟩ | exact ⟨⟨rfl, by assumption⟩, rfl, by assumption⟩ | omega | (simp only [*]; done) | (rw [rfl])) c21)))))))
                ·exact D.g 11 rfl (D.g 12 rfl (D.m 13 rfl (D.m 14 rfl (D.g 15 rfl (D.m 16 rfl (D.m 17 rfl (D.done hwf rfl (X.next (V.ret (X.ret1 rfl rfl (absurd (by first | assumption | rfl | exact ⟨rfl, rfl⟩ | exact ⟨rfl, by assumption⟩ | exact ⟨⟨rfl, by assumption⟩, rfl, by assumption⟩ | omega | (simp only [*]; done) | (rw [rfl])) c20)))))))))))
               ·refine D.g 4 rfl (D.g 5 rfl (D.g 6 rfl (D.g 7 rfl (D.g 8 rfl (D.m 9 rfl (D.m 10 rfl (D.g 11 rfl (D.g 12 rfl (D.m 13 rfl (D.m 14 rfl (D.g 15 rfl ?_)))))))))))
                exact D.m 16 rfl (D.m 17 rfl (D.done hwf rfl (X.next (V.ret (X.ret1 rfl rfl (absurd (by first | assumption | rfl | exact ⟨rfl, rfl⟩ | exact ⟨rfl, by assumption⟩ | exact ⟨⟨rfl, by assumption⟩, rfl, by assumption⟩ | omega | (simp only [*]; done) | (rw [rfl])) c19))))))
end Go.Proofs.YthlmfgmmbfbhhaaGreat
