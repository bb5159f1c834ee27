/-
  Contracts, part 9.
-/
import Derived.Test.YthlmfgmmbfbhhaaGreatKb8
set_option linter.unusedVariables false
set_option linter.unusedSimpArgs false
namespace Go.Proofs.YthlmfgmmbfbhhaaGreat
open Go Go.RowKit Go.Vc Go.Proofs
set_option maxRecDepth 100000 in
set_option maxHeartbeats 1000000 in
theorem implLarge9_ok (bs : List B3) (A : Option Addr) (c : Nat) (w : World) (hx : Rd B3C w A bs) (lx : bs.length ≤ 4611686018427387904) : Does Tryz.prog 7 [.agg #[.int .i64 9, .slice A bs.length c]] w [] (fun rv_ => [.exi fun (rA : Option Addr) => .exi fun (rc : Nat) => .exi fun (r : List (Sl × List B3)) => .sep (.pur (rv_ = .tuple #[.slice rA (tops r).length rc, .int .i64 ((lsR 9 bs).2)] ∧ conts r = (lsR 9 bs).1)) (.sep (Own 26 (SyC 9) rA rc (tops r)) (RowsA 65 B3C r))]) := by
 refine Does.enter Tryz.func7 rfl rfl [(0, .agg #[.int .i64 9, .slice A bs.length c])] rfl (V.seq (V.region (O.f rfl (Ef.box rfl rfl rfl) ?_)))
 rintro _ _ ⟨b1, rfl, rfl⟩
 refine O.m rfl (O.m rfl (O.nil (X.next (V.seq (V.region (O.q rfl (Pu.loadAgg rfl ag26 sz26 rfl rfl (Ld.whole 0 rfl)) (O.f rfl (Ef.call1 call40 rfl rfl (fun w hw => largeSetsWith_ok  (9 : Int) bs _ _ w ((Ld.old hx) w hw) (by first | omega | (simp only [tops_len, conts_len, bl, List.length_append, List.length_cons, List.length_nil] at *; omega)) )) ?_)))))))
 rintro _ _ rfl
 refine O.exi (fun s1A => O.exi (fun s1c => O.exi (fun s1 => O.exi (fun r1A => O.exi (fun r1c => O.exi (fun r1 => O.sep (O.pur ?_)))))))
 rintro ⟨rfl, hs1_1, hs1_2⟩
 refine O.sep (O.sep (O.sep (O.fact (RowsA.len 1 rfl) (fun hn_s1 => ?_))))
 have htl_s1 := tops_len s1
 refine O.fact (RowsA.len 3 rfl) (fun hn_r1 => ?_)
 have htl_r1 := tops_len r1
 refine O.m rfl (O.m rfl (O.m rfl (O.m rfl (O.m rfl (O.m rfl (O.m rfl (O.nil (X.next (V.seq (V.block (V.seq ?_)))))))))))
 refine V.region (O.m rfl (O.q rfl (Pu.neq rfl rfl rfl) (O.m rfl (O.nil (X.next (V.condNot rfl (fun c1 => ?_) (fun c1 => ?_)))))))
 ·exact V.seq (V.region (O.m rfl (O.m rfl (O.m rfl (O.nil (X.next (V.ret (X.blockRet (X.thenRet (X.ret2 rfl rfl rfl (fun w hw => St.mkExi none (St.mkExi 0 (St.mkExi [] (St.unsep (St.addPur ⟨(by rw [lsR_no c1]; try rfl), (by rw [lsR_no c1]; rfl)⟩ (St.unsep (St.addNil (T := 26) (C := (SyC 9)) (RowsA.nil (T := 65) (C := B3C) (hw.sub (Sub.nil _))))))))))))))))))))
 ·have hc1 : lfC (9 : Int) bs = 0 := by omega
  have hmem := (lf_zero hc1).2.2
  have hcs := (hs1_1 hc1).1
  have hcr := (hs1_1 hc1).2
  have hcl1 := conts_len s1
  have hsl : s1.length = 840 := by rw [← hcl1, hcs]; exact nine_count
  have hcl2 := conts_len r1
  have hbl := compM_len 40 9 0 _ hmem
  have hrl : r1.length ≤ 33554432 := by rw [← hcl2, hcr]; exact famL_len hmem
  refine V.seq (V.region (O.m rfl (O.q rfl (Pu.len rfl Tryz.underlying60 rfl) (O.q rfl (Pu.eql rfl rfl rfl) (O.m rfl (O.nil (X.next (V.condD rfl (fun c2 => ?_) (fun c2 => ?_)))))))))
  ·have hnil : famL bs = [] := List.length_eq_zero_iff.1 (by rw [← hcr]; omega)
   exact V.seq (V.region (O.m rfl (O.m rfl (O.nil (X.next (V.ret (X.blockRet (X.thenRet (X.ret2 rfl rfl rfl (fun w hw => St.mkExi none (St.mkExi 0 (St.mkExi [] (St.unsep (St.addPur ⟨(by rw [lsR_none hc1 hnil]; try rfl), (by rw [lsR_none hc1 hnil]; rfl)⟩ (St.unsep (St.addNil (T := 26) (C := (SyC 9)) (RowsA.nil (T := 65) (C := B3C) (hw.sub (Sub.nil _)))))))))))))))))))
  ·have h0 : 0 < r1.length := by omega
   have hne : famL bs ≠ [] := fun h => by rw [h] at hcr; rw [hcr] at hcl2; simp at hcl2; omega
   obtain ⟨F, hFe⟩ : ∃ F, F = headF bs := ⟨_, rfl⟩
   obtain ⟨js, hjs⟩ : ∃ js, js = headN bs := ⟨_, rfl⟩
   have hfo := headF_ok hmem hne
   have hjo := headN_ok hmem hne
   rw [← hFe] at hfo
   rw [← hjs] at hjo
   have hf0 : (r1[0]'h0).2 = F := by rw [hFe, ← conts_get r1 (by rw [hcl2]; exact h0)]; exact head_zero hcr _
   have hfl0 := congrArg List.length hf0
   have hmn : ∀ i (hi : i < r1.length), 0 < i → ¬ cmpL (r1[i]).2 (r1[0]'h0).2 < 0 := fun i hi hp => by have := head_min hcr (i := i) (by rw [hcl2]; exact hi) (by rw [hcl2]; exact h0) hp; rw [conts_get, conts_get] at this; exact this
   have hsix : ∀ i (hi : i < r1.length), (r1[i]).2.length = 6 := fun i hi => famL_six (by rw [← hcr]; exact List.mem_map_of_mem (List.getElem_mem hi))
   refine V.skip (X.blockNormal (X.next (V.seq (V.draw mo (by kernel_rfl) (fun hwf => D.q 0 rfl (Pu.fieldAddr 0 rfl Tryz.underlying26 rfl sz2 rfl rfl) (D.q 1 rfl (Pu.load rfl pl2 rfl (Ld.blk 4 rfl rfl)) (D.q 2 rfl (Pu.fieldAddr 1 rfl Tryz.underlying26 rfl sz24 rfl rfl) (D.q 3 rfl (Pu.load rfl pl24 rfl (Ld.blk 4 rfl rfl)) (D.f hwf 4 rfl (Ef.call1 call41 rfl rfl (fun w hw => cloneB_ok bs _ _ w ((Ld.old hx) w hw) (by first | omega | (simp only [tops_len] at *; omega)))) ?_)))))))))
   rintro _ _ rfl hs
   refine ⟨fun w hw => hs w hw.tail, (D.exi (fun p1 => D.sep (D.pur1 ?_)))⟩
   rintro ⟨rfl, hp1⟩
   refine D.q 5 rfl (Pu.buildS (cs := [.int .i64 (9 : Int), .slice p1.1.1 p1.2.length p1.1.2]) rfl rfl Tryz.underlying26 zr26 (by kernel_rfl) rfl (by kernel_rfl)) (D.f hwf 6 rfl (Ef.build (SyC 9) ([⟨p1.1.1, p1.2.length, p1.1.2⟩] : List Sl) rfl Tryz.underlying28 inf26 rfl rfl rfl (by first | decide | (simp; done)) (by kernel_rfl)) ?_)
   rintro _ _ ⟨A1, hA1, rfl, rfl⟩ hs
   refine ⟨fun w hw => hw.sub (Sub.keep 2 rfl (Sub.keep 2 rfl (Sub.keep 2 rfl (Sub.keep 2 rfl (Sub.keep 2 rfl (Sub.nil _)))))), (D.m 7 rfl (D.done hwf rfl (X.next (V.seq (V.seq (V.region (O.m rfl (O.f rfl (Ef.callP call42 rfl rfl (fun w hw => minFunc_ok  r1 (43) _ _ w ((Ld.ll 4 5 (by exact rfl) (by exact rfl)) w hw) (by first | omega | (simp only [tops_len, conts_len, bl, List.length_append, List.length_cons, List.length_nil] at *; omega)) (call43) h0 hmn (fun i j hi hj w' hb => slicesCompare_ok _ _ _ _ _ _ w' (Rd.below ((Ld.rows 5 (by exact rfl) hi) w hw) hb) (Rd.below ((Ld.rows 5 (by exact rfl) hj) w hw) hb) (by have := hsix i hi; omega) (by have := hsix j hj; omega)))) ?_))))))))⟩
   rintro _ _ ⟨rfl, rfl⟩
   refine O.q rfl (Pu.len rfl Tryz.underlying53 rfl) (O.m rfl (O.nil (X.next (V.block (V.loop3 (β := (Option Addr) × Nat × (List Sl) × Nat) (fun x => [(7, .slice x.1 x.2.2.1.length x.2.1), (34, .int .i64 (x.2.2.2 : Int))]) _ (fun x => [Own 26 (SyC 9) x.1 x.2.1 x.2.2.1]) _ (fun x => x.2.2.2 ≤ (r1[0]'h0).2.length ∧ x.2.2.1 = ⟨p1.1.1, p1.2.length, p1.1.2⟩ :: ((js.take x.2.2.2).map fun j => (s1.getD j noRow).1)) (fun x => (r1[0]'h0).2.length - x.2.2.2) (A1, 1, ([⟨p1.1.1, p1.2.length, p1.1.2⟩] : List Sl), 0) (by (try dsimp only); exact ⟨by omega, rfl⟩) (Ent.cons rfl (Ent.cons rfl (Ent.nil _))) (Ent.cons (t := 4) rfl (Ent.cons (t := 32) rfl (Ent.cons (t := 33) rfl (Ent.nil _)))) (Sub.k (Sub.k (Sub.k (Sub.k (Sub.k (Sub.k (Sub.k (Sub.nil _)))))))) ?_)))))
   rintro ⟨outA, outc, out, i⟩ ⟨hi, hout⟩
   dsimp only at hi hout ⊢
   have hol := congrArg List.length hout
   simp only [List.length_cons, List.length_map, List.length_take] at hol
   refine V.seq (V.region (O.q rfl (Pu.lss rfl rfl rfl) (O.nil (X.next (V.seq (V.condD rfl (fun c3 => ?_) (fun c3 => ?_)))))))
   ·refine V.skip (X.next (V.seq (V.block (V.seq (V.region (O.q rfl (Pu.indexAddrS (i) rfl Tryz.underlying53 sz2 rfl rfl (by omega) (by omega) (fun w hw => ((Ld.rows 5 (by exact rfl) h0) w hw).some (by omega))) ?_))))))
    have e1 : i < (r1[0]'h0).2.length := by omega
    refine O.q rfl (Pu.load rfl pl2 rfl (Ld.rd (Ld.rows 5 (by exact rfl) h0) (k := i) e1 rfl rfl)) (O.m rfl (O.nil (X.next ?_)))
    have ei : i < (r1[0]'h0).2.length := by omega
    have hji : 0 ≤ (r1[0]'h0).2[i]'ei ∧ (r1[0]'h0).2[i]'ei < 840 := by have := hfo.2.2; rw [← hf0] at this; exact this _ (List.getElem_mem ei)
    have ejs : i < js.length := by omega
    have hjat : js[i]'ejs = ((r1[0]'h0).2[i]'ei).toNat := headN_at (hf0.trans hFe) hjs _ _
    refine V.region (O.m rfl (O.m rfl (O.m rfl (O.q rfl (Pu.indexAddrS ((((r1[0]'h0).2[i]'e1)).toNat) rfl Tryz.underlying28 sz26 rfl rfl (by omega) (by omega) (fun w hw => Own.some hw (i := 2) (by exact rfl) (by omega))) ?_))))
    have e2 : (((r1[0]'h0).2[i]'e1)).toNat < s1.length := by have := tops_len s1; omega
    refine O.q rfl (Pu.loadAgg' (v := .agg #[.int .i64 9, .slice (s1[(((r1[0]'h0).2[i]'e1)).toNat]'e2).1.A (s1[(((r1[0]'h0).2[i]'e1)).toNat]'e2).2.length (s1[(((r1[0]'h0).2[i]'e1)).toNat]'e2).1.c]) rfl rfl ag26 sz26 rfl rfl (Ld.rowY (Ld.own 2 (by exact rfl)) hn_s1 e2 rfl)) (O.f rfl (Ef.build (SyC 9) ([⟨(s1[(((r1[0]'h0).2[i]'e1)).toNat]'e2).1.A, (s1[(((r1[0]'h0).2[i]'e1)).toNat]'e2).2.length, (s1[(((r1[0]'h0).2[i]'e1)).toNat]'e2).1.c⟩] : List Sl) rfl Tryz.underlying28 inf26 rfl rfl rfl (by first | decide | (simp; done)) (by kernel_rfl)) ?_)
    rintro _ _ ⟨A2, hA2, rfl, rfl⟩
    refine O.f rfl (Ef.append (xs := out) (ys := ([⟨(s1[(((r1[0]'h0).2[i]'e1)).toNat]'e2).1.A, (s1[(((r1[0]'h0).2[i]'e1)).toNat]'e2).2.length, (s1[(((r1[0]'h0).2[i]'e1)).toNat]'e2).1.c⟩] : List Sl)) 1 rfl Tryz.underlying28 inf26 rfl rfl rfl rfl rfl rfl hA2 (Ld.own 0 (by exact rfl)) (by simp only [List.length_append, List.length_cons, List.length_nil] at *; omega) (by decide)) ?_
    rintro _ _ ⟨A3, k1, rfl, rfl, hA3⟩
    replace hA3 := hA3 (.inr (by simp))
    exact O.m rfl (O.nil (X.blockNormal (X.next (V.region (O.q rfl (Pu.add64 (r := ((i + 1 : Nat) : Int)) rfl (by omega) rfl rfl rfl) (O.m rfl (O.nil (X.back3 (A3, k1, (out ++ ([⟨(s1[(((r1[0]'h0).2[i]'e1)).toNat]'e2).1.A, (s1[(((r1[0]'h0).2[i]'e1)).toNat]'e2).2.length, (s1[(((r1[0]'h0).2[i]'e1)).toNat]'e2).1.c⟩] : List Sl)), i + 1) (by (try dsimp only); exact ⟨by omega, by rw [hout, take_snoc ejs, List.map_append, List.cons_append, hjat]; simp only [List.map_cons, List.map_nil]; rw [pick_at hn_s1]⟩) (by first | omega | (dsimp only; omega)) (Ent.cons rfl (Ent.cons rfl (Ent.nil _))) (Ent.cons (t := 4) rfl (Ent.cons (t := 32) rfl (Ent.cons (t := 33) rfl (Ent.nil _)))) (Sub.keep 1 rfl (Sub.keep 1 rfl (Sub.keep 1 rfl (Sub.keep 1 rfl (Sub.keep 1 rfl (Sub.keep 1 rfl (Sub.keep 1 rfl (Sub.nil _))))))))))))))))
   ·refine V.exit (X.thenExit (X.thenExit (X.blockHit (X.next (V.seq (V.region (O.m rfl (O.m rfl (O.m rfl (O.nil (X.next ?_)))))))))))
    refine V.ret ?_
    have hend : out = tops ((⟨p1.1.1, p1.2.length, p1.1.2⟩, p1.2) :: js.map fun j => s1.getD j noRow) := by rw [hout, List.take_of_length_le (by omega)]; unfold tops; rw [List.map_cons, List.map_map]; rfl
    exact X.map (fun w hw => St.picked (js := js) hjo.2.1 (fun j hj => by have := hjo.2.2 j hj; omega) hend (hw.sub (Sub.k (Sub.k (Sub.keep 1 rfl (Sub.k (Sub.k (Sub.k (Sub.k (Sub.nil _)))))))))) (X.ret2 rfl rfl rfl (fun w hw => St.mkExi outA (St.mkExi outc (St.mkExi ((⟨p1.1.1, p1.2.length, p1.1.2⟩, p1.2) :: js.map fun j => s1.getD j noRow) (St.unsep (St.addPur ⟨(by rw [lsR_yes hc1 hne, ← hend]), (by rw [lsR_yes hc1 hne, conts_cons, conts_pick hcs (fun j hj => by have := hjo.2.2 j hj; omega), hjs, hp1])⟩ (St.unsep (hw.sub (Sub.k (Sub.k (Sub.nil _)))))))))))
set_option maxRecDepth 100000 in
set_option maxHeartbeats 1000000 in
theorem implLargeN_ok (v : Int) (bs : List B3) (A : Option Addr) (c : Nat) (w : World) (hx : Rd B3C w A bs) (lx : bs.length ≤ 4611686018427387904) (h9 : ¬ v = 9) : Does Tryz.prog 7 [.agg #[.int .i64 v, .slice A bs.length c]] w [] (fun rv_ => [.exi fun (rA : Option Addr) => .exi fun (rc : Nat) => .exi fun (r : List (Sl × List B3)) => .sep (.pur (rv_ = .tuple #[.slice rA (tops r).length rc, .int .i64 ((lsR v bs).2)] ∧ conts r = (lsR v bs).1)) (.sep (Own 26 (SyC 9) rA rc (tops r)) (RowsA 65 B3C r))]) := by
 refine Does.enter Tryz.func7 rfl rfl [(0, .agg #[.int .i64 v, .slice A bs.length c])] rfl (V.seq (V.region (O.f rfl (Ef.box rfl rfl rfl) ?_)))
 rintro _ _ ⟨b1, rfl, rfl⟩
 refine O.m rfl (O.m rfl (O.nil (X.next (V.seq (V.region (O.q rfl (Pu.loadAgg rfl ag26 sz26 rfl rfl (Ld.whole 0 rfl)) (O.f rfl (Ef.call1 call40 rfl rfl (fun w hw => largeSetsWith_ok  v bs _ _ w ((Ld.old hx) w hw) (by first | omega | (simp only [tops_len, conts_len, bl, List.length_append, List.length_cons, List.length_nil] at *; omega)) )) ?_)))))))
 rintro _ _ rfl
 refine O.exi (fun s1A => O.exi (fun s1c => O.exi (fun s1 => O.exi (fun r1A => O.exi (fun r1c => O.exi (fun r1 => O.sep (O.pur ?_)))))))
 rintro ⟨rfl, hs1_1, hs1_2⟩
 refine O.sep (O.sep (O.sep (O.fact (RowsA.len 1 rfl) (fun hn_s1 => ?_))))
 have htl_s1 := tops_len s1
 refine O.fact (RowsA.len 3 rfl) (fun hn_r1 => ?_)
 have htl_r1 := tops_len r1
 refine O.m rfl (O.m rfl (O.m rfl (O.m rfl (O.m rfl (O.m rfl (O.m rfl (O.nil (X.next (V.seq (V.block (V.seq ?_)))))))))))
 refine V.region (O.m rfl (O.q rfl (Pu.neq rfl rfl rfl) (O.m rfl (O.nil (X.next (V.condNot rfl (fun c1 => ?_) (fun c1 => ?_)))))))
 ·exact V.seq (V.region (O.m rfl (O.m rfl (O.m rfl (O.nil (X.next (V.ret (X.blockRet (X.thenRet (X.ret2 rfl rfl rfl (fun w hw => St.mkExi none (St.mkExi 0 (St.mkExi [] (St.unsep (St.addPur ⟨(by rw [lsR_no c1]; try rfl), (by rw [lsR_no c1]; rfl)⟩ (St.unsep (St.addNil (T := 26) (C := (SyC 9)) (RowsA.nil (T := 65) (C := B3C) (hw.sub (Sub.nil _))))))))))))))))))))
 ·exact absurd (lf_zero (by omega)).2.1 h9
theorem implLargeSetWith_ok (v : Int) (bs : List B3) (A : Option Addr) (c : Nat) (w : World) (hx : Rd B3C w A bs) (lx : bs.length ≤ 4611686018427387904) : Does Tryz.prog 7 [.agg #[.int .i64 v, .slice A bs.length c]] w [] (fun rv_ => [.exi fun (rA : Option Addr) => .exi fun (rc : Nat) => .exi fun (r : List (Sl × List B3)) => .sep (.pur (rv_ = .tuple #[.slice rA (tops r).length rc, .int .i64 ((lsR v bs).2)] ∧ conts r = (lsR v bs).1)) (.sep (Own 26 (SyC 9) rA rc (tops r)) (RowsA 65 B3C r))]) := by
 by_cases h9 : v = 9
 ·subst h9; exact implLarge9_ok bs A c w hx lx
 ·exact implLargeN_ok v bs A c w hx lx h9
set_option maxRecDepth 100000 in
set_option maxHeartbeats 1000000 in
theorem l01CopyR_ok (v : Int) (bs : List B3) (A : Option Addr) (c : Nat) (w : World) (hx : Rd B3C w A bs) (lx : bs.length ≤ 4611686018427387904) (lb0 : 0 < bs.length) (lb : bs.length ≤ 100000) : Does Tryz.prog 47 [.agg #[.int .i64 v, .slice A bs.length c]] w [] (fun rv_ => [.exi fun (rA : Option Addr) => .exi fun (rc : Nat) => .exi fun (r : List B3) => .sep (.pur (rv_ = .agg #[.int .i64 v, .slice rA r.length rc] ∧ r = bs)) (Own 65 B3C rA rc r)]) := by
 refine Does.enter Tryz.func47 rfl rfl [(0, .agg #[.int .i64 v, .slice A bs.length c])] rfl (V.seq (V.region (O.f rfl (Ef.box rfl rfl rfl) ?_)))
 rintro _ _ ⟨b1, rfl, rfl⟩
 refine O.f rfl (Ef.alloc rfl zr26 rfl) ?_
 rintro _ _ ⟨b2, rfl, rfl⟩
 refine O.nil (X.next (V.seq (V.draw mo (by kernel_rfl) (fun hwf => D.q 0 rfl (Pu.fieldAddr 0 rfl Tryz.underlying26 rfl sz2 rfl rfl) (D.q 1 rfl (Pu.load rfl pl2 rfl (Ld.blk 1 rfl rfl)) (D.q 3 rfl (Pu.fieldAddr 1 rfl Tryz.underlying26 rfl sz24 rfl rfl) (D.q 4 rfl (Pu.load rfl pl24 rfl (Ld.blk 1 rfl rfl)) (D.f hwf 2 rfl (Ef.build B3C ([] : List B3) rfl Tryz.underlying24 inf65 rfl rfl rfl (by first | decide | (simp; done)) (by kernel_rfl)) ?_))))))))
 rintro _ _ ⟨A1, hA1, rfl, rfl⟩ hs
 refine ⟨fun w hw => hw.sub (Sub.keep 1 rfl (Sub.keep 1 rfl (Sub.nil _))), (D.f hwf 5 rfl (Ef.append (xs := ([] : List B3)) (ys := bs) 0 rfl Tryz.underlying24 inf65 rfl rfl rfl rfl rfl rfl (hx.some (by omega)) (Ld.old hx) (by simp only [List.length_append, List.length_cons, List.length_nil] at *; omega) (by decide)) ?_)⟩
 rintro _ _ ⟨A2, k1, rfl, rfl, hA2⟩ hs
 replace hA2 := hA2 (.inl hA1)
 refine ⟨fun w hw => hw.sub (Sub.keep 1 rfl (Sub.keep 1 rfl (Sub.nil _))), (D.q 6 rfl (Pu.buildS (cs := [.int .i64 v, .slice A2 ((([] : List B3) ++ bs).length) k1]) rfl rfl Tryz.underlying26 zr26 (by kernel_rfl) rfl (by kernel_rfl)) (D.effX (Hs' := []) hwf (e := 7) rfl rfl rfl rfl (Ef.storeAll 1 rfl sz26 rfl rfl rfl rfl (by simp [Value.oneCell']) rfl) rfl [] rfl (List.forall_mem_nil _) ?_))⟩
 rintro _ _ rfl
 exact ⟨fun w hw => hw.sub (Sub.nil _), (D.done hwf rfl (X.next (V.ret (X.retCell rfl ag26 sz26 rfl rfl (Ld.whole 1 rfl) (fun w hw => St.mkExi A2 (St.mkExi k1 (St.mkExi (([] : List B3) ++ bs) (St.unsep (St.addPur ⟨rfl, (List.nil_append _)⟩ (hw.sub (Sub.k (Sub.nil _))))))))))))⟩
set_option maxRecDepth 100000 in
set_option maxHeartbeats 1000000 in
theorem specLarge9_ok (bs : List B3) (A : Option Addr) (c : Nat) (w : World) (hx : Rd B3C w A bs) (lx : bs.length ≤ 4611686018427387904) : Does Tryz.prog 8 [.agg #[.int .i64 9, .slice A bs.length c]] w [] (fun rv_ => [.exi fun (rA : Option Addr) => .exi fun (rc : Nat) => .exi fun (r : List (Sl × List B3)) => .sep (.pur (rv_ = .tuple #[.slice rA (tops r).length rc, .int .i64 ((lsR 9 bs).2)] ∧ conts r = (lsR 9 bs).1)) (.sep (Own 26 (SyC 9) rA rc (tops r)) (RowsA 65 B3C r))]) := by
 refine Does.enter Tryz.func8 rfl rfl [(0, .agg #[.int .i64 9, .slice A bs.length c])] rfl (V.seq (V.region (O.f rfl (Ef.box rfl rfl rfl) ?_)))
 rintro _ _ ⟨b1, rfl, rfl⟩
 refine O.m rfl (O.m rfl (O.nil (X.next (V.seq (V.seq (V.region (O.q rfl (Pu.loadAgg rfl ag26 sz26 rfl rfl (Ld.whole 0 rfl)) (O.f rfl (Ef.callP call44 rfl rfl (fun w hw => l10Nine_ok  (9 : Int) bs _ _ w ((Ld.old hx) w hw) (by first | omega | (simp only [tops_len, conts_len, bl, List.length_append, List.length_cons, List.length_nil] at *; omega)) )) ?_))))))))
 rintro _ _ ⟨rfl, rfl⟩
 refine O.m rfl (O.nil (X.next (V.seq (V.region (O.m rfl (O.q rfl (Pu.neq rfl rfl rfl) (O.nil (X.next (V.condNot rfl (fun c1 => ?_) (fun c1 => ?_))))))))))
 ·exact V.seq (V.region (O.m rfl (O.m rfl (O.m rfl (O.nil (X.next (V.ret (X.thenRet (X.ret2 rfl rfl rfl (fun w hw => St.mkExi none (St.mkExi 0 (St.mkExi [] (St.unsep (St.addPur ⟨(by rw [lsR_no c1]; try rfl), (by rw [lsR_no c1]; rfl)⟩ (St.unsep (St.addNil (T := 26) (C := (SyC 9)) (RowsA.nil (T := 65) (C := B3C) (hw.sub (Sub.nil _)))))))))))))))))))
 ·have hc1 : lfC (9 : Int) bs = 0 := by omega
  have hmem := (lf_zero hc1).2.2
  have hfl := few_len (v := 9) (.inr (.inr rfl))
  have hflt := few_lt (v := 9) (.inr (.inr rfl))
  have hbl := compM_len 40 9 0 _ hmem
  have hbc := comp_count 40 9 0 _ (by decide) hmem
  have hl36 : leftN 9 0 = 36 := by decide
  refine V.skip (X.next (V.seq (V.region (O.f rfl (Ef.call1 call45 rfl rfl (fun w hw => l10AllI_ok 40 (9 : Int) w   (by decide) (by decide) hfl.2.1 hflt (by decide))) ?_))))
  rintro _ _ rfl
  refine O.exi (fun r1A => O.exi (fun r1c => O.exi (fun r1 => O.sep (O.pur ?_))))
  rintro ⟨rfl, hr1_1⟩
  refine O.sep (O.fact (RowsA.len 1 rfl) (fun hn_r1 => ?_))
  have htl_r1 := tops_len r1
  replace hr1_1 : conts r1 = compM 40 9 0 := hr1_1
  have hclr1 := conts_len r1
  have hrn : r1.length = 840 := by rw [← hclr1, hr1_1]; exact nine_count
  refine O.m rfl (O.nil (X.next (V.seq (V.region (O.q rfl (Pu.loadAgg rfl ag26 sz26 rfl rfl (Ld.whole 2 rfl)) (O.m rfl (O.f rfl (Ef.call1 call46 rfl rfl (fun w hw => l10Large_ok  (9 : Int) bs (9 : Int) r1 1 _ _ _ _ w ((Ld.old hx) w hw) ((Ld.yy 0 1 (by exact rfl) (by exact rfl)) w hw) (by first | omega | (simp only [tops_len, conts_len, bl, List.length_append, List.length_cons, List.length_nil] at *; omega)) (by first | omega | (simp only [tops_len, conts_len, bl, List.length_append, List.length_cons, List.length_nil] at *; omega)) hmem hr1_1 (by decide) (by decide))) ?_)))))))
  rintro _ _ rfl
  refine O.exi (fun sb1 => O.sep (O.pur ?_))
  rintro rfl
  refine O.m rfl (O.nil (X.next (V.seq (V.seq ?_))))
  obtain ⟨L1, hL1⟩ : ∃ L1, L1 = (runC (fun j => decide (j < 1)) 0 (famL bs)) := ⟨_, rfl⟩
  rw [← hL1]
  clear hfl hflt
  refine V.famK (fun lA1 lk1 hA1 hk1 nA1 nk1 fA1 fk1 => V.region (O.m rfl (O.m rfl (O.q rfl (Pu.fieldAddr 4 rfl Tryz.underlying73 rfl sz2 rfl rfl) (O.q rfl (Pu.load rfl pl2 rfl (Ld.blk 0 rfl rfl)) (O.q rfl (Pu.eql rfl rfl rfl) (O.nil (X.next (V.condD rfl (fun c2 => ?_) (fun c2 => ?_))))))))))
  ·have hnil : famL bs = [] := one_none (by rw [← hL1]; omega)
   exact V.seq (V.region (O.m rfl (O.m rfl (O.nil (X.next (V.ret (X.thenRet (X.ret2 rfl rfl rfl (fun w hw => St.mkExi none (St.mkExi 0 (St.mkExi [] (St.unsep (St.addPur ⟨(by rw [lsR_none hc1 hnil]; try rfl), (by rw [lsR_none hc1 hnil]; rfl)⟩ (St.unsep (St.addNil (T := 26) (C := (SyC 9)) (RowsA.nil (T := 65) (C := B3C) (hw.sub (Sub.nil _))))))))))))))))))
  ·have hne : famL bs ≠ [] := one_some (by rw [← hL1]; omega)
   obtain ⟨F, hFe⟩ : ∃ F, F = headF bs := ⟨_, rfl⟩
   obtain ⟨js, hjs⟩ : ∃ js, js = headN bs := ⟨_, rfl⟩
   have hfo := headF_ok hmem hne
   have hjo := headN_ok hmem hne
   rw [← hFe] at hfo
   rw [← hjs] at hjo
   have hf0 : (L1.headD []) = F := by rw [hFe, hL1, one_head]; rfl
   have hfl0 := congrArg List.length hf0
   refine V.skip (X.next (V.seq (V.region (O.q rfl (Pu.loadAgg rfl ag26 sz26 rfl rfl (Ld.whole 7 rfl)) (O.f rfl (Ef.call1 call47 rfl rfl (fun w hw => l01CopyR_ok  (9 : Int) bs _ _ w ((Ld.old hx) w hw) (by first | omega | (simp only [tops_len, conts_len, bl, List.length_append, List.length_cons, List.length_nil] at *; omega)) (by first | assumption | omega | (try dsimp only at *; omega)) (by first | assumption | omega | (try dsimp only at *; omega)))) ?_)))))
   rintro _ _ rfl
   refine O.exi (fun r2A => O.exi (fun r2c => O.exi (fun r2 => O.sep (O.pur ?_))))
   rintro ⟨rfl, hr2_1⟩
   refine O.f rfl (Ef.build (SyC 9) ([⟨r2A, r2.length, r2c⟩] : List Sl) rfl Tryz.underlying28 inf26 rfl rfl rfl (by first | decide | (simp; done)) (by kernel_rfl)) ?_
   rintro _ _ ⟨A1, hA1, rfl, rfl⟩
   refine O.m rfl (O.nil (X.next (V.seq (V.seq (V.map (fun w hw => one_heap (xs := r2) (hw.sub (Sub.k (Sub.k (Sub.k (Sub.k (Sub.k (Sub.k (Sub.k (Sub.k (Sub.k (Sub.k (Sub.nil _))))))))))))) (V.region (O.m rfl (O.nil (X.next (V.block (V.loop3 (β := (Option Addr) × Nat × (List (Sl × List B3)) × Nat) (fun x => [(7, .slice x.1 (tops x.2.2.1).length x.2.1), (8, .int .i64 (x.2.2.2 : Int))]) _ (fun x => [Own 26 (SyC 9) x.1 x.2.1 (tops x.2.2.1), RowsA 65 B3C x.2.2.1]) _ (fun x => x.2.2.2 ≤ (L1.headD []).length ∧ conts x.2.2.1 = bs :: (js.take x.2.2.2).map (fun j => (compM 40 9 0).getD j [])) (fun x => (L1.headD []).length - x.2.2.2) (A1, 1, [((⟨r2A, r2.length, r2c⟩ : Sl), r2)], 0) (by (try dsimp only); exact ⟨by omega, by show [_] = _; rw [hr2_1]; rfl⟩) (Ent.cons rfl (Ent.cons rfl (Ent.nil _))) (Ent.cons (t := 5) rfl (Ent.cons (t := 6) rfl (Ent.nil _))) (Sub.k (Sub.k (Sub.k (Sub.k (Sub.k (Sub.k (Sub.k (Sub.k (Sub.k (Sub.k (Sub.nil _))))))))))) ?_)))))))))))
   rintro ⟨outA, outc, out, i⟩ ⟨hi, hout⟩
   dsimp only at hi hout ⊢
   have hcol := conts_len out
   have hol := congrArg List.length hout
   simp only [List.length_cons, List.length_map, List.length_take] at hol
   refine V.fact (RowsA.len 1 rfl) (fun hn_out => ?_)
   have htl_out := tops_len out
   refine V.seq (V.seq (V.region (O.m rfl (O.m rfl (O.m rfl (O.q rfl (Pu.fieldAddr 5 rfl Tryz.underlying73 rfl sz53 rfl rfl) (O.q rfl (Pu.load rfl pl53 rfl (Ld.blk 2 rfl rfl)) (O.q rfl (Pu.len rfl Tryz.underlying53 rfl) (O.q rfl (Pu.lss rfl rfl rfl) (O.nil (X.next (V.condD rfl (fun c3 => ?_) (fun c3 => ?_)))))))))))))
   ·refine V.skip (X.next (V.seq (V.block ?_)))
    have ei : i < (L1.headD []).length := by omega
    have hji : 0 ≤ (L1.headD [])[i]'ei ∧ (L1.headD [])[i]'ei < 840 := by have := hfo.2.2; rw [← hf0] at this; exact this _ (List.getElem_mem ei)
    have ejs : i < js.length := by omega
    have hjat : js[i]'ejs = ((L1.headD [])[i]'ei).toNat := headN_at (hf0.trans hFe) hjs _ _
    have hk1 : ((L1.headD [])[i]'ei).toNat < r1.length := by omega
    have hqm : (r1[((L1.headD [])[i]'ei).toNat]'hk1).2 ∈ compM 40 9 0 := by rw [← hr1_1]; exact List.mem_map_of_mem (List.getElem_mem hk1)
    have hql := compM_len 40 9 0 _ hqm
    have hqc := comp_count 40 9 0 _ (by decide) hqm
    have hgt : (compM 40 9 0).getD (js[i]'ejs) [] = (r1[((L1.headD [])[i]'ei).toNat]'hk1).2 := by rw [hjat]; exact row_getD hr1_1 hk1
    refine V.region (O.m rfl (O.m rfl (O.m rfl (O.m rfl (O.q rfl (Pu.fieldAddr 5 rfl Tryz.underlying73 rfl sz53 rfl rfl) (O.q rfl (Pu.load rfl pl53 rfl (Ld.blk 2 rfl rfl)) (O.m rfl (O.q rfl (Pu.indexAddrS (i) rfl Tryz.underlying53 sz2 rfl rfl (by omega) (by omega) (fun w hw => Own.some hw (i := 6) (by exact rfl) (by omega))) (O.q rfl (Pu.load rfl pl2 rfl (Ld.rd (Ld.own 6 (by exact rfl)) (k := i) ei rfl rfl)) (O.q rfl (Pu.indexAddrS ((((L1.headD [])[i]'ei)).toNat) rfl Tryz.underlying28 sz26 rfl rfl (by omega) (by omega) (fun w hw => Own.some hw (i := 7) (by exact rfl) (by omega))) ?_))))))))))
    have e1 : (((L1.headD [])[i]'ei)).toNat < r1.length := by have := tops_len r1; omega
    refine O.q rfl (Pu.loadAgg' (v := .agg #[.int .i64 (9 : Int), .slice (r1[(((L1.headD [])[i]'ei)).toNat]'e1).1.A (r1[(((L1.headD [])[i]'ei)).toNat]'e1).2.length (r1[(((L1.headD [])[i]'ei)).toNat]'e1).1.c]) rfl rfl ag26 sz26 rfl rfl (Ld.rowY (Ld.own 7 (by exact rfl)) hn_r1 e1 rfl)) (O.f rfl (Ef.call1 call47 rfl rfl (fun w hw => l01CopyR_ok  (9 : Int) ((r1[(((L1.headD [])[i]'ei)).toNat]'e1).2) _ _ w ((Ld.rows 8 (by exact rfl) e1) w hw) (by first | omega | (simp only [tops_len, conts_len, bl, List.length_append, List.length_cons, List.length_nil] at *; omega)) (by first | assumption | omega | (try dsimp only at *; omega)) (by first | assumption | omega | (try dsimp only at *; omega)))) ?_)
    rintro _ _ rfl
    refine O.exi (fun r3A => O.exi (fun r3c => O.exi (fun r3 => O.sep (O.pur ?_))))
    rintro ⟨rfl, hr3_1⟩
    refine O.f rfl (Ef.build (SyC 9) ([⟨r3A, r3.length, r3c⟩] : List Sl) rfl Tryz.underlying28 inf26 rfl rfl rfl (by first | decide | (simp; done)) (by kernel_rfl)) ?_
    rintro _ _ ⟨A2, hA2, rfl, rfl⟩
    refine O.f rfl (Ef.append (xs := (tops out)) (ys := ([⟨r3A, r3.length, r3c⟩] : List Sl)) 2 rfl Tryz.underlying28 inf26 rfl rfl rfl rfl rfl rfl hA2 (Ld.own 0 (by exact rfl)) (by simp only [List.length_append, List.length_cons, List.length_nil] at *; omega) (by decide)) ?_
    rintro _ _ ⟨A3, k1, rfl, rfl, hA3⟩
    replace hA3 := hA3 (.inr (by simp))
    exact O.map (fun w hw => snoc_heap (ps := out) (xs := r3) (hw.sub (Sub.keep 2 rfl (Sub.keep 2 rfl (Sub.keep 1 rfl (Sub.k (Sub.k (Sub.k (Sub.k (Sub.k (Sub.k (Sub.k (Sub.k (Sub.k (Sub.nil _))))))))))))))) (O.m rfl (O.nil (X.blockNormal (X.next (V.region (O.m rfl (O.q rfl (Pu.add64 (r := ((i + 1 : Nat) : Int)) rfl (by omega) rfl rfl rfl) (O.m rfl (O.nil (X.back3 (A3, k1, (out ++ [((⟨r3A, r3.length, r3c⟩ : Sl), r3)]), i + 1) (by (try dsimp only); exact ⟨by omega, by rw [conts_append, hout, take_snoc ejs, List.map_append, List.cons_append]; simp only [List.map_cons, List.map_nil]; rw [hgt, ← hr3_1]; rfl⟩) (by first | omega | (dsimp only; omega)) (Ent.cons' rfl (by first | rfl | (simp only [tops_append]; done) | (simp only [tops_append]; rfl)) (Ent.cons rfl (Ent.nil _))) (Ent.cons (t := 5) rfl (Ent.cons (t := 6) rfl (Ent.nil _))) (Sub.k (Sub.k (Sub.keep 1 rfl (Sub.keep 1 rfl (Sub.keep 1 rfl (Sub.keep 1 rfl (Sub.keep 1 rfl (Sub.keep 1 rfl (Sub.keep 1 rfl (Sub.keep 1 rfl (Sub.nil _)))))))))))))))))))))
   ·refine V.exit (X.thenExit (X.thenExit (X.blockHit (X.next (V.seq (V.region (O.m rfl (O.m rfl (O.m rfl (O.nil (X.next ?_)))))))))))
    exact V.ret (X.ret2 rfl rfl rfl (fun w hw => St.mkExi outA (St.mkExi outc (St.mkExi out (St.unsep (St.addPur ⟨(by rw [lsR_yes hc1 hne]), (by rw [lsR_yes hc1 hne, hout, List.take_of_length_le (by omega), hjs])⟩ (St.unsep (hw.sub (Sub.k (Sub.k (Sub.nil _)))))))))))
set_option maxRecDepth 100000 in
set_option maxHeartbeats 1000000 in
theorem specLargeN_ok (v : Int) (bs : List B3) (A : Option Addr) (c : Nat) (w : World) (hx : Rd B3C w A bs) (lx : bs.length ≤ 4611686018427387904) (h9 : ¬ v = 9) : Does Tryz.prog 8 [.agg #[.int .i64 v, .slice A bs.length c]] w [] (fun rv_ => [.exi fun (rA : Option Addr) => .exi fun (rc : Nat) => .exi fun (r : List (Sl × List B3)) => .sep (.pur (rv_ = .tuple #[.slice rA (tops r).length rc, .int .i64 ((lsR v bs).2)] ∧ conts r = (lsR v bs).1)) (.sep (Own 26 (SyC 9) rA rc (tops r)) (RowsA 65 B3C r))]) := by
 refine Does.enter Tryz.func8 rfl rfl [(0, .agg #[.int .i64 v, .slice A bs.length c])] rfl (V.seq (V.region (O.f rfl (Ef.box rfl rfl rfl) ?_)))
 rintro _ _ ⟨b1, rfl, rfl⟩
 refine O.m rfl (O.m rfl (O.nil (X.next (V.seq (V.seq (V.region (O.q rfl (Pu.loadAgg rfl ag26 sz26 rfl rfl (Ld.whole 0 rfl)) (O.f rfl (Ef.callP call44 rfl rfl (fun w hw => l10Nine_ok  v bs _ _ w ((Ld.old hx) w hw) (by first | omega | (simp only [tops_len, conts_len, bl, List.length_append, List.length_cons, List.length_nil] at *; omega)) )) ?_))))))))
 rintro _ _ ⟨rfl, rfl⟩
 refine O.m rfl (O.nil (X.next (V.seq (V.region (O.m rfl (O.q rfl (Pu.neq rfl rfl rfl) (O.nil (X.next (V.condNot rfl (fun c1 => ?_) (fun c1 => ?_))))))))))
 ·exact V.seq (V.region (O.m rfl (O.m rfl (O.m rfl (O.nil (X.next (V.ret (X.thenRet (X.ret2 rfl rfl rfl (fun w hw => St.mkExi none (St.mkExi 0 (St.mkExi [] (St.unsep (St.addPur ⟨(by rw [lsR_no c1]; try rfl), (by rw [lsR_no c1]; rfl)⟩ (St.unsep (St.addNil (T := 26) (C := (SyC 9)) (RowsA.nil (T := 65) (C := B3C) (hw.sub (Sub.nil _)))))))))))))))))))
 ·exact absurd (lf_zero (by omega)).2.1 h9
theorem specLargeSetWith_ok (v : Int) (bs : List B3) (A : Option Addr) (c : Nat) (w : World) (hx : Rd B3C w A bs) (lx : bs.length ≤ 4611686018427387904) : Does Tryz.prog 8 [.agg #[.int .i64 v, .slice A bs.length c]] w [] (fun rv_ => [.exi fun (rA : Option Addr) => .exi fun (rc : Nat) => .exi fun (r : List (Sl × List B3)) => .sep (.pur (rv_ = .tuple #[.slice rA (tops r).length rc, .int .i64 ((lsR v bs).2)] ∧ conts r = (lsR v bs).1)) (.sep (Own 26 (SyC 9) rA rc (tops r)) (RowsA 65 B3C r))]) := by
 by_cases h9 : v = 9
 ·subst h9; exact specLarge9_ok bs A c w hx lx
 ·exact specLargeN_ok v bs A c w hx lx h9
set_option maxRecDepth 100000 in
set_option maxHeartbeats 1000000 in
theorem turned_ok (v : Int) (bs : List B3) (k : Int) (A : Option Addr) (c : Nat) (w : World) (hx : Rd B3C w A bs) (lx : bs.length ≤ 4611686018427387904) (hS : STS v bs) (hk : 0 ≤ k ∧ k < v) : Does Tryz.prog 52 [.agg #[.int .i64 v, .slice A bs.length c], .int .i64 k] w [] (fun rv_ => [.exi fun (rA : Option Addr) => .exi fun (rc : Nat) => .exi fun (r : List B3) => .sep (.pur (rv_ = .agg #[.int .i64 v, .slice rA r.length rc] ∧ r.Perm (turnB v k bs) ∧ SrtB r)) (Own 65 B3C rA rc r)]) := by
 refine Does.enter Tryz.func52 rfl rfl [(0, .agg #[.int .i64 v, .slice A bs.length c]), (1, .int .i64 k)] rfl ?_
 have hlo := hS.lo
 have hhi := hS.hi
 have hfw := hS.few
 refine V.seq (V.region (O.f rfl (Ef.box rfl rfl rfl) ?_))
 rintro _ _ ⟨b1, rfl, rfl⟩
 refine O.f rfl (Ef.alloc rfl zr26 rfl) ?_
 rintro _ _ ⟨b2, rfl, rfl⟩
 refine O.nil (X.next (V.seq (V.region (O.m rfl (O.nil (X.next (V.seq (V.seq (V.region (O.q rfl (Pu.fieldAddr 0 rfl Tryz.underlying26 rfl sz2 rfl rfl) (O.q rfl (Pu.load rfl pl2 rfl (Ld.blk 1 rfl rfl)) ?_)))))))))))
 refine O.m rfl (O.nil (X.next (V.block (V.map (fun w hw => St.addNil (T := 2) (C := I64) hw) (V.loop3 (β := (Option Addr) × Nat × (List Int) × Nat) (fun x => [(5, .slice x.1 x.2.2.1.length x.2.1), (9, .int .i64 (x.2.2.2 : Int))]) _ (fun x => [Own 2 I64 x.1 x.2.1 x.2.2.1]) _ (fun x => x.2.2.2 ≤ v.toNat ∧ x.2.2.1 = turnL v k x.2.2.2) (fun x => v.toNat - x.2.2.2) (none, 0, [], 0) (by (try dsimp only); exact ⟨by omega, rfl⟩) (Ent.cons rfl (Ent.cons rfl (Ent.nil _))) (Ent.cons (t := 1) rfl (Ent.cons (t := 2) rfl (Ent.cons (t := 4) rfl (Ent.cons (t := 8) rfl (Ent.nil _))))) (Sub.k (Sub.k (Sub.k (Sub.nil _)))) ?_)))))
 rintro ⟨pA, pc, p, a⟩ ⟨ha, hp⟩
 dsimp only at ha hp ⊢
 have hpl : p.length = a := by rw [hp, turnL_len]
 refine V.seq (V.region (O.q rfl (Pu.lss rfl rfl rfl) (O.nil (X.next (V.seq (V.condD rfl (fun c1 => ?_) (fun c1 => ?_)))))))
 ·refine V.skip (X.next (V.seq (V.block (V.seq (V.region (O.m rfl (O.m rfl (O.nil (X.next (V.region (O.m rfl ?_)))))))))))
  refine O.m rfl (O.m rfl (O.q rfl (Pu.add64 rfl (by omega) rfl rfl rfl) (O.q rfl (Pu.fieldAddr 0 rfl Tryz.underlying26 rfl sz2 rfl rfl) (O.q rfl (Pu.load rfl pl2 rfl (Ld.blk 2 rfl rfl)) (O.q rfl (Pu.rem64 (by omega) (by omega) rfl rfl rfl) (O.f rfl (Ef.build I64 ([(((↑a : Int) + k) % v)] : List Int) rfl Tryz.underlying53 inf2 rfl rfl rfl (by first | decide | (simp; done)) (by kernel_rfl)) ?_))))))
  rintro _ _ ⟨A1, hA1, rfl, rfl⟩
  refine O.f rfl (Ef.append (xs := p) (ys := ([(((↑a : Int) + k) % v)] : List Int)) 1 rfl Tryz.underlying53 inf2 rfl rfl rfl rfl rfl rfl hA1 (Ld.own 0 (by exact rfl)) (by simp only [List.length_append, List.length_cons, List.length_nil] at *; omega) (by decide)) ?_
  rintro _ _ ⟨A2, k1, rfl, rfl, hA2⟩
  replace hA2 := hA2 (.inr (by simp))
  exact O.m rfl (O.nil (X.blockNormal (X.next (V.region (O.q rfl (Pu.add64 (r := ((a + 1 : Nat) : Int)) rfl (by omega) rfl rfl rfl) (O.m rfl (O.nil (X.back3 (A2, k1, (p ++ ([(((↑a : Int) + k) % v)] : List Int)), a + 1) (by (try dsimp only); exact ⟨by omega, by rw [turnL_snoc, hp]⟩) (by first | omega | (dsimp only; omega)) (Ent.cons rfl (Ent.cons rfl (Ent.nil _))) (Ent.cons (t := 1) rfl (Ent.cons (t := 2) rfl (Ent.cons (t := 4) rfl (Ent.cons (t := 8) rfl (Ent.nil _))))) (Sub.keep 1 rfl (Sub.keep 1 rfl (Sub.keep 1 rfl (Sub.nil _))))))))))))
 ·refine V.exit (X.thenExit (X.thenExit (X.blockHit (X.next (V.seq (V.region (O.q rfl (Pu.loadAgg rfl ag26 sz26 rfl rfl (Ld.whole 2 rfl)) (O.m rfl (O.f rfl (Ef.call1 call91 rfl rfl (fun w hw => renumbered_ok  v bs p _ _ _ _ w ((Ld.old hx) w hw) ((Ld.own 0 (by exact rfl)) w hw) (by first | omega | (simp only [tops_len, conts_len, bl, List.length_append, List.length_cons, List.length_nil] at *; omega)) (by first | omega | (simp only [tops_len, conts_len, bl, List.length_append, List.length_cons, List.length_nil] at *; omega)) (by rw [hp, show a = v.toNat by omega]; exact good_len hS) (by omega))) ?_)))))))))
  rintro _ _ rfl
  refine O.exi (fun r1A => O.exi (fun r1c => O.exi (fun r1 => O.sep (O.pur ?_))))
  rintro ⟨rfl, hr1_1, hr1_2⟩
  refine O.s rfl rfl (Ef.storeAll 2 rfl sz26 rfl rfl rfl rfl (by simp [Value.oneCell']) rfl) ?_
  rintro _ _ rfl
  exact O.nil (X.next (V.ret (X.retCell rfl ag26 sz26 rfl rfl (Ld.whole 2 rfl) (fun w hw => St.mkExi r1A (St.mkExi r1c (St.mkExi r1 (St.unsep (St.addPur ⟨rfl, by rw [hp, show a = v.toNat by omega] at hr1_1; exact hr1_1, hr1_2⟩ (hw.sub (Sub.k (Sub.nil _)))))))))))
set_option maxRecDepth 100000 in
set_option maxHeartbeats 1000000 in
theorem implTurnSystem_ok (v : Int) (bs : List B3) (k : Int) (A : Option Addr) (c : Nat) (w : World) (hx : Rd B3C w A bs) (lx : bs.length ≤ 4611686018427387904) : Does Tryz.prog 11 [.agg #[.int .i64 v, .slice A bs.length c], .int .i64 k] w [] (fun rv_ => [.exi fun (rA : Option Addr) => .exi fun (rc : Nat) => .exi fun (r : List B3) => .sep (.pur (rv_ = .tuple #[.agg #[.int .i64 (if STS v bs ∧ 0 ≤ k ∧ k ≤ v - 1 then v else 0), .slice rA r.length rc], .int .i64 (if STS v bs then if 0 ≤ k ∧ k ≤ v - 1 then 0 else 2 else 1)] ∧ TSR v bs k r)) (Own 65 B3C rA rc r)]) := by
 refine Does.enter Tryz.func11 rfl rfl [(0, .agg #[.int .i64 v, .slice A bs.length c]), (1, .int .i64 k)] rfl (V.seq (V.region (O.f rfl (Ef.box rfl rfl rfl) ?_)))
 rintro _ _ ⟨b1, rfl, rfl⟩
 refine O.f rfl (Ef.alloc rfl zr26 rfl) ?_
 rintro _ _ ⟨b2, rfl, rfl⟩
 refine O.m rfl (O.nil (X.next (V.seq (V.seq (V.region (O.q rfl (Pu.loadAgg rfl ag26 sz26 rfl rfl (Ld.whole 1 rfl)) (O.f rfl (Ef.callP call50 rfl rfl (fun w hw => IsSystem_ok _ bs _ _ w ((Ld.old hx) w hw) (by omega))) ?_)))))))
 rintro _ _ ⟨rfl, rfl⟩
 refine O.q rfl (Pu.not rfl rfl) (O.nil (X.next (V.condNot rfl (fun c1 => ?_) (fun c1 => ?_))))
 ·refine V.seq (V.region (O.q rfl (Pu.buildS (cs := [.int .i64 (0 : Int), .slice none 0 0]) rfl rfl Tryz.underlying26 zr26 (by kernel_rfl) rfl (by kernel_rfl)) (O.s rfl rfl (Ef.storeAll 0 rfl sz26 rfl rfl rfl rfl (by simp [Value.oneCell']) rfl) ?_)))
  rintro _ _ rfl
  exact O.m rfl (O.nil (X.next (V.ret (X.thenRet (X.retCell2 rfl ag26 sz26 rfl rfl rfl (Ld.whole 0 rfl) (fun w hw => St.mkExi none (St.mkExi 0 (St.mkExi [] (St.unsep (St.addPur ⟨(by rw [if_neg (fun h => c1 h.1), if_neg c1]; rfl), (by unfold TSR; rw [if_neg (fun h => c1 h.1)])⟩ (St.addNil (T := 65) (C := B3C) (hw.sub (Sub.nil _)))))))))))))
 ·have hlo := c1.lo
  have hhi := c1.hi
  have hfw := c1.few
  refine V.skip (X.next (V.seq (V.seq (V.region (O.m rfl (O.q rfl (Pu.fieldAddr 0 rfl Tryz.underlying26 rfl sz2 rfl rfl) (O.q rfl (Pu.load rfl pl2 rfl (Ld.blk 1 rfl rfl)) (O.q rfl (Pu.sub64 rfl (by omega) rfl rfl rfl) (O.f rfl (Ef.callP call51 rfl rfl (fun w hw => within_ok _ _ _ _)) ?_)))))))))
  rintro _ _ ⟨rfl, rfl⟩
  refine O.q rfl (Pu.not rfl rfl) (O.nil (X.next (V.condNot rfl (fun c2 => ?_) (fun c2 => ?_))))
  ·refine V.seq (V.region (O.q rfl (Pu.buildS (cs := [.int .i64 (0 : Int), .slice none 0 0]) rfl rfl Tryz.underlying26 zr26 (by kernel_rfl) rfl (by kernel_rfl)) (O.s rfl rfl (Ef.storeAll 0 rfl sz26 rfl rfl rfl rfl (by simp [Value.oneCell']) rfl) ?_)))
   rintro _ _ rfl
   exact O.m rfl (O.nil (X.next (V.ret (X.thenRet (X.retCell2 rfl ag26 sz26 rfl rfl rfl (Ld.whole 0 rfl) (fun w hw => St.mkExi none (St.mkExi 0 (St.mkExi [] (St.unsep (St.addPur ⟨(by rw [if_neg (fun h => c2 h.2), if_pos c1, if_neg c2]; rfl), (by unfold TSR; rw [if_neg (fun h => c2 h.2)])⟩ (St.addNil (T := 65) (C := B3C) (hw.sub (Sub.nil _)))))))))))))
  ·refine V.skip (X.next (V.seq (V.region (O.q rfl (Pu.loadAgg rfl ag26 sz26 rfl rfl (Ld.whole 1 rfl)) (O.m rfl (O.f rfl (Ef.call1 call52 rfl rfl (fun w hw => turned_ok  v bs k _ _ w ((Ld.old hx) w hw) (by first | omega | (simp only [tops_len, conts_len, bl, List.length_append, List.length_cons, List.length_nil] at *; omega)) c1 ⟨c2.1, by omega⟩)) ?_))))))
   rintro _ _ rfl
   refine O.exi (fun r1A => O.exi (fun r1c => O.exi (fun r1 => O.sep (O.pur ?_))))
   rintro ⟨rfl, hr1_1, hr1_2⟩
   refine O.s rfl rfl (Ef.storeAll 1 rfl sz26 rfl rfl rfl rfl (by simp [Value.oneCell']) rfl) ?_
   rintro _ _ rfl
   exact O.m rfl (O.nil (X.next (V.ret (X.retCell2 rfl ag26 sz26 rfl rfl rfl (Ld.whole 1 rfl) (fun w hw => St.mkExi r1A (St.mkExi r1c (St.mkExi r1 (St.unsep (St.addPur ⟨(by rw [if_pos ⟨c1, c2⟩, if_pos c1, if_pos c2]), (by unfold TSR; rw [if_pos ⟨c1, c2⟩]; exact ⟨hr1_1, hr1_2⟩)⟩ (hw.sub (Sub.k (Sub.nil _))))))))))))
set_option maxRecDepth 100000 in
set_option maxHeartbeats 1000000 in
theorem implMateByTurning_ok (v : Int) (bs : List B3) (A : Option Addr) (c : Nat) (w : World) (hx : Rd B3C w A bs) (lx : bs.length ≤ 4611686018427387904) : Does Tryz.prog 15 [.agg #[.int .i64 v, .slice A bs.length c]] w [] (fun rv_ => [.exi fun (r : Int) => .exi fun (code : Int) => .pur (rv_ = .tuple #[.int .i64 r, .int .i64 code] ∧ MTR v bs r code)]) := by
 refine Does.enter Tryz.func15 rfl rfl [(0, .agg #[.int .i64 v, .slice A bs.length c])] rfl (V.seq (V.region (O.f rfl (Ef.box rfl rfl rfl) ?_)))
 rintro _ _ ⟨b1, rfl, rfl⟩
 refine O.m rfl (O.m rfl (O.nil (X.next (V.seq (V.seq (V.region (O.q rfl (Pu.loadAgg rfl ag26 sz26 rfl rfl (Ld.whole 0 rfl)) (O.f rfl (Ef.callP call50 rfl rfl (fun w hw => IsSystem_ok _ bs _ _ w ((Ld.old hx) w hw) (by omega))) ?_))))))))
 rintro _ _ ⟨rfl, rfl⟩
 refine O.q rfl (Pu.not rfl rfl) (O.nil (X.next (V.condNot rfl (fun c1 => ?_) (fun c1 => ?_))))
 ·exact V.seq (V.region (O.m rfl (O.m rfl (O.nil (X.next (V.ret (X.thenRet (X.ret2 rfl rfl rfl (fun w hw => St.mkExi (0 : Int) (St.mkExi (1 : Int) (St.addPur ⟨rfl, ⟨fun _ => ⟨rfl, rfl⟩, fun h => absurd h c1⟩⟩ (hw.sub (Sub.nil _)))))))))))))
 ·have hS := c1
  have hlo := c1.lo
  have hhi := c1.hi
  have hfw := c1.few
  refine V.skip (X.next (V.seq (V.seq (V.region (O.m rfl (O.nil (X.next (V.block (V.loop3 (β := Int) (fun k => [(4, .int .i64 (k : Int))]) _ (fun k => []) _ (fun k => 1 ≤ k ∧ k ≤ v ∧ ∀ j, 1 ≤ j → j < k → ¬ apT v bs j) (fun k => (v - k).toNat) (1 : Int) ⟨by omega, by omega, fun j h1 h2 => by omega⟩ (Ent.cons rfl (Ent.nil _)) (Ent.cons (t := 1) rfl (Ent.nil _)) (Sub.k (Sub.nil _)) ?_)))))))))
  rintro k ⟨hk1, hkv, hno⟩
  refine V.seq (V.seq (V.region (O.m rfl (O.q rfl (Pu.fieldAddr 0 rfl Tryz.underlying26 rfl sz2 rfl rfl) (O.q rfl (Pu.load rfl pl2 rfl (Ld.blk 0 rfl rfl)) (O.q rfl (Pu.lss rfl rfl rfl) (O.nil (X.next (V.condD rfl (fun c2 => ?_) (fun c2 => ?_))))))))))
  ·refine V.skip (X.next (V.seq (V.block (V.seq (V.draw mo (by kernel_rfl) (fun hwf => D.q 0 rfl (Pu.fieldAddr 1 rfl Tryz.underlying26 rfl sz24 rfl rfl) (D.q 1 rfl (Pu.load rfl pl24 rfl (Ld.blk 0 rfl rfl)) (D.q 2 rfl (Pu.loadAgg rfl ag26 sz26 rfl rfl (Ld.whole 0 rfl)) (D.m 3 rfl (D.f hwf 4 rfl (Ef.call1 call52 rfl rfl (fun w hw => turned_ok  v bs k _ _ w ((Ld.old hx) w hw) (by first | omega | (simp only [tops_len, conts_len, bl, List.length_append, List.length_cons, List.length_nil] at *; omega)) hS ⟨by omega, by omega⟩)) ?_))))))))))
   rintro _ _ rfl hs
   refine ⟨fun w hw => hs w hw.tail, (D.exi (fun r1A => D.exi (fun r1c => D.exi (fun r1 => D.sep (D.pur1 ?_)))))⟩
   rintro ⟨rfl, hr1_1, hr1_2⟩
   refine D.q 5 rfl (Pu.field rfl Tryz.underlying26 rfl pl24 rfl rfl) (D.f hwf 6 rfl (Ef.call1 call57 rfl rfl (fun w hw => implCommon_ok  bs r1 _ _ _ _ w ((Ld.old hx) w hw) ((Ld.own 0 (by exact rfl)) w hw) (by first | omega | (simp only [tops_len, conts_len, bl, List.length_append, List.length_cons, List.length_nil] at *; omega)) (by rw [hr1_1.length_eq]; simp only [turnB, List.length_map]; omega) )) ?_)
   rintro _ _ rfl hs
   refine ⟨fun w hw => hs w hw.tail, (D.exi (fun r2A => D.exi (fun r2c => D.exi (fun r2 => D.sep (D.pur1 ?_)))))⟩
   rintro ⟨rfl, hr2_1⟩
   refine D.q 7 rfl (Pu.len rfl Tryz.underlying24 rfl) (D.q 8 rfl (Pu.eql rfl rfl rfl) (D.done hwf rfl (X.next (V.condD rfl (fun c3 => ?_) (fun c3 => ?_)))))
   ·have hap := (apT_iff hr1_1).1 (by rw [← hr2_1]; omega)
    refine V.seq (V.region (O.m rfl (O.m rfl (O.m rfl (O.nil (X.next (V.ret (X.blockRet (X.thenRet (X.thenRet (X.blockRet ?_)))))))))))
    exact X.thenRet (X.ret2 rfl rfl rfl (fun w hw => St.mkExi k (St.mkExi (0 : Int) (St.addPur ⟨rfl, ⟨fun h => absurd hS h, fun _ => .inl ⟨hk1, by omega, hap, hno, rfl⟩⟩⟩ (hw.sub (Sub.nil _))))))
   ·have hap : ¬ apT v bs k := fun h => c3 (by have h2 := (apT_iff hr1_1).2 h; rw [← hr2_1] at h2; omega)
    exact V.skip (X.blockNormal (X.next (V.region (O.m rfl (O.q rfl (Pu.add64 rfl (by omega) rfl rfl rfl) (O.m rfl (O.nil (X.back3 (k + (1 : Int)) ⟨by omega, by omega, fun j h1 h2 => by by_cases e : j = k; (· subst e; exact hap); (· exact hno j h1 (by omega))⟩ (by first | omega | (dsimp only; omega)) (Ent.cons rfl (Ent.nil _)) (Ent.cons (t := 1) rfl (Ent.nil _)) (Sub.keep 2 rfl (Sub.nil _))))))))))
  ·refine V.exit (X.thenExit (X.thenExit (X.blockHit (X.next (V.seq (V.region (O.m rfl (O.m rfl (O.nil (X.next (V.ret ?_)))))))))))
   exact X.ret2 rfl rfl rfl (fun w hw => St.mkExi (0 : Int) (St.mkExi (4 : Int) (St.addPur ⟨rfl, ⟨fun h => absurd hS h, fun _ => .inr ⟨fun j h1 h2 => hno j h1 (by omega), rfl, rfl⟩⟩⟩ (hw.sub (Sub.nil _)))))
set_option maxRecDepth 100000 in
set_option maxHeartbeats 1000000 in
theorem l10TurnedL_ok (v : Int) (bs : List B3) (k : Int) (A : Option Addr) (c : Nat) (w : World) (hx : Rd B3C w A bs) (lx : bs.length ≤ 4611686018427387904) (hS : STS v bs) (hk : 0 ≤ k ∧ k < v) : Does Tryz.prog 55 [.agg #[.int .i64 v, .slice A bs.length c], .int .i64 k] w [] (fun rv_ => [.exi fun (rA : Option Addr) => .exi fun (rc : Nat) => .exi fun (r : List B3) => .sep (.pur (rv_ = .agg #[.int .i64 v, .slice rA r.length rc] ∧ r.Perm (turnB v k bs) ∧ SrtB r)) (Own 65 B3C rA rc r)]) := by
 refine Does.enter Tryz.func55 rfl rfl [(0, .agg #[.int .i64 v, .slice A bs.length c]), (1, .int .i64 k)] rfl ?_
 have hlo := hS.lo
 have hhi := hS.hi
 have hfw := hS.few
 refine V.seq (V.region (O.f rfl (Ef.box rfl rfl rfl) ?_))
 rintro _ _ ⟨b1, rfl, rfl⟩
 refine O.f rfl (Ef.alloc rfl zr26 rfl) ?_
 rintro _ _ ⟨b2, rfl, rfl⟩
 refine O.nil (X.next (V.seq (V.region (O.f rfl (Ef.build I64 ([] : List Int) rfl Tryz.underlying53 inf2 rfl rfl rfl (by first | decide | (simp; done)) (by kernel_rfl)) ?_))))
 rintro _ _ ⟨A1, hA1, rfl, rfl⟩
 refine O.m rfl (O.nil (X.next (V.seq (V.seq (V.region (O.m rfl (O.nil (X.next (V.block (V.loop3 (β := (Option Addr) × Nat × (List Int) × Nat) (fun x => [(5, .slice x.1 x.2.2.1.length x.2.1), (6, .int .i64 (x.2.2.2 : Int))]) _ (fun x => [Own 2 I64 x.1 x.2.1 x.2.2.1]) _ (fun x => x.2.2.2 ≤ v.toNat ∧ x.2.2.1 = turnL v k x.2.2.2) (fun x => v.toNat - x.2.2.2) (A1, 0, ([] : List Int), 0) (by (try dsimp only); exact ⟨by omega, rfl⟩) (Ent.cons rfl (Ent.cons rfl (Ent.nil _))) (Ent.cons (t := 1) rfl (Ent.cons (t := 2) rfl (Ent.cons (t := 4) rfl (Ent.nil _)))) (Sub.k (Sub.k (Sub.k (Sub.nil _)))) ?_))))))))))
 rintro ⟨listA, listc, list, a⟩ ⟨ha, hp⟩
 dsimp only at ha hp ⊢
 have hpl : list.length = a := by rw [hp, turnL_len]
 refine V.seq (V.seq (V.region (O.m rfl (O.q rfl (Pu.fieldAddr 0 rfl Tryz.underlying26 rfl sz2 rfl rfl) (O.q rfl (Pu.load rfl pl2 rfl (Ld.blk 2 rfl rfl)) (O.q rfl (Pu.lss rfl rfl rfl) (O.nil (X.next (V.condD rfl (fun c1 => ?_) (fun c1 => ?_))))))))))
 ·refine V.skip (X.next (V.seq (V.block (V.region (O.m rfl (O.m rfl (O.m rfl (O.q rfl (Pu.add64 rfl (by omega) rfl rfl rfl) (O.q rfl (Pu.fieldAddr 0 rfl Tryz.underlying26 rfl sz2 rfl rfl) (O.q rfl (Pu.load rfl pl2 rfl (Ld.blk 2 rfl rfl)) (O.q rfl (Pu.rem64 (by omega) (by omega) rfl rfl rfl) ?_)))))))))))
  refine O.f rfl (Ef.build I64 ([(((↑a : Int) + k) % v)] : List Int) rfl Tryz.underlying53 inf2 rfl rfl rfl (by first | decide | (simp; done)) (by kernel_rfl)) ?_
  rintro _ _ ⟨A2, hA2, rfl, rfl⟩
  refine O.f rfl (Ef.append (xs := list) (ys := ([(((↑a : Int) + k) % v)] : List Int)) 1 rfl Tryz.underlying53 inf2 rfl rfl rfl rfl rfl rfl hA2 (Ld.own 0 (by exact rfl)) (by simp only [List.length_append, List.length_cons, List.length_nil] at *; omega) (by decide)) ?_
  rintro _ _ ⟨A3, k1, rfl, rfl, hA3⟩
  replace hA3 := hA3 (.inr (by simp))
  exact O.m rfl (O.nil (X.blockNormal (X.next (V.region (O.m rfl (O.q rfl (Pu.add64 (r := ((a + 1 : Nat) : Int)) rfl (by omega) rfl rfl rfl) (O.m rfl (O.nil (X.back3 (A3, k1, (list ++ ([(((↑a : Int) + k) % v)] : List Int)), a + 1) (by (try dsimp only); exact ⟨by omega, by rw [turnL_snoc, hp]⟩) (by first | omega | (dsimp only; omega)) (Ent.cons rfl (Ent.cons rfl (Ent.nil _))) (Ent.cons (t := 1) rfl (Ent.cons (t := 2) rfl (Ent.cons (t := 4) rfl (Ent.nil _)))) (Sub.keep 1 rfl (Sub.keep 1 rfl (Sub.keep 1 rfl (Sub.nil _)))))))))))))
 ·refine V.exit (X.thenExit (X.thenExit (X.blockHit (X.next (V.seq (V.region (O.q rfl (Pu.loadAgg rfl ag26 sz26 rfl rfl (Ld.whole 2 rfl)) (O.m rfl (O.f rfl (Ef.call1 call60 rfl rfl (fun w hw => l01RenamedD_ok  v bs list _ _ _ _ w ((Ld.old hx) w hw) ((Ld.own 0 (by exact rfl)) w hw) (by first | omega | (simp only [tops_len, conts_len, bl, List.length_append, List.length_cons, List.length_nil] at *; omega)) (by first | omega | (simp only [tops_len, conts_len, bl, List.length_append, List.length_cons, List.length_nil] at *; omega)) (by rw [hp, show a = v.toNat by omega]; exact good_len hS) (by omega) (by intro q hq; rw [hp] at hq; have := turnL_mem (by omega) hq; omega))) ?_)))))))))
  rintro _ _ rfl
  refine O.exi (fun r1A => O.exi (fun r1c => O.exi (fun r1 => O.sep (O.pur ?_))))
  rintro ⟨rfl, hr1_1, hr1_2⟩
  refine O.s rfl rfl (Ef.storeAll 2 rfl sz26 rfl rfl rfl rfl (by simp [Value.oneCell']) rfl) ?_
  rintro _ _ rfl
  exact O.nil (X.next (V.ret (X.retCell rfl ag26 sz26 rfl rfl (Ld.whole 2 rfl) (fun w hw => St.mkExi r1A (St.mkExi r1c (St.mkExi r1 (St.unsep (St.addPur ⟨rfl, by rw [hp, show a = v.toNat by omega] at hr1_1; exact hr1_1, hr1_2⟩ (hw.sub (Sub.k (Sub.nil _)))))))))))
set_option maxRecDepth 100000 in
set_option maxHeartbeats 1000000 in
theorem specTurnSystem_ok (v : Int) (bs : List B3) (k : Int) (A : Option Addr) (c : Nat) (w : World) (hx : Rd B3C w A bs) (lx : bs.length ≤ 4611686018427387904) : Does Tryz.prog 12 [.agg #[.int .i64 v, .slice A bs.length c], .int .i64 k] w [] (fun rv_ => [.exi fun (rA : Option Addr) => .exi fun (rc : Nat) => .exi fun (r : List B3) => .sep (.pur (rv_ = .tuple #[.agg #[.int .i64 (if STS v bs ∧ 0 ≤ k ∧ k ≤ v - 1 then v else 0), .slice rA r.length rc], .int .i64 (if STS v bs then if 0 ≤ k ∧ k ≤ v - 1 then 0 else 2 else 1)] ∧ TSR v bs k r)) (Own 65 B3C rA rc r)]) := by
 refine Does.enter Tryz.func12 rfl rfl [(0, .agg #[.int .i64 v, .slice A bs.length c]), (1, .int .i64 k)] rfl (V.seq (V.region (O.f rfl (Ef.box rfl rfl rfl) ?_)))
 rintro _ _ ⟨b1, rfl, rfl⟩
 refine O.f rfl (Ef.alloc rfl zr26 rfl) ?_
 rintro _ _ ⟨b2, rfl, rfl⟩
 refine O.m rfl (O.nil (X.next (V.seq (V.block (V.seq (V.region (O.q rfl (Pu.loadAgg rfl ag26 sz26 rfl rfl (Ld.whole 1 rfl)) (O.f rfl (Ef.callP call53 rfl rfl (fun w hw => l01Is_ok _ bs _ _ w ((Ld.old hx) w hw) (by omega))) ?_))))))))
 rintro _ _ ⟨rfl, rfl⟩
 refine O.q rfl (Pu.not rfl rfl) (O.m rfl (O.nil (X.next (V.condNot rfl (fun c1 => ?_) (fun c1 => ?_)))))
 ·refine V.seq (V.region (O.q rfl (Pu.buildS (cs := [.int .i64 (0 : Int), .slice none 0 0]) rfl rfl Tryz.underlying26 zr26 (by kernel_rfl) rfl (by kernel_rfl)) (O.s rfl rfl (Ef.storeAll 0 rfl sz26 rfl rfl rfl rfl (by simp [Value.oneCell']) rfl) ?_)))
  rintro _ _ rfl
  exact O.m rfl (O.nil (X.next (V.ret (X.blockRet (X.thenRet (X.retCell2 rfl ag26 sz26 rfl rfl rfl (Ld.whole 0 rfl) (fun w hw => St.mkExi none (St.mkExi 0 (St.mkExi [] (St.unsep (St.addPur ⟨(by rw [if_neg (fun h => c1 h.1), if_neg c1]; rfl), (by unfold TSR; rw [if_neg (fun h => c1 h.1)])⟩ (St.addNil (T := 65) (C := B3C) (hw.sub (Sub.nil _))))))))))))))
 ·have hlo := c1.lo
  have hhi := c1.hi
  have hfw := c1.few
  refine V.seq (V.region (O.m rfl (O.q rfl (Pu.fieldAddr 0 rfl Tryz.underlying26 rfl sz2 rfl rfl) (O.q rfl (Pu.load rfl pl2 rfl (Ld.blk 1 rfl rfl)) (O.q rfl (Pu.sub64 rfl (by omega) rfl rfl rfl) (O.f rfl (Ef.callP call54 rfl rfl (fun w hw => l01In_ok _ _ _ _)) ?_))))))
  rintro _ _ ⟨rfl, rfl⟩
  refine O.q rfl (Pu.not rfl rfl) (O.m rfl (O.nil (X.next (V.condNot rfl (fun c2 => ?_) (fun c2 => ?_)))))
  ·refine V.seq (V.region (O.q rfl (Pu.buildS (cs := [.int .i64 (0 : Int), .slice none 0 0]) rfl rfl Tryz.underlying26 zr26 (by kernel_rfl) rfl (by kernel_rfl)) (O.s rfl rfl (Ef.storeAll 0 rfl sz26 rfl rfl rfl rfl (by simp [Value.oneCell']) rfl) ?_)))
   rintro _ _ rfl
   exact O.m rfl (O.nil (X.next (V.ret (X.blockRet (X.thenRet (X.retCell2 rfl ag26 sz26 rfl rfl rfl (Ld.whole 0 rfl) (fun w hw => St.mkExi none (St.mkExi 0 (St.mkExi [] (St.unsep (St.addPur ⟨(by rw [if_neg (fun h => c2 h.2), if_pos c1, if_neg c2]; rfl), (by unfold TSR; rw [if_neg (fun h => c2 h.2)])⟩ (St.addNil (T := 65) (C := B3C) (hw.sub (Sub.nil _))))))))))))))
  ·refine V.skip (X.blockNormal (X.next (V.seq (V.region (O.q rfl (Pu.loadAgg rfl ag26 sz26 rfl rfl (Ld.whole 1 rfl)) (O.m rfl (O.f rfl (Ef.call1 call55 rfl rfl (fun w hw => l10TurnedL_ok  v bs k _ _ w ((Ld.old hx) w hw) (by first | omega | (simp only [tops_len, conts_len, bl, List.length_append, List.length_cons, List.length_nil] at *; omega)) c1 ⟨c2.1, by omega⟩)) ?_)))))))
   rintro _ _ rfl
   refine O.exi (fun r1A => O.exi (fun r1c => O.exi (fun r1 => O.sep (O.pur ?_))))
   rintro ⟨rfl, hr1_1, hr1_2⟩
   refine O.s rfl rfl (Ef.storeAll 1 rfl sz26 rfl rfl rfl rfl (by simp [Value.oneCell']) rfl) ?_
   rintro _ _ rfl
   exact O.m rfl (O.nil (X.next (V.ret (X.retCell2 rfl ag26 sz26 rfl rfl rfl (Ld.whole 1 rfl) (fun w hw => St.mkExi r1A (St.mkExi r1c (St.mkExi r1 (St.unsep (St.addPur ⟨(by rw [if_pos ⟨c1, c2⟩, if_pos c1, if_pos c2]), (by unfold TSR; rw [if_pos ⟨c1, c2⟩]; exact ⟨hr1_1, hr1_2⟩)⟩ (hw.sub (Sub.k (Sub.nil _))))))))))))
set_option maxRecDepth 100000 in
set_option maxHeartbeats 1000000 in
theorem specMateByTurning_ok (v : Int) (bs : List B3) (A : Option Addr) (c : Nat) (w : World) (hx : Rd B3C w A bs) (lx : bs.length ≤ 4611686018427387904) : Does Tryz.prog 16 [.agg #[.int .i64 v, .slice A bs.length c]] w [] (fun rv_ => [.exi fun (r : Int) => .exi fun (code : Int) => .pur (rv_ = .tuple #[.int .i64 r, .int .i64 code] ∧ MTR v bs r code)]) := by
 refine Does.enter Tryz.func16 rfl rfl [(0, .agg #[.int .i64 v, .slice A bs.length c])] rfl (V.seq (V.region (O.f rfl (Ef.box rfl rfl rfl) ?_)))
 rintro _ _ ⟨b1, rfl, rfl⟩
 refine O.m rfl (O.m rfl (O.nil (X.next (V.seq (V.seq (V.region (O.q rfl (Pu.loadAgg rfl ag26 sz26 rfl rfl (Ld.whole 0 rfl)) (O.f rfl (Ef.callP call53 rfl rfl (fun w hw => l01Is_ok _ bs _ _ w ((Ld.old hx) w hw) (by omega))) ?_))))))))
 rintro _ _ ⟨rfl, rfl⟩
 refine O.q rfl (Pu.not rfl rfl) (O.nil (X.next (V.condNot rfl (fun c1 => ?_) (fun c1 => ?_))))
 ·exact V.seq (V.region (O.m rfl (O.m rfl (O.nil (X.next (V.ret (X.thenRet (X.ret2 rfl rfl rfl (fun w hw => St.mkExi (0 : Int) (St.mkExi (1 : Int) (St.addPur ⟨rfl, ⟨fun _ => ⟨rfl, rfl⟩, fun h => absurd h c1⟩⟩ (hw.sub (Sub.nil _)))))))))))))
 ·have hS := c1
  have hlo := c1.lo
  have hhi := c1.hi
  have hfw := c1.few
  refine V.skip (X.next (V.seq (V.seq (V.region (O.m rfl (O.nil (X.next (V.block (V.loop3 (β := Int) (fun k => [(4, .int .i64 (k : Int))]) _ (fun k => []) _ (fun k => 1 ≤ k ∧ k ≤ v ∧ ∀ j, 1 ≤ j → j < k → ¬ apT v bs j) (fun k => (v - k).toNat) (1 : Int) ⟨by omega, by omega, fun j h1 h2 => by omega⟩ (Ent.cons rfl (Ent.nil _)) (Ent.cons (t := 1) rfl (Ent.nil _)) (Sub.k (Sub.nil _)) ?_)))))))))
  rintro k ⟨hk1, hkv, hno⟩
  refine V.seq (V.seq (V.region (O.m rfl (O.q rfl (Pu.fieldAddr 0 rfl Tryz.underlying26 rfl sz2 rfl rfl) (O.q rfl (Pu.load rfl pl2 rfl (Ld.blk 0 rfl rfl)) (O.q rfl (Pu.lss rfl rfl rfl) (O.nil (X.next (V.condD rfl (fun c2 => ?_) (fun c2 => ?_))))))))))
  ·refine V.skip (X.next (V.seq (V.block (V.seq (V.draw mo (by kernel_rfl) (fun hwf => D.q 0 rfl (Pu.loadAgg rfl ag26 sz26 rfl rfl (Ld.whole 0 rfl)) (D.q 1 rfl (Pu.loadAgg rfl ag26 sz26 rfl rfl (Ld.whole 0 rfl)) (D.m 2 rfl (D.f hwf 3 rfl (Ef.call1 call55 rfl rfl (fun w hw => l10TurnedL_ok  v bs k _ _ w ((Ld.old hx) w hw) (by first | omega | (simp only [tops_len, conts_len, bl, List.length_append, List.length_cons, List.length_nil] at *; omega)) hS ⟨by omega, by omega⟩)) ?_)))))))))
   rintro _ _ rfl hs
   refine ⟨fun w hw => hs w hw.tail, (D.exi (fun r1A => D.exi (fun r1c => D.exi (fun r1 => D.sep (D.pur1 ?_)))))⟩
   rintro ⟨rfl, hr1_1, hr1_2⟩
   refine D.f hwf 4 rfl (Ef.callP call58 rfl rfl (fun w hw => l10Common_ok  v bs v r1 _ _ _ _ w ((Ld.old hx) w hw) ((Ld.own 0 (by exact rfl)) w hw) (by first | omega | (simp only [tops_len, conts_len, bl, List.length_append, List.length_cons, List.length_nil] at *; omega)) (by rw [hr1_1.length_eq]; simp only [turnB, List.length_map]; omega) (by omega) (by rw [hr1_1.length_eq]; simp only [turnB, List.length_map]; omega))) ?_
   rintro _ _ ⟨rfl, rfl⟩ hs
   refine ⟨fun w hw => hw.sub (Sub.keep 1 rfl (Sub.nil _)), (D.q 5 rfl (Pu.eql rfl rfl rfl) (D.done hwf rfl (X.next (V.condD rfl (fun c3 => ?_) (fun c3 => ?_)))))⟩
   ·have hap := (apT_iff hr1_1).1 (by omega)
    refine V.seq (V.region (O.m rfl (O.m rfl (O.m rfl (O.nil (X.next (V.ret (X.blockRet (X.thenRet (X.thenRet (X.blockRet ?_)))))))))))
    exact X.thenRet (X.ret2 rfl rfl rfl (fun w hw => St.mkExi k (St.mkExi (0 : Int) (St.addPur ⟨rfl, ⟨fun h => absurd hS h, fun _ => .inl ⟨hk1, by omega, hap, hno, rfl⟩⟩⟩ (hw.sub (Sub.nil _))))))
   ·have hap : ¬ apT v bs k := fun h => c3 (by have h2 := (apT_iff hr1_1).2 h; omega)
    exact V.skip (X.blockNormal (X.next (V.region (O.m rfl (O.q rfl (Pu.add64 rfl (by omega) rfl rfl rfl) (O.m rfl (O.nil (X.back3 (k + (1 : Int)) ⟨by omega, by omega, fun j h1 h2 => by by_cases e : j = k; (· subst e; exact hap); (· exact hno j h1 (by omega))⟩ (by first | omega | (dsimp only; omega)) (Ent.cons rfl (Ent.nil _)) (Ent.cons (t := 1) rfl (Ent.nil _)) (Sub.keep 1 rfl (Sub.nil _))))))))))
  ·refine V.exit (X.thenExit (X.thenExit (X.blockHit (X.next (V.seq (V.region (O.m rfl (O.m rfl (O.nil (X.next (V.ret ?_)))))))))))
   exact X.ret2 rfl rfl rfl (fun w hw => St.mkExi (0 : Int) (St.mkExi (4 : Int) (St.addPur ⟨rfl, ⟨fun h => absurd hS h, fun _ => .inr ⟨fun j h1 h2 => hno j h1 (by omega), rfl, rfl⟩⟩⟩ (hw.sub (Sub.nil _)))))
set_option maxRecDepth 100000 in
set_option maxHeartbeats 1000000 in
theorem l10Nines_ok (cA : Option Addr) (cc : Nat) (code : List UInt8) (s : Nat) (w0 : World) (H : List Assn) (hc : Rd U8C w0 cA code) (lc : code.length ≤ 1048576) : Does Tryz.prog 38 [.pointer (some ⟨s, 0, none⟩)] w0 (SrcK 101 cA cc code s :: H) (fun rv_ => [.exi fun (pv : Int) => .exi fun (rA : Option Addr) => .exi fun (rc : Nat) => .exi fun (r : List B3) => .sep (.pur (rv_ = .agg #[.int .i64 pv, .slice rA r.length rc] ∧ (-1 ≤ pv ∧ pv ≤ 16) ∧ r.length ≤ 4200)) (.sep (Own 65 B3C rA rc r) (SrcK 101 cA cc code s))] ++ H) := by
 refine Does.enter Tryz.func38 rfl rfl [(0, .pointer (some ⟨s, 0, none⟩))] rfl (V.seq (V.region (O.f rfl (Ef.alloc rfl zr26 rfl) ?_)))
 rintro _ _ ⟨b1, rfl, rfl⟩
 refine O.nil (X.next (V.seq (V.seq (V.region (O.m rfl (O.f rfl (Ef.call call49 rfl rfl (Does.pre (fun w hw => hw.sub (Sub.keep 1 rfl (Sub.k (Sub.refl _)))) (l01Next_ok _ _ _ s (3 : Int) w0 _   (by first | assumption | omega | (try dsimp only at *; omega)) (by first | assumption | omega | (try dsimp only at *; omega))))) ?_))))))
 rintro _ _ rfl
 refine O.exi (fun r1 => O.sep (O.pur ?_))
 rintro ⟨rfl, hr1_1, hr1_2, hr1_3⟩
 refine O.q rfl (Pu.gtr rfl rfl rfl) (O.nil (X.next (V.condD rfl (fun c1 => ?_) (fun c1 => ?_))))
 ·refine V.seq (V.region (O.m rfl (O.f rfl (Ef.call call48 rfl rfl (Does.pre (fun w hw => hw.sub (Sub.k (Sub.k (Sub.refl _)))) (l01Spoil_ok _ _ _ s w0 _   (by first | assumption | omega | (try dsimp only at *; omega)) (by first | assumption | omega | (try dsimp only at *; omega))))) ?_)))
  rintro _ _ rfl
  refine O.exi (fun pv1 => O.exi (fun r2A => O.exi (fun r2c => O.exi (fun r2 => O.sep (O.pur ?_)))))
  rintro ⟨rfl, hpv1_1, hpv1_2⟩
  refine O.sep (O.s rfl rfl (Ef.storeAll 2 rfl sz26 rfl rfl rfl rfl (by simp [Value.oneCell']) rfl) ?_)
  rintro _ _ rfl
  exact O.nil (X.next (V.ret (X.thenRet (X.retCell rfl ag26 sz26 rfl rfl (Ld.whole 2 rfl) (fun w hw => St.mkExi pv1 (St.mkExi r2A (St.mkExi r2c (St.mkExi r2 (St.unsep (St.addPur ⟨rfl, hpv1_1, hpv1_2⟩ (St.unsep (hw.sub (Sub.k (Sub.k (Sub.drop (Sub.refl _))))))))))))))))
 ·refine V.skip (X.next (V.seq (V.region (O.f rfl (Ef.call1 call59 rfl rfl (fun w hw => l01NamedD2_ok   w   )) ?_))))
  rintro _ _ rfl
  refine O.exi (fun r3A => O.exi (fun r3c => O.exi (fun r3 => O.sep (O.pur ?_))))
  rintro ⟨rfl, hr3_1⟩
  have hDn := hr3_1
  have hvn := hDn.1
  have hln := hDn.2.2
  refine O.m rfl (O.m rfl (O.m rfl (O.f rfl (Ef.alloc rfl zr26 rfl) ?_)))
  rintro _ _ ⟨b2, rfl, rfl⟩
  refine O.s rfl rfl (Ef.storeAll 0 rfl sz26 rfl rfl rfl rfl (by simp [Value.oneCell']) rfl) ?_
  rintro _ _ rfl
  refine O.m rfl (O.nil (X.next (V.seq (V.drawS mo (by kernel_rfl) (Sub.k (Sub.k (Sub.keep 1 rfl (Sub.drop (Sub.refl _))))) (fun hwf => D.q 0 rfl (Pu.loadAgg rfl ag26 sz26 rfl rfl (Ld.whole 0 rfl)) (D.m 1 rfl (D.f hwf 2 rfl (Ef.call call61 rfl rfl (Does.pre (fun w hw => hw.sub (Sub.keep 2 rfl (Sub.k (Sub.k (Sub.k (Sub.refl _)))))) (l01DrawOrder_ok _ _ _ s (9 : Int) w0 _   (by first | assumption | omega | (try dsimp only at *; omega)) (by first | assumption | omega | (try dsimp only at *; omega)) (by omega)))) ?_)))))))
  rintro _ _ rfl hs
  refine ⟨fun w hw => hw.tail.sub (Sub.k (Sub.k (Sub.k (Sub.refl _)))), (D.exi (fun r4A => D.exi (fun r4c => D.exi (fun r4 => D.sep (D.pur1 ?_)))))⟩
  rintro ⟨rfl, hr4_1⟩
  refine D.sep ?_
  have hol := hr4_1.1
  refine D.f hwf 3 rfl (Ef.call1 call60 rfl rfl (fun w hw => l01RenamedD_ok  9 r3 r4 _ _ _ _ w ((Ld.own 3 (by exact rfl)) w hw) ((Ld.own 0 (by exact rfl)) w hw) (by first | omega | (simp only [tops_len, conts_len, bl, List.length_append, List.length_cons, List.length_nil] at *; omega)) (by first | omega | (simp only [tops_len, conts_len, bl, List.length_append, List.length_cons, List.length_nil] at *; omega)) (by rw [hr4_1.1]; exact hDn.2.1) (by omega) (fun q hq => by have := hr4_1.2.2 q hq; omega))) ?_
  rintro _ _ rfl hs
  refine ⟨fun w hw => hs w hw.tail, (D.exi (fun r5A => D.exi (fun r5c => D.exi (fun r5 => D.sep (D.pur1 ?_)))))⟩
  rintro ⟨rfl, hr5_1, hr5_2⟩
  have hDr := hDn.ren hr4_1 hr5_1
  refine D.effX (Hs' := []) hwf (e := 4) rfl rfl rfl rfl (Ef.storeAll 5 rfl sz26 rfl rfl rfl rfl (by simp [Value.oneCell']) rfl) rfl [] rfl (List.forall_mem_nil _) ?_
  rintro _ _ rfl
  exact ⟨fun w hw => hw.sub (Sub.nil _), (D.done hwf rfl (X.next (V.ret (X.retCell rfl ag26 sz26 rfl rfl (Ld.whole 5 rfl) (fun w hw => St.mkExi 9 (St.mkExi r5A (St.mkExi r5c (St.mkExi r5 (St.unsep (St.addPur ⟨rfl, (by omega), (by have := hDr.2.2; omega)⟩ (St.unsep (hw.sub (Sub.k (Sub.keep 1 rfl (Sub.drop (Sub.drop (Sub.drop (Sub.drop (Sub.refl _)))))))))))))))))))⟩
set_option maxRecDepth 100000 in
set_option maxHeartbeats 1000000 in
theorem DrawLargeSetWith_ok (code : List UInt8) (codeA : Option Addr) (codec : Nat) (w : World) (hcode : Rd U8C w codeA code) (lcode : code.length ≤ 1099511627776) (lc : code.length ≤ 1048576) : Does Tryz.prog 6 [.slice codeA code.length codec] w [] (fun rv_ => [.exi fun (pv : Int) => .exi fun (rA : Option Addr) => .exi fun (rc : Nat) => .exi fun (r : List B3) => .sep (.pur (rv_ = .agg #[.int .i64 pv, .slice rA r.length rc] ∧ (-1 ≤ pv ∧ pv ≤ 16) ∧ r.length ≤ 4200)) (Own 65 B3C rA rc r)]) := by
 refine Does.enter Tryz.func6 rfl rfl [(0, .slice codeA code.length codec)] rfl (V.seq (V.region (O.f rfl (Ef.alloc rfl zr26 rfl) ?_)))
 rintro _ _ ⟨b1, rfl, rfl⟩
 refine O.nil (X.next (V.seq (V.region (O.m rfl (O.f rfl (Ef.call1 call39 rfl rfl (fun w hw => l01From_ok  code _ _ w ((Ld.old hcode) w hw) (by first | omega | (simp only [tops_len, conts_len, bl, List.length_append, List.length_cons, List.length_nil] at *; omega)) (by first | assumption | omega | (try dsimp only at *; omega)))) ?_)))))
 rintro _ _ rfl
 refine O.exi (fun s1 => O.sep (O.pur ?_))
 rintro rfl
 refine O.f rfl (Ef.call call38 rfl rfl (Does.pre (fun w hw => hw.sub (Sub.k (Sub.k (Sub.nil _)))) (l10Nines_ok _ _ _ s1 w _   (by first | assumption | omega | (try dsimp only at *; omega)) (by first | assumption | omega | (try dsimp only at *; omega))))) ?_
 rintro _ _ rfl
 refine O.exi (fun pv1 => O.exi (fun r1A => O.exi (fun r1c => O.exi (fun r1 => O.sep (O.pur ?_)))))
 rintro ⟨rfl, hpv1_1, hpv1_2⟩
 refine O.sep (O.s rfl rfl (Ef.storeAll 2 rfl sz26 rfl rfl rfl rfl (by simp [Value.oneCell']) rfl) ?_)
 rintro _ _ rfl
 exact O.nil (X.next (V.ret (X.retCell rfl ag26 sz26 rfl rfl (Ld.whole 2 rfl) (fun w hw => St.mkExi pv1 (St.mkExi r1A (St.mkExi r1c (St.mkExi r1 (St.unsep (St.addPur ⟨rfl, by first | exact ⟨hpv1_1, hpv1_2⟩ | exact ⟨hpv2_1, hpv2_2⟩⟩ (hw.sub (Sub.k (Sub.nil _))))))))))))
set_option maxRecDepth 100000 in
set_option maxHeartbeats 1000000 in
theorem DrawCountFamilies_ok (code : List UInt8) (codeA : Option Addr) (codec : Nat) (w : World) (hcode : Rd U8C w codeA code) (lcode : code.length ≤ 1099511627776) (lc : code.length ≤ 1048576) : Does Tryz.prog 20 [.slice codeA code.length codec] w [] (fun rv_ => [.exi fun (pv : Int) => .exi fun (rA : Option Addr) => .exi fun (rc : Nat) => .exi fun (r : List B3) => .sep (.pur (rv_ = .agg #[.int .i64 pv, .slice rA r.length rc] ∧ (-1 ≤ pv ∧ pv ≤ 16) ∧ r.length ≤ 4200)) (Own 65 B3C rA rc r)]) := by
 refine Does.enter Tryz.func20 rfl rfl [(0, .slice codeA code.length codec)] rfl (V.seq (V.region (O.f rfl (Ef.alloc rfl zr26 rfl) ?_)))
 rintro _ _ ⟨b1, rfl, rfl⟩
 refine O.nil (X.next (V.seq (V.region (O.m rfl (O.f rfl (Ef.call1 call39 rfl rfl (fun w hw => l01From_ok  code _ _ w ((Ld.old hcode) w hw) (by first | omega | (simp only [tops_len, conts_len, bl, List.length_append, List.length_cons, List.length_nil] at *; omega)) (by first | assumption | omega | (try dsimp only at *; omega)))) ?_)))))
 rintro _ _ rfl
 refine O.exi (fun s1 => O.sep (O.pur ?_))
 rintro rfl
 refine O.m rfl (O.nil (X.next (V.seq (V.seq (V.region (O.m rfl (O.f rfl (Ef.call call49 rfl rfl (Does.pre (fun w hw => hw.sub (Sub.k (Sub.k (Sub.nil _)))) (l01Next_ok _ _ _ s1 (4 : Int) w _   (by first | assumption | omega | (try dsimp only at *; omega)) (by first | assumption | omega | (try dsimp only at *; omega))))) ?_)))))))
 rintro _ _ rfl
 refine O.exi (fun r1 => O.sep (O.pur ?_))
 rintro ⟨rfl, hr1_1, hr1_2, hr1_3⟩
 refine O.q rfl (Pu.gtr rfl rfl rfl) (O.nil (X.next (V.condD rfl (fun c1 => ?_) (fun c1 => ?_))))
 ·refine V.seq (V.region (O.m rfl (O.f rfl (Ef.call call48 rfl rfl (Does.pre (fun w hw => hw.sub (Sub.k (Sub.k (Sub.nil _)))) (l01Spoil_ok _ _ _ s1 w _   (by first | assumption | omega | (try dsimp only at *; omega)) (by first | assumption | omega | (try dsimp only at *; omega))))) ?_)))
  rintro _ _ rfl
  refine O.exi (fun pv1 => O.exi (fun r2A => O.exi (fun r2c => O.exi (fun r2 => O.sep (O.pur ?_)))))
  rintro ⟨rfl, hpv1_1, hpv1_2⟩
  refine O.sep (O.s rfl rfl (Ef.storeAll 2 rfl sz26 rfl rfl rfl rfl (by simp [Value.oneCell']) rfl) ?_)
  rintro _ _ rfl
  exact O.nil (X.next (V.ret (X.thenRet (X.retCell rfl ag26 sz26 rfl rfl (Ld.whole 2 rfl) (fun w hw => St.mkExi pv1 (St.mkExi r2A (St.mkExi r2c (St.mkExi r2 (St.unsep (St.addPur ⟨rfl, by first | exact ⟨hpv1_1, hpv1_2⟩ | exact ⟨hpv2_1, hpv2_2⟩⟩ (hw.sub (Sub.k (Sub.nil _)))))))))))))
 ·refine V.skip (X.next (V.seq (V.region (O.m rfl (O.f rfl (Ef.call call38 rfl rfl (Does.pre (fun w hw => hw.sub (Sub.k (Sub.k (Sub.nil _)))) (l10Nines_ok _ _ _ s1 w _   (by first | assumption | omega | (try dsimp only at *; omega)) (by first | assumption | omega | (try dsimp only at *; omega))))) ?_)))))
  rintro _ _ rfl
  refine O.exi (fun pv2 => O.exi (fun r3A => O.exi (fun r3c => O.exi (fun r3 => O.sep (O.pur ?_)))))
  rintro ⟨rfl, hpv2_1, hpv2_2⟩
  refine O.sep (O.s rfl rfl (Ef.storeAll 2 rfl sz26 rfl rfl rfl rfl (by simp [Value.oneCell']) rfl) ?_)
  rintro _ _ rfl
  exact O.nil (X.next (V.ret (X.retCell rfl ag26 sz26 rfl rfl (Ld.whole 2 rfl) (fun w hw => St.mkExi pv2 (St.mkExi r3A (St.mkExi r3c (St.mkExi r3 (St.unsep (St.addPur ⟨rfl, by first | exact ⟨hpv1_1, hpv1_2⟩ | exact ⟨hpv2_1, hpv2_2⟩⟩ (hw.sub (Sub.k (Sub.nil _))))))))))))
set_option maxRecDepth 100000 in
set_option maxHeartbeats 1000000 in
theorem DrawMateByTurning_ok (code : List UInt8) (codeA : Option Addr) (codec : Nat) (w : World) (hcode : Rd U8C w codeA code) (lcode : code.length ≤ 1099511627776) (lc : code.length ≤ 1048576) : Does Tryz.prog 14 [.slice codeA code.length codec] w [] (fun rv_ => [.exi fun (pv : Int) => .exi fun (rA : Option Addr) => .exi fun (rc : Nat) => .exi fun (r : List B3) => .sep (.pur (rv_ = .agg #[.int .i64 pv, .slice rA r.length rc] ∧ (-1 ≤ pv ∧ pv ≤ 16) ∧ r.length ≤ 4200)) (Own 65 B3C rA rc r)]) := by
 refine Does.enter Tryz.func14 rfl rfl [(0, .slice codeA code.length codec)] rfl (V.seq (V.region (O.f rfl (Ef.alloc rfl zr26 rfl) ?_)))
 rintro _ _ ⟨b1, rfl, rfl⟩
 refine O.nil (X.next (V.seq (V.region (O.m rfl (O.f rfl (Ef.call1 call39 rfl rfl (fun w hw => l01From_ok  code _ _ w ((Ld.old hcode) w hw) (by first | omega | (simp only [tops_len, conts_len, bl, List.length_append, List.length_cons, List.length_nil] at *; omega)) (by first | assumption | omega | (try dsimp only at *; omega)))) ?_)))))
 rintro _ _ rfl
 refine O.exi (fun s1 => O.sep (O.pur ?_))
 rintro rfl
 refine O.f rfl (Ef.call call48 rfl rfl (Does.pre (fun w hw => hw.sub (Sub.k (Sub.k (Sub.nil _)))) (l01Spoil_ok _ _ _ s1 w _   (by first | assumption | omega | (try dsimp only at *; omega)) (by first | assumption | omega | (try dsimp only at *; omega))))) ?_
 rintro _ _ rfl
 refine O.exi (fun pv1 => O.exi (fun r1A => O.exi (fun r1c => O.exi (fun r1 => O.sep (O.pur ?_)))))
 rintro ⟨rfl, hpv1_1, hpv1_2⟩
 refine O.sep (O.s rfl rfl (Ef.storeAll 2 rfl sz26 rfl rfl rfl rfl (by simp [Value.oneCell']) rfl) ?_)
 rintro _ _ rfl
 exact O.nil (X.next (V.ret (X.retCell rfl ag26 sz26 rfl rfl (Ld.whole 2 rfl) (fun w hw => St.mkExi pv1 (St.mkExi r1A (St.mkExi r1c (St.mkExi r1 (St.unsep (St.addPur ⟨rfl, by first | exact ⟨hpv1_1, hpv1_2⟩ | exact ⟨hpv2_1, hpv2_2⟩⟩ (hw.sub (Sub.k (Sub.nil _))))))))))))
set_option maxRecDepth 100000 in
set_option maxHeartbeats 1000000 in
theorem DrawTurnSystem_ok (code : List UInt8) (codeA : Option Addr) (codec : Nat) (w : World) (hcode : Rd U8C w codeA code) (lcode : code.length ≤ 1099511627776) (lc : code.length ≤ 1048576) : Does Tryz.prog 10 [.slice codeA code.length codec] w [] (fun rv_ => [.exi fun (pv : Int) => .exi fun (rA : Option Addr) => .exi fun (rc : Nat) => .exi fun (r : List B3) => .exi fun (k : Int) => .sep (.pur (rv_ = .tuple #[.agg #[.int .i64 pv, .slice rA r.length rc], .int .i64 k] ∧ (-1 ≤ pv ∧ pv ≤ 16) ∧ r.length ≤ 4200)) (Own 65 B3C rA rc r)]) := by
 refine Does.enter Tryz.func10 rfl rfl [(0, .slice codeA code.length codec)] rfl (V.seq (V.region (O.f rfl (Ef.alloc rfl zr26 rfl) ?_)))
 rintro _ _ ⟨b1, rfl, rfl⟩
 refine O.m rfl (O.nil (X.next (V.seq (V.region (O.m rfl (O.f rfl (Ef.call1 call39 rfl rfl (fun w hw => l01From_ok  code _ _ w ((Ld.old hcode) w hw) (by first | omega | (simp only [tops_len, conts_len, bl, List.length_append, List.length_cons, List.length_nil] at *; omega)) (by first | assumption | omega | (try dsimp only at *; omega)))) ?_))))))
 rintro _ _ rfl
 refine O.exi (fun s1 => O.sep (O.pur ?_))
 rintro rfl
 refine O.m rfl (O.nil (X.next (V.seq (V.region (O.m rfl (O.f rfl (Ef.call call48 rfl rfl (Does.pre (fun w hw => hw.sub (Sub.k (Sub.k (Sub.nil _)))) (l01Spoil_ok _ _ _ s1 w _   (by first | assumption | omega | (try dsimp only at *; omega)) (by first | assumption | omega | (try dsimp only at *; omega))))) ?_))))))
 rintro _ _ rfl
 refine O.exi (fun pv1 => O.exi (fun r1A => O.exi (fun r1c => O.exi (fun r1 => O.sep (O.pur ?_)))))
 rintro ⟨rfl, hpv1_1, hpv1_2⟩
 refine O.sep (O.f rfl (Ef.alloc rfl zr26 rfl) ?_)
 rintro _ _ ⟨b2, rfl, rfl⟩
 refine O.s rfl rfl (Ef.storeAll 0 rfl sz26 rfl rfl rfl rfl (by simp [Value.oneCell']) rfl) ?_
 rintro _ _ rfl
 refine O.nil (X.next (V.seq (V.ent (Ent.cons (t := 2) rfl (Ent.cons (t := 4) rfl (Ent.cons (t := 5) rfl (Ent.nil _)))) (V.drawS mo (by kernel_rfl) (Sub.k (Sub.k (Sub.nil _))) (fun hwf => D.q 0 rfl (Pu.loadAgg rfl ag26 sz26 rfl rfl (Ld.whole 0 rfl)) (D.m 1 rfl (D.q 2 rfl (Pu.fieldAddr 0 rfl Tryz.underlying26 rfl sz2 rfl rfl) (D.q 3 rfl (Pu.load rfl pl2 rfl (Ld.blk 0 rfl rfl)) (D.q 4 rfl (Pu.max2 (r := (max pv1 (1 : Int))) (by omega) rfl rfl rfl) (D.q 5 rfl (Pu.min2 (r := (min (max pv1 (1 : Int)) (15 : Int))) (by omega) rfl rfl rfl) (D.m 6 rfl ?_)))))))))))
 refine D.f hwf 7 rfl (Ef.call call49 rfl rfl (Does.pre (fun w hw => hw.sub (Sub.keep 2 rfl (Sub.k (Sub.k (Sub.k (Sub.nil _)))))) (l01Next_ok _ _ _ s1 (24 : Int) w _   (by first | assumption | omega | (try dsimp only at *; omega)) (by first | assumption | omega | (try dsimp only at *; omega))))) ?_
 rintro _ _ rfl hs
 refine ⟨fun w hw => hw.tail.sub (Sub.k (Sub.k (Sub.nil _))), (D.exi (fun r2 => D.sep (D.pur1 ?_)))⟩
 rintro ⟨rfl, hr2_1, hr2_2, hr2_3⟩
 refine D.q 8 rfl (Pu.quo64 (by omega) (by omega) (by omega) rfl rfl rfl) (D.q 9 rfl (Pu.add64 rfl (by omega) rfl rfl rfl) (D.f hwf 10 rfl (Ef.call call49 rfl rfl (Does.pre (fun w hw => hw.sub (Sub.k (Sub.k (Sub.k (Sub.k (Sub.nil _)))))) (l01Next_ok _ _ _ s1 ((min (max pv1 (1 : Int)) (15 : Int)) + (r2 / (23 : Int))) w _   (by first | assumption | omega | (try dsimp only at *; omega)) (by first | assumption | omega | (try dsimp only at *; omega))))) ?_))
 rintro _ _ rfl hs
 refine ⟨fun w hw => hw.tail.sub (Sub.k (Sub.k (Sub.nil _))), (D.exi (fun r3 => D.sep (D.pur1 ?_)))⟩
 rintro ⟨rfl, hr3_1, hr3_2, hr3_3⟩
 refine D.f hwf 11 rfl (Ef.storeAll 3 rfl sz26 rfl rfl rfl rfl (by simp [Value.oneCell']) rfl) ?_
 rintro _ _ rfl hs
 exact ⟨fun w hw => hw.sub (Sub.keep 1 rfl (Sub.keep 1 rfl (Sub.nil _))), (D.m 12 rfl (D.done hwf rfl (X.next (V.ret (X.retCell2 rfl ag26 sz26 rfl rfl rfl (Ld.whole 3 rfl) (fun w hw => St.mkExi pv1 (St.mkExi r1A (St.mkExi r1c (St.mkExi r1 (St.mkExi r3 (St.unsep (St.addPur ⟨rfl, hpv1_1, hpv1_2⟩ (hw.sub (Sub.keep 2 rfl (Sub.nil _)))))))))))))))⟩
set_option maxRecDepth 100000 in
set_option maxHeartbeats 1000000 in
theorem indexFuncPs_ok (ps : PsL) (ln lc : Nat) (p : Int × Sl × List B3 → Prop) [DecidablePred p] (gf : Nat) (lA : Option Addr) (w : World) (hl : RdPs w lA ps) (hln : ln = ps.length) (hcap : ln ≤ lc) (hok : CallOk Tryz.prog gf) (hf : ∀ k (hk : k < ps.length) w', Bel w.heap.size w w' → Does Tryz.prog gf [.agg #[.int .i64 (ps[k]).1, .slice (ps[k]).2.1.A (ps[k]).2.2.length (ps[k]).2.1.c]] w' [] (fun v => [.pur (v = .bool (decide (p ps[k])))])) (hsm : ps.length ≤ 1000000) : Does Tryz.prog 100 [.slice lA ln lc, .func (.func gf) #[] #[]] w [] (fun r => [.pur (r = .int .i64 (idxP p ps))]) := by
 refine Does.enter Tryz.func100 rfl rfl [(0, .slice lA ln lc), (1, .func (.func gf) #[] #[])] rfl ?_
 have htp := topP_len ps
 refine V.seq (V.region (O.m rfl (O.nil (X.next (V.seq (V.seq (V.region (O.m rfl (O.q rfl (Pu.len rfl Tryz.underlying28 rfl) (O.m rfl (O.nil ?_)))))))))))
 refine X.next (V.block (V.loop2 (β := Nat) (fun i => [(8, .int .i64 (i : Int))]) _ (fun i => []) (fun i => i ≤ ps.length ∧ ∀ j (hj : j < ps.length), j < i → ¬ p ps[j]) (fun i => ps.length - i) 0 ⟨by omega, fun j hj h => by omega⟩ (Ent.cons rfl (Ent.nil _)) (Ent.cons (t := 0) rfl (Ent.cons (t := 1) rfl (Ent.cons (t := 7) rfl (Ent.nil _)))) (Sub.nil _) ?_))
 rintro i ⟨hi, hn⟩
 refine V.seq (V.region (O.q rfl (Pu.lss rfl rfl rfl) (O.nil (X.next (V.seq (V.condD rfl (fun c1 => ?_) (fun c1 => ?_)))))))
 ·refine V.skip (X.next (V.seq (V.block (V.seq (V.region (O.m rfl (O.m rfl (O.nil (X.next (V.seq (V.region ?_)))))))))))
  refine O.m rfl (O.m rfl (O.m rfl (O.q rfl (Pu.indexAddrS (i) rfl Tryz.underlying28 sz26 rfl rfl (by omega) (by omega) (fun w hw => ((Ld.old hl.top) w hw).some (by omega))) ?_)))
  have e1 : i < ps.length := by omega
  refine O.q rfl (Pu.loadAgg' (v := .agg #[.int .i64 (ps[i]'e1).1, .slice (ps[i]'e1).2.1.A (ps[i]'e1).2.2.length (ps[i]'e1).2.1.c]) rfl rfl ag26 sz26 rfl rfl (Ld.rowS (fun w hw => hl.st hw) e1 rfl)) (O.f rfl (Ef.callPV (r := .bool (decide (p (ps[i]'e1)))) hok rfl rfl rfl (fun w' hw => hf i e1 w' hw.below)) ?_)
  rintro _ _ ⟨rfl, rfl⟩
  refine O.nil (X.next (V.condD rfl (fun c2 => ?_) (fun c2 => ?_)))
  ·refine V.seq (V.region (O.m rfl (O.m rfl (O.nil (X.next (V.ret (X.blockRet (X.thenRet (X.thenRet (X.blockRet (X.thenRet ?_)))))))))))
   exact X.ret1 rfl rfl (fun w hw => St.retP (iv ((idxP_found (by omega) c2 hn).symm)) hw)
  ·exact V.skip (X.blockNormal (X.next (V.region (O.q rfl (Pu.add64 (r := ((i + 1 : Nat) : Int)) rfl (by omega) rfl rfl rfl) (O.m rfl (O.nil (X.back2 (i + 1) ⟨by omega, fun j hj h => by by_cases e : j = i; (· subst e; exact c2); (· exact hn j hj (by omega))⟩ (by first | omega | (dsimp only; omega)) (Ent.cons rfl (Ent.nil _)) (Ent.cons (t := 0) rfl (Ent.cons (t := 1) rfl (Ent.cons (t := 7) rfl (Ent.nil _)))) (Sub.nil _))))))))
 ·exact V.exit (X.thenExit (X.thenExit (X.blockHit (X.next (V.seq (V.region (O.m rfl (O.nil (X.next (V.ret (X.ret1 rfl rfl (fun w hw => St.retP (iv ((idxP_none (fun j hj => hn j hj (by omega))).symm)) hw))))))))))))
set_option maxRecDepth 100000 in
set_option maxHeartbeats 1000000 in
theorem containsFuncPs_ok (ps : PsL) (ln lc : Nat) (p : Int × Sl × List B3 → Prop) [DecidablePred p] (gf : Nat) (lA : Option Addr) (w : World) (hl : RdPs w lA ps) (hln : ln = ps.length) (hcap : ln ≤ lc) (hok : CallOk Tryz.prog gf) (hf : ∀ k (hk : k < ps.length) w', Bel w.heap.size w w' → Does Tryz.prog gf [.agg #[.int .i64 (ps[k]).1, .slice (ps[k]).2.1.A (ps[k]).2.2.length (ps[k]).2.1.c]] w' [] (fun v => [.pur (v = .bool (decide (p ps[k])))])) (hsm : ps.length ≤ 1000000) : Does Tryz.prog 62 [.slice lA ln lc, .func (.func gf) #[] #[]] w [] (fun r => [.pur (r = .bool (decide (∃ x ∈ ps, p x)))]) := by
 refine Does.enter Tryz.func62 rfl rfl [(0, .slice lA ln lc), (1, .func (.func gf) #[] #[])] rfl (V.seq (V.region (O.m rfl (O.nil (X.next (V.seq (V.region (O.m rfl (O.m rfl (O.f rfl (Ef.callP call100 rfl rfl (fun w hw => indexFuncPs_ok  ps ln lc p gf _ w (hl.st hw) hln hcap  hok (fun k hk w' hb => hf k hk w' (hw.grow hb).below) hsm)) ?_))))))))))
 rintro _ _ ⟨rfl, rfl⟩
 exact O.q rfl (Pu.geq rfl rfl rfl) (O.m rfl (O.nil (X.next (V.ret (X.ret1 rfl rfl (fun w hw => St.retP (boolD (idxP_nonneg)) hw))))))
set_option maxRecDepth 100000 in
set_option maxHeartbeats 1000000 in
theorem isFamily1_ok (v : Int) (bs : List B3) (A : Option Addr) (c : Nat) (w : World) (hx : Rd B3C w A bs) (lx : bs.length ≤ 4611686018427387904) : Does Tryz.prog 63 [.agg #[.int .i64 v, .slice A bs.length c]] w [] (fun r => [.pur (r = .bool (decide (¬ STS v bs)))]) := by
 refine Does.enter Tryz.func63 rfl rfl [(0, .agg #[.int .i64 v, .slice A bs.length c])] rfl (V.seq (V.region (O.f rfl (Ef.box rfl rfl rfl) ?_)))
 rintro _ _ ⟨b1, rfl, rfl⟩
 refine O.m rfl (O.nil (X.next (V.seq (V.region (O.q rfl (Pu.loadAgg rfl ag26 sz26 rfl rfl (Ld.whole 0 rfl)) (O.f rfl (Ef.callP call50 rfl rfl (fun w hw => IsSystem_ok _ bs _ _ w ((Ld.old hx) w hw) (by omega))) ?_))))))
 rintro _ _ ⟨rfl, rfl⟩
 exact O.q rfl (Pu.not rfl rfl) (O.m rfl (O.nil (X.next (V.ret (X.ret1 rfl rfl (fun w hw => St.retP ((by rw [← decide_not]; try exact boolD (Iff.rfl))) hw))))))
set_option maxRecDepth 100000 in
set_option maxHeartbeats 1000000 in
theorem implIsFamily_ok (ps : PsL) (ln lc : Nat) (lA : Option Addr) (w : World) (hl : RdPs w lA ps) (hln : ln = ps.length) (hcap : ln ≤ lc) (hsm : ps.length ≤ 1000000) (hrl : ∀ k (hk : k < ps.length), (ps[k]).2.2.length ≤ 100000) : Does Tryz.prog 18 [.slice lA ln lc] w [] (fun r => [.pur (r = .tuple #[.bool (decide (fmC ps = 0 ∧ FamU ps ps.length)), .int .i64 (fmC ps)])]) := by
 refine Does.enter Tryz.func18 rfl rfl [(0, .slice lA ln lc)] rfl ?_
 have htp := topP_len ps
 refine V.seq (V.region (O.m rfl (O.m rfl (O.nil (X.next (V.seq (V.seq (V.region (O.m rfl (O.f rfl (Ef.callP call62 rfl rfl (fun w hw => containsFuncPs_ok  ps ln lc (fun x => ¬ STS x.1 x.2.2) (63) _ w (hl.st hw) hln hcap  (call63) (fun k hk w' hb => isFamily1_ok _ _ _ _ w' ((hl.row k hk).below (hw.grow hb).below) (by have := hrl k hk; omega)) hsm)) ?_))))))))))
 rintro _ _ ⟨rfl, rfl⟩
 refine O.nil (X.next (V.condD rfl (fun c1 => ?_) (fun c1 => ?_)))
 ·exact V.seq (V.region (O.m rfl (O.m rfl (O.nil (X.next (V.ret (X.thenRet (X.ret2 rfl rfl rfl (fun w hw => St.addPur (by rw [fm_1 (fun h => by obtain ⟨x, hx, h2⟩ := c1; obtain ⟨k, hk, rfl⟩ := List.getElem_of_mem hx; exact h2 (h k hk))]; simp) (hw.sub (Sub.nil _)))))))))))
 ·have hall : AllS ps := fun k hk => Decidable.byContradiction (fun h => c1 ⟨_, List.getElem_mem hk, h⟩)
  refine V.skip (X.next (V.seq (V.seq (V.region (O.m rfl (O.q rfl (Pu.len rfl Tryz.underlying28 rfl) (O.q rfl (Pu.gtr rfl rfl rfl) (O.nil (X.next (V.condD rfl (fun c2 => ?_) (fun c2 => ?_)))))))))))
  ·exact V.seq (V.region (O.m rfl (O.m rfl (O.nil (X.next (V.ret (X.thenRet (X.ret2 rfl rfl rfl (fun w hw => St.addPur (by rw [fm_2 hall (by omega)]; simp) (hw.sub (Sub.nil _)))))))))))
  ·refine V.skip (X.next (V.seq (V.seq (V.region (O.m rfl (O.q rfl (Pu.len rfl Tryz.underlying28 rfl) (O.m rfl (O.nil (X.next (V.block (V.loop2 (β := Nat) (fun i => [(15, .int .i64 (i : Int))]) _ (fun i => []) (fun i => i ≤ ps.length ∧ FamU ps i) (fun i => ps.length - i) 0 ⟨by omega, famU_zero⟩ (Ent.cons rfl (Ent.nil _)) (Ent.cons (t := 0) rfl (Ent.cons (t := 13) rfl (Ent.cons (t := 14) rfl (Ent.nil _)))) (Sub.nil _) ?_)))))))))))
   rintro i ⟨hi, hF⟩
   refine V.seq (V.region (O.q rfl (Pu.lss rfl rfl rfl) (O.nil (X.next (V.seq (V.condD rfl (fun c3 => ?_) (fun c3 => ?_)))))))
   ·refine V.skip (X.next (V.seq (V.block (V.seq ?_))))
    have hi0 : i < ps.length := by omega
    have hSi := hall i hi0
    have hfi := hSi.few
    have hmi := sts_mul hSi
    have hloi := hSi.lo
    have hhii := hSi.hi
    refine V.region (O.m rfl (O.q rfl (Pu.indexAddrS (i) rfl Tryz.underlying28 sz26 rfl rfl (by omega) (by omega) (fun w hw => ((Ld.old hl.top) w hw).some (by omega))) ?_))
    have e1 : i < ps.length := by omega
    refine O.q rfl (Pu.loadAgg' (v := .agg #[.int .i64 (ps[i]'e1).1, .slice (ps[i]'e1).2.1.A (ps[i]'e1).2.2.length (ps[i]'e1).2.1.c]) rfl rfl ag26 sz26 rfl rfl (Ld.rowS (fun w hw => hl.st hw) e1 rfl)) (O.f rfl (Ef.alloc rfl zr26 rfl) ?_)
    rintro _ _ ⟨b1, rfl, rfl⟩
    refine O.m rfl (O.s rfl rfl (Ef.storeAll 0 rfl sz26 rfl rfl rfl rfl (by simp [Value.oneCell']) rfl) ?_)
    rintro _ _ rfl
    refine O.nil (X.next (V.seq (V.seq ?_)))
    have e0 := hi0
    refine V.region (O.q rfl (Pu.fieldAddr 0 rfl Tryz.underlying26 rfl sz2 rfl rfl) (O.q rfl (Pu.load rfl pl2 rfl (Ld.blk 0 rfl rfl)) (O.q rfl (Pu.neq rfl rfl rfl) (O.m rfl (O.splitN 23 rfl (fun c4 => ?_) (fun c4 => ?_))))))
    ·refine O.g rfl (O.g rfl (O.g rfl (O.m rfl (O.nil (X.next (V.condT rfl (V.seq (V.region (O.m rfl (O.m rfl (O.nil ?_)))))))))))
     exact X.next (V.ret (X.thenRet (X.blockRet (X.thenRet (X.thenRet (X.blockRet (X.thenRet (X.ret2 rfl rfl rfl (fun w hw => St.addPur (by rw [fm_0 hall (by omega)]; exact congrArg (fun b => Value.tuple #[.bool b, .int .i64 0]) (decide_eq_false (fun h => c4 (h.2 i hi0 hi0).1.1)).symm) (hw.sub (Sub.nil _)))))))))))
    ·refine O.gq rfl (Pu.loadAgg rfl ag26 sz26 rfl rfl (Ld.whole 0 rfl)) (O.gf rfl (Ef.callP call64 rfl rfl (fun w hw => isFullI_ok  ((ps[i]'e1).1) ((ps[i]'e1).2.2) _ _ w ((Ld.old (hl.row i e1)) w hw) (by first | omega | (simp only [tops_len, conts_len, bl, List.length_append, List.length_cons, List.length_nil] at *; omega)) (by omega) (by omega) hmi)) ?_)
     rintro _ _ ⟨rfl, rfl⟩
     refine O.gq rfl (Pu.not rfl rfl) (O.m rfl (O.nil (X.next (V.condNot rfl (fun c5 => ?_) (fun c5 => ?_)))))
     ·refine V.seq (V.region (O.m rfl (O.m rfl (O.nil (X.next (V.ret (X.thenRet (X.blockRet (X.thenRet (X.thenRet (X.blockRet ?_)))))))))))
      exact X.thenRet (X.ret2 rfl rfl rfl (fun w hw => St.addPur (by rw [fm_0 hall (by omega)]; exact congrArg (fun b => Value.tuple #[.bool b, .int .i64 0]) (decide_eq_false (fun h => c5 (h.2 i hi0 hi0).1.2)).symm) (hw.sub (Sub.nil _))))
     ·refine V.skip (X.next (V.seq (V.region (O.m rfl (O.m rfl (O.q rfl (Pu.sliceH i rfl Tryz.underlying28 sz26 rfl rfl (by omega) (by omega)) (O.q rfl (Pu.len rfl Tryz.underlying28 rfl) (O.m rfl (O.nil (X.next (V.block ?_)))))))))))
      refine V.loop3 (β := Nat) (fun k => [(32, .int .i64 (k : Int))]) _ (fun k => []) _ (fun k => k ≤ i ∧ ∀ j (hj : j < ps.length), j < k → ApartB (ps[i]'hi0).2.2 (ps[j]).2.2) (fun k => i - k) 0 ⟨by omega, fun j hj h => by omega⟩ (Ent.cons rfl (Ent.nil _)) (Ent.cons (t := 0) rfl (Ent.cons (t := 5) rfl (Ent.cons (t := 13) rfl (Ent.cons (t := 14) rfl (Ent.cons (t := 15) rfl (Ent.cons (t := 30) rfl (Ent.cons (t := 31) rfl (Ent.nil _)))))))) (Sub.k (Sub.nil _)) ?_
      rintro k ⟨hk, ha⟩
      refine V.seq (V.region (O.q rfl (Pu.lss rfl rfl rfl) (O.nil (X.next (V.seq (V.condD rfl (fun c6 => ?_) (fun c6 => ?_)))))))
      ·refine V.skip (X.next (V.seq (V.block (V.seq (V.region (O.q rfl (Pu.indexAddrS (k) rfl Tryz.underlying28 sz26 rfl rfl (by omega) (by omega) (fun w hw => ((Ld.old hl.top) w hw).some (by omega))) ?_))))))
       have e2 : k < ps.length := by omega
       refine O.q rfl (Pu.loadAgg' (v := .agg #[.int .i64 (ps[k]'e2).1, .slice (ps[k]'e2).2.1.A (ps[k]'e2).2.2.length (ps[k]'e2).2.1.c]) rfl rfl ag26 sz26 rfl rfl (Ld.rowS (fun w hw => hl.st hw) e2 rfl)) (O.f rfl (Ef.alloc rfl zr26 rfl) ?_)
       rintro _ _ ⟨b2, rfl, rfl⟩
       refine O.s rfl rfl (Ef.storeAll 0 rfl sz26 rfl rfl rfl rfl (by simp [Value.oneCell']) rfl) ?_
       rintro _ _ rfl
       refine O.nil (X.next (V.seq ?_))
       have hk0 : k < ps.length := by omega
       have hSk := hall k hk0
       have hfk := hSk.few
       refine V.region (O.q rfl (Pu.fieldAddr 1 rfl Tryz.underlying26 rfl sz24 rfl rfl) (O.q rfl (Pu.load rfl pl24 rfl (Ld.blk 1 rfl rfl)) (O.q rfl (Pu.fieldAddr 1 rfl Tryz.underlying26 rfl sz24 rfl rfl) (O.q rfl (Pu.load rfl pl24 rfl (Ld.blk 0 rfl rfl)) (O.f rfl (Ef.call1 call57 rfl rfl (fun w hw => implCommon_ok  ((ps[i]'e1).2.2) ((ps[k]'e2).2.2) _ _ _ _ w ((Ld.old (hl.row i e1)) w hw) ((Ld.old (hl.row k e2)) w hw) (by omega) (by omega) )) ?_)))))
       rintro _ _ rfl
       refine O.exi (fun r1A => O.exi (fun r1c => O.exi (fun r1 => O.sep (O.pur ?_))))
       rintro ⟨rfl, hr1_1⟩
       have hap0 : r1.length = 0 ↔ ApartB (ps[i]'hi0).2.2 (ps[k]'hk0).2.2 := by rw [hr1_1]; exact apart_I
       refine O.q rfl (Pu.len rfl Tryz.underlying24 rfl) (O.q rfl (Pu.gtr rfl rfl rfl) (O.nil (X.next (V.condD rfl (fun c7 => ?_) (fun c7 => ?_)))))
       ·refine V.seq (V.region (O.m rfl (O.m rfl (O.nil (X.next (V.ret (X.blockRet (X.thenRet (X.thenRet (X.blockRet (X.blockRet ?_)))))))))))
        exact X.thenRet (X.thenRet (X.blockRet (X.thenRet (X.ret2 rfl rfl rfl (fun w hw => St.addPur (by rw [fm_0 hall (by omega)]; exact congrArg (fun b => Value.tuple #[.bool b, .int .i64 0]) (decide_eq_false (fun h => by have := hap0.2 ((h.2 i hi0 hi0).2 k hk0 (by omega)); omega)).symm) (hw.sub (Sub.nil _)))))))
       ·exact V.skip (X.blockNormal (X.next (V.region (O.q rfl (Pu.add64 (r := ((k + 1 : Nat) : Int)) rfl (by omega) rfl rfl rfl) (O.m rfl (O.nil (X.back3 (k + 1) ⟨by omega, fun j hj h => by by_cases e : j = k; (· subst e; exact hap0.1 (by omega)); (· exact ha j hj (by omega))⟩ (by first | omega | (dsimp only; omega)) (Ent.cons rfl (Ent.nil _)) (Ent.cons (t := 0) rfl (Ent.cons (t := 5) rfl (Ent.cons (t := 13) rfl (Ent.cons (t := 14) rfl (Ent.cons (t := 15) rfl (Ent.cons (t := 30) rfl (Ent.cons (t := 31) rfl (Ent.nil _)))))))) (Sub.keep 2 rfl (Sub.nil _)))))))))
      ·exact V.exit (X.thenExit (X.thenExit (X.blockHit (X.blockNormal (X.next (V.region (O.q rfl (Pu.add64 (r := ((i + 1 : Nat) : Int)) rfl (by omega) rfl rfl rfl) (O.m rfl (O.nil (X.back2 (i + 1) ⟨by omega, famU_succ hF hi0 (by omega) (by omega) (fun q hq hqi => ha q hq (by omega))⟩ (by first | omega | (dsimp only; omega)) (Ent.cons rfl (Ent.nil _)) (Ent.cons (t := 0) rfl (Ent.cons (t := 13) rfl (Ent.cons (t := 14) rfl (Ent.nil _)))) (Sub.nil _)))))))))))
   ·refine V.exit (X.thenExit (X.thenExit (X.blockHit (X.next (V.seq (V.region (O.m rfl (O.m rfl (O.nil (X.next (V.ret ?_)))))))))))
    exact X.ret2 rfl rfl rfl (fun w hw => St.addPur (by rw [fm_0 hall (by omega)]; exact congrArg (fun b => Value.tuple #[.bool b, .int .i64 0]) (decide_eq_true ⟨rfl, by rw [show ps.length = i by omega]; exact hF⟩).symm) (hw.sub (Sub.nil _)))
set_option maxRecDepth 100000 in
set_option maxHeartbeats 1000000 in
theorem specIsFamily_ok (ps : PsL) (ln lc : Nat) (lA : Option Addr) (w : World) (hl : RdPs w lA ps) (hln : ln = ps.length) (hcap : ln ≤ lc) (hsm : ps.length ≤ 1000000) (hrl : ∀ k (hk : k < ps.length), (ps[k]).2.2.length ≤ 100000) : Does Tryz.prog 19 [.slice lA ln lc] w [] (fun r => [.pur (r = .tuple #[.bool (decide (fmC ps = 0 ∧ FamU ps ps.length)), .int .i64 (fmC ps)])]) := by
 refine Does.enter Tryz.func19 rfl rfl [(0, .slice lA ln lc)] rfl ?_
 have htp := topP_len ps
 refine V.seq (V.region (O.m rfl (O.m rfl (O.nil (X.next (V.seq (V.seq (V.region (O.m rfl (O.nil (X.next ?_)))))))))))
 refine V.block (V.loop2 (β := Nat) (fun i => [(4, .int .i64 (i : Int))]) _ (fun i => []) (fun i => i ≤ ps.length ∧ ∀ j (hj : j < ps.length), j < i → STS (ps[j]).1 (ps[j]).2.2) (fun i => ps.length - i) 0 ⟨by omega, fun j hj h => by omega⟩ (Ent.cons rfl (Ent.nil _)) (Ent.cons (t := 0) rfl (Ent.nil _)) (Sub.nil _) ?_)
 rintro i ⟨hi, hst⟩
 refine V.seq (V.seq (V.region (O.m rfl (O.m rfl (O.q rfl (Pu.len rfl Tryz.underlying28 rfl) (O.q rfl (Pu.lss rfl rfl rfl) (O.nil (X.next (V.condD rfl (fun c1 => ?_) (fun c1 => ?_))))))))))
 ·refine V.skip (X.next (V.seq (V.block (V.seq ?_))))
  have hrli := hrl i (by omega)
  refine V.region (O.m rfl (O.m rfl (O.q rfl (Pu.indexAddrS (i) rfl Tryz.underlying28 sz26 rfl rfl (by omega) (by omega) (fun w hw => ((Ld.old hl.top) w hw).some (by omega))) ?_)))
  have e1 : i < ps.length := by omega
  refine O.q rfl (Pu.loadAgg' (v := .agg #[.int .i64 (ps[i]'e1).1, .slice (ps[i]'e1).2.1.A (ps[i]'e1).2.2.length (ps[i]'e1).2.1.c]) rfl rfl ag26 sz26 rfl rfl (Ld.rowS (fun w hw => hl.st hw) e1 rfl)) (O.f rfl (Ef.callP call53 rfl rfl (fun w hw => l01Is_ok _ (ps[i]'e1).2.2 _ _ w ((Ld.old (hl.row i e1)) w hw) (by omega))) ?_)
  rintro _ _ ⟨rfl, rfl⟩
  refine O.q rfl (Pu.not rfl rfl) (O.nil (X.next (V.condNot rfl (fun c2 => ?_) (fun c2 => ?_))))
  ·refine V.seq (V.region (O.m rfl (O.m rfl (O.nil (X.next (V.ret (X.blockRet (X.thenRet (X.thenRet (X.blockRet (X.thenRet ?_)))))))))))
   exact X.ret2 rfl rfl rfl (fun w hw => St.addPur (by rw [fm_1 (fun h => c2 (h i (by omega)))]; simp) (hw.sub (Sub.nil _)))
  ·exact V.skip (X.blockNormal (X.next (V.region (O.m rfl (O.q rfl (Pu.add64 (r := ((i + 1 : Nat) : Int)) rfl (by omega) rfl rfl rfl) (O.m rfl (O.nil (X.back2 (i + 1) ⟨by omega, fun j hj h => by by_cases e : j = i; (· subst e; exact c2); (· exact hst j hj (by omega))⟩ (by first | omega | (dsimp only; omega)) (Ent.cons rfl (Ent.nil _)) (Ent.cons (t := 0) rfl (Ent.nil _)) (Sub.nil _)))))))))
 ·refine V.exit (X.thenExit (X.thenExit (X.blockHit (X.next (V.seq (V.seq ?_))))))
  have hall : AllS ps := fun k hk => hst k hk (by omega)
  refine V.region (O.m rfl (O.q rfl (Pu.len rfl Tryz.underlying28 rfl) (O.q rfl (Pu.gtr rfl rfl rfl) (O.nil (X.next (V.condD rfl (fun c3 => ?_) (fun c3 => ?_)))))))
  ·exact V.seq (V.region (O.m rfl (O.m rfl (O.nil (X.next (V.ret (X.thenRet (X.ret2 rfl rfl rfl (fun w hw => St.addPur (by rw [fm_2 hall (by omega)]; simp) (hw.sub (Sub.nil _)))))))))))
  ·refine V.skip (X.next (V.seq (V.seq (V.region (O.m rfl (O.nil (X.next (V.block (V.loop2 (β := Nat) (fun i => [(5, .int .i64 (i : Int))]) _ (fun i => []) (fun i => i ≤ ps.length ∧ FamU ps i) (fun i => ps.length - i) 0 ⟨by omega, famU_zero⟩ (Ent.cons rfl (Ent.nil _)) (Ent.cons (t := 0) rfl (Ent.nil _)) (Sub.nil _) ?_)))))))))
   rintro i ⟨hi, hF⟩
   refine V.seq (V.seq (V.region (O.m rfl (O.m rfl (O.q rfl (Pu.len rfl Tryz.underlying28 rfl) (O.q rfl (Pu.lss rfl rfl rfl) (O.nil (X.next (V.condD rfl (fun c4 => ?_) (fun c4 => ?_))))))))))
   ·refine V.skip (X.next (V.seq (V.block (V.seq (V.seq ?_)))))
    have hi0 : i < ps.length := by omega
    have hSi := hall i hi0
    have hfi := hSi.few
    have hmi := sts_mul hSi
    have hloi := hSi.lo
    have hhii := hSi.hi
    refine V.region (O.m rfl (O.m rfl (O.q rfl (Pu.indexAddrS (i) rfl Tryz.underlying28 sz26 rfl rfl (by omega) (by omega) (fun w hw => ((Ld.old hl.top) w hw).some (by omega))) (O.q rfl (Pu.fieldAddr' rfl Tryz.underlying26 rfl sz2 rfl rfl (fun w hw => by have := Rd.some ((Ld.old hl.top) w hw) (by omega); simpa using this)) ?_))))
    have e2 : i < ps.length := by omega
    refine O.q rfl (Pu.load rfl pl2 rfl (Ld.rowSf (j := 0) (fun w hw => hl.st hw) e2 rfl rfl)) (O.q rfl (Pu.neq rfl rfl rfl) (O.m rfl (O.splitN 34 rfl (fun c5 => ?_) (fun c5 => ?_))))
    ·refine O.g rfl (O.g rfl (O.g rfl (O.g rfl (O.g rfl (O.g rfl (O.m rfl (O.nil (X.next (V.condT rfl (V.seq (V.region ?_)))))))))))
     exact O.m rfl (O.m rfl (O.nil (X.next (V.ret (X.thenRet (X.blockRet (X.thenRet (X.thenRet (X.blockRet (X.thenRet (X.ret2 rfl rfl rfl (fun w hw => St.addPur (by rw [fm_0 hall (by omega)]; exact congrArg (fun b => Value.tuple #[.bool b, .int .i64 0]) (decide_eq_false (fun h => c5 (h.2 i hi0 hi0).1.1)).symm) (hw.sub (Sub.nil _))))))))))))))
    ·refine O.gm rfl (O.gm rfl (O.gq rfl (Pu.indexAddrS (i) rfl Tryz.underlying28 sz26 rfl rfl (by omega) (by omega) (fun w hw => ((Ld.old hl.top) w hw).some (by omega))) (O.gq rfl (Pu.loadAgg' (v := .agg #[.int .i64 (ps[i]'e2).1, .slice (ps[i]'e2).2.1.A (ps[i]'e2).2.2.length (ps[i]'e2).2.1.c]) rfl rfl ag26 sz26 rfl rfl (Ld.rowS (fun w hw => hl.st hw) e2 rfl)) (O.gf rfl (Ef.callP call65 rfl rfl (fun w hw => l01Full_ok  ((ps[i]'e2).1) ((ps[i]'e2).2.2) _ _ w ((Ld.old (hl.row i e2)) w hw) (by first | omega | (simp only [tops_len, conts_len, bl, List.length_append, List.length_cons, List.length_nil] at *; omega)) (by omega) (by omega) hmi)) ?_))))
     rintro _ _ ⟨rfl, rfl⟩
     refine O.gq rfl (Pu.not rfl rfl) (O.m rfl (O.nil (X.next (V.condNot rfl (fun c6 => ?_) (fun c6 => ?_)))))
     ·refine V.seq (V.region (O.m rfl (O.m rfl (O.nil (X.next (V.ret (X.thenRet (X.blockRet (X.thenRet (X.thenRet (X.blockRet ?_)))))))))))
      exact X.thenRet (X.ret2 rfl rfl rfl (fun w hw => St.addPur (by rw [fm_0 hall (by omega)]; exact congrArg (fun b => Value.tuple #[.bool b, .int .i64 0]) (decide_eq_false (fun h => c6 (h.2 i hi0 hi0).1.2)).symm) (hw.sub (Sub.nil _))))
     ·refine V.skip (X.next (V.seq (V.region (O.m rfl (O.nil (X.next (V.block (V.loop2 (β := Nat) (fun k => [(6, .int .i64 (k : Int))]) _ (fun k => []) (fun k => k ≤ i ∧ ∀ j (hj : j < ps.length), j < k → ApartB (ps[i]'hi0).2.2 (ps[j]).2.2) (fun k => i - k) 0 ⟨by omega, fun j hj h => by omega⟩ (Ent.cons rfl (Ent.nil _)) (Ent.cons (t := 0) rfl (Ent.cons (t := 5) rfl (Ent.nil _))) (Sub.nil _) ?_))))))))
      rintro k ⟨hk, ha⟩
      refine V.seq (V.seq (V.region (O.m rfl (O.m rfl (O.q rfl (Pu.lss rfl rfl rfl) (O.nil (X.next (V.condD rfl (fun c7 => ?_) (fun c7 => ?_)))))))))
      ·refine V.skip (X.next (V.seq (V.block (V.seq ?_))))
       have hk0 : k < ps.length := by omega
       have hSk := hall k hk0
       have hfk := hSk.few
       have hap0 := apart_I (bs := (ps[i]'hi0).2.2) (q := (ps[k]'hk0).2.2)
       refine V.draw mo (by kernel_rfl) (fun hwf => D.m 0 rfl (D.m 1 rfl (D.q 2 rfl (Pu.indexAddrS (i) rfl Tryz.underlying28 sz26 rfl rfl (by omega) (by omega) (fun w hw => ((Ld.old hl.top) w hw).some (by omega))) (D.q 3 rfl (Pu.loadAgg' (v := .agg #[.int .i64 (ps[i]'e2).1, .slice (ps[i]'e2).2.1.A (ps[i]'e2).2.2.length (ps[i]'e2).2.1.c]) rfl rfl ag26 sz26 rfl rfl (Ld.rowS (fun w hw => hl.st hw) e2 rfl)) (D.m 4 rfl (D.m 5 rfl (D.q 6 rfl (Pu.indexAddrS (k) rfl Tryz.underlying28 sz26 rfl rfl (by omega) (by omega) (fun w hw => ((Ld.old hl.top) w hw).some (by omega))) ?_)))))))
       have e3 : k < ps.length := by omega
       refine D.q 7 rfl (Pu.loadAgg' (v := .agg #[.int .i64 (ps[k]'e3).1, .slice (ps[k]'e3).2.1.A (ps[k]'e3).2.2.length (ps[k]'e3).2.1.c]) rfl rfl ag26 sz26 rfl rfl (Ld.rowS (fun w hw => hl.st hw) e3 rfl)) (D.f hwf 8 rfl (Ef.callP call58 rfl rfl (fun w hw => l10Common_ok  ((ps[i]'e2).1) ((ps[i]'e2).2.2) ((ps[k]'e3).1) ((ps[k]'e3).2.2) _ _ _ _ w ((Ld.old (hl.row i e2)) w hw) ((Ld.old (hl.row k e3)) w hw) (by omega) (by omega) (by omega) (by omega))) ?_)
       rintro _ _ ⟨rfl, rfl⟩ hs
       refine ⟨fun w hw => hw, (D.q 9 rfl (Pu.gtr rfl rfl rfl) (D.done hwf rfl (X.next (V.condD rfl (fun c8 => ?_) (fun c8 => ?_)))))⟩
       ·refine V.seq (V.region (O.m rfl (O.m rfl (O.nil (X.next (V.ret (X.blockRet (X.thenRet (X.thenRet (X.blockRet (X.blockRet ?_)))))))))))
        exact X.thenRet (X.thenRet (X.blockRet (X.thenRet (X.ret2 rfl rfl rfl (fun w hw => St.addPur (by rw [fm_0 hall (by omega)]; exact congrArg (fun b => Value.tuple #[.bool b, .int .i64 0]) (decide_eq_false (fun h => by have := hap0.2 ((h.2 i hi0 hi0).2 k hk0 (by omega)); omega)).symm) (hw.sub (Sub.nil _)))))))
       ·exact V.skip (X.blockNormal (X.next (V.region (O.m rfl (O.q rfl (Pu.add64 (r := ((k + 1 : Nat) : Int)) rfl (by omega) rfl rfl rfl) (O.m rfl (O.nil (X.back2 (k + 1) ⟨by omega, fun j hj h => by by_cases e : j = k; (· subst e; exact hap0.1 (by omega)); (· exact ha j hj (by omega))⟩ (by first | omega | (dsimp only; omega)) (Ent.cons rfl (Ent.nil _)) (Ent.cons (t := 0) rfl (Ent.cons (t := 5) rfl (Ent.nil _))) (Sub.nil _)))))))))
      ·exact V.exit (X.thenExit (X.thenExit (X.blockHit (X.blockNormal (X.next (V.region (O.m rfl (O.q rfl (Pu.add64 (r := ((i + 1 : Nat) : Int)) rfl (by omega) rfl rfl rfl) (O.m rfl (O.nil (X.back2 (i + 1) ⟨by omega, famU_succ hF hi0 (by omega) (by omega) (fun q hq hqi => ha q hq (by omega))⟩ (by first | omega | (dsimp only; omega)) (Ent.cons rfl (Ent.nil _)) (Ent.cons (t := 0) rfl (Ent.nil _)) (Sub.nil _))))))))))))
   ·refine V.exit (X.thenExit (X.thenExit (X.blockHit (X.next (V.seq (V.region (O.m rfl (O.m rfl (O.nil (X.next (V.ret ?_)))))))))))
    exact X.ret2 rfl rfl rfl (fun w hw => St.addPur (by rw [fm_0 hall (by omega)]; exact congrArg (fun b => Value.tuple #[.bool b, .int .i64 0]) (decide_eq_true ⟨rfl, by rw [show ps.length = i by omega]; exact hF⟩).symm) (hw.sub (Sub.nil _)))
end Go.Proofs.YthlmfgmmbfbhhaaGreat
