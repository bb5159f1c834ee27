/-
  Contracts, part 9.
-/
import Derived.Test.YtgfpljeppfaolaaGreatKb8
set_option linter.unusedVariables false
set_option linter.unusedSimpArgs false
namespace Go.Proofs.YtgfpljeppfaolaaGreat
open Go Go.RowKit Go.Vc Go.Proofs
set_option maxRecDepth 100000 in
set_option maxHeartbeats 1000000 in
theorem implCycle_ok (v : Int) (bs : List B3) (a : Int) (b : Int) (p : Int) (A : Option Addr) (c : Nat) (w : World) (hx : Rd B3C w A bs) (lx : bs.length ≤ 4611686018427387904) : Does Tryz.prog 12 [.agg #[.int .i64 v, .slice A bs.length c], .int .i64 a, .int .i64 b, .int .i64 p] w [] (fun r => [.exi fun (oA : Option Addr) => .exi fun (oc : Nat) => .exi fun (o : List B3) => .exi fun (iA : Option Addr) => .exi fun (ic : Nat) => .exi fun (i : List B3) => .sep (.pur (r = .tuple #[.agg #[.int .i64 (if cyCode v bs a b p = 0 then v else 0), .slice oA o.length oc, .slice iA i.length ic], .int .i64 (cyCode v bs a b p)] ∧ CYR v bs a b p o i)) (.sep (Own 81 B3C oA oc o) (Own 81 B3C iA ic i))]) := by
 refine Does.enter Tryz.func12 rfl rfl [(0, .agg #[.int .i64 v, .slice A bs.length c]), (1, .int .i64 a), (2, .int .i64 b), (3, .int .i64 p)] rfl (Za (O.f rfl (Ef.box rfl rfl rfl) ?_))
 rintro _ _ ⟨b1, rfl, rfl⟩
 refine O.f rfl (Ef.alloc rfl zr35 rfl) ?_
 rintro _ _ ⟨b2, rfl, rfl⟩
 refine O.m rfl (Zc (O.q rfl (Pu.loadAgg rfl ag26 sz26 rfl rfl (Ld.whole 1 rfl)) (O.m rfl (O.m rfl (O.f rfl (Ef.callP call69 rfl rfl (fun w hw => pairCode_ok  v bs a b _ _ w ((Ld.old hx) w hw) (by first | omega | (simp only [tops_len, conts_len, bl, List.length_append, List.length_cons, List.length_nil] at *; omega)) )) ?_)))))
 rintro _ _ ⟨rfl, rfl⟩
 refine O.m rfl (Zb (O.m rfl (O.q rfl (Pu.neq rfl rfl rfl) (Zf (V.condNot rfl (fun c1 => ?_) (fun c1 => ?_))))))
 ·refine Za (O.q rfl (Pu.buildS (cs := [.int .i64 (0 : Int), .slice none 0 0, .slice none 0 0]) rfl rfl ut35 zr35 (by kernel_rfl) rfl (by kernel_rfl)) (O.m rfl (O.s rfl rfl (Ef.storeAll 0 rfl sz35 rfl rfl rfl rfl (by simp [Value.oneCell']) rfl) ?_)))
  rintro _ _ rfl
  exact O.m rfl (Ze (Xr (X.retCell2 rfl ag35 sz35 rfl rfl rfl (Ld.whole 0 rfl) (fun w hw => St.mkExi none (St.mkExi 0 (St.mkExi [] (St.mkExi none (St.mkExi 0 (St.mkExi [] (St.unsep (St.addPur ⟨(by rw [cyCode_np c1, if_neg c1]; rfl), cyR_no (cyCode_np c1) c1⟩ (St.unsep (St.addNil (T := 81) (C := B3C) (St.addNil (T := 81) (C := B3C) (hw.sub (Sub.nil _))))))))))))))))
 ·have hc0 : (if STS v bs then if Pt v a ∧ Pt v b ∧ a ≠ b then (0 : Int) else 2 else 1) = 0 := by omega
  have hS : STS v bs := by apply Decidable.byContradiction; intro h; rw [if_neg h] at hc0; omega
  rw [if_pos hS] at hc0
  have hP : Pt v a ∧ Pt v b ∧ a ≠ b := by apply Decidable.byContradiction; intro h; rw [if_neg h] at hc0; omega
  obtain ⟨pa, pb, hne⟩ := hP
  unfold Pt at pa pb
  have hhi := hS.hi
  have hlo := hS.lo
  have hfew := hS.few
  have hg : ∀ b ∈ bs, good 15 b := fun b h => (hS.good b h).mono hS.hi
  have hmul := sts_mul' hS
  have htt := third_tab hS hne
  refine Vk (Xn (Za (O.q rfl (Pu.loadAgg rfl ag26 sz26 rfl rfl (Ld.whole 1 rfl)) (O.f rfl (Ef.call1 call70 rfl rfl (fun w hw => sysGrid_ok  v bs _ _ w ((Ld.old hx) w hw) (by first | omega | (simp only [tops_len, conts_len, bl, List.length_append, List.length_cons, List.length_nil] at *; omega)) hg hS.fits)) ?_))))
  rintro _ _ rfl
  refine O.exi (fun g1 => O.sep (O.pur ?_))
  rintro rfl
  refine O.m rfl (Zf (Vs (Vb (Za (O.q rfl (Pu.loadAgg rfl ag26 sz26 rfl rfl (Ld.whole 2 rfl)) (O.m rfl (O.f rfl (Ef.callP call71 rfl rfl (fun w hw => isPoint_ok  v bs p _ _ w ((Ld.old hx) w hw) (by first | omega | (simp only [tops_len, conts_len, bl, List.length_append, List.length_cons, List.length_nil] at *; omega)) (by omega))) ?_)))))))
  rintro _ _ ⟨rfl, rfl⟩
  refine O.q rfl (Pu.not rfl rfl) (O.m rfl (O.splitN 34 rfl (fun c2 => ?_) (fun c2 => ?_)))
  ·refine O.g rfl (O.g rfl (O.g rfl (O.m rfl (O.m rfl (O.g rfl (O.g rfl (O.g rfl (O.m rfl (O.m rfl (O.g rfl (O.g rfl ?_)))))))))))
   refine O.g rfl (O.g rfl (O.g rfl (O.g rfl (O.g rfl (O.g rfl (O.g rfl (O.m rfl (O.m rfl (Zf (V.condT rfl ?_))))))))))
   refine Za (O.q rfl (Pu.buildS (cs := [.int .i64 (0 : Int), .slice none 0 0, .slice none 0 0]) rfl rfl ut35 zr35 (by kernel_rfl) rfl (by kernel_rfl)) (O.s rfl rfl (Ef.storeAll 1 rfl sz35 rfl rfl rfl rfl (by simp [Value.oneCell']) rfl) ?_))
   rintro _ _ rfl
   exact O.m rfl (Ze (Xq (Xr (X.retCell2 rfl ag35 sz35 rfl rfl rfl (Ld.whole 1 rfl) (fun w hw => St.mkExi none (St.mkExi 0 (St.mkExi [] (St.mkExi none (St.mkExi 0 (St.mkExi [] (St.unsep (St.addPur ⟨(by rw [cyCode_2 hS (fun h => c2 h.2.2.1)]; rfl), cyR_no (cyCode_2 hS (fun h => c2 h.2.2.1)) (by decide)⟩ (St.unsep (St.addNil (T := 81) (C := B3C) (St.addNil (T := 81) (C := B3C) (hw.sub (Sub.nil _)))))))))))))))))
  ·refine O.gm rfl (O.gm rfl (O.gq rfl (Pu.eql rfl rfl rfl) (O.m rfl (O.m rfl (O.splitD 39 rfl (fun c3 => ?_) (fun c3 => ?_))))))
   ·refine O.g rfl (O.g rfl (O.g rfl (O.m rfl (O.m rfl (O.g rfl (O.g rfl (O.g rfl (O.g rfl (O.g rfl (O.g rfl (O.g rfl ?_)))))))))))
    refine O.g rfl (O.g rfl (O.m rfl (O.m rfl (Zf (V.condT rfl (Za (O.q rfl (Pu.buildS (cs := [.int .i64 (0 : Int), .slice none 0 0, .slice none 0 0]) rfl rfl ut35 zr35 (by kernel_rfl) rfl (by kernel_rfl)) (O.s rfl rfl (Ef.storeAll 1 rfl sz35 rfl rfl rfl rfl (by simp [Value.oneCell']) rfl) ?_))))))))
    rintro _ _ rfl
    exact O.m rfl (Ze (Xq (Xr (X.retCell2 rfl ag35 sz35 rfl rfl rfl (Ld.whole 1 rfl) (fun w hw => St.mkExi none (St.mkExi 0 (St.mkExi [] (St.mkExi none (St.mkExi 0 (St.mkExi [] (St.unsep (St.addPur ⟨(by rw [cyCode_2 hS (fun h => h.2.2.2.2.1 c3)]; rfl), cyR_no (cyCode_2 hS (fun h => h.2.2.2.2.1 c3)) (by decide)⟩ (St.unsep (St.addNil (T := 81) (C := B3C) (St.addNil (T := 81) (C := B3C) (hw.sub (Sub.nil _)))))))))))))))))
   ·refine O.gm rfl (O.gm rfl (O.gq rfl (Pu.eql rfl rfl rfl) (O.m rfl (O.m rfl (O.splitD 44 rfl (fun c4 => ?_) (fun c4 => ?_))))))
    ·refine O.g rfl (O.g rfl (O.g rfl (O.g rfl (O.g rfl (O.g rfl (O.g rfl (O.g rfl (O.g rfl (O.m rfl (O.m rfl (On ?_)))))))))))
     refine Xn (V.condT rfl (Za (O.q rfl (Pu.buildS (cs := [.int .i64 (0 : Int), .slice none 0 0, .slice none 0 0]) rfl rfl ut35 zr35 (by kernel_rfl) rfl (by kernel_rfl)) (O.s rfl rfl (Ef.storeAll 1 rfl sz35 rfl rfl rfl rfl (by simp [Value.oneCell']) rfl) ?_))))
     rintro _ _ rfl
     exact O.m rfl (Ze (Xq (Xr (X.retCell2 rfl ag35 sz35 rfl rfl rfl (Ld.whole 1 rfl) (fun w hw => St.mkExi none (St.mkExi 0 (St.mkExi [] (St.mkExi none (St.mkExi 0 (St.mkExi [] (St.unsep (St.addPur ⟨(by rw [cyCode_2 hS (fun h => h.2.2.2.2.2.1 c4)]; rfl), cyR_no (cyCode_2 hS (fun h => h.2.2.2.2.2.1 c4)) (by decide)⟩ (St.unsep (St.addNil (T := 81) (C := B3C) (St.addNil (T := 81) (C := B3C) (hw.sub (Sub.nil _)))))))))))))))))
    ·refine O.gm rfl (O.gm rfl (O.gm rfl (O.gm rfl (O.gm rfl (O.gq rfl (Pu.indexArr ((a).toNat) (0 + (a).toNat * 15) rfl ut198 sz89 rfl rfl (by omega) (by omega) rfl) (O.gq rfl (Pu.indexArr ((b).toNat) (0 + (a).toNat * 15 + (b).toNat * 1) rfl ut89 sz2 rfl rfl (by omega) (by omega) rfl) (O.gq rfl (Pu.load rfl pl2 rfl (Ld.grid (x := a) (y := b) 0 rfl (by omega) (by omega) (by omega))) (O.gq rfl (Pu.eql rfl rfl rfl) (O.m rfl (O.m rfl (On ?_)))))))))))
     refine Xn (V.condD rfl (fun c5 => ?_) (fun c5 => ?_))
     ·refine Za (O.q rfl (Pu.buildS (cs := [.int .i64 (0 : Int), .slice none 0 0, .slice none 0 0]) rfl rfl ut35 zr35 (by kernel_rfl) rfl (by kernel_rfl)) (O.s rfl rfl (Ef.storeAll 1 rfl sz35 rfl rfl rfl rfl (by simp [Value.oneCell']) rfl) ?_))
      rintro _ _ rfl
      exact O.m rfl (Ze (Xq (Xr (X.retCell2 rfl ag35 sz35 rfl rfl rfl (Ld.whole 1 rfl) (fun w hw => St.mkExi none (St.mkExi 0 (St.mkExi [] (St.mkExi none (St.mkExi 0 (St.mkExi [] (St.unsep (St.addPur ⟨(by rw [cyCode_2 hS (fun h => h.2.2.2.2.2.2 (c5.trans htt.symm))]; rfl), cyR_no (cyCode_2 hS (fun h => h.2.2.2.2.2.2 (c5.trans htt.symm))) (by decide)⟩ (St.unsep (St.addNil (T := 81) (C := B3C) (St.addNil (T := 81) (C := B3C) (hw.sub (Sub.nil _)))))))))))))))))
     ·have hok : CyOk v bs a b p := ⟨pa, pb, c2, hne, c3, c4, fun e => c5 (e.trans htt)⟩
      refine Za (O.q rfl (Pu.loadAgg rfl ag26 sz26 rfl rfl (Ld.whole 2 rfl)) (O.f rfl (Ef.callP call72 rfl rfl (fun w hw => isFullC_ok  v bs _ _ w ((Ld.old hx) w hw) (by first | omega | (simp only [tops_len, conts_len, bl, List.length_append, List.length_cons, List.length_nil] at *; omega)) (by omega) (by omega) hmul)) ?_))
      rintro _ _ ⟨rfl, rfl⟩
      refine O.q rfl (Pu.not rfl rfl) (O.m rfl (Zf (V.condNot rfl (fun c6 => ?_) (fun c6 => ?_))))
      ·refine Za (O.q rfl (Pu.buildS (cs := [.int .i64 (0 : Int), .slice none 0 0, .slice none 0 0]) rfl rfl ut35 zr35 (by kernel_rfl) rfl (by kernel_rfl)) (O.s rfl rfl (Ef.storeAll 1 rfl sz35 rfl rfl rfl rfl (by simp [Value.oneCell']) rfl) ?_))
       rintro _ _ rfl
       exact O.m rfl (Ze (Xq (Xr (X.retCell2 rfl ag35 sz35 rfl rfl rfl (Ld.whole 1 rfl) (fun w hw => St.mkExi none (St.mkExi 0 (St.mkExi [] (St.mkExi none (St.mkExi 0 (St.mkExi [] (St.unsep (St.addPur ⟨(by rw [cyCode_5 hS hok c6]; rfl), cyR_no (cyCode_5 hS hok c6) (by decide)⟩ (St.unsep (St.addNil (T := 81) (C := B3C) (St.addNil (T := 81) (C := B3C) (hw.sub (Sub.nil _)))))))))))))))))
      ·have hcode := cyCode_0 hS hok c6
       have hab := cy_ok hcode
       obtain ⟨N, P⟩ := per_some hab.1 hab.2
       have hN := P.le
       refine Vk (Xb (Xn (Za (O.m rfl (O.m rfl (O.m rfl (O.m rfl (O.f rfl (Ef.call1 call73 rfl rfl (fun w hw => cycle_ok v bs N _ (tab bs) a b p w (GridAt.of (i := 0) hw (by exact rfl))  hab.1 hab.2 P rfl)) ?_))))))))
       rintro _ _ rfl
       refine O.exi (fun r1A => O.exi (fun r1c => O.exi (fun r1 => O.sep (O.pur ?_))))
       rintro ⟨rfl, hr1_1⟩
       have hlr : r1.length = 2 * N := by rw [hr1_1]; unfold cycL; rw [List.length_map, List.length_range]
       refine O.m rfl (Zb (O.q rfl (Pu.fieldAddr 0 rfl ut26 rfl sz2 rfl rfl) (O.q rfl (Pu.load rfl pl2 rfl (Ld.blk 3 rfl rfl)) (O.q rfl (Pu.buildS (cs := [.int .i64 v, .slice none 0 0, .slice none 0 0]) rfl rfl ut35 zr35 (by kernel_rfl) rfl (by kernel_rfl)) (O.f rfl (Ef.alloc rfl zr35 rfl) ?_)))))
       rintro _ _ ⟨b3, rfl, rfl⟩
       refine O.s rfl rfl (Ef.storeAll 0 rfl sz35 rfl rfl rfl rfl (by simp [Value.oneCell']) rfl) ?_
       rintro _ _ rfl
       refine Zc (O.q rfl (Pu.fieldAddr 1 rfl ut26 rfl sz24 rfl rfl) (O.q rfl (Pu.load rfl pl24 rfl (Ld.blk 4 rfl rfl)) (O.q rfl (Pu.len rfl ut24 rfl) (O.m rfl (Zi ?_)))))
       refine V.map (fun w hw => St.addNil (T := 81) (C := B3C) hw) (V.loop3 (β := Nat × (Option Addr) × Nat × (List B3)) (fun x => [(72, .int .i64 (x.1 : Int))]) _ (fun x => [Blk b3 [.int .i64 v, .slice x.2.1 x.2.2.2.length x.2.2.1, .slice none 0 0] 35, Own 81 B3C x.2.1 x.2.2.1 x.2.2.2]) _ (fun x => x.1 ≤ bs.length ∧ x.2.2.2 = (bs.take x.1).filter (fun d => decide (inY r1 a b d)) ∧ x.2.2.2.length ≤ x.1) (fun x => bs.length - x.1) (0, none, 0, []) (by (try dsimp only); exact ⟨by omega, rfl, by simp⟩) (Ent.cons rfl (Ent.nil _)) (Ent.cons (t := 1) rfl (Ent.cons (t := 2) rfl (Ent.cons (t := 8) rfl (Ent.cons (t := 12) rfl (Ent.cons (t := 13) rfl (Ent.cons (t := 70) rfl (Ent.cons (t := 71) rfl (Ent.nil _)))))))) (Sub.s [1,0,0,0,0,0] rfl) ?_)
       rintro ⟨k, outA, outc, out⟩ ⟨hk, ho, hl⟩
       dsimp only at hk ho hl ⊢
       refine Za (O.q rfl (Pu.lss rfl rfl rfl) (Zf (Vs (V.condD rfl (fun c7 => ?_) (fun c7 => ?_)))))
       ·refine Zh (O.q rfl (Pu.indexAddr (k) rfl ut24 sz81 rfl rfl (by omega) (by omega) (hx.some (by omega))) ?_)
        have e1 : k < bs.length := by omega
        refine O.q rfl (Pu.loadAgg' (v := B3.v (bs[k]'e1)) rfl rfl ag81 sz81 rfl rfl (Ld.rds (Ld.old hx) (k := k) e1 rfl)) (O.f rfl (Ef.alloc rfl zr81 rfl) ?_)
        rintro _ _ ⟨b4, rfl, rfl⟩
        refine O.s rfl rfl (Ef.storeAll 0 rfl sz81 rfl rfl rfl rfl (by simp [Value.oneCell']) rfl) ?_
        rintro _ _ rfl
        refine Zb (O.m rfl (Zc (O.q rfl (Pu.loadAgg' (v := B3.v (bs[k]'e1)) rfl rfl ag81 sz81 rfl rfl (Ld.whole 0 rfl)) (O.m rfl ?_))))
        refine Zi (V.unroll 3 (Za (O.q rfl (Pu.isT (by decide) (Pu.lss rfl rfl rfl)) (Zf (Vs (V.condT rfl (Vk ?_)))))))
        refine Xn (Vs (Vb (Za (O.q rfl (Pu.indexAgg 0 rfl ut81 sz2 pl2 rfl rfl (by decide) (by decide) rfl) (O.m rfl (Zb (O.m rfl ?_)))))))
        refine O.m rfl (O.f rfl (Ef.callP call74 rfl rfl (fun w hw => containsI_ok  r1 ((bs[k]'e1).1) _ _ w ((Ld.own 3 (by exact rfl)) w hw) (by first | omega | (simp only [tops_len, conts_len, bl, List.length_append, List.length_cons, List.length_nil] at *; omega)) )) ?_)
        rintro _ _ ⟨rfl, rfl⟩
        refine Zf (V.condD rfl (fun c8 => ?_) (fun c8 => ?_))
        ·refine Vr (O.m rfl (O.q rfl (Pu.add64 (r := 1) (by decide) (by decide) rfl rfl rfl) (O.m rfl (Zk (O.q rfl (Pu.add64 (r := 1) (by decide) (by decide) rfl rfl rfl) (O.m rfl (On (X.again 2 ?_))))))))
         refine Za (O.q rfl (Pu.isT (by decide) (Pu.lss rfl rfl rfl)) (Zf (Vs (V.condT rfl (Vk (Xn (Vs (Vb (Vs ?_)))))))))
         refine Vr (O.q rfl (Pu.indexAgg 1 rfl ut81 sz2 pl2 rfl rfl (by decide) (by decide) rfl) (O.m rfl (Zb (O.m rfl (O.m rfl (O.f rfl (Ef.callP call74 rfl rfl (fun w hw => containsI_ok  r1 ((bs[k]'e1).2.1) _ _ w ((Ld.own 3 (by exact rfl)) w hw) (by first | omega | (simp only [tops_len, conts_len, bl, List.length_append, List.length_cons, List.length_nil] at *; omega)) )) ?_))))))
         rintro _ _ ⟨rfl, rfl⟩
         refine Zf (V.condD rfl (fun c9 => ?_) (fun c9 => ?_))
         ·refine Vr (O.m rfl (O.q rfl (Pu.add64 (r := 2) (by decide) (by decide) rfl rfl rfl) (O.m rfl (Zk (O.q rfl (Pu.add64 (r := 2) (by decide) (by decide) rfl rfl rfl) (O.m rfl (On (X.again 1 ?_))))))))
          refine Za (O.q rfl (Pu.isT (by decide) (Pu.lss rfl rfl rfl)) (Zf (Vs (V.condT rfl (Vk (Xn (Vs (Vb (Vs ?_)))))))))
          refine Vr (O.q rfl (Pu.indexAgg 2 rfl ut81 sz2 pl2 rfl rfl (by decide) (by decide) rfl) (O.m rfl (Zb (O.m rfl (O.m rfl (O.f rfl (Ef.callP call74 rfl rfl (fun w hw => containsI_ok  r1 ((bs[k]'e1).2.2) _ _ w ((Ld.own 3 (by exact rfl)) w hw) (by first | omega | (simp only [tops_len, conts_len, bl, List.length_append, List.length_cons, List.length_nil] at *; omega)) )) ?_))))))
          rintro _ _ ⟨rfl, rfl⟩
          refine Zf (V.condD rfl (fun c10 => ?_) (fun c10 => ?_))
          ·refine Vr (O.m rfl (O.q rfl (Pu.add64 (r := 3) (by decide) (by decide) rfl rfl rfl) (O.m rfl (Zk (O.q rfl (Pu.add64 (r := 3) (by decide) (by decide) rfl rfl rfl) (O.m rfl (On (X.again 0 ?_))))))))
           refine Za (O.q rfl (Pu.isF (by decide) (Pu.lss rfl rfl rfl)) (Zf (Vs (V.condF rfl (Ve (Xe (Xe (Xh (Xn ?_)))))))))
           refine Za (O.m rfl (O.q rfl (Pu.isF (by decide) (Pu.eql rfl rfl rfl)) (O.m rfl (O.g rfl (O.g rfl (O.g rfl (O.g rfl (O.g rfl (O.g rfl (O.g rfl ?_))))))))))
           exact O.g rfl (O.m rfl (Zf (V.condF rfl (Zg (O.q rfl (Pu.add64 (r := ((k + 1 : Nat) : Int)) rfl (by omega) rfl rfl rfl) (O.m rfl (On (X.back3 (k + 1, outA, outc, out) (by (try dsimp only); exact ⟨by omega, by rw [flt_no e1 (decide_eq_false (fun h => by obtain ⟨h1, h2⟩ := h; rw [cntY_val] at h1; (repeat' split at h1) <;> first | omega | contradiction | (exact h2.elim (by assumption) (by assumption))))]; exact ho, by omega⟩) (by first | omega | (dsimp only; omega)) (Ent.cons rfl (Ent.nil _)) (Ent.cons (t := 1) rfl (Ent.cons (t := 2) rfl (Ent.cons (t := 8) rfl (Ent.cons (t := 12) rfl (Ent.cons (t := 13) rfl (Ent.cons (t := 70) rfl (Ent.cons (t := 71) rfl (Ent.nil _)))))))) (Sub.s [1,1,1,1,1,1] rfl)))))))))
          ·refine Zg (O.q rfl (Pu.add64 (r := 3) (by decide) (by decide) rfl rfl rfl) (O.m rfl (On (X.again 0 (Za (O.q rfl (Pu.isF (by decide) (Pu.lss rfl rfl rfl)) (On ?_)))))))
           refine Xn (Vs (V.condF rfl (Zd (O.m rfl (O.q rfl (Pu.isT (by decide) (Pu.eql rfl rfl rfl)) ?_)))))
           refine O.m rfl (O.gq rfl (Pu.loadAgg' (v := B3.v (bs[k]'e1)) rfl rfl ag81 sz81 rfl rfl (Ld.whole 0 rfl)) (O.gm rfl (O.gf rfl (Ef.callP call75 rfl rfl (fun w hw => has_ok (bs[k]'e1) _ w)) ?_)))
           rintro _ _ ⟨rfl, rfl⟩
           refine O.gm rfl (O.splitD 92 rfl (fun c11 => ?_) (fun c11 => ?_))
           ·refine O.g rfl (O.g rfl (O.g rfl (O.gm rfl (O.m rfl (Zf (V.condT rfl (Vr (O.q rfl (Pu.fieldAddr 1 rfl ut35 rfl sz24 rfl rfl) (O.q rfl (Pu.load rfl pl24 rfl (Ld.blk 1 rfl rfl)) (O.q rfl (Pu.loadAgg' (v := B3.v (bs[k]'e1)) rfl rfl ag81 sz81 rfl rfl (Ld.whole 0 rfl)) ?_))))))))))
            refine O.f rfl (Ef.build B3C ([(bs[k]'e1)] : List B3) rfl ut24 inf81 rfl rfl rfl (by first | decide | (simp; done)) (by kernel_rfl)) ?_
            rintro _ _ ⟨A1, hA1, rfl, rfl⟩
            refine O.f rfl (Ef.append (xs := out) (ys := ([(bs[k]'e1)] : List B3)) 3 rfl ut24 inf81 rfl rfl rfl rfl rfl rfl hA1 (Ld.own 0 (by exact rfl)) (by simp only [List.length_append, List.length_cons, List.length_nil] at *; omega) (by decide)) ?_
            rintro _ _ ⟨A2, k1, rfl, rfl, hA2⟩
            replace hA2 := hA2 (.inr (by simp))
            refine O.q rfl (Pu.fieldAddr 1 rfl ut35 rfl sz24 rfl rfl) (O.s rfl rfl (Ef.store1 (cs' := [_, _, _]) 2 rfl sz24 rfl rfl rfl rfl rfl (ltb rfl) rfl) ?_)
            rintro _ _ rfl
            exact Zk (O.q rfl (Pu.add64 (r := ((k + 1 : Nat) : Int)) rfl (by omega) rfl rfl rfl) (O.m rfl (On (X.back3 (k + 1, A2, k1, (out ++ ([(bs[k]'e1)] : List B3))) (by (try dsimp only); exact ⟨by omega, by rw [flt_yes e1 (decide_eq_true ⟨by rw [cntY_val]; (repeat' split) <;> first | rfl | contradiction, by first | exact .inl (by assumption) | exact .inr (by assumption)⟩), ho], by simp only [List.length_append, List.length_singleton]; omega⟩) (by first | omega | (dsimp only; omega)) (Ent.cons rfl (Ent.nil _)) (Ent.cons (t := 1) rfl (Ent.cons (t := 2) rfl (Ent.cons (t := 8) rfl (Ent.cons (t := 12) rfl (Ent.cons (t := 13) rfl (Ent.cons (t := 70) rfl (Ent.cons (t := 71) rfl (Ent.nil _)))))))) (Sub.s [2,2,2,2,2,2] rfl)))))
           ·refine O.gq rfl (Pu.loadAgg' (v := B3.v (bs[k]'e1)) rfl rfl ag81 sz81 rfl rfl (Ld.whole 0 rfl)) (O.gm rfl (O.gf rfl (Ef.callP call75 rfl rfl (fun w hw => has_ok (bs[k]'e1) _ w)) ?_))
            rintro _ _ ⟨rfl, rfl⟩
            refine O.gm rfl (O.m rfl (Zf (V.condD rfl (fun c12 => ?_) (fun c12 => ?_))))
            ·refine Vr (O.q rfl (Pu.fieldAddr 1 rfl ut35 rfl sz24 rfl rfl) (O.q rfl (Pu.load rfl pl24 rfl (Ld.blk 1 rfl rfl)) (O.q rfl (Pu.loadAgg' (v := B3.v (bs[k]'e1)) rfl rfl ag81 sz81 rfl rfl (Ld.whole 0 rfl)) (O.f rfl (Ef.build B3C ([(bs[k]'e1)] : List B3) rfl ut24 inf81 rfl rfl rfl (by first | decide | (simp; done)) (by kernel_rfl)) ?_))))
             rintro _ _ ⟨A3, hA3, rfl, rfl⟩
             refine O.f rfl (Ef.append (xs := out) (ys := ([(bs[k]'e1)] : List B3)) 3 rfl ut24 inf81 rfl rfl rfl rfl rfl rfl hA3 (Ld.own 0 (by exact rfl)) (by simp only [List.length_append, List.length_cons, List.length_nil] at *; omega) (by decide)) ?_
             rintro _ _ ⟨A4, k2, rfl, rfl, hA4⟩
             replace hA4 := hA4 (.inr (by simp))
             refine O.q rfl (Pu.fieldAddr 1 rfl ut35 rfl sz24 rfl rfl) (O.s rfl rfl (Ef.store1 (cs' := [_, _, _]) 2 rfl sz24 rfl rfl rfl rfl rfl (ltb rfl) rfl) ?_)
             rintro _ _ rfl
             exact Zk (O.q rfl (Pu.add64 (r := ((k + 1 : Nat) : Int)) rfl (by omega) rfl rfl rfl) (O.m rfl (On (X.back3 (k + 1, A4, k2, (out ++ ([(bs[k]'e1)] : List B3))) (by (try dsimp only); exact ⟨by omega, by rw [flt_yes e1 (decide_eq_true ⟨by rw [cntY_val]; (repeat' split) <;> first | rfl | contradiction, by first | exact .inl (by assumption) | exact .inr (by assumption)⟩), ho], by simp only [List.length_append, List.length_singleton]; omega⟩) (by first | omega | (dsimp only; omega)) (Ent.cons rfl (Ent.nil _)) (Ent.cons (t := 1) rfl (Ent.cons (t := 2) rfl (Ent.cons (t := 8) rfl (Ent.cons (t := 12) rfl (Ent.cons (t := 13) rfl (Ent.cons (t := 70) rfl (Ent.cons (t := 71) rfl (Ent.nil _)))))))) (Sub.s [2,2,2,2,2,2] rfl)))))
            ·exact Zg (O.q rfl (Pu.add64 (r := ((k + 1 : Nat) : Int)) rfl (by omega) rfl rfl rfl) (O.m rfl (On (X.back3 (k + 1, outA, outc, out) (by (try dsimp only); exact ⟨by omega, by rw [flt_no e1 (decide_eq_false (fun h => by obtain ⟨h1, h2⟩ := h; rw [cntY_val] at h1; (repeat' split at h1) <;> first | omega | contradiction | (exact h2.elim (by assumption) (by assumption))))]; exact ho, by omega⟩) (by first | omega | (dsimp only; omega)) (Ent.cons rfl (Ent.nil _)) (Ent.cons (t := 1) rfl (Ent.cons (t := 2) rfl (Ent.cons (t := 8) rfl (Ent.cons (t := 12) rfl (Ent.cons (t := 13) rfl (Ent.cons (t := 70) rfl (Ent.cons (t := 71) rfl (Ent.nil _)))))))) (Sub.s [1,1,1,1,1,1] rfl)))))
         ·refine Zg (O.q rfl (Pu.add64 (r := 2) (by decide) (by decide) rfl rfl rfl) (O.m rfl (On (X.again 1 (Za (O.q rfl (Pu.isT (by decide) (Pu.lss rfl rfl rfl)) (On ?_)))))))
          refine Xn (Vs (V.condT rfl (Zh (O.q rfl (Pu.indexAgg 2 rfl ut81 sz2 pl2 rfl rfl (by decide) (by decide) rfl) (O.m rfl (On ?_))))))
          refine Xn (Za (O.m rfl (O.m rfl (O.f rfl (Ef.callP call74 rfl rfl (fun w hw => containsI_ok  r1 ((bs[k]'e1).2.2) _ _ w ((Ld.own 3 (by exact rfl)) w hw) (by first | omega | (simp only [tops_len, conts_len, bl, List.length_append, List.length_cons, List.length_nil] at *; omega)) )) ?_))))
          rintro _ _ ⟨rfl, rfl⟩
          refine Zf (V.condD rfl (fun c13 => ?_) (fun c13 => ?_))
          ·refine Vr (O.m rfl (O.q rfl (Pu.add64 (r := 2) (by decide) (by decide) rfl rfl rfl) (O.m rfl (Zk (O.q rfl (Pu.add64 (r := 3) (by decide) (by decide) rfl rfl rfl) (O.m rfl (On (X.again 0 ?_))))))))
           refine Za (O.q rfl (Pu.isF (by decide) (Pu.lss rfl rfl rfl)) (Zf (Vs (V.condF rfl (Ve (Xe (Xe (Xh (Xn ?_)))))))))
           refine Za (O.m rfl (O.q rfl (Pu.isT (by decide) (Pu.eql rfl rfl rfl)) (O.m rfl (O.gq rfl (Pu.loadAgg' (v := B3.v (bs[k]'e1)) rfl rfl ag81 sz81 rfl rfl (Ld.whole 0 rfl)) (O.gm rfl (O.gf rfl (Ef.callP call75 rfl rfl (fun w hw => has_ok (bs[k]'e1) _ w)) ?_))))))
           rintro _ _ ⟨rfl, rfl⟩
           refine O.gm rfl (O.splitD 92 rfl (fun c14 => ?_) (fun c14 => ?_))
           ·refine O.g rfl (O.g rfl (O.g rfl (O.gm rfl (O.m rfl (Zf (V.condT rfl (Vr (O.q rfl (Pu.fieldAddr 1 rfl ut35 rfl sz24 rfl rfl) (O.q rfl (Pu.load rfl pl24 rfl (Ld.blk 1 rfl rfl)) (O.q rfl (Pu.loadAgg' (v := B3.v (bs[k]'e1)) rfl rfl ag81 sz81 rfl rfl (Ld.whole 0 rfl)) ?_))))))))))
            refine O.f rfl (Ef.build B3C ([(bs[k]'e1)] : List B3) rfl ut24 inf81 rfl rfl rfl (by first | decide | (simp; done)) (by kernel_rfl)) ?_
            rintro _ _ ⟨A5, hA5, rfl, rfl⟩
            refine O.f rfl (Ef.append (xs := out) (ys := ([(bs[k]'e1)] : List B3)) 3 rfl ut24 inf81 rfl rfl rfl rfl rfl rfl hA5 (Ld.own 0 (by exact rfl)) (by simp only [List.length_append, List.length_cons, List.length_nil] at *; omega) (by decide)) ?_
            rintro _ _ ⟨A6, k3, rfl, rfl, hA6⟩
            replace hA6 := hA6 (.inr (by simp))
            refine O.q rfl (Pu.fieldAddr 1 rfl ut35 rfl sz24 rfl rfl) (O.s rfl rfl (Ef.store1 (cs' := [_, _, _]) 2 rfl sz24 rfl rfl rfl rfl rfl (ltb rfl) rfl) ?_)
            rintro _ _ rfl
            exact Zk (O.q rfl (Pu.add64 (r := ((k + 1 : Nat) : Int)) rfl (by omega) rfl rfl rfl) (O.m rfl (On (X.back3 (k + 1, A6, k3, (out ++ ([(bs[k]'e1)] : List B3))) (by (try dsimp only); exact ⟨by omega, by rw [flt_yes e1 (decide_eq_true ⟨by rw [cntY_val]; (repeat' split) <;> first | rfl | contradiction, by first | exact .inl (by assumption) | exact .inr (by assumption)⟩), ho], by simp only [List.length_append, List.length_singleton]; omega⟩) (by first | omega | (dsimp only; omega)) (Ent.cons rfl (Ent.nil _)) (Ent.cons (t := 1) rfl (Ent.cons (t := 2) rfl (Ent.cons (t := 8) rfl (Ent.cons (t := 12) rfl (Ent.cons (t := 13) rfl (Ent.cons (t := 70) rfl (Ent.cons (t := 71) rfl (Ent.nil _)))))))) (Sub.s [2,2,2,2,2,2] rfl)))))
           ·refine O.gq rfl (Pu.loadAgg' (v := B3.v (bs[k]'e1)) rfl rfl ag81 sz81 rfl rfl (Ld.whole 0 rfl)) (O.gm rfl (O.gf rfl (Ef.callP call75 rfl rfl (fun w hw => has_ok (bs[k]'e1) _ w)) ?_))
            rintro _ _ ⟨rfl, rfl⟩
            refine O.gm rfl (O.m rfl (Zf (V.condD rfl (fun c15 => ?_) (fun c15 => ?_))))
            ·refine Vr (O.q rfl (Pu.fieldAddr 1 rfl ut35 rfl sz24 rfl rfl) (O.q rfl (Pu.load rfl pl24 rfl (Ld.blk 1 rfl rfl)) (O.q rfl (Pu.loadAgg' (v := B3.v (bs[k]'e1)) rfl rfl ag81 sz81 rfl rfl (Ld.whole 0 rfl)) (O.f rfl (Ef.build B3C ([(bs[k]'e1)] : List B3) rfl ut24 inf81 rfl rfl rfl (by first | decide | (simp; done)) (by kernel_rfl)) ?_))))
             rintro _ _ ⟨A7, hA7, rfl, rfl⟩
             refine O.f rfl (Ef.append (xs := out) (ys := ([(bs[k]'e1)] : List B3)) 3 rfl ut24 inf81 rfl rfl rfl rfl rfl rfl hA7 (Ld.own 0 (by exact rfl)) (by simp only [List.length_append, List.length_cons, List.length_nil] at *; omega) (by decide)) ?_
             rintro _ _ ⟨A8, k4, rfl, rfl, hA8⟩
             replace hA8 := hA8 (.inr (by simp))
             refine O.q rfl (Pu.fieldAddr 1 rfl ut35 rfl sz24 rfl rfl) (O.s rfl rfl (Ef.store1 (cs' := [_, _, _]) 2 rfl sz24 rfl rfl rfl rfl rfl (ltb rfl) rfl) ?_)
             rintro _ _ rfl
             exact Zk (O.q rfl (Pu.add64 (r := ((k + 1 : Nat) : Int)) rfl (by omega) rfl rfl rfl) (O.m rfl (On (X.back3 (k + 1, A8, k4, (out ++ ([(bs[k]'e1)] : List B3))) (by (try dsimp only); exact ⟨by omega, by rw [flt_yes e1 (decide_eq_true ⟨by rw [cntY_val]; (repeat' split) <;> first | rfl | contradiction, by first | exact .inl (by assumption) | exact .inr (by assumption)⟩), ho], by simp only [List.length_append, List.length_singleton]; omega⟩) (by first | omega | (dsimp only; omega)) (Ent.cons rfl (Ent.nil _)) (Ent.cons (t := 1) rfl (Ent.cons (t := 2) rfl (Ent.cons (t := 8) rfl (Ent.cons (t := 12) rfl (Ent.cons (t := 13) rfl (Ent.cons (t := 70) rfl (Ent.cons (t := 71) rfl (Ent.nil _)))))))) (Sub.s [2,2,2,2,2,2] rfl)))))
            ·exact Zg (O.q rfl (Pu.add64 (r := ((k + 1 : Nat) : Int)) rfl (by omega) rfl rfl rfl) (O.m rfl (On (X.back3 (k + 1, outA, outc, out) (by (try dsimp only); exact ⟨by omega, by rw [flt_no e1 (decide_eq_false (fun h => by obtain ⟨h1, h2⟩ := h; rw [cntY_val] at h1; (repeat' split at h1) <;> first | omega | contradiction | (exact h2.elim (by assumption) (by assumption))))]; exact ho, by omega⟩) (by first | omega | (dsimp only; omega)) (Ent.cons rfl (Ent.nil _)) (Ent.cons (t := 1) rfl (Ent.cons (t := 2) rfl (Ent.cons (t := 8) rfl (Ent.cons (t := 12) rfl (Ent.cons (t := 13) rfl (Ent.cons (t := 70) rfl (Ent.cons (t := 71) rfl (Ent.nil _)))))))) (Sub.s [1,1,1,1,1,1] rfl)))))
          ·refine Zg (O.q rfl (Pu.add64 (r := 3) (by decide) (by decide) rfl rfl rfl) (O.m rfl (On (X.again 0 (Za (O.q rfl (Pu.isF (by decide) (Pu.lss rfl rfl rfl)) (On ?_)))))))
           refine Xn (Vs (V.condF rfl (Zd (O.m rfl (O.q rfl (Pu.isF (by decide) (Pu.eql rfl rfl rfl)) ?_)))))
           refine O.m rfl (O.g rfl (O.g rfl (O.g rfl (O.g rfl (O.g rfl (O.g rfl (O.g rfl (O.g rfl (O.m rfl (Zf ?_))))))))))
           exact V.condF rfl (Zg (O.q rfl (Pu.add64 (r := ((k + 1 : Nat) : Int)) rfl (by omega) rfl rfl rfl) (O.m rfl (On (X.back3 (k + 1, outA, outc, out) (by (try dsimp only); exact ⟨by omega, by rw [flt_no e1 (decide_eq_false (fun h => by obtain ⟨h1, h2⟩ := h; rw [cntY_val] at h1; (repeat' split at h1) <;> first | omega | contradiction | (exact h2.elim (by assumption) (by assumption))))]; exact ho, by omega⟩) (by first | omega | (dsimp only; omega)) (Ent.cons rfl (Ent.nil _)) (Ent.cons (t := 1) rfl (Ent.cons (t := 2) rfl (Ent.cons (t := 8) rfl (Ent.cons (t := 12) rfl (Ent.cons (t := 13) rfl (Ent.cons (t := 70) rfl (Ent.cons (t := 71) rfl (Ent.nil _)))))))) (Sub.s [1,1,1,1,1,1] rfl))))))
        ·refine Zg (O.q rfl (Pu.add64 (r := 1) (by decide) (by decide) rfl rfl rfl) (O.m rfl (On (X.again 2 (Za (O.q rfl (Pu.isT (by decide) (Pu.lss rfl rfl rfl)) (On ?_)))))))
         refine Xn (Vs (V.condT rfl (Zh (O.q rfl (Pu.indexAgg 1 rfl ut81 sz2 pl2 rfl rfl (by decide) (by decide) rfl) (O.m rfl (On ?_))))))
         refine Xn (Za (O.m rfl (O.m rfl (O.f rfl (Ef.callP call74 rfl rfl (fun w hw => containsI_ok  r1 ((bs[k]'e1).2.1) _ _ w ((Ld.own 3 (by exact rfl)) w hw) (by first | omega | (simp only [tops_len, conts_len, bl, List.length_append, List.length_cons, List.length_nil] at *; omega)) )) ?_))))
         rintro _ _ ⟨rfl, rfl⟩
         refine Zf (V.condD rfl (fun c16 => ?_) (fun c16 => ?_))
         ·refine Vr (O.m rfl (O.q rfl (Pu.add64 (r := 1) (by decide) (by decide) rfl rfl rfl) (O.m rfl (Zk (O.q rfl (Pu.add64 (r := 2) (by decide) (by decide) rfl rfl rfl) (O.m rfl (On (X.again 1 ?_))))))))
          refine Za (O.q rfl (Pu.isT (by decide) (Pu.lss rfl rfl rfl)) (Zf (Vs (V.condT rfl (Vk (Xn (Vs (Vb (Vs ?_)))))))))
          refine Vr (O.q rfl (Pu.indexAgg 2 rfl ut81 sz2 pl2 rfl rfl (by decide) (by decide) rfl) (O.m rfl (Zb (O.m rfl (O.m rfl (O.f rfl (Ef.callP call74 rfl rfl (fun w hw => containsI_ok  r1 ((bs[k]'e1).2.2) _ _ w ((Ld.own 3 (by exact rfl)) w hw) (by first | omega | (simp only [tops_len, conts_len, bl, List.length_append, List.length_cons, List.length_nil] at *; omega)) )) ?_))))))
          rintro _ _ ⟨rfl, rfl⟩
          refine Zf (V.condD rfl (fun c17 => ?_) (fun c17 => ?_))
          ·refine Vr (O.m rfl (O.q rfl (Pu.add64 (r := 2) (by decide) (by decide) rfl rfl rfl) (O.m rfl (Zk (O.q rfl (Pu.add64 (r := 3) (by decide) (by decide) rfl rfl rfl) (O.m rfl (On (X.again 0 ?_))))))))
           refine Za (O.q rfl (Pu.isF (by decide) (Pu.lss rfl rfl rfl)) (Zf (Vs (V.condF rfl (Ve (Xe (Xe (Xh (Xn ?_)))))))))
           refine Za (O.m rfl (O.q rfl (Pu.isT (by decide) (Pu.eql rfl rfl rfl)) (O.m rfl (O.gq rfl (Pu.loadAgg' (v := B3.v (bs[k]'e1)) rfl rfl ag81 sz81 rfl rfl (Ld.whole 0 rfl)) (O.gm rfl (O.gf rfl (Ef.callP call75 rfl rfl (fun w hw => has_ok (bs[k]'e1) _ w)) ?_))))))
           rintro _ _ ⟨rfl, rfl⟩
           refine O.gm rfl (O.splitD 92 rfl (fun c18 => ?_) (fun c18 => ?_))
           ·refine O.g rfl (O.g rfl (O.g rfl (O.gm rfl (O.m rfl (Zf (V.condT rfl (Vr (O.q rfl (Pu.fieldAddr 1 rfl ut35 rfl sz24 rfl rfl) (O.q rfl (Pu.load rfl pl24 rfl (Ld.blk 1 rfl rfl)) (O.q rfl (Pu.loadAgg' (v := B3.v (bs[k]'e1)) rfl rfl ag81 sz81 rfl rfl (Ld.whole 0 rfl)) ?_))))))))))
            refine O.f rfl (Ef.build B3C ([(bs[k]'e1)] : List B3) rfl ut24 inf81 rfl rfl rfl (by first | decide | (simp; done)) (by kernel_rfl)) ?_
            rintro _ _ ⟨A9, hA9, rfl, rfl⟩
            refine O.f rfl (Ef.append (xs := out) (ys := ([(bs[k]'e1)] : List B3)) 3 rfl ut24 inf81 rfl rfl rfl rfl rfl rfl hA9 (Ld.own 0 (by exact rfl)) (by simp only [List.length_append, List.length_cons, List.length_nil] at *; omega) (by decide)) ?_
            rintro _ _ ⟨A10, k5, rfl, rfl, hA10⟩
            replace hA10 := hA10 (.inr (by simp))
            refine O.q rfl (Pu.fieldAddr 1 rfl ut35 rfl sz24 rfl rfl) (O.s rfl rfl (Ef.store1 (cs' := [_, _, _]) 2 rfl sz24 rfl rfl rfl rfl rfl (ltb rfl) rfl) ?_)
            rintro _ _ rfl
            exact Zk (O.q rfl (Pu.add64 (r := ((k + 1 : Nat) : Int)) rfl (by omega) rfl rfl rfl) (O.m rfl (On (X.back3 (k + 1, A10, k5, (out ++ ([(bs[k]'e1)] : List B3))) (by (try dsimp only); exact ⟨by omega, by rw [flt_yes e1 (decide_eq_true ⟨by rw [cntY_val]; (repeat' split) <;> first | rfl | contradiction, by first | exact .inl (by assumption) | exact .inr (by assumption)⟩), ho], by simp only [List.length_append, List.length_singleton]; omega⟩) (by first | omega | (dsimp only; omega)) (Ent.cons rfl (Ent.nil _)) (Ent.cons (t := 1) rfl (Ent.cons (t := 2) rfl (Ent.cons (t := 8) rfl (Ent.cons (t := 12) rfl (Ent.cons (t := 13) rfl (Ent.cons (t := 70) rfl (Ent.cons (t := 71) rfl (Ent.nil _)))))))) (Sub.s [2,2,2,2,2,2] rfl)))))
           ·refine O.gq rfl (Pu.loadAgg' (v := B3.v (bs[k]'e1)) rfl rfl ag81 sz81 rfl rfl (Ld.whole 0 rfl)) (O.gm rfl (O.gf rfl (Ef.callP call75 rfl rfl (fun w hw => has_ok (bs[k]'e1) _ w)) ?_))
            rintro _ _ ⟨rfl, rfl⟩
            refine O.gm rfl (O.m rfl (Zf (V.condD rfl (fun c19 => ?_) (fun c19 => ?_))))
            ·refine Vr (O.q rfl (Pu.fieldAddr 1 rfl ut35 rfl sz24 rfl rfl) (O.q rfl (Pu.load rfl pl24 rfl (Ld.blk 1 rfl rfl)) (O.q rfl (Pu.loadAgg' (v := B3.v (bs[k]'e1)) rfl rfl ag81 sz81 rfl rfl (Ld.whole 0 rfl)) (O.f rfl (Ef.build B3C ([(bs[k]'e1)] : List B3) rfl ut24 inf81 rfl rfl rfl (by first | decide | (simp; done)) (by kernel_rfl)) ?_))))
             rintro _ _ ⟨A11, hA11, rfl, rfl⟩
             refine O.f rfl (Ef.append (xs := out) (ys := ([(bs[k]'e1)] : List B3)) 3 rfl ut24 inf81 rfl rfl rfl rfl rfl rfl hA11 (Ld.own 0 (by exact rfl)) (by simp only [List.length_append, List.length_cons, List.length_nil] at *; omega) (by decide)) ?_
             rintro _ _ ⟨A12, k6, rfl, rfl, hA12⟩
             replace hA12 := hA12 (.inr (by simp))
             refine O.q rfl (Pu.fieldAddr 1 rfl ut35 rfl sz24 rfl rfl) (O.s rfl rfl (Ef.store1 (cs' := [_, _, _]) 2 rfl sz24 rfl rfl rfl rfl rfl (ltb rfl) rfl) ?_)
             rintro _ _ rfl
             exact Zk (O.q rfl (Pu.add64 (r := ((k + 1 : Nat) : Int)) rfl (by omega) rfl rfl rfl) (O.m rfl (On (X.back3 (k + 1, A12, k6, (out ++ ([(bs[k]'e1)] : List B3))) (by (try dsimp only); exact ⟨by omega, by rw [flt_yes e1 (decide_eq_true ⟨by rw [cntY_val]; (repeat' split) <;> first | rfl | contradiction, by first | exact .inl (by assumption) | exact .inr (by assumption)⟩), ho], by simp only [List.length_append, List.length_singleton]; omega⟩) (by first | omega | (dsimp only; omega)) (Ent.cons rfl (Ent.nil _)) (Ent.cons (t := 1) rfl (Ent.cons (t := 2) rfl (Ent.cons (t := 8) rfl (Ent.cons (t := 12) rfl (Ent.cons (t := 13) rfl (Ent.cons (t := 70) rfl (Ent.cons (t := 71) rfl (Ent.nil _)))))))) (Sub.s [2,2,2,2,2,2] rfl)))))
            ·exact Zg (O.q rfl (Pu.add64 (r := ((k + 1 : Nat) : Int)) rfl (by omega) rfl rfl rfl) (O.m rfl (On (X.back3 (k + 1, outA, outc, out) (by (try dsimp only); exact ⟨by omega, by rw [flt_no e1 (decide_eq_false (fun h => by obtain ⟨h1, h2⟩ := h; rw [cntY_val] at h1; (repeat' split at h1) <;> first | omega | contradiction | (exact h2.elim (by assumption) (by assumption))))]; exact ho, by omega⟩) (by first | omega | (dsimp only; omega)) (Ent.cons rfl (Ent.nil _)) (Ent.cons (t := 1) rfl (Ent.cons (t := 2) rfl (Ent.cons (t := 8) rfl (Ent.cons (t := 12) rfl (Ent.cons (t := 13) rfl (Ent.cons (t := 70) rfl (Ent.cons (t := 71) rfl (Ent.nil _)))))))) (Sub.s [1,1,1,1,1,1] rfl)))))
          ·refine Zg (O.q rfl (Pu.add64 (r := 3) (by decide) (by decide) rfl rfl rfl) (O.m rfl (On (X.again 0 (Za (O.q rfl (Pu.isF (by decide) (Pu.lss rfl rfl rfl)) (On ?_)))))))
           refine Xn (Vs (V.condF rfl (Zd (O.m rfl (O.q rfl (Pu.isF (by decide) (Pu.eql rfl rfl rfl)) ?_)))))
           refine O.m rfl (O.g rfl (O.g rfl (O.g rfl (O.g rfl (O.g rfl (O.g rfl (O.g rfl (O.g rfl (O.m rfl (Zf ?_))))))))))
           exact V.condF rfl (Zg (O.q rfl (Pu.add64 (r := ((k + 1 : Nat) : Int)) rfl (by omega) rfl rfl rfl) (O.m rfl (On (X.back3 (k + 1, outA, outc, out) (by (try dsimp only); exact ⟨by omega, by rw [flt_no e1 (decide_eq_false (fun h => by obtain ⟨h1, h2⟩ := h; rw [cntY_val] at h1; (repeat' split at h1) <;> first | omega | contradiction | (exact h2.elim (by assumption) (by assumption))))]; exact ho, by omega⟩) (by first | omega | (dsimp only; omega)) (Ent.cons rfl (Ent.nil _)) (Ent.cons (t := 1) rfl (Ent.cons (t := 2) rfl (Ent.cons (t := 8) rfl (Ent.cons (t := 12) rfl (Ent.cons (t := 13) rfl (Ent.cons (t := 70) rfl (Ent.cons (t := 71) rfl (Ent.nil _)))))))) (Sub.s [1,1,1,1,1,1] rfl))))))
         ·refine Zg (O.q rfl (Pu.add64 (r := 2) (by decide) (by decide) rfl rfl rfl) (O.m rfl (On (X.again 1 (Za (O.q rfl (Pu.isT (by decide) (Pu.lss rfl rfl rfl)) (On ?_)))))))
          refine Xn (Vs (V.condT rfl (Zh (O.q rfl (Pu.indexAgg 2 rfl ut81 sz2 pl2 rfl rfl (by decide) (by decide) rfl) (O.m rfl (On ?_))))))
          refine Xn (Za (O.m rfl (O.m rfl (O.f rfl (Ef.callP call74 rfl rfl (fun w hw => containsI_ok  r1 ((bs[k]'e1).2.2) _ _ w ((Ld.own 3 (by exact rfl)) w hw) (by first | omega | (simp only [tops_len, conts_len, bl, List.length_append, List.length_cons, List.length_nil] at *; omega)) )) ?_))))
          rintro _ _ ⟨rfl, rfl⟩
          refine Zf (V.condD rfl (fun c20 => ?_) (fun c20 => ?_))
          ·refine Vr (O.m rfl (O.q rfl (Pu.add64 (r := 1) (by decide) (by decide) rfl rfl rfl) (O.m rfl (Zk (O.q rfl (Pu.add64 (r := 3) (by decide) (by decide) rfl rfl rfl) (O.m rfl (On (X.again 0 ?_))))))))
           refine Za (O.q rfl (Pu.isF (by decide) (Pu.lss rfl rfl rfl)) (Zf (Vs (V.condF rfl (Ve (Xe (Xe (Xh (Xn ?_)))))))))
           refine Za (O.m rfl (O.q rfl (Pu.isF (by decide) (Pu.eql rfl rfl rfl)) (O.m rfl (O.g rfl (O.g rfl (O.g rfl (O.g rfl (O.g rfl (O.g rfl (O.g rfl ?_))))))))))
           exact O.g rfl (O.m rfl (Zf (V.condF rfl (Zg (O.q rfl (Pu.add64 (r := ((k + 1 : Nat) : Int)) rfl (by omega) rfl rfl rfl) (O.m rfl (On (X.back3 (k + 1, outA, outc, out) (by (try dsimp only); exact ⟨by omega, by rw [flt_no e1 (decide_eq_false (fun h => by obtain ⟨h1, h2⟩ := h; rw [cntY_val] at h1; (repeat' split at h1) <;> first | omega | contradiction | (exact h2.elim (by assumption) (by assumption))))]; exact ho, by omega⟩) (by first | omega | (dsimp only; omega)) (Ent.cons rfl (Ent.nil _)) (Ent.cons (t := 1) rfl (Ent.cons (t := 2) rfl (Ent.cons (t := 8) rfl (Ent.cons (t := 12) rfl (Ent.cons (t := 13) rfl (Ent.cons (t := 70) rfl (Ent.cons (t := 71) rfl (Ent.nil _)))))))) (Sub.s [1,1,1,1,1,1] rfl)))))))))
          ·refine Zg (O.q rfl (Pu.add64 (r := 3) (by decide) (by decide) rfl rfl rfl) (O.m rfl (On (X.again 0 (Za (O.q rfl (Pu.isF (by decide) (Pu.lss rfl rfl rfl)) (On ?_)))))))
           refine Xn (Vs (V.condF rfl (Zd (O.m rfl (O.q rfl (Pu.isF (by decide) (Pu.eql rfl rfl rfl)) ?_)))))
           refine O.m rfl (O.g rfl (O.g rfl (O.g rfl (O.g rfl (O.g rfl (O.g rfl (O.g rfl (O.g rfl (O.m rfl (Zf ?_))))))))))
           exact V.condF rfl (Zg (O.q rfl (Pu.add64 (r := ((k + 1 : Nat) : Int)) rfl (by omega) rfl rfl rfl) (O.m rfl (On (X.back3 (k + 1, outA, outc, out) (by (try dsimp only); exact ⟨by omega, by rw [flt_no e1 (decide_eq_false (fun h => by obtain ⟨h1, h2⟩ := h; rw [cntY_val] at h1; (repeat' split at h1) <;> first | omega | contradiction | (exact h2.elim (by assumption) (by assumption))))]; exact ho, by omega⟩) (by first | omega | (dsimp only; omega)) (Ent.cons rfl (Ent.nil _)) (Ent.cons (t := 1) rfl (Ent.cons (t := 2) rfl (Ent.cons (t := 8) rfl (Ent.cons (t := 12) rfl (Ent.cons (t := 13) rfl (Ent.cons (t := 70) rfl (Ent.cons (t := 71) rfl (Ent.nil _)))))))) (Sub.s [1,1,1,1,1,1] rfl))))))
       ·refine Ve (Xe (Xe (Xh (Xn (Vs ?_)))))
        have hpo : out.Perm (outL bs a b p N) := by rw [ho, List.take_of_length_le (by omega), hr1_1]; exact outB_perm hab.1 hab.2 P
        refine Vr (O.q rfl (Pu.fieldAddr 1 rfl ut35 rfl sz24 rfl rfl) (O.q rfl (Pu.load rfl pl24 rfl (Ld.blk 0 rfl rfl)) (O.m rfl (O.m rfl (O.f rfl (Ef.call1 call76 rfl rfl (fun w hw => exchangedT_ok  out a b _ _ w ((Ld.own 1 (by exact rfl)) w hw) (by first | omega | (simp only [tops_len, conts_len, bl, List.length_append, List.length_cons, List.length_nil] at *; omega)) (by first | assumption | omega | (try dsimp only at *; omega)))) ?_)))))
        rintro _ _ rfl
        refine O.exi (fun r2A => O.exi (fun r2c => O.exi (fun r2 => O.sep (O.pur ?_))))
        rintro ⟨rfl, hr2_1, hr2_2⟩
        refine O.q rfl (Pu.fieldAddr 2 rfl ut35 rfl sz24 rfl rfl) (O.s rfl rfl (Ef.store1 (cs' := [_, _, _]) 1 rfl sz24 rfl rfl rfl rfl rfl (ltb rfl) rfl) ?_)
        rintro _ _ rfl
        refine Zb (O.q rfl (Pu.loadAgg rfl ag35 sz35 rfl rfl (Ld.whole 1 rfl)) (O.s rfl rfl (Ef.storeAll 5 rfl sz35 rfl rfl rfl rfl (by simp [Value.oneCell']) rfl) ?_))
        rintro _ _ rfl
        exact O.m rfl (Ze (X.retCell2 rfl ag35 sz35 rfl rfl rfl (Ld.whole 5 rfl) (fun w hw => St.mkExi outA (St.mkExi outc (St.mkExi out (St.mkExi r2A (St.mkExi r2c (St.mkExi r2 (St.unsep (St.addPur ⟨(by rw [hcode]; rfl), ⟨fun _ => ⟨N, P, ⟨hpo, by rw [ho]; rw [List.take_of_length_le (by omega)]; exact flt_srt hS⟩, hr2_1.trans ((hpo.map _).trans (by rw [inL_map hab.1 hab.2])), hr2_2⟩, fun h => absurd hcode h⟩⟩ (St.unsep (hw.sub (Sub.s [2,0] rfl)))))))))))))
set_option maxRecDepth 100000 in
set_option maxHeartbeats 1000000 in
theorem implIsFullF_ok (v : Int) (bs : List B3) (A : Option Addr) (c : Nat) (w : World) (hx : Rd B3C w A bs) (lx : bs.length ≤ 4611686018427387904) : Does Tryz.prog 21 [.agg #[.int .i64 v, .slice A bs.length c]] w [] (fun r => [.pur (r = .tuple #[.bool (decide (STS v bs ∧ 6 * (bs.length : Int) = v * (v - 1))), .int .i64 (if STS v bs then 0 else 1)])]) := by
 refine Does.enter Tryz.func21 rfl rfl [(0, .agg #[.int .i64 v, .slice A bs.length c])] rfl (Za (O.f rfl (Ef.box rfl rfl rfl) ?_))
 rintro _ _ ⟨b1, rfl, rfl⟩
 refine O.m rfl (O.m rfl (Zc (O.q rfl (Pu.loadAgg rfl ag26 sz26 rfl rfl (Ld.whole 0 rfl)) (O.f rfl (Ef.callP call62 rfl rfl (fun w hw => IsSystem_ok _ bs _ _ w ((Ld.old hx) w hw) (by omega))) ?_))))
 rintro _ _ ⟨rfl, rfl⟩
 refine O.q rfl (Pu.not rfl rfl) (Zf (V.condNot rfl (fun c1 => ?_) (fun c1 => ?_)))
 ·exact Za (O.m rfl (O.m rfl (Ze (Xr (X.ret2 rfl rfl rfl (fun w hw => St.addPur (by rw [if_neg c1]; simp [c1]) (hw.sub (Sub.nil _))))))))
 ·have hmul := sts_mul c1
  have hlo := c1.lo
  have hhi := c1.hi
  have hfw := c1.few
  refine Vk (Xn (Za (O.q rfl (Pu.loadAgg rfl ag26 sz26 rfl rfl (Ld.whole 0 rfl)) (O.f rfl (Ef.callP call72 rfl rfl (fun w hw => isFullC_ok  v bs _ _ w ((Ld.old hx) w hw) (by first | omega | (simp only [tops_len, conts_len, bl, List.length_append, List.length_cons, List.length_nil] at *; omega)) (by first | assumption | omega | (try dsimp only at *; omega)) (by first | assumption | omega | (try dsimp only at *; omega)) (by first | assumption | omega | (try dsimp only at *; omega)))) ?_))))
  rintro _ _ ⟨rfl, rfl⟩
  exact O.m rfl (O.m rfl (Ze (X.ret2 rfl rfl rfl (fun w hw => St.addPur (by rw [if_pos c1]; simp [c1]) (hw.sub (Sub.nil _))))))
set_option maxRecDepth 100000 in
set_option maxHeartbeats 1000000 in
theorem trade9_ok (v : Int) (os ns : List B3) (v2 : Int) (os2 ns2 : List B3) (A1 A2 : Option Addr) (k1 k2 : Nat) (B1 B2 : Option Addr) (j1 j2 : Nat) (w : World) (ho : Rd B3C w A1 os) (hnt : Rd B3C w A2 ns) (ho2 : Rd B3C w B1 os2) (hn2 : Rd B3C w B2 ns2) (lo : os.length ≤ 4611686018427387904) (ln : ns.length ≤ 4611686018427387904) (lo2 : os2.length ≤ 4611686018427387904) (ln2 : ns2.length ≤ 4611686018427387904) : Does Tryz.prog 14 [.agg #[.int .i64 v, .slice A1 os.length k1, .slice A2 ns.length k2], .agg #[.int .i64 v2, .slice B1 os2.length j1, .slice B2 ns2.length j2]] w [] (fun r => [.pur (r = .bool (decide (v = v2 ∧ os = os2 ∧ ns = ns2)))]) := by
 refine Does.enter Tryz.func14 rfl rfl [(0, .agg #[.int .i64 v, .slice A1 os.length k1, .slice A2 ns.length k2]), (1, .agg #[.int .i64 v2, .slice B1 os2.length j1, .slice B2 ns2.length j2])] rfl (Za (O.f rfl (Ef.box rfl rfl rfl) ?_))
 rintro _ _ ⟨b1, rfl, rfl⟩
 refine O.f rfl (Ef.box rfl rfl rfl) ?_
 rintro _ _ ⟨b2, rfl, rfl⟩
 refine O.m rfl (Zb (O.q rfl (Pu.fieldAddr 0 rfl ut35 rfl sz2 rfl rfl) (O.q rfl (Pu.load rfl pl2 rfl (Ld.blk 1 rfl rfl)) (O.q rfl (Pu.fieldAddr 0 rfl ut35 rfl sz2 rfl rfl) (O.q rfl (Pu.load rfl pl2 rfl (Ld.blk 0 rfl rfl)) (O.q rfl (Pu.eql rfl rfl rfl) (O.m rfl (O.splitD 10 rfl (fun c1 => ?_) (fun c1 => ?_)))))))))
 ·refine O.gq rfl (Pu.fieldAddr 1 rfl ut35 rfl sz24 rfl rfl) (O.gq rfl (Pu.load rfl pl24 rfl (Ld.blk 1 rfl rfl)) (O.gq rfl (Pu.fieldAddr 1 rfl ut35 rfl sz24 rfl rfl) (O.gq rfl (Pu.load rfl pl24 rfl (Ld.blk 0 rfl rfl)) (O.gf rfl (Ef.callP call82 rfl rfl (fun w hw => blocks9_ok  os os2 _ _ _ _ w ((Ld.old ho) w hw) ((Ld.old ho2) w hw) (by first | omega | (simp only [tops_len, conts_len, bl, List.length_append, List.length_cons, List.length_nil] at *; omega)) (by first | omega | (simp only [tops_len, conts_len, bl, List.length_append, List.length_cons, List.length_nil] at *; omega)) )) ?_))))
  rintro _ _ ⟨rfl, rfl⟩
  refine O.m rfl (O.m rfl (O.splitD 17 rfl (fun c2 => ?_) (fun c2 => ?_)))
  ·refine O.gq rfl (Pu.fieldAddr 2 rfl ut35 rfl sz24 rfl rfl) (O.gq rfl (Pu.load rfl pl24 rfl (Ld.blk 1 rfl rfl)) (O.gq rfl (Pu.fieldAddr 2 rfl ut35 rfl sz24 rfl rfl) (O.gq rfl (Pu.load rfl pl24 rfl (Ld.blk 0 rfl rfl)) (O.gf rfl (Ef.callP call82 rfl rfl (fun w hw => blocks9_ok  ns ns2 _ _ _ _ w ((Ld.old hnt) w hw) ((Ld.old hn2) w hw) (by first | omega | (simp only [tops_len, conts_len, bl, List.length_append, List.length_cons, List.length_nil] at *; omega)) (by first | omega | (simp only [tops_len, conts_len, bl, List.length_append, List.length_cons, List.length_nil] at *; omega)) )) ?_))))
   rintro _ _ ⟨rfl, rfl⟩
   exact O.m rfl (O.m rfl (Ze (X.ret1 rfl rfl (fun w hw => St.retP (boolD (by first | exact ⟨c1, c2, c3⟩ | exact fun h => c1 h.1 | exact fun h => c2 h.2.1 | exact fun h => c3 h.2.2 | (constructor; (· exact fun h => ⟨c1, c2, h⟩); (· exact fun h => h.2.2)) | simp_all)) hw))))
  ·exact O.g rfl (O.g rfl (O.g rfl (O.g rfl (O.g rfl (O.m rfl (O.m rfl (Ze (X.ret1 rfl rfl (fun w hw => St.retP (boolF (by first | exact ⟨c1, c2, c3⟩ | exact fun h => c1 h.1 | exact fun h => c2 h.2.1 | exact fun h => c3 h.2.2 | (constructor; (· exact fun h => ⟨c1, c2, h⟩); (· exact fun h => h.2.2)) | simp_all)) hw)))))))))
 ·refine O.g rfl (O.g rfl (O.g rfl (O.g rfl (O.g rfl (O.m rfl (O.m rfl (O.g rfl (O.g rfl (O.g rfl (O.g rfl (O.g rfl ?_)))))))))))
  exact O.m rfl (O.m rfl (Ze (X.ret1 rfl rfl (fun w hw => St.retP (boolF (by first | exact ⟨c1, c2, c3⟩ | exact fun h => c1 h.1 | exact fun h => c2 h.2.1 | exact fun h => c3 h.2.2 | (constructor; (· exact fun h => ⟨c1, c2, h⟩); (· exact fun h => h.2.2)) | simp_all)) hw))))
set_option maxRecDepth 100000 in
set_option maxHeartbeats 1000000 in
theorem trades9_ok (va : Int) (ta : TrL) (vb : Int) (tb : TrL) (taA : Option Addr) (tac : Nat) (tbA : Option Addr) (tbc : Nat) (w : World) (hta : RdT va w taA ta) (htb : RdT vb w tbA tb) (lta : ta.length ≤ 1000000000) (ltb : tb.length ≤ 1000000000) (hv : va = vb) (hsa : ∀ k (h : k < ta.length), (ta[k]).1.2.length ≤ 1000 ∧ (ta[k]).2.2.length ≤ 1000) (hsb : ∀ k (h : k < tb.length), (tb[k]).1.2.length ≤ 1000 ∧ (tb[k]).2.2.length ≤ 1000) : Does Tryz.prog 10 [.slice taA (topT ta).length tac, .slice tbA (topT tb).length tbc] w [] (fun r => [.pur (r = .bool (decide (contT ta = contT tb)))]) := by
 refine Does.enter Tryz.func10 rfl rfl [(0, .slice taA (topT ta).length tac), (1, .slice tbA (topT tb).length tbc)] rfl ?_
 have hka := topT_len ta
 have hkb := topT_len tb
 have hca := contT_len ta
 have hcb := contT_len tb
 refine Za (O.m rfl (Zc (O.m rfl (O.q rfl (Pu.len rfl ut28 rfl) (O.m rfl (O.q rfl (Pu.len rfl ut28 rfl) ?_))))))
 refine O.q rfl (Pu.neq rfl rfl rfl) (Zf (V.condNot rfl (fun c1 => ?_) (fun c1 => ?_)))
 ·exact Za (O.m rfl (Ze (Xr (X.ret1 rfl rfl (fun w hw => St.retP (boolF (fun h => c1 (by have := congrArg List.length h; omega))) hw)))))
 ·refine Vk (Xn (Zj (O.m rfl (Zi (V.loop2 (β := Nat) (fun i => [(5, .int .i64 (i : Int))]) _ (fun i => []) (fun i => i ≤ ta.length ∧ ∀ j (h1 : j < ta.length) (h2 : j < tb.length), j < i → (ta[j]).1.2 = (tb[j]).1.2 ∧ (ta[j]).2.2 = (tb[j]).2.2) (fun i => ta.length - i) 0 ⟨by omega, fun j _ _ h => by omega⟩ (Ent.cons rfl (Ent.nil _)) (Ent.cons (t := 0) rfl (Ent.cons (t := 1) rfl (Ent.nil _))) (Sub.nil _) ?_)))))
  rintro i ⟨hi, he⟩
  refine Zj (O.m rfl (O.m rfl (O.q rfl (Pu.len rfl ut28 rfl) (O.q rfl (Pu.lss rfl rfl rfl) (Zf (V.condD rfl (fun c2 => ?_) (fun c2 => ?_)))))))
  ·refine Vk (Xn (Vs (Vb (Vs ?_))))
   have e1 : i < ta.length := by omega
   have e2 : i < tb.length := by omega
   have hs1 := hsa i e1
   have hs2 := hsb i e2
   refine V.draw mo (by kernel_rfl) (fun hwf => D.m 0 rfl (D.m 1 rfl (D.q 2 rfl (Pu.indexAddrS (i) rfl ut28 sz35 rfl rfl (by omega) (by omega) (fun w hw => ((Ld.old hta.top) w hw).some (by omega))) ?_)))
   have e1 : i < ta.length := by have := topT_len ta; omega
   refine D.q 3 rfl (Pu.loadAgg' (v := .agg #[.int .i64 va, .slice (ta[i]'e1).1.1.A (ta[i]'e1).1.2.length (ta[i]'e1).1.1.c, .slice (ta[i]'e1).2.1.A (ta[i]'e1).2.2.length (ta[i]'e1).2.1.c]) rfl rfl ag35 sz35 rfl rfl (Ld.rowT (fun w hw => hta.below hw.below) e1 rfl)) (D.m 4 rfl (D.m 5 rfl (D.q 6 rfl (Pu.indexAddrS (i) rfl ut28 sz35 rfl rfl (by omega) (by omega) (fun w hw => ((Ld.old htb.top) w hw).some (by omega))) ?_)))
   have e2 : i < tb.length := by have := topT_len tb; omega
   refine D.q 7 rfl (Pu.loadAgg' (v := .agg #[.int .i64 vb, .slice (tb[i]'e2).1.1.A (tb[i]'e2).1.2.length (tb[i]'e2).1.1.c, .slice (tb[i]'e2).2.1.A (tb[i]'e2).2.2.length (tb[i]'e2).2.1.c]) rfl rfl ag35 sz35 rfl rfl (Ld.rowT (fun w hw => htb.below hw.below) e2 rfl)) (D.f hwf 8 rfl (Ef.callP call14 rfl rfl (fun w hw => trade9_ok  va ((ta[i]'e1).1.2) ((ta[i]'e1).2.2) vb ((tb[i]'e2).1.2) ((tb[i]'e2).2.2) _ _ _ _ _ _ _ _ w ((fun w hw => ((fun w hw => hta.below hw.below) w hw).ro i e1) w hw) ((fun w hw => ((fun w hw => hta.below hw.below) w hw).ri i e1) w hw) ((fun w hw => ((fun w hw => htb.below hw.below) w hw).ro i e2) w hw) ((fun w hw => ((fun w hw => htb.below hw.below) w hw).ri i e2) w hw) (by omega) (by omega) (by omega) (by omega) )) ?_)
   rintro _ _ ⟨rfl, rfl⟩ hs
   refine ⟨fun w hw => hw, (D.q 9 rfl (Pu.not rfl rfl) (D.done hwf rfl (Xn (V.condNot rfl (fun c3 => ?_) (fun c3 => ?_)))))⟩
   ·exact Za (O.m rfl (Ze (Xq (Xr (Xr (Xq (Xr (X.ret1 rfl rfl (fun w hw => St.retP (boolF (fun h => c3 ⟨hv, contT_at h (by omega) (by omega)⟩)) hw)))))))))
   ·exact Zg (O.m rfl (O.q rfl (Pu.add64 (r := ((i + 1 : Nat) : Int)) rfl (by omega) rfl rfl rfl) (O.m rfl (On (X.back2 (i + 1) ⟨by omega, fun j h1 h2 hj => by by_cases e : j = i; (· subst e; exact c3.2); (· exact he j h1 h2 (by omega))⟩ (by first | omega | (dsimp only; omega)) (Ent.cons rfl (Ent.nil _)) (Ent.cons (t := 0) rfl (Ent.cons (t := 1) rfl (Ent.nil _))) (Sub.nil _))))))
  ·exact Zd (O.m rfl (Ze (X.ret1 rfl rfl (fun w hw => St.retP (boolT (contT_ext (by omega) (fun j h1 h2 => he j h1 h2 (by omega)))) hw))))
set_option maxRecDepth 100000 in
set_option maxHeartbeats 1000000 in
theorem FnFoundTrades_ok (code : List UInt8) (codeA : Option Addr) (codec : Nat) (w : World) (hcode : Rd U8C w codeA code) (lcode : code.length ≤ 9223372036854775807) : Does Tryz.prog 3 [.slice codeA code.length codec] w [] (fun r => [.pur (r = .bool true)]) := by
 refine Does.enter Tryz.func3 rfl rfl [(0, .slice codeA code.length codec)] rfl (Za (O.m rfl (Zc (O.m rfl (O.f rfl (Ef.callP call6 rfl rfl (fun w hw => big_ok  code _ _ w ((Ld.old hcode) w hw) (by first | omega | (simp only [tops_len, conts_len, bl, List.length_append, List.length_cons, List.length_nil] at *; omega)) )) ?_)))))
 rintro _ _ ⟨rfl, rfl⟩
 refine Zf (V.condD rfl (fun c1 => ?_) (fun c1 => ?_))
 ·exact Za (O.m rfl (Ze (Xr (X.ret1 rfl rfl (fun w hw => St.retP rfl hw)))))
 ·have lc : code.length ≤ 1048576 := by omega
  refine Vk (Xn (Za (O.m rfl (O.f rfl (Ef.call1 call7 rfl rfl (fun w hw => DrawPaschTrades_ok  code _ _ w ((Ld.old hcode) w hw) (by first | omega | (simp only [tops_len, conts_len, bl, List.length_append, List.length_cons, List.length_nil] at *; omega)) (by first | assumption | omega | (try dsimp only at *; omega)))) ?_))))
  rintro _ _ rfl
  refine O.exi (fun pv1 => O.exi (fun r1A => O.exi (fun r1c => O.exi (fun r1 => O.sep (O.pur ?_)))))
  rintro ⟨rfl, hpv1_1⟩
  refine O.f rfl (Ef.alloc rfl zr26 rfl) ?_
  rintro _ _ ⟨b1, rfl, rfl⟩
  refine O.s rfl rfl (Ef.storeAll 0 rfl sz26 rfl rfl rfl rfl (by simp [Value.oneCell']) rfl) ?_
  rintro _ _ rfl
  refine Zb (O.q rfl (Pu.loadAgg rfl ag26 sz26 rfl rfl (Ld.whole 0 rfl)) (O.f rfl (Ef.call1 call8 rfl rfl (fun w hw => implPaschTrades_ok  pv1 r1 _ _ w ((Ld.own 1 (by exact rfl)) w hw) (by first | omega | (simp only [tops_len, conts_len, bl, List.length_append, List.length_cons, List.length_nil] at *; omega)) )) ?_))
  rintro _ _ rfl
  refine O.exi (fun r2A => O.exi (fun r2c => O.exi (fun r2 => O.sep (O.pur ?_))))
  rintro ⟨rfl, hr2_1, hr2_2⟩
  refine O.sep ?_
  have hrw1 := hr2_1.rows
  have htl1 := topT_len r2
  refine O.m rfl (O.m rfl (O.m rfl (O.m rfl (O.m rfl (Zc (O.q rfl (Pu.loadAgg rfl ag26 sz26 rfl rfl (Ld.whole 2 rfl)) (O.f rfl (Ef.call1 call9 rfl rfl (fun w hw => specPaschTrades_ok  pv1 r1 _ _ w ((Ld.own 3 (by exact rfl)) w hw) (by first | omega | (simp only [tops_len, conts_len, bl, List.length_append, List.length_cons, List.length_nil] at *; omega)) )) ?_)))))))
  rintro _ _ rfl
  refine O.exi (fun r3A => O.exi (fun r3c => O.exi (fun r3 => O.sep (O.pur ?_))))
  rintro ⟨rfl, hr3_1, hr3_2⟩
  refine O.sep ?_
  have hte := hr2_1.unique hr3_1
  have hrw2 := hr3_1.rows
  have htl2 := topT_len r3
  refine O.m rfl (O.m rfl (O.m rfl (O.m rfl (O.m rfl (Zb (O.m rfl (O.m rfl (O.q rfl (Pu.neq rfl rfl rfl) ?_))))))))
  refine O.m rfl (O.splitN 54 rfl (fun c2 => ?_) (fun c2 => ?_))
  ·refine O.g rfl (O.g rfl (O.g rfl (O.g rfl (O.m rfl (Zf (V.condT rfl (Za (O.m rfl (On ?_)))))))))
   exact Xn (Vt (Xr (X.ret1 rfl rfl (absurd (by first | assumption | rfl | exact ⟨rfl, rfl⟩ | exact ⟨rfl, by assumption⟩ | exact ⟨⟨rfl, by assumption⟩, rfl, by assumption⟩ | omega | (simp only [*]; done) | (rw [rfl])) c2))))
  ·refine O.gm rfl (O.gm rfl (O.gf rfl (Ef.callP call10 rfl rfl (fun w hw => trades9_ok  pv1 r2 pv1 r3 _ _ _ _ w (Ld.tt 2 2 (by exact rfl) (by exact rfl) w hw) (Ld.tt 0 0 (by exact rfl) (by exact rfl) w hw) (by first | omega | (simp only [tops_len, conts_len, bl, List.length_append, List.length_cons, List.length_nil] at *; omega)) (by first | omega | (simp only [tops_len, conts_len, bl, List.length_append, List.length_cons, List.length_nil] at *; omega)) rfl hrw1 hrw2)) ?_))
   rintro _ _ ⟨rfl, rfl⟩
   refine O.gq rfl (Pu.not rfl rfl) (O.m rfl (Zf (V.condNot rfl (fun c3 => ?_) (fun c3 => ?_))))
   ·exact Za (O.m rfl (Ze (Xr (X.ret1 rfl rfl (absurd (by first | assumption | rfl | exact ⟨rfl, rfl⟩ | exact ⟨rfl, by assumption⟩ | exact ⟨⟨rfl, by assumption⟩, rfl, by assumption⟩ | omega | (simp only [*]; done) | (rw [rfl])) c3)))))
   ·refine Vk (Xn (Za (O.m rfl (O.f rfl (Ef.call1 call11 rfl rfl (fun w hw => DrawCycleTrade_ok  code _ _ w ((Ld.old hcode) w hw) (by first | omega | (simp only [tops_len, conts_len, bl, List.length_append, List.length_cons, List.length_nil] at *; omega)) (by first | assumption | omega | (try dsimp only at *; omega)))) ?_))))
    rintro _ _ rfl
    refine O.exi (fun pv2 => O.exi (fun r4A => O.exi (fun r4c => O.exi (fun r4 => O.exi (fun a1 => O.exi (fun b2 => O.exi (fun p1 => O.sep (O.pur ?_))))))))
    rintro ⟨rfl, hpv2_1⟩
    refine O.m rfl (O.m rfl (O.m rfl (O.m rfl (O.m rfl (O.f rfl (Ef.alloc rfl zr26 rfl) ?_)))))
    rintro _ _ ⟨b3, rfl, rfl⟩
    refine O.s rfl rfl (Ef.storeAll 0 rfl sz26 rfl rfl rfl rfl (by simp [Value.oneCell']) rfl) ?_
    rintro _ _ rfl
    refine O.m rfl (O.m rfl (O.m rfl (Zb (O.q rfl (Pu.loadAgg rfl ag26 sz26 rfl rfl (Ld.whole 0 rfl)) (O.m rfl (O.m rfl (O.m rfl (O.f rfl (Ef.call1 call12 rfl rfl (fun w hw => implCycle_ok  pv2 r4 a1 b2 p1 _ _ w ((Ld.own 1 (by exact rfl)) w hw) (by first | omega | (simp only [tops_len, conts_len, bl, List.length_append, List.length_cons, List.length_nil] at *; omega)) )) ?_))))))))
    rintro _ _ rfl
    refine O.exi (fun o1A => O.exi (fun o1c => O.exi (fun o1 => O.exi (fun i1A => O.exi (fun i1c => O.exi (fun i1 => O.sep (O.pur ?_)))))))
    rintro ⟨rfl, ho1_1⟩
    refine O.sep ?_
    have hcl1 := ho1_1.len
    refine O.m rfl (O.m rfl (O.m rfl (O.f rfl (Ef.alloc rfl zr35 rfl) ?_)))
    rintro _ _ ⟨b4, rfl, rfl⟩
    refine O.s rfl rfl (Ef.storeAll 0 rfl sz35 rfl rfl rfl rfl (by simp [Value.oneCell']) rfl) ?_
    rintro _ _ rfl
    refine O.m rfl (Zc (O.q rfl (Pu.loadAgg rfl ag26 sz26 rfl rfl (Ld.whole 3 rfl)) (O.m rfl (O.m rfl (O.m rfl (O.f rfl (Ef.call1 call13 rfl rfl (fun w hw => specCycle_ok  pv2 r4 a1 b2 p1 _ _ w ((Ld.own 4 (by exact rfl)) w hw) (by first | omega | (simp only [tops_len, conts_len, bl, List.length_append, List.length_cons, List.length_nil] at *; omega)) )) ?_))))))
    rintro _ _ rfl
    refine O.exi (fun o2A => O.exi (fun o2c => O.exi (fun o2 => O.exi (fun i2A => O.exi (fun i2c => O.exi (fun i2 => O.sep (O.pur ?_)))))))
    rintro ⟨rfl, ho2_1⟩
    refine O.sep ?_
    have hce := ho1_1.unique ho2_1
    have hcl2 := ho2_1.len
    refine O.m rfl (O.m rfl (O.m rfl (O.f rfl (Ef.alloc rfl zr35 rfl) ?_)))
    rintro _ _ ⟨b5, rfl, rfl⟩
    refine O.s rfl rfl (Ef.storeAll 0 rfl sz35 rfl rfl rfl rfl (by simp [Value.oneCell']) rfl) ?_
    rintro _ _ rfl
    refine O.m rfl (Zb (O.m rfl (O.m rfl (O.q rfl (Pu.neq rfl rfl rfl) (O.m rfl (O.splitN 86 rfl (fun c4 => ?_) (fun c4 => ?_)))))))
    ·refine O.g rfl (O.g rfl (O.g rfl (O.g rfl (O.m rfl (Zf (V.condT rfl (Za (O.m rfl (On ?_)))))))))
     exact Xn (Vt (Xr (X.ret1 rfl rfl (absurd (by first | assumption | rfl | exact ⟨rfl, rfl⟩ | exact ⟨rfl, by assumption⟩ | exact ⟨⟨rfl, by assumption⟩, rfl, by assumption⟩ | omega | (simp only [*]; done) | (rw [rfl])) c4))))
    ·refine O.gq rfl (Pu.loadAgg rfl ag35 sz35 rfl rfl (Ld.whole 3 rfl)) (O.gq rfl (Pu.loadAgg rfl ag35 sz35 rfl rfl (Ld.whole 0 rfl)) (O.gf rfl (Ef.callP call14 rfl rfl (fun w hw => trade9_ok  (if cyCode pv2 r4 a1 b2 p1 = 0 then pv2 else 0) o1 i1 (if cyCode pv2 r4 a1 b2 p1 = 0 then pv2 else 0) o2 i2 _ _ _ _ _ _ _ _ w ((Ld.own 4 (by exact rfl)) w hw) ((Ld.own 5 (by exact rfl)) w hw) ((Ld.own 1 (by exact rfl)) w hw) ((Ld.own 2 (by exact rfl)) w hw) (by omega) (by omega) (by omega) (by omega) )) ?_))
     rintro _ _ ⟨rfl, rfl⟩
     refine O.gq rfl (Pu.not rfl rfl) (O.m rfl (Zf (V.condNot rfl (fun c5 => ?_) (fun c5 => ?_))))
     ·exact absurd ⟨rfl, hce.1, hce.2⟩ c5
     ·refine Vk (Xn (Za (O.m rfl (O.f rfl (Ef.call1 call15 rfl rfl (fun w hw => DrawDifferenceTrade_ok  code _ _ w ((Ld.old hcode) w hw) (by first | omega | (simp only [tops_len, conts_len, bl, List.length_append, List.length_cons, List.length_nil] at *; omega)) (by first | assumption | omega | (try dsimp only at *; omega)))) ?_))))
      rintro _ _ rfl
      refine O.exi (fun pv3 => O.exi (fun pu1 => O.exi (fun r5A => O.exi (fun r5c => O.exi (fun r5 => O.exi (fun q1A => O.exi (fun q1c => O.exi (fun q1 => O.sep (O.pur ?_)))))))))
      rintro ⟨rfl, hpv3_1, hpv3_2⟩
      refine O.m rfl (O.m rfl (O.m rfl (O.f rfl (Ef.alloc rfl zr26 rfl) ?_)))
      rintro _ _ ⟨b6, rfl, rfl⟩
      refine O.f rfl (Ef.alloc rfl zr26 rfl) ?_
      rintro _ _ ⟨b7, rfl, rfl⟩
      refine O.s rfl rfl (Ef.storeAll 1 rfl sz26 rfl rfl rfl rfl (by simp [Value.oneCell']) rfl) ?_
      rintro _ _ rfl
      refine O.s rfl rfl (Ef.storeAll 0 rfl sz26 rfl rfl rfl rfl (by simp [Value.oneCell']) rfl) ?_
      rintro _ _ rfl
      refine Zb (O.q rfl (Pu.loadAgg rfl ag26 sz26 rfl rfl (Ld.whole 1 rfl)) (O.q rfl (Pu.loadAgg rfl ag26 sz26 rfl rfl (Ld.whole 0 rfl)) (O.f rfl (Ef.call1 call16 rfl rfl (fun w hw => implDifference_ok  pv3 r5 pu1 q1 _ _ _ _ w ((Ld.trO 2 (by exact rfl)) w hw) ((Ld.trI 2 (by exact rfl)) w hw) (by first | omega | (simp only [tops_len, conts_len, bl, List.length_append, List.length_cons, List.length_nil] at *; omega)) (by first | omega | (simp only [tops_len, conts_len, bl, List.length_append, List.length_cons, List.length_nil] at *; omega)) )) ?_)))
      rintro _ _ rfl
      refine O.exi (fun o3A => O.exi (fun o3c => O.exi (fun o3 => O.exi (fun i3A => O.exi (fun i3c => O.exi (fun i3 => O.sep (O.pur ?_)))))))
      rintro ⟨rfl, ho3_1⟩
      refine O.sep ?_
      have hdl1 := ho3_1.len
      refine O.m rfl (O.m rfl (O.m rfl (O.f rfl (Ef.alloc rfl zr35 rfl) ?_)))
      rintro _ _ ⟨b8, rfl, rfl⟩
      refine O.s rfl rfl (Ef.storeAll 0 rfl sz35 rfl rfl rfl rfl (by simp [Value.oneCell']) rfl) ?_
      rintro _ _ rfl
      refine O.m rfl (Zc (O.q rfl (Pu.loadAgg rfl ag26 sz26 rfl rfl (Ld.whole 4 rfl)) (O.q rfl (Pu.loadAgg rfl ag26 sz26 rfl rfl (Ld.whole 3 rfl)) (O.f rfl (Ef.call1 call17 rfl rfl (fun w hw => specDifference_ok  pv3 r5 pu1 q1 _ _ _ _ w ((Ld.trO 5 (by exact rfl)) w hw) ((Ld.trI 5 (by exact rfl)) w hw) (by first | omega | (simp only [tops_len, conts_len, bl, List.length_append, List.length_cons, List.length_nil] at *; omega)) (by first | omega | (simp only [tops_len, conts_len, bl, List.length_append, List.length_cons, List.length_nil] at *; omega)) )) ?_))))
      rintro _ _ rfl
      refine O.exi (fun o4A => O.exi (fun o4c => O.exi (fun o4 => O.exi (fun i4A => O.exi (fun i4c => O.exi (fun i4 => O.sep (O.pur ?_)))))))
      rintro ⟨rfl, ho4_1⟩
      refine O.sep ?_
      have hde := ho3_1.unique ho4_1
      have hdl2 := ho4_1.len
      refine O.m rfl (O.m rfl (O.m rfl (O.f rfl (Ef.alloc rfl zr35 rfl) ?_)))
      rintro _ _ ⟨b9, rfl, rfl⟩
      refine O.s rfl rfl (Ef.storeAll 0 rfl sz35 rfl rfl rfl rfl (by simp [Value.oneCell']) rfl) ?_
      rintro _ _ rfl
      refine O.m rfl (Zb (O.m rfl (O.m rfl (O.q rfl (Pu.neq rfl rfl rfl) (O.m rfl (O.splitN 112 rfl (fun c6 => ?_) (fun c6 => ?_)))))))
      ·refine O.g rfl (O.g rfl (O.g rfl (O.g rfl (O.m rfl (Zf (V.condT rfl (Za (O.m rfl (On ?_)))))))))
       exact Xn (Vt (Xr (X.ret1 rfl rfl (absurd (by first | assumption | rfl | exact ⟨rfl, rfl⟩ | exact ⟨rfl, by assumption⟩ | exact ⟨⟨rfl, by assumption⟩, rfl, by assumption⟩ | omega | (simp only [*]; done) | (rw [rfl])) c6))))
      ·refine O.gq rfl (Pu.loadAgg rfl ag35 sz35 rfl rfl (Ld.whole 3 rfl)) (O.gq rfl (Pu.loadAgg rfl ag35 sz35 rfl rfl (Ld.whole 0 rfl)) (O.gf rfl (Ef.callP call14 rfl rfl (fun w hw => trade9_ok  (if dfC pv3 r5 pu1 q1 = 0 then pv3 else 0) o3 i3 (if dfC pv3 r5 pu1 q1 = 0 then pv3 else 0) o4 i4 _ _ _ _ _ _ _ _ w ((Ld.own 4 (by exact rfl)) w hw) ((Ld.own 5 (by exact rfl)) w hw) ((Ld.own 1 (by exact rfl)) w hw) ((Ld.own 2 (by exact rfl)) w hw) (by omega) (by omega) (by omega) (by omega) )) ?_))
       rintro _ _ ⟨rfl, rfl⟩
       refine O.gq rfl (Pu.not rfl rfl) (O.m rfl (Zf (V.condNot rfl (fun c7 => ?_) (fun c7 => ?_))))
       ·exact absurd ⟨rfl, hde.1, hde.2⟩ c7
       ·refine Vk (Xn (Zj (O.m rfl (O.q rfl (Pu.eql rfl rfl rfl) (Zf (V.cut2 [] (Ent.cons (t := 3) rfl (Ent.cons (t := 4) rfl (Ent.cons (t := 5) rfl (Ent.cons (t := 8) rfl (Ent.cons (t := 9) rfl (Ent.cons (t := 10) rfl (Ent.cons (t := 11) rfl (Ent.cons (t := 12) rfl (Ent.cons (t := 13) rfl (Ent.nil _)))))))))) (Sub.s [0,0,0,0,0,0,0,0,0,0,0,0,0,0,0,0,0,0,0,0,0,0,0] rfl) ?_ ?_))))))
        ·refine V.condD rfl (fun c8 => ?_) (fun c8 => ?_)
         ·obtain ⟨hdt, hdc, hdv, hdu⟩ := diff_ok c8 ho3_1
          refine Vs (V.fact (fun w hw h => (Own.nilc (i := 5) hw (by exact rfl) h).2) (fun hnil1 => Vr (O.q rfl (Pu.loadAgg rfl ag26 sz26 rfl rfl (Ld.whole 7 rfl)) (O.q rfl (Pu.loadAgg rfl ag35 sz35 rfl rfl (Ld.whole 3 rfl)) (O.f rfl (Ef.call1 call18 rfl rfl (fun w hw => implCarry_ok  pv3 r5 (if dfC pv3 r5 pu1 q1 = 0 then pv3 else 0) o3 i3 _ _ _ _ _ _ w ((Ld.trO 8 (by exact rfl)) w hw) ((Ld.own 4 (by exact rfl)) w hw) ((Ld.own 5 (by exact rfl)) w hw) (by first | omega | (simp only [tops_len, conts_len, bl, List.length_append, List.length_cons, List.length_nil] at *; omega)) (by omega) (by omega) hnil1)) ?_)))))
          rintro _ _ rfl
          refine O.exi (fun r6A => O.exi (fun r6c => O.exi (fun r6 => O.sep (O.pur ?_))))
          rintro ⟨rfl, hr6_1⟩
          have hcq := hr6_1
          rw [if_pos c8] at hcq
          have hcs := hdu _ hcq
          have hcl3 := hr6_1.len
          refine O.m rfl (O.m rfl (O.m rfl (O.f rfl (Ef.alloc rfl zr26 rfl) ?_)))
          rintro _ _ ⟨b10, rfl, rfl⟩
          refine O.s rfl rfl (Ef.storeAll 0 rfl sz26 rfl rfl rfl rfl (by simp [Value.oneCell']) rfl) ?_
          rintro _ _ rfl
          refine O.m rfl (Zb (O.q rfl (Pu.loadAgg rfl ag35 sz35 rfl rfl (Ld.whole 5 rfl)) (O.f rfl (Ef.callP call19 rfl rfl (fun w hw => isTrade_ok  (if dfC pv3 r5 pu1 q1 = 0 then pv3 else 0) o3 i3 _ _ _ _ w ((Ld.own 6 (by exact rfl)) w hw) ((Ld.own 7 (by exact rfl)) w hw) (by omega) (by omega) )) ?_)))
          rintro _ _ ⟨rfl, rfl⟩
          refine O.q rfl (Pu.not rfl rfl) (O.m rfl (O.splitN 129 rfl (fun c9 => ?_) (fun c9 => ?_)))
          ·exact absurd (by rw [if_pos c8]; exact hdt) c9
          ·refine O.gm rfl (O.gq rfl (Pu.neq rfl rfl rfl) (O.m rfl (O.m rfl (O.splitN 133 rfl (fun c10 => ?_) (fun c10 => ?_)))))
           ·exact absurd (by rw [if_pos c8]; exact hdc) c10
           ·refine O.gq rfl (Pu.loadAgg rfl ag26 sz26 rfl rfl (Ld.whole 0 rfl)) (O.gq rfl (Pu.loadAgg rfl ag26 sz26 rfl rfl (Ld.whole 8 rfl)) (O.gf rfl (Ef.callP call20 rfl rfl (fun w hw => system9_ok  (if crC pv3 r5 (if dfC pv3 r5 pu1 q1 = 0 then pv3 else 0) o3 i3 = 0 then pv3 else 0) r6 pu1 q1 _ _ _ _ w ((Ld.own 1 (by exact rfl)) w hw) ((Ld.trI 10 (by exact rfl)) w hw) (by first | omega | (simp only [tops_len, conts_len, bl, List.length_append, List.length_cons, List.length_nil] at *; omega)) (by first | omega | (simp only [tops_len, conts_len, bl, List.length_append, List.length_cons, List.length_nil] at *; omega)) )) ?_))
            rintro _ _ ⟨rfl, rfl⟩
            refine O.gq rfl (Pu.not rfl rfl) (O.m rfl (Zf (V.condNot rfl (fun c11 => ?_) (fun c11 => ?_))))
            ·exact absurd ⟨by rw [if_pos c10]; exact hdv, hcs⟩ c11
            ·exact Vk (X.cut (Ent.nil _) (Ent.cons (t := 3) rfl (Ent.cons (t := 4) rfl (Ent.cons (t := 5) rfl (Ent.cons (t := 8) rfl (Ent.cons (t := 9) rfl (Ent.cons (t := 10) rfl (Ent.cons (t := 11) rfl (Ent.cons (t := 12) rfl (Ent.cons (t := 13) rfl (Ent.nil _)))))))))) (Sub.s [2,2,2,2,2,2,2,2,2,2,2,2,2,2,2,2,2,2,2,2,2,2,2] rfl))
         ·exact Vk (X.cut (Ent.nil _) (Ent.cons (t := 3) rfl (Ent.cons (t := 4) rfl (Ent.cons (t := 5) rfl (Ent.cons (t := 8) rfl (Ent.cons (t := 9) rfl (Ent.cons (t := 10) rfl (Ent.cons (t := 11) rfl (Ent.cons (t := 12) rfl (Ent.cons (t := 13) rfl (Ent.nil _)))))))))) (Sub.s [0,0,0,0,0,0,0,0,0,0,0,0,0,0,0,0,0,0,0,0,0,0,0] rfl))
        ·refine Xn (Zj (O.m rfl (O.q rfl (Pu.eql rfl rfl rfl) (Zf (V.cut2 [] (Ent.cons (t := 3) rfl (Ent.cons (t := 4) rfl (Ent.cons (t := 5) rfl (Ent.nil _)))) (Sub.s [0,0,0,0,0,0,0,0,0,0,0,0,0,0,0,0,0,0,0,0,0,0,0] rfl) ?_ ?_)))))
         ·refine V.condD rfl (fun c12 => ?_) (fun c12 => ?_)
          ·obtain ⟨hct, hcsub, N, hcP, hcN, hclen, hcp1, hcp2⟩ := cyc_trd c12 ho1_1
           refine Vs (V.fact (fun w hw h => (Own.nilc (i := 14) hw (by exact rfl) h).2) (fun hnil2 => Vr (O.q rfl (Pu.loadAgg rfl ag26 sz26 rfl rfl (Ld.whole 15 rfl)) (O.q rfl (Pu.loadAgg rfl ag35 sz35 rfl rfl (Ld.whole 12 rfl)) (O.f rfl (Ef.call1 call18 rfl rfl (fun w hw => implCarry_ok  pv2 r4 (if cyCode pv2 r4 a1 b2 p1 = 0 then pv2 else 0) o1 i1 _ _ _ _ _ _ w ((Ld.own 16 (by exact rfl)) w hw) ((Ld.own 13 (by exact rfl)) w hw) ((Ld.own 14 (by exact rfl)) w hw) (by first | omega | (simp only [tops_len, conts_len, bl, List.length_append, List.length_cons, List.length_nil] at *; omega)) (by omega) (by omega) hnil2)) ?_)))))
           rintro _ _ rfl
           refine O.exi (fun r7A => O.exi (fun r7c => O.exi (fun r7 => O.sep (O.pur ?_))))
           rintro ⟨rfl, hr7_1⟩
           have hcq2 := hr7_1
           rw [if_pos c12] at hcq2
           obtain ⟨ha0, haS, haf, hac, hag⟩ := cyc_again c12 ho1_1 hcq2
           have hcl4 := hr7_1.len
           refine O.m rfl (O.m rfl (O.m rfl (O.f rfl (Ef.alloc rfl zr26 rfl) ?_)))
           rintro _ _ ⟨b11, rfl, rfl⟩
           refine O.s rfl rfl (Ef.storeAll 0 rfl sz26 rfl rfl rfl rfl (by simp [Value.oneCell']) rfl) ?_
           rintro _ _ rfl
           refine O.m rfl (Zb (O.q rfl (Pu.loadAgg rfl ag26 sz26 rfl rfl (Ld.whole 0 rfl)) (O.f rfl (Ef.callP call21 rfl rfl (fun w hw => implIsFullF_ok  (if crC pv2 r4 (if cyCode pv2 r4 a1 b2 p1 = 0 then pv2 else 0) o1 i1 = 0 then pv2 else 0) r7 _ _ w ((Ld.own 1 (by exact rfl)) w hw) (by first | omega | (simp only [tops_len, conts_len, bl, List.length_append, List.length_cons, List.length_nil] at *; omega)) )) ?_)))
           rintro _ _ ⟨rfl, rfl⟩
           refine O.m rfl (O.m rfl (O.m rfl (O.m rfl (O.m rfl (Zc (O.q rfl (Pu.loadAgg rfl ag35 sz35 rfl rfl (Ld.whole 14 rfl)) (O.f rfl (Ef.callP call19 rfl rfl (fun w hw => isTrade_ok  (if cyCode pv2 r4 a1 b2 p1 = 0 then pv2 else 0) o1 i1 _ _ _ _ w ((Ld.own 15 (by exact rfl)) w hw) ((Ld.own 16 (by exact rfl)) w hw) (by omega) (by omega) )) ?_)))))))
           rintro _ _ ⟨rfl, rfl⟩
           refine O.q rfl (Pu.not rfl rfl) (O.m rfl (O.splitN 155 rfl (fun c13 => ?_) (fun c13 => ?_)))
           ·exact absurd (by rw [if_pos c12]; exact hct) c13
           ·refine O.gq rfl (Pu.fieldAddr 1 rfl ut35 rfl sz24 rfl rfl) (O.gq rfl (Pu.load rfl pl24 rfl (Ld.blk 14 rfl rfl)) (O.gq rfl (Pu.len rfl ut24 rfl) (O.gq rfl (Pu.lss rfl rfl rfl) (O.m rfl (O.m rfl (O.splitD 161 rfl (fun c14 => ?_) (fun c14 => ?_)))))))
            ·refine O.g rfl (O.g rfl (O.g rfl (O.g rfl (O.g rfl (O.m rfl (O.m rfl (O.g rfl (O.g rfl (O.m rfl (O.m rfl (O.g rfl ?_)))))))))))
             refine O.g rfl (O.m rfl (O.m rfl (O.g rfl (O.g rfl (O.m rfl (Zf (V.condT rfl (Za (O.m rfl ?_)))))))))
             exact Ze (Xr (Xr (Xr (X.ret1 rfl rfl (absurd c14 (by first | omega | assumption))))))
            ·refine O.gq rfl (Pu.fieldAddr 1 rfl ut35 rfl sz24 rfl rfl) (O.gq rfl (Pu.load rfl pl24 rfl (Ld.blk 14 rfl rfl)) (O.gq rfl (Pu.len rfl ut24 rfl) (O.gq rfl (Pu.rem64 (by omega) (by omega) rfl rfl rfl) (O.gq rfl (Pu.neq rfl rfl rfl) (O.m rfl (O.m rfl (O.splitN 168 rfl (fun c15 => ?_) (fun c15 => ?_))))))))
             ·refine O.g rfl (O.g rfl (O.m rfl (O.m rfl (O.g rfl (O.g rfl (O.m rfl (O.m rfl (O.g rfl (O.g rfl (O.m rfl (On ?_)))))))))))
              exact Xn (V.condT rfl (Za (O.m rfl (Ze (Xr (Xr (Xr (X.ret1 rfl rfl (absurd (by first | assumption | rfl | exact ⟨rfl, rfl⟩ | exact ⟨rfl, by assumption⟩ | exact ⟨⟨rfl, by assumption⟩, rfl, by assumption⟩ | omega | (simp only [*]; done) | (rw [rfl])) c15)))))))))
             ·refine O.gm rfl (O.gq rfl (Pu.neq rfl rfl rfl) (O.m rfl (O.m rfl (O.splitN 172 rfl (fun c16 => ?_) (fun c16 => ?_)))))
              ·exact absurd (by rw [if_pos c12]; exact ha0) c16
              ·refine O.gm rfl (O.gq rfl (Pu.neq rfl rfl rfl) (O.m rfl (O.m rfl (O.splitN 176 rfl (fun c17 => ?_) (fun c17 => ?_)))))
               ·exact absurd (if_pos (by rw [if_pos c16]; exact haS)) c17
               ·refine O.gm rfl (O.gq rfl (Pu.not rfl rfl) (O.m rfl (Zf (V.condNot rfl (fun c18 => ?_) (fun c18 => ?_)))))
                ·exact absurd (by rw [if_pos c16]; exact ⟨haS, haf⟩) c18
                ·refine Vk (Xn (Za (O.q rfl (Pu.loadAgg rfl ag26 sz26 rfl rfl (Ld.whole 0 rfl)) (O.m rfl (O.m rfl (O.m rfl (O.f rfl (Ef.call1 call12 rfl rfl (fun w hw => implCycle_ok  (if crC pv2 r4 (if cyCode pv2 r4 a1 b2 p1 = 0 then pv2 else 0) o1 i1 = 0 then pv2 else 0) r7 b2 a1 p1 _ _ w ((Ld.own 1 (by exact rfl)) w hw) (by first | omega | (simp only [tops_len, conts_len, bl, List.length_append, List.length_cons, List.length_nil] at *; omega)) )) ?_)))))))
                 rintro _ _ rfl
                 refine O.exi (fun o5A => O.exi (fun o5c => O.exi (fun o5 => O.exi (fun i5A => O.exi (fun i5c => O.exi (fun i5 => O.sep (O.pur ?_)))))))
                 rintro ⟨rfl, ho5_1⟩
                 refine O.sep ?_
                 have hc5 := ho5_1
                 rw [if_pos c16] at hc5
                 have hl5 := hag _ _ hc5
                 refine O.m rfl (O.m rfl (O.m rfl (O.f rfl (Ef.alloc rfl zr35 rfl) ?_)))
                 rintro _ _ ⟨b12, rfl, rfl⟩
                 refine O.s rfl rfl (Ef.storeAll 0 rfl sz35 rfl rfl rfl rfl (by simp [Value.oneCell']) rfl) ?_
                 rintro _ _ rfl
                 refine O.m rfl (Zb (O.m rfl (O.q rfl (Pu.neq rfl rfl rfl) (O.m rfl (O.splitN 190 rfl (fun c19 => ?_) (fun c19 => ?_))))))
                 ·exact absurd (by rw [if_pos c16]; exact hac) c19
                 ·refine O.gq rfl (Pu.fieldAddr 1 rfl ut35 rfl sz24 rfl rfl) (O.gq rfl (Pu.load rfl pl24 rfl (Ld.blk 0 rfl rfl)) (O.gq rfl (Pu.len rfl ut24 rfl) (O.gq rfl (Pu.fieldAddr 1 rfl ut35 rfl sz24 rfl rfl) (O.gq rfl (Pu.load rfl pl24 rfl (Ld.blk 17 rfl rfl)) (O.gq rfl (Pu.len rfl ut24 rfl) (O.gq rfl (Pu.neq rfl rfl rfl) (O.m rfl (Zf (V.condNot rfl (fun c20 => ?_) (fun c20 => ?_))))))))))
                  ·exact Za (O.m rfl (Ze (Xr (Xr (X.ret1 rfl rfl (absurd (by first | assumption | rfl | exact ⟨rfl, rfl⟩ | exact ⟨rfl, by assumption⟩ | exact ⟨⟨rfl, by assumption⟩, rfl, by assumption⟩ | omega | (simp only [*]; done) | (rw [rfl])) c20))))))
                  ·exact Vk (X.cut (Ent.nil _) (Ent.cons (t := 3) rfl (Ent.cons (t := 4) rfl (Ent.cons (t := 5) rfl (Ent.nil _)))) (Sub.s [5,5,5,5,5,5,5,5,5,5,5,5,5,5,5,5,5,5,5,5,5,5,5] rfl))
          ·exact Vk (X.cut (Ent.nil _) (Ent.cons (t := 3) rfl (Ent.cons (t := 4) rfl (Ent.cons (t := 5) rfl (Ent.nil _)))) (Sub.s [0,0,0,0,0,0,0,0,0,0,0,0,0,0,0,0,0,0,0,0,0,0,0] rfl))
         ·refine Xn (Zj (O.m rfl (O.q rfl (Pu.neq rfl rfl rfl) (Zf (V.condNot rfl (fun c21 => ?_) (fun c21 => ?_))))))
          ·exact Za (O.m rfl (O.q rfl (Pu.len rfl ut28 rfl) (O.q rfl (Pu.eql rfl rfl rfl) (O.m rfl (Ze (Xr (X.ret1 rfl rfl (fun w hw => St.retP (by rw [decide_eq_true (by have h9 := congrArg List.length (hr2_1.2 (fun h => c21 (if_pos h))); rw [contT_len] at h9; simp only [List.length_nil] at h9; omega)]) hw))))))))
          ·have hS1 : STS pv1 r1 := Decidable.byContradiction (fun h => absurd (if_neg h ▸ c21) (by decide))
           refine Vk (Xn (Zj (O.m rfl (Zi (V.loop3 (β := Nat) (fun i => [(30, .int .i64 (i : Int))]) _ (fun i => []) _ (fun i => i ≤ (topT r2).length) (fun i => (topT r2).length - i) 0 (by omega) (Ent.cons rfl (Ent.nil _)) (Ent.cons (t := 3) rfl (Ent.cons (t := 4) rfl (Ent.nil _))) (Sub.s [0,0,0,0,0,0,0,0,0,0,0,0,0,0,0,0,0,0,0,0,0,0,0] rfl) ?_)))))
           rintro i hi
           refine Zj (O.m rfl (O.m rfl (O.q rfl (Pu.len rfl ut28 rfl) (O.q rfl (Pu.lss rfl rfl rfl) (O.m rfl (O.splitD 208 rfl (fun c22 => ?_) (fun c22 => ?_)))))))
           ·refine O.gm rfl (O.gq rfl (Pu.lss rfl rfl rfl) (O.m rfl (Zf (V.condD rfl (fun c23 => ?_) (fun c23 => ?_)))))
            ·refine Vk (Xn (Vs (Vb (Vs ?_))))
             have e9 : i < r2.length := by omega
             have hcT := contT_len r2
             obtain ⟨ht, hsub, hl4, hp6⟩ := pasch_all hS1 hr2_1 (k := i) (by omega)
             rw [contT_get r2 e9] at ht hsub hl4 hp6
             dsimp only at ht hsub hl4 hp6
             have hrwi := hrw1 i e9
             refine V.fact (fun w hw => (TrdA.get (i := 0) (St.trd_pick (ts := r2) (k := i) e9 (hw.sub (Sub.s [20,0,0,0,0,0,0,0,0,0,0,0,0,0,0,0,0,0,0,0,0,0,0] rfl))) rfl).2.2.2.1) (fun hcapk => V.draw mo (by kernel_rfl) (fun hwf => D.q 0 rfl (Pu.loadAgg rfl ag26 sz26 rfl rfl (Ld.whole 21 rfl)) (D.m 1 rfl (D.m 2 rfl (D.q 3 rfl (Pu.indexAddrS (i) rfl ut28 sz35 rfl rfl (by omega) (by omega) (fun w hw => Own.some hw (i := 19) (by exact rfl) (by omega))) (D.q 4 rfl (Pu.loadAgg' (v := .agg #[.int .i64 pv1, .slice (r2[i]'e9).1.1.A (r2[i]'e9).1.2.length (r2[i]'e9).1.1.c, .slice (r2[i]'e9).2.1.A (r2[i]'e9).2.2.length (r2[i]'e9).2.1.c]) rfl rfl ag35 sz35 rfl rfl (Ld.rowT (Ld.tt 19 19 (by exact rfl) (by exact rfl)) e9 rfl)) (D.f hwf 5 rfl (Ef.callP call22 rfl rfl (fun w hw => implFitsSystem_ok  pv1 r1 pv1 ((r2[i]'e9).1.2) ((r2[i]'e9).2.2) _ _ _ _ _ _ w ((Ld.own 22 (by exact rfl)) w hw) ((fun w hw => ((Ld.tt 19 19 (by exact rfl) (by exact rfl)) w hw).ro i e9) w hw) ((fun w hw => ((Ld.tt 19 19 (by exact rfl) (by exact rfl)) w hw).ri i e9) w hw) (by first | omega | (simp only [tops_len, conts_len, bl, List.length_append, List.length_cons, List.length_nil] at *; omega)) (by omega) (by omega) )) ?_)))))))
             rintro _ _ ⟨rfl, rfl⟩ hs
             refine ⟨fun w hw => hw, (D.m 6 rfl (D.m 7 rfl (D.m 8 rfl (D.m 9 rfl (D.m 10 rfl (D.done hwf rfl (Xn (Za (O.m rfl (O.m rfl ?_))))))))))⟩
             refine O.q rfl (Pu.indexAddrS (i) rfl ut28 sz35 rfl rfl (by omega) (by omega) (fun w hw => Own.some hw (i := 19) (by exact rfl) (by omega))) (O.q rfl (Pu.loadAgg' (v := .agg #[.int .i64 pv1, .slice (r2[i]'e9).1.1.A (r2[i]'e9).1.2.length (r2[i]'e9).1.1.c, .slice (r2[i]'e9).2.1.A (r2[i]'e9).2.2.length (r2[i]'e9).2.1.c]) rfl rfl ag35 sz35 rfl rfl (Ld.rowT (Ld.tt 19 19 (by exact rfl) (by exact rfl)) e9 rfl)) (O.f rfl (Ef.call1 call23 rfl rfl (fun w hw => implPointsOfTrade_ok  pv1 ((r2[i]'e9).1.2) ((r2[i]'e9).2.2) _ _ _ _ w ((fun w hw => ((Ld.tt 19 19 (by exact rfl) (by exact rfl)) w hw).ro i e9) w hw) ((fun w hw => ((Ld.tt 19 19 (by exact rfl) (by exact rfl)) w hw).ri i e9) w hw) (by omega) (by omega) )) ?_))
             rintro _ _ rfl
             refine O.exi (fun o6A => O.exi (fun o6c => O.exi (fun o6 => O.sep (O.pur ?_))))
             rintro ⟨rfl, ho6_1⟩
             have hpl := congrArg List.length (ho6_1.1 ht)
             refine O.m rfl (O.m rfl (O.m rfl (O.m rfl (O.m rfl (Zb (O.m rfl (O.m rfl (O.q rfl (Pu.indexAddrS (i) rfl ut28 sz35 rfl rfl (by omega) (by omega) (fun w hw => Own.some hw (i := 20) (by exact rfl) (by omega))) ?_))))))))
             refine O.q rfl (Pu.loadAgg' (v := .agg #[.int .i64 pv1, .slice (r2[i]'e9).1.1.A (r2[i]'e9).1.2.length (r2[i]'e9).1.1.c, .slice (r2[i]'e9).2.1.A (r2[i]'e9).2.2.length (r2[i]'e9).2.1.c]) rfl rfl ag35 sz35 rfl rfl (Ld.rowT (Ld.tt 20 20 (by exact rfl) (by exact rfl)) e9 rfl)) (O.f rfl (Ef.callP call24 rfl rfl (fun w hw => isMinimal_ok  pv1 ((r2[i]'e9).1.2) ((r2[i]'e9).2.2) _ _ _ _ w ((fun w hw => ((Ld.tt 20 20 (by exact rfl) (by exact rfl)) w hw).ro i e9) w hw) ((fun w hw => ((Ld.tt 20 20 (by exact rfl) (by exact rfl)) w hw).ri i e9) w hw) (by omega) (by omega) ht hl4 hcapk)) ?_)
             rintro _ _ ⟨rfl, rfl⟩
             refine O.m rfl (O.m rfl (O.m rfl (O.m rfl (O.m rfl (Zb (O.m rfl (O.q rfl (Pu.neq rfl rfl rfl) (O.m rfl (O.splitN 241 rfl (fun c24 => ?_) (fun c24 => ?_))))))))))
             ·exact absurd (if_pos ⟨hS1, ht⟩) c24
             ·refine O.gm rfl (O.gq rfl (Pu.not rfl rfl) (O.m rfl (O.m rfl (O.splitN 245 rfl (fun c25 => ?_) (fun c25 => ?_)))))
              ·exact absurd ⟨hS1, ht, rfl, hsub⟩ c25
              ·refine O.gm rfl (O.gq rfl (Pu.neq rfl rfl rfl) (O.m rfl (O.m rfl (O.splitN 249 rfl (fun c26 => ?_) (fun c26 => ?_)))))
               ·exact absurd (if_pos ht) c26
               ·refine O.gm rfl (O.gq rfl (Pu.len rfl ut49 rfl) (O.gq rfl (Pu.neq rfl rfl rfl) (O.m rfl (O.m rfl (O.splitN 254 rfl (fun c27 => ?_) (fun c27 => ?_))))))
                ·refine O.g rfl (O.g rfl (O.g rfl (O.g rfl (O.g rfl (O.g rfl (O.g rfl (O.m rfl (O.m rfl (O.g rfl (O.g rfl (O.m rfl ?_)))))))))))
                 refine O.m rfl (O.g rfl (O.g rfl (O.m rfl (Zf (V.condT rfl (Za (O.m rfl (Zf ?_))))))))
                 exact Vt (Xq (Xr (Xr (Xq (Xr (X.ret1 rfl rfl (absurd (by first | assumption | rfl | exact ⟨rfl, rfl⟩ | exact ⟨rfl, by assumption⟩ | exact ⟨⟨rfl, by assumption⟩, rfl, by assumption⟩ | omega | (simp only [*]; done) | (rw [rfl])) c27)))))))
                ·refine O.gm rfl (O.gm rfl (O.gq rfl (Pu.indexAddrS (i) rfl ut28 sz35 rfl rfl (by omega) (by omega) (fun w hw => Own.some hw (i := 20) (by exact rfl) (by omega))) (O.gq rfl (Pu.fieldAddr' rfl ut35 rfl sz24 rfl rfl (fun w hw => by have := Rd.some ((Ld.own 20 (by exact rfl)) w hw) (by omega); simpa using this)) (O.gq rfl (Pu.load rfl pl24 rfl (Ld.rowTf (j := 1) (Ld.tt 20 20 (by exact rfl) (by exact rfl)) e9 rfl rfl)) (O.gq rfl (Pu.len rfl ut24 rfl) (O.gq rfl (Pu.neq rfl rfl rfl) (O.m rfl (O.m rfl (O.splitN 263 rfl (fun c28 => ?_) (fun c28 => ?_))))))))))
                 ·refine O.g rfl (O.g rfl (O.m rfl (O.m rfl (O.g rfl (O.g rfl (O.m rfl (Zf (V.condT rfl (Za ?_)))))))))
                  exact O.m rfl (Ze (Xq (Xr (Xr (Xq (Xr (X.ret1 rfl rfl (absurd (by first | assumption | rfl | exact ⟨rfl, rfl⟩ | exact ⟨rfl, by assumption⟩ | exact ⟨⟨rfl, by assumption⟩, rfl, by assumption⟩ | omega | (simp only [*]; done) | (rw [rfl])) c28))))))))
                 ·refine O.gm rfl (O.gq rfl (Pu.neq rfl rfl rfl) (O.m rfl (O.m rfl (O.splitN 267 rfl (fun c29 => ?_) (fun c29 => ?_)))))
                  ·exact absurd rfl c29
                  ·refine O.gm rfl (O.gq rfl (Pu.notT rfl rfl) (O.m rfl (Zf (V.condF rfl (Zg (O.m rfl (O.q rfl (Pu.add64 (r := ((i + 1 : Nat) : Int)) rfl (by omega) rfl rfl rfl) ?_)))))))
                   exact O.m rfl (On (X.back3 (i + 1) (by omega) (by first | omega | (dsimp only; omega)) (Ent.cons rfl (Ent.nil _)) (Ent.cons (t := 3) rfl (Ent.cons (t := 4) rfl (Ent.nil _))) (Sub.s [1,1,1,1,1,1,1,1,1,1,1,1,1,1,1,1,1,1,1,1,1,1,1] rfl)))
            ·exact Zd (O.m rfl (Ze (X.ret1 rfl rfl (fun w hw => St.retP rfl hw))))
           ·refine O.g rfl (O.g rfl (O.m rfl (Zf (V.condF rfl (Ve (Xe (Xe (Xh (Xn (Vs ?_))))))))))
            exact Vr (O.m rfl (Ze (X.ret1 rfl rfl (fun w hw => St.retP rfl hw))))
end Go.Proofs.YtgfpljeppfaolaaGreat
