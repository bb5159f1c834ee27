/-
  Contracts, part 7.
-/
import Derived.Test.YtnngcemighmikaaKb6
set_option linter.unusedVariables false
set_option linter.unusedSimpArgs false
namespace Go.Proofs.Ytnngcemighmikaa
open Go Go.RowKit Go.Vc Go.Proofs
set_option maxRecDepth 100000 in
set_option maxHeartbeats 1000000 in
theorem implCycle_ok (v : Int) (bs : List B3) (a : Int) (b : Int) (p : Int) (A : Option Addr) (c : Nat) (w : World) (hx : Rd B3C w A bs) (lx : bs.length ≤ 4611686018427387904) : Does Try.prog 23 [.agg #[.int .i64 v, .slice A bs.length c], .int .i64 a, .int .i64 b, .int .i64 p] w [] (fun r => [.exi fun (oA : Option Addr) => .exi fun (oc : Nat) => .exi fun (o : List B3) => .exi fun (iA : Option Addr) => .exi fun (ic : Nat) => .exi fun (i : List B3) => .sep (.pur (r = .tuple #[.agg #[.int .i64 (if cyCode v bs a b p = 0 then v else 0), .slice oA o.length oc, .slice iA i.length ic], .int .i64 (cyCode v bs a b p)] ∧ CYR v bs a b p o i)) (.sep (Own 70 B3C oA oc o) (Own 70 B3C iA ic i))]) := by
  refine Does.enter Try.func23 rfl rfl [(0, .agg #[.int .i64 v, .slice A bs.length c]), (1, .int .i64 a), (2, .int .i64 b), (3, .int .i64 p)] rfl ?_
  refine V.seq ?_
  refine V.region ?_
  refine O.e rfl rfl rfl (Ef.box rfl rfl rfl) ?_
  rintro _ _ ⟨b1, rfl, rfl⟩
  refine O.e rfl rfl rfl (Ef.alloc rfl zr45 rfl) ?_
  rintro _ _ ⟨b2, rfl, rfl⟩
  refine O.p rfl rfl rfl (Pu.assign rfl rfl) ?_
  refine O.nil ?_
  refine X.next ?_
  refine V.seq ?_
  refine V.seq ?_
  refine V.region ?_
  refine O.p rfl rfl rfl (Pu.loadAgg rfl ag28 sz28 rfl rfl (Ld.whole 1 rfl)) ?_
  refine O.p rfl rfl rfl (Pu.move rfl rfl) ?_
  refine O.p rfl rfl rfl (Pu.move rfl rfl) ?_
  refine O.e rfl rfl rfl (Ef.callP call52 rfl rfl (fun w hw => pairCode_ok  v bs a b _ _ w ((Ld.old hx) w hw) (by first | omega | (simp only [tops_len, conts_len, bl, List.length_append, List.length_cons, List.length_nil] at *; omega)) )) ?_
  rintro _ _ ⟨rfl, rfl⟩
  refine O.p rfl rfl rfl (Pu.assign rfl rfl) ?_
  refine O.nil ?_
  refine X.next ?_
  refine V.seq ?_
  refine V.region ?_
  refine O.p rfl rfl rfl (Pu.move rfl rfl) ?_
  refine O.p rfl rfl rfl (Pu.neq rfl rfl rfl) ?_
  refine O.nil ?_
  refine X.next ?_
  refine V.condNot rfl (fun c1 => ?_) (fun c1 => ?_)
  · skip
    refine V.seq ?_
    refine V.region ?_
    refine O.p rfl rfl rfl (Pu.buildS (cs := [.int .i64 (0 : Int), .slice none 0 0, .slice none 0 0]) rfl rfl Try.underlying45 zr45 (by kernel_rfl) rfl (by kernel_rfl)) ?_
    refine O.p rfl rfl rfl (Pu.move rfl rfl) ?_
    refine O.s rfl rfl (Ef.storeAll 0 rfl sz45 rfl rfl rfl rfl (by simp [Value.oneCell']) rfl) ?_
    rintro _ _ rfl
    refine O.p rfl rfl rfl (Pu.assign rfl rfl) ?_
    refine O.nil ?_
    refine X.next ?_
    refine V.ret ?_
    refine X.thenRet ?_
    refine X.retCell2 rfl ag45 sz45 rfl rfl rfl (Ld.whole 0 rfl) ?_
    exact fun w hw => St.mkExi none (St.mkExi 0 (St.mkExi [] (St.mkExi none (St.mkExi 0 (St.mkExi [] (St.unsep (St.addPur ⟨(by rw [cyCode_np c1, if_neg c1]; rfl), cyR_no (cyCode_np c1) c1⟩ (St.unsep (St.addNil (T := 70) (C := B3C) (St.addNil (T := 70) (C := B3C) (hw.sub (Sub.nil _))))))))))))
  · skip
    have hc0 : (if STS v bs then if Pt v a ∧ Pt v b ∧ a ≠ b then (0 : Int) else 2 else 1) = 0 := by omega
    have hS : STS v bs := by apply Decidable.byContradiction; intro h; rw [if_neg h] at hc0; omega
    rw [if_pos hS] at hc0
    have hP : Pt v a ∧ Pt v b ∧ a ≠ b := by apply Decidable.byContradiction; intro h; rw [if_neg h] at hc0; omega
    obtain ⟨pa, pb, hne⟩ := hP
    unfold Pt at pa pb
    have hhi := hS.hi
    have hlo := hS.lo
    have hfew := hS.few
    have hg : ∀ b ∈ bs, good 15 b := fun b h => (hS.good b h).mono hS.hi
    have hmul := sts_mul' hS
    have htt := third_tab hS hne
    refine V.skip ?_
    refine X.next ?_
    refine V.seq ?_
    refine V.region ?_
    refine O.p rfl rfl rfl (Pu.loadAgg rfl ag28 sz28 rfl rfl (Ld.whole 1 rfl)) ?_
    refine O.e rfl rfl rfl (Ef.call1 call53 rfl rfl (fun w hw => sysGrid_ok  v bs _ _ w ((Ld.old hx) w hw) (by first | omega | (simp only [tops_len, conts_len, bl, List.length_append, List.length_cons, List.length_nil] at *; omega)) hg hS.fits)) ?_
    rintro _ _ rfl
    refine O.exi (fun g1 => ?_)
    refine O.sep ?_
    refine O.pur ?_
    rintro rfl
    refine O.p rfl rfl rfl (Pu.assign rfl rfl) ?_
    refine O.nil ?_
    refine X.next ?_
    refine V.seq ?_
    refine V.block ?_
    refine V.seq ?_
    refine V.region ?_
    refine O.p rfl rfl rfl (Pu.loadAgg rfl ag28 sz28 rfl rfl (Ld.whole 2 rfl)) ?_
    refine O.p rfl rfl rfl (Pu.move rfl rfl) ?_
    refine O.e rfl rfl rfl (Ef.callP call54 rfl rfl (fun w hw => isPoint_ok  v bs p _ _ w ((Ld.old hx) w hw) (by first | omega | (simp only [tops_len, conts_len, bl, List.length_append, List.length_cons, List.length_nil] at *; omega)) (by omega))) ?_
    rintro _ _ ⟨rfl, rfl⟩
    refine O.p rfl rfl rfl (Pu.not rfl rfl) ?_
    refine O.p rfl rfl rfl (Pu.move rfl rfl) ?_
    refine O.splitN 34 rfl (fun c2 => ?_) (fun c2 => ?_)
    · skip
      refine O.gs rfl rfl rfl rfl rfl rfl ?_
      refine O.gs rfl rfl rfl rfl rfl rfl ?_
      refine O.gs rfl rfl rfl rfl rfl rfl ?_
      refine O.p rfl rfl rfl (Pu.pickT rfl rfl rfl) ?_
      refine O.p rfl rfl rfl (Pu.move rfl rfl) ?_
      refine O.gs rfl rfl rfl rfl rfl rfl ?_
      refine O.gs rfl rfl rfl rfl rfl rfl ?_
      refine O.gs rfl rfl rfl rfl rfl rfl ?_
      refine O.p rfl rfl rfl (Pu.pickT rfl rfl rfl) ?_
      refine O.p rfl rfl rfl (Pu.move rfl rfl) ?_
      refine O.gs rfl rfl rfl rfl rfl rfl ?_
      refine O.gs rfl rfl rfl rfl rfl rfl ?_
      refine O.gs rfl rfl rfl rfl rfl rfl ?_
      refine O.gs rfl rfl rfl rfl rfl rfl ?_
      refine O.gs rfl rfl rfl rfl rfl rfl ?_
      refine O.gs rfl rfl rfl rfl rfl rfl ?_
      refine O.gs rfl rfl rfl rfl rfl rfl ?_
      refine O.gs rfl rfl rfl rfl rfl rfl ?_
      refine O.gs rfl rfl rfl rfl rfl rfl ?_
      refine O.p rfl rfl rfl (Pu.pickT rfl rfl rfl) ?_
      refine O.p rfl rfl rfl (Pu.assign rfl rfl) ?_
      refine O.nil ?_
      refine X.next ?_
      refine V.condT rfl ?_
      refine V.seq ?_
      refine V.region ?_
      refine O.p rfl rfl rfl (Pu.buildS (cs := [.int .i64 (0 : Int), .slice none 0 0, .slice none 0 0]) rfl rfl Try.underlying45 zr45 (by kernel_rfl) rfl (by kernel_rfl)) ?_
      refine O.s rfl rfl (Ef.storeAll 1 rfl sz45 rfl rfl rfl rfl (by simp [Value.oneCell']) rfl) ?_
      rintro _ _ rfl
      refine O.p rfl rfl rfl (Pu.assign rfl rfl) ?_
      refine O.nil ?_
      refine X.next ?_
      refine V.ret ?_
      refine X.blockRet ?_
      refine X.thenRet ?_
      refine X.retCell2 rfl ag45 sz45 rfl rfl rfl (Ld.whole 1 rfl) ?_
      exact fun w hw => St.mkExi none (St.mkExi 0 (St.mkExi [] (St.mkExi none (St.mkExi 0 (St.mkExi [] (St.unsep (St.addPur ⟨(by rw [cyCode_2 hS (fun h => c2 h.2.2.1)]; rfl), cyR_no (cyCode_2 hS (fun h => c2 h.2.2.1)) (by decide)⟩ (St.unsep (St.addNil (T := 70) (C := B3C) (St.addNil (T := 70) (C := B3C) (hw.sub (Sub.nil _))))))))))))
    · skip
      refine O.gp rfl rfl rfl rfl rfl (Pu.move rfl rfl) ?_
      refine O.gp rfl rfl rfl rfl rfl (Pu.move rfl rfl) ?_
      refine O.gp rfl rfl rfl rfl rfl (Pu.eql rfl rfl rfl) ?_
      refine O.p rfl rfl rfl (Pu.pickF rfl rfl rfl) ?_
      refine O.p rfl rfl rfl (Pu.move rfl rfl) ?_
      refine O.splitD 39 rfl (fun c3 => ?_) (fun c3 => ?_)
      · skip
        refine O.gs rfl rfl rfl rfl rfl rfl ?_
        refine O.gs rfl rfl rfl rfl rfl rfl ?_
        refine O.gs rfl rfl rfl rfl rfl rfl ?_
        refine O.p rfl rfl rfl (Pu.pickT rfl rfl rfl) ?_
        refine O.p rfl rfl rfl (Pu.move rfl rfl) ?_
        refine O.gs rfl rfl rfl rfl rfl rfl ?_
        refine O.gs rfl rfl rfl rfl rfl rfl ?_
        refine O.gs rfl rfl rfl rfl rfl rfl ?_
        refine O.gs rfl rfl rfl rfl rfl rfl ?_
        refine O.gs rfl rfl rfl rfl rfl rfl ?_
        refine O.gs rfl rfl rfl rfl rfl rfl ?_
        refine O.gs rfl rfl rfl rfl rfl rfl ?_
        refine O.gs rfl rfl rfl rfl rfl rfl ?_
        refine O.gs rfl rfl rfl rfl rfl rfl ?_
        refine O.p rfl rfl rfl (Pu.pickT rfl rfl rfl) ?_
        refine O.p rfl rfl rfl (Pu.assign rfl rfl) ?_
        refine O.nil ?_
        refine X.next ?_
        refine V.condT rfl ?_
        refine V.seq ?_
        refine V.region ?_
        refine O.p rfl rfl rfl (Pu.buildS (cs := [.int .i64 (0 : Int), .slice none 0 0, .slice none 0 0]) rfl rfl Try.underlying45 zr45 (by kernel_rfl) rfl (by kernel_rfl)) ?_
        refine O.s rfl rfl (Ef.storeAll 1 rfl sz45 rfl rfl rfl rfl (by simp [Value.oneCell']) rfl) ?_
        rintro _ _ rfl
        refine O.p rfl rfl rfl (Pu.assign rfl rfl) ?_
        refine O.nil ?_
        refine X.next ?_
        refine V.ret ?_
        refine X.blockRet ?_
        refine X.thenRet ?_
        refine X.retCell2 rfl ag45 sz45 rfl rfl rfl (Ld.whole 1 rfl) ?_
        exact fun w hw => St.mkExi none (St.mkExi 0 (St.mkExi [] (St.mkExi none (St.mkExi 0 (St.mkExi [] (St.unsep (St.addPur ⟨(by rw [cyCode_2 hS (fun h => h.2.2.2.2.1 c3)]; rfl), cyR_no (cyCode_2 hS (fun h => h.2.2.2.2.1 c3)) (by decide)⟩ (St.unsep (St.addNil (T := 70) (C := B3C) (St.addNil (T := 70) (C := B3C) (hw.sub (Sub.nil _))))))))))))
      · skip
        refine O.gp rfl rfl rfl rfl rfl (Pu.move rfl rfl) ?_
        refine O.gp rfl rfl rfl rfl rfl (Pu.move rfl rfl) ?_
        refine O.gp rfl rfl rfl rfl rfl (Pu.eql rfl rfl rfl) ?_
        refine O.p rfl rfl rfl (Pu.pickF rfl rfl rfl) ?_
        refine O.p rfl rfl rfl (Pu.move rfl rfl) ?_
        refine O.splitD 44 rfl (fun c4 => ?_) (fun c4 => ?_)
        · skip
          refine O.gs rfl rfl rfl rfl rfl rfl ?_
          refine O.gs rfl rfl rfl rfl rfl rfl ?_
          refine O.gs rfl rfl rfl rfl rfl rfl ?_
          refine O.gs rfl rfl rfl rfl rfl rfl ?_
          refine O.gs rfl rfl rfl rfl rfl rfl ?_
          refine O.gs rfl rfl rfl rfl rfl rfl ?_
          refine O.gs rfl rfl rfl rfl rfl rfl ?_
          refine O.gs rfl rfl rfl rfl rfl rfl ?_
          refine O.gs rfl rfl rfl rfl rfl rfl ?_
          refine O.p rfl rfl rfl (Pu.pickT rfl rfl rfl) ?_
          refine O.p rfl rfl rfl (Pu.assign rfl rfl) ?_
          refine O.nil ?_
          refine X.next ?_
          refine V.condT rfl ?_
          refine V.seq ?_
          refine V.region ?_
          refine O.p rfl rfl rfl (Pu.buildS (cs := [.int .i64 (0 : Int), .slice none 0 0, .slice none 0 0]) rfl rfl Try.underlying45 zr45 (by kernel_rfl) rfl (by kernel_rfl)) ?_
          refine O.s rfl rfl (Ef.storeAll 1 rfl sz45 rfl rfl rfl rfl (by simp [Value.oneCell']) rfl) ?_
          rintro _ _ rfl
          refine O.p rfl rfl rfl (Pu.assign rfl rfl) ?_
          refine O.nil ?_
          refine X.next ?_
          refine V.ret ?_
          refine X.blockRet ?_
          refine X.thenRet ?_
          refine X.retCell2 rfl ag45 sz45 rfl rfl rfl (Ld.whole 1 rfl) ?_
          exact fun w hw => St.mkExi none (St.mkExi 0 (St.mkExi [] (St.mkExi none (St.mkExi 0 (St.mkExi [] (St.unsep (St.addPur ⟨(by rw [cyCode_2 hS (fun h => h.2.2.2.2.2.1 c4)]; rfl), cyR_no (cyCode_2 hS (fun h => h.2.2.2.2.2.1 c4)) (by decide)⟩ (St.unsep (St.addNil (T := 70) (C := B3C) (St.addNil (T := 70) (C := B3C) (hw.sub (Sub.nil _))))))))))))
        · skip
          refine O.gp rfl rfl rfl rfl rfl (Pu.move rfl rfl) ?_
          refine O.gp rfl rfl rfl rfl rfl (Pu.move rfl rfl) ?_
          refine O.gp rfl rfl rfl rfl rfl (Pu.move rfl rfl) ?_
          refine O.gp rfl rfl rfl rfl rfl (Pu.move rfl rfl) ?_
          refine O.gp rfl rfl rfl rfl rfl (Pu.nilCheck rfl rfl) ?_
          refine O.gp rfl rfl rfl rfl rfl (Pu.indexArr ((a).toNat) (0 + (a).toNat * 15) rfl Try.underlying119 sz76 rfl rfl (by omega) (by omega) rfl) ?_
          refine O.gp rfl rfl rfl rfl rfl (Pu.indexArr ((b).toNat) (0 + (a).toNat * 15 + (b).toNat * 1) rfl Try.underlying76 sz2 rfl rfl (by omega) (by omega) rfl) ?_
          refine O.gp rfl rfl rfl rfl rfl (Pu.load rfl pl2 rfl (Ld.grid (x := a) (y := b) 0 rfl (by omega) (by omega) (by omega))) ?_
          refine O.gp rfl rfl rfl rfl rfl (Pu.eql rfl rfl rfl) ?_
          refine O.p rfl rfl rfl (Pu.pickF rfl rfl rfl) ?_
          refine O.p rfl rfl rfl (Pu.assign rfl rfl) ?_
          refine O.nil ?_
          refine X.next ?_
          refine V.condD rfl (fun c5 => ?_) (fun c5 => ?_)
          · skip
            refine V.seq ?_
            refine V.region ?_
            refine O.p rfl rfl rfl (Pu.buildS (cs := [.int .i64 (0 : Int), .slice none 0 0, .slice none 0 0]) rfl rfl Try.underlying45 zr45 (by kernel_rfl) rfl (by kernel_rfl)) ?_
            refine O.s rfl rfl (Ef.storeAll 1 rfl sz45 rfl rfl rfl rfl (by simp [Value.oneCell']) rfl) ?_
            rintro _ _ rfl
            refine O.p rfl rfl rfl (Pu.assign rfl rfl) ?_
            refine O.nil ?_
            refine X.next ?_
            refine V.ret ?_
            refine X.blockRet ?_
            refine X.thenRet ?_
            refine X.retCell2 rfl ag45 sz45 rfl rfl rfl (Ld.whole 1 rfl) ?_
            exact fun w hw => St.mkExi none (St.mkExi 0 (St.mkExi [] (St.mkExi none (St.mkExi 0 (St.mkExi [] (St.unsep (St.addPur ⟨(by rw [cyCode_2 hS (fun h => h.2.2.2.2.2.2 (c5.trans htt.symm))]; rfl), cyR_no (cyCode_2 hS (fun h => h.2.2.2.2.2.2 (c5.trans htt.symm))) (by decide)⟩ (St.unsep (St.addNil (T := 70) (C := B3C) (St.addNil (T := 70) (C := B3C) (hw.sub (Sub.nil _))))))))))))
          · skip
            have hok : CyOk v bs a b p := ⟨pa, pb, c2, hne, c3, c4, fun e => c5 (e.trans htt)⟩
            refine V.seq ?_
            refine V.region ?_
            refine O.p rfl rfl rfl (Pu.loadAgg rfl ag28 sz28 rfl rfl (Ld.whole 2 rfl)) ?_
            refine O.e rfl rfl rfl (Ef.callP call55 rfl rfl (fun w hw => isFullC_ok  v bs _ _ w ((Ld.old hx) w hw) (by first | omega | (simp only [tops_len, conts_len, bl, List.length_append, List.length_cons, List.length_nil] at *; omega)) (by omega) (by omega) hmul)) ?_
            rintro _ _ ⟨rfl, rfl⟩
            refine O.p rfl rfl rfl (Pu.not rfl rfl) ?_
            refine O.p rfl rfl rfl (Pu.assign rfl rfl) ?_
            refine O.nil ?_
            refine X.next ?_
            refine V.condNot rfl (fun c6 => ?_) (fun c6 => ?_)
            · skip
              refine V.seq ?_
              refine V.region ?_
              refine O.p rfl rfl rfl (Pu.buildS (cs := [.int .i64 (0 : Int), .slice none 0 0, .slice none 0 0]) rfl rfl Try.underlying45 zr45 (by kernel_rfl) rfl (by kernel_rfl)) ?_
              refine O.s rfl rfl (Ef.storeAll 1 rfl sz45 rfl rfl rfl rfl (by simp [Value.oneCell']) rfl) ?_
              rintro _ _ rfl
              refine O.p rfl rfl rfl (Pu.assign rfl rfl) ?_
              refine O.nil ?_
              refine X.next ?_
              refine V.ret ?_
              refine X.blockRet ?_
              refine X.thenRet ?_
              refine X.retCell2 rfl ag45 sz45 rfl rfl rfl (Ld.whole 1 rfl) ?_
              exact fun w hw => St.mkExi none (St.mkExi 0 (St.mkExi [] (St.mkExi none (St.mkExi 0 (St.mkExi [] (St.unsep (St.addPur ⟨(by rw [cyCode_5 hS hok c6]; rfl), cyR_no (cyCode_5 hS hok c6) (by decide)⟩ (St.unsep (St.addNil (T := 70) (C := B3C) (St.addNil (T := 70) (C := B3C) (hw.sub (Sub.nil _))))))))))))
            · skip
              have hcode := cyCode_0 hS hok c6
              have hab := cy_ok hcode
              obtain ⟨N, P⟩ := per_some hab.1 hab.2
              have hN := P.le
              refine V.skip ?_
              refine X.blockNormal ?_
              refine X.next ?_
              refine V.seq ?_
              refine V.region ?_
              refine O.p rfl rfl rfl (Pu.move rfl rfl) ?_
              refine O.p rfl rfl rfl (Pu.move rfl rfl) ?_
              refine O.p rfl rfl rfl (Pu.move rfl rfl) ?_
              refine O.p rfl rfl rfl (Pu.move rfl rfl) ?_
              refine O.e rfl rfl rfl (Ef.call1 call56 rfl rfl (fun w hw => cycle_ok v bs N _ (tab bs) a b p w (GridAt.of (i := 0) hw (by exact rfl))  hab.1 hab.2 P rfl)) ?_
              rintro _ _ rfl
              refine O.exi (fun r1A => ?_)
              refine O.exi (fun r1c => ?_)
              refine O.exi (fun r1 => ?_)
              refine O.sep ?_
              refine O.pur ?_
              rintro ⟨rfl, hr1_1⟩
              have hlr : r1.length = 2 * N := by rw [hr1_1]; unfold cycL; rw [List.length_map, List.length_range]
              refine O.p rfl rfl rfl (Pu.assign rfl rfl) ?_
              refine O.nil ?_
              refine X.next ?_
              refine V.seq ?_
              refine V.region ?_
              refine O.p rfl rfl rfl (Pu.fieldAddr 0 rfl Try.underlying28 rfl sz2 rfl rfl) ?_
              refine O.p rfl rfl rfl (Pu.load rfl pl2 rfl (Ld.blk 3 rfl rfl)) ?_
              refine O.p rfl rfl rfl (Pu.buildS (cs := [.int .i64 v, .slice none 0 0, .slice none 0 0]) rfl rfl Try.underlying45 zr45 (by kernel_rfl) rfl (by kernel_rfl)) ?_
              refine O.e rfl rfl rfl (Ef.alloc rfl zr45 rfl) ?_
              rintro _ _ ⟨b3, rfl, rfl⟩
              refine O.s rfl rfl (Ef.storeAll 0 rfl sz45 rfl rfl rfl rfl (by simp [Value.oneCell']) rfl) ?_
              rintro _ _ rfl
              refine O.nil ?_
              refine X.next ?_
              refine V.seq ?_
              refine V.seq ?_
              refine V.region ?_
              refine O.p rfl rfl rfl (Pu.fieldAddr 1 rfl Try.underlying28 rfl sz26 rfl rfl) ?_
              refine O.p rfl rfl rfl (Pu.load rfl pl26 rfl (Ld.blk 4 rfl rfl)) ?_
              refine O.p rfl rfl rfl (Pu.len rfl Try.underlying26 rfl) ?_
              refine O.p rfl rfl rfl (Pu.move rfl rfl) ?_
              refine O.nil ?_
              refine X.next ?_
              refine V.block ?_
              refine V.map (fun w hw => St.addNil (T := 70) (C := B3C) hw) ?_
              refine V.loop3 (β := Nat × (Option Addr) × Nat × (List B3)) (fun x => [(72, .int .i64 (x.1 : Int))]) _ (fun x => [Blk b3 [.int .i64 v, .slice x.2.1 x.2.2.2.length x.2.2.1, .slice none 0 0] 45, Own 70 B3C x.2.1 x.2.2.1 x.2.2.2]) _ (fun x => x.1 ≤ bs.length ∧ x.2.2.2 = (bs.take x.1).filter (fun d => decide (inY r1 a b d)) ∧ x.2.2.2.length ≤ x.1) (fun x => bs.length - x.1) (0, none, 0, []) (by (try dsimp only); exact ⟨by omega, rfl, by simp⟩) (Ent.cons rfl (Ent.nil _)) (Ent.cons (t := 1) rfl (Ent.cons (t := 2) rfl (Ent.cons (t := 8) rfl (Ent.cons (t := 12) rfl (Ent.cons (t := 13) rfl (Ent.cons (t := 70) rfl (Ent.cons (t := 71) rfl (Ent.nil _)))))))) (Sub.keep 1 rfl (Sub.keep 0 rfl (Sub.keep 0 rfl (Sub.keep 0 rfl (Sub.keep 0 rfl (Sub.keep 0 rfl (Sub.nil _))))))) ?_
              rintro ⟨k, outA, outc, out⟩ ⟨hk, ho, hl⟩
              dsimp only at hk ho hl ⊢
              refine V.seq ?_
              refine V.region ?_
              refine O.p rfl rfl rfl (Pu.lss rfl rfl rfl) ?_
              refine O.nil ?_
              refine X.next ?_
              refine V.seq ?_
              refine V.condD rfl (fun c7 => ?_) (fun c7 => ?_)
              · skip
                refine V.skip ?_
                refine X.next ?_
                refine V.seq ?_
                refine V.block ?_
                refine V.seq ?_
                refine V.region ?_
                refine O.p rfl rfl rfl (Pu.indexAddr (k) rfl Try.underlying26 sz70 rfl rfl (by omega) (by omega) (hx.some (by omega))) ?_
                have e1 : k < bs.length := by omega
                refine O.p rfl rfl rfl (Pu.loadAgg' (v := B3.v (bs[k]'e1)) rfl rfl ag70 sz70 rfl rfl (Ld.rds (Ld.old hx) (k := k) e1 rfl)) ?_
                refine O.e rfl rfl rfl (Ef.alloc rfl zr70 rfl) ?_
                rintro _ _ ⟨b4, rfl, rfl⟩
                refine O.s rfl rfl (Ef.storeAll 0 rfl sz70 rfl rfl rfl rfl (by simp [Value.oneCell']) rfl) ?_
                rintro _ _ rfl
                refine O.nil ?_
                refine X.next ?_
                refine V.seq ?_
                refine V.region ?_
                refine O.p rfl rfl rfl (Pu.assign rfl rfl) ?_
                refine O.nil ?_
                refine X.next ?_
                refine V.seq ?_
                refine V.seq ?_
                refine V.region ?_
                refine O.p rfl rfl rfl (Pu.loadAgg' (v := B3.v (bs[k]'e1)) rfl rfl ag70 sz70 rfl rfl (Ld.whole 0 rfl)) ?_
                refine O.p rfl rfl rfl (Pu.move rfl rfl) ?_
                refine O.nil ?_
                refine X.next ?_
                refine V.block ?_
                refine V.unroll 3 ?_
                refine V.seq ?_
                refine V.region ?_
                refine O.p rfl rfl rfl (Pu.isT (by decide) (Pu.lss rfl rfl rfl)) ?_
                refine O.nil ?_
                refine X.next ?_
                refine V.seq ?_
                refine V.condT rfl ?_
                refine V.skip ?_
                refine X.next ?_
                refine V.seq ?_
                refine V.block ?_
                refine V.seq ?_
                refine V.region ?_
                refine O.p rfl rfl rfl (Pu.indexAgg 0 rfl Try.underlying70 sz2 pl2 rfl rfl (by decide) (by decide) rfl) ?_
                refine O.p rfl rfl rfl (Pu.assign rfl rfl) ?_
                refine O.nil ?_
                refine X.next ?_
                refine V.seq ?_
                refine V.region ?_
                refine O.p rfl rfl rfl (Pu.move rfl rfl) ?_
                refine O.p rfl rfl rfl (Pu.move rfl rfl) ?_
                refine O.e rfl rfl rfl (Ef.callP call57 rfl rfl (fun w hw => containsI_ok  r1 ((bs[k]'e1).1) _ _ w ((Ld.own 3 (by exact rfl)) w hw) (by first | omega | (simp only [tops_len, conts_len, bl, List.length_append, List.length_cons, List.length_nil] at *; omega)) )) ?_
                rintro _ _ ⟨rfl, rfl⟩
                refine O.nil ?_
                refine X.next ?_
                refine V.condD rfl (fun c8 => ?_) (fun c8 => ?_)
                · skip
                  refine V.region ?_
                  refine O.p rfl rfl rfl (Pu.move rfl rfl) ?_
                  refine O.p rfl rfl rfl (Pu.add64 (r := 1) (by decide) (by decide) rfl rfl rfl) ?_
                  refine O.p rfl rfl rfl (Pu.assign rfl rfl) ?_
                  refine O.nil ?_
                  refine X.blockNormal ?_
                  refine X.next ?_
                  refine V.region ?_
                  refine O.p rfl rfl rfl (Pu.add64 (r := 1) (by decide) (by decide) rfl rfl rfl) ?_
                  refine O.p rfl rfl rfl (Pu.move rfl rfl) ?_
                  refine O.nil ?_
                  refine X.again 2 ?_
                  refine V.seq ?_
                  refine V.region ?_
                  refine O.p rfl rfl rfl (Pu.isT (by decide) (Pu.lss rfl rfl rfl)) ?_
                  refine O.nil ?_
                  refine X.next ?_
                  refine V.seq ?_
                  refine V.condT rfl ?_
                  refine V.skip ?_
                  refine X.next ?_
                  refine V.seq ?_
                  refine V.block ?_
                  refine V.seq ?_
                  refine V.region ?_
                  refine O.p rfl rfl rfl (Pu.indexAgg 1 rfl Try.underlying70 sz2 pl2 rfl rfl (by decide) (by decide) rfl) ?_
                  refine O.p rfl rfl rfl (Pu.assign rfl rfl) ?_
                  refine O.nil ?_
                  refine X.next ?_
                  refine V.seq ?_
                  refine V.region ?_
                  refine O.p rfl rfl rfl (Pu.move rfl rfl) ?_
                  refine O.p rfl rfl rfl (Pu.move rfl rfl) ?_
                  refine O.e rfl rfl rfl (Ef.callP call57 rfl rfl (fun w hw => containsI_ok  r1 ((bs[k]'e1).2.1) _ _ w ((Ld.own 3 (by exact rfl)) w hw) (by first | omega | (simp only [tops_len, conts_len, bl, List.length_append, List.length_cons, List.length_nil] at *; omega)) )) ?_
                  rintro _ _ ⟨rfl, rfl⟩
                  refine O.nil ?_
                  refine X.next ?_
                  refine V.condD rfl (fun c9 => ?_) (fun c9 => ?_)
                  · skip
                    refine V.region ?_
                    refine O.p rfl rfl rfl (Pu.move rfl rfl) ?_
                    refine O.p rfl rfl rfl (Pu.add64 (r := 2) (by decide) (by decide) rfl rfl rfl) ?_
                    refine O.p rfl rfl rfl (Pu.assign rfl rfl) ?_
                    refine O.nil ?_
                    refine X.blockNormal ?_
                    refine X.next ?_
                    refine V.region ?_
                    refine O.p rfl rfl rfl (Pu.add64 (r := 2) (by decide) (by decide) rfl rfl rfl) ?_
                    refine O.p rfl rfl rfl (Pu.move rfl rfl) ?_
                    refine O.nil ?_
                    refine X.again 1 ?_
                    refine V.seq ?_
                    refine V.region ?_
                    refine O.p rfl rfl rfl (Pu.isT (by decide) (Pu.lss rfl rfl rfl)) ?_
                    refine O.nil ?_
                    refine X.next ?_
                    refine V.seq ?_
                    refine V.condT rfl ?_
                    refine V.skip ?_
                    refine X.next ?_
                    refine V.seq ?_
                    refine V.block ?_
                    refine V.seq ?_
                    refine V.region ?_
                    refine O.p rfl rfl rfl (Pu.indexAgg 2 rfl Try.underlying70 sz2 pl2 rfl rfl (by decide) (by decide) rfl) ?_
                    refine O.p rfl rfl rfl (Pu.assign rfl rfl) ?_
                    refine O.nil ?_
                    refine X.next ?_
                    refine V.seq ?_
                    refine V.region ?_
                    refine O.p rfl rfl rfl (Pu.move rfl rfl) ?_
                    refine O.p rfl rfl rfl (Pu.move rfl rfl) ?_
                    refine O.e rfl rfl rfl (Ef.callP call57 rfl rfl (fun w hw => containsI_ok  r1 ((bs[k]'e1).2.2) _ _ w ((Ld.own 3 (by exact rfl)) w hw) (by first | omega | (simp only [tops_len, conts_len, bl, List.length_append, List.length_cons, List.length_nil] at *; omega)) )) ?_
                    rintro _ _ ⟨rfl, rfl⟩
                    refine O.nil ?_
                    refine X.next ?_
                    refine V.condD rfl (fun c10 => ?_) (fun c10 => ?_)
                    · skip
                      refine V.region ?_
                      refine O.p rfl rfl rfl (Pu.move rfl rfl) ?_
                      refine O.p rfl rfl rfl (Pu.add64 (r := 3) (by decide) (by decide) rfl rfl rfl) ?_
                      refine O.p rfl rfl rfl (Pu.assign rfl rfl) ?_
                      refine O.nil ?_
                      refine X.blockNormal ?_
                      refine X.next ?_
                      refine V.region ?_
                      refine O.p rfl rfl rfl (Pu.add64 (r := 3) (by decide) (by decide) rfl rfl rfl) ?_
                      refine O.p rfl rfl rfl (Pu.move rfl rfl) ?_
                      refine O.nil ?_
                      refine X.again 0 ?_
                      refine V.seq ?_
                      refine V.region ?_
                      refine O.p rfl rfl rfl (Pu.isF (by decide) (Pu.lss rfl rfl rfl)) ?_
                      refine O.nil ?_
                      refine X.next ?_
                      refine V.seq ?_
                      refine V.condF rfl ?_
                      refine V.exit ?_
                      refine X.thenExit ?_
                      refine X.thenExit ?_
                      refine X.blockHit ?_
                      refine X.next ?_
                      refine V.seq ?_
                      refine V.region ?_
                      refine O.p rfl rfl rfl (Pu.move rfl rfl) ?_
                      refine O.p rfl rfl rfl (Pu.isF (by decide) (Pu.eql rfl rfl rfl)) ?_
                      refine O.p rfl rfl rfl (Pu.move rfl rfl) ?_
                      refine O.gs rfl rfl rfl rfl rfl rfl ?_
                      refine O.gs rfl rfl rfl rfl rfl rfl ?_
                      refine O.gs rfl rfl rfl rfl rfl rfl ?_
                      refine O.gs rfl rfl rfl rfl rfl rfl ?_
                      refine O.gs rfl rfl rfl rfl rfl rfl ?_
                      refine O.gs rfl rfl rfl rfl rfl rfl ?_
                      refine O.gs rfl rfl rfl rfl rfl rfl ?_
                      refine O.gs rfl rfl rfl rfl rfl rfl ?_
                      refine O.p rfl rfl rfl (Pu.pickF rfl rfl rfl) ?_
                      refine O.nil ?_
                      refine X.next ?_
                      refine V.condF rfl ?_
                      refine V.skip ?_
                      refine X.blockNormal ?_
                      refine X.next ?_
                      refine V.region ?_
                      refine O.p rfl rfl rfl (Pu.add64 (r := ((k + 1 : Nat) : Int)) rfl (by omega) rfl rfl rfl) ?_
                      refine O.p rfl rfl rfl (Pu.move rfl rfl) ?_
                      refine O.nil ?_
                      exact X.back3 (k + 1, outA, outc, out) (by (try dsimp only); exact ⟨by omega, by rw [flt_no e1 (decide_eq_false (fun h => by obtain ⟨h1, h2⟩ := h; rw [cntY_val] at h1; (repeat' split at h1) <;> first | omega | contradiction | (exact h2.elim (by assumption) (by assumption))))]; exact ho, by omega⟩) (by first | omega | (dsimp only; omega)) (Ent.cons rfl (Ent.nil _)) (Ent.cons (t := 1) rfl (Ent.cons (t := 2) rfl (Ent.cons (t := 8) rfl (Ent.cons (t := 12) rfl (Ent.cons (t := 13) rfl (Ent.cons (t := 70) rfl (Ent.cons (t := 71) rfl (Ent.nil _)))))))) (Sub.keep 1 rfl (Sub.keep 1 rfl (Sub.keep 1 rfl (Sub.keep 1 rfl (Sub.keep 1 rfl (Sub.keep 1 rfl (Sub.nil _)))))))
                    · skip
                      refine V.skip ?_
                      refine X.blockNormal ?_
                      refine X.next ?_
                      refine V.region ?_
                      refine O.p rfl rfl rfl (Pu.add64 (r := 3) (by decide) (by decide) rfl rfl rfl) ?_
                      refine O.p rfl rfl rfl (Pu.move rfl rfl) ?_
                      refine O.nil ?_
                      refine X.again 0 ?_
                      refine V.seq ?_
                      refine V.region ?_
                      refine O.p rfl rfl rfl (Pu.isF (by decide) (Pu.lss rfl rfl rfl)) ?_
                      refine O.nil ?_
                      refine X.next ?_
                      refine V.seq ?_
                      refine V.condF rfl ?_
                      refine V.exit ?_
                      refine X.thenExit ?_
                      refine X.thenExit ?_
                      refine X.blockHit ?_
                      refine X.next ?_
                      refine V.seq ?_
                      refine V.region ?_
                      refine O.p rfl rfl rfl (Pu.move rfl rfl) ?_
                      refine O.p rfl rfl rfl (Pu.isT (by decide) (Pu.eql rfl rfl rfl)) ?_
                      refine O.p rfl rfl rfl (Pu.move rfl rfl) ?_
                      refine O.gp rfl rfl rfl rfl rfl (Pu.loadAgg' (v := B3.v (bs[k]'e1)) rfl rfl ag70 sz70 rfl rfl (Ld.whole 0 rfl)) ?_
                      refine O.gp rfl rfl rfl rfl rfl (Pu.move rfl rfl) ?_
                      refine O.ge rfl rfl rfl rfl rfl (Ef.callP call58 rfl rfl (fun w hw => has_ok (bs[k]'e1) _ w)) ?_
                      rintro _ _ ⟨rfl, rfl⟩
                      refine O.gp rfl rfl rfl rfl rfl (Pu.move rfl rfl) ?_
                      refine O.splitD 92 rfl (fun c11 => ?_) (fun c11 => ?_)
                      · skip
                        refine O.gs rfl rfl rfl rfl rfl rfl ?_
                        refine O.gs rfl rfl rfl rfl rfl rfl ?_
                        refine O.gs rfl rfl rfl rfl rfl rfl ?_
                        refine O.gp rfl rfl rfl rfl rfl (Pu.pickT rfl rfl rfl) ?_
                        refine O.p rfl rfl rfl (Pu.pickT rfl rfl rfl) ?_
                        refine O.nil ?_
                        refine X.next ?_
                        refine V.condT rfl ?_
                        refine V.region ?_
                        refine O.p rfl rfl rfl (Pu.fieldAddr 1 rfl Try.underlying45 rfl sz26 rfl rfl) ?_
                        refine O.p rfl rfl rfl (Pu.load rfl pl26 rfl (Ld.blk 1 rfl rfl)) ?_
                        refine O.p rfl rfl rfl (Pu.loadAgg' (v := B3.v (bs[k]'e1)) rfl rfl ag70 sz70 rfl rfl (Ld.whole 0 rfl)) ?_
                        refine O.e rfl rfl rfl (Ef.build B3C ([(bs[k]'e1)] : List B3) rfl Try.underlying26 inf70 rfl rfl rfl (by first | decide | (simp; done)) (by kernel_rfl)) ?_
                        rintro _ _ ⟨A1, hA1, rfl, rfl⟩
                        refine O.e rfl rfl rfl (Ef.append (xs := out) (ys := ([(bs[k]'e1)] : List B3)) 3 rfl Try.underlying26 inf70 rfl rfl rfl rfl rfl rfl hA1 (Ld.own 0 (by exact rfl)) (by simp only [List.length_append, List.length_cons, List.length_nil] at *; omega) (by decide)) ?_
                        rintro _ _ ⟨A2, k1, rfl, rfl, hA2⟩
                        replace hA2 := hA2 (.inr (by simp))
                        refine O.p rfl rfl rfl (Pu.fieldAddr 1 rfl Try.underlying45 rfl sz26 rfl rfl) ?_
                        refine O.s rfl rfl (Ef.store1 (cs' := [_, _, _]) 2 rfl sz26 rfl rfl rfl rfl rfl (ltb rfl) rfl) ?_
                        rintro _ _ rfl
                        refine O.nil ?_
                        refine X.blockNormal ?_
                        refine X.next ?_
                        refine V.region ?_
                        refine O.p rfl rfl rfl (Pu.add64 (r := ((k + 1 : Nat) : Int)) rfl (by omega) rfl rfl rfl) ?_
                        refine O.p rfl rfl rfl (Pu.move rfl rfl) ?_
                        refine O.nil ?_
                        exact X.back3 (k + 1, A2, k1, (out ++ ([(bs[k]'e1)] : List B3))) (by (try dsimp only); exact ⟨by omega, by rw [flt_yes e1 (decide_eq_true ⟨by rw [cntY_val]; (repeat' split) <;> first | rfl | contradiction, by first | exact .inl (by assumption) | exact .inr (by assumption)⟩), ho], by simp only [List.length_append, List.length_singleton]; omega⟩) (by first | omega | (dsimp only; omega)) (Ent.cons rfl (Ent.nil _)) (Ent.cons (t := 1) rfl (Ent.cons (t := 2) rfl (Ent.cons (t := 8) rfl (Ent.cons (t := 12) rfl (Ent.cons (t := 13) rfl (Ent.cons (t := 70) rfl (Ent.cons (t := 71) rfl (Ent.nil _)))))))) (Sub.keep 2 rfl (Sub.keep 2 rfl (Sub.keep 2 rfl (Sub.keep 2 rfl (Sub.keep 2 rfl (Sub.keep 2 rfl (Sub.nil _)))))))
                      · skip
                        refine O.gp rfl rfl rfl rfl rfl (Pu.loadAgg' (v := B3.v (bs[k]'e1)) rfl rfl ag70 sz70 rfl rfl (Ld.whole 0 rfl)) ?_
                        refine O.gp rfl rfl rfl rfl rfl (Pu.move rfl rfl) ?_
                        refine O.ge rfl rfl rfl rfl rfl (Ef.callP call58 rfl rfl (fun w hw => has_ok (bs[k]'e1) _ w)) ?_
                        rintro _ _ ⟨rfl, rfl⟩
                        refine O.gp rfl rfl rfl rfl rfl (Pu.pickF rfl rfl rfl) ?_
                        refine O.p rfl rfl rfl (Pu.pickT rfl rfl rfl) ?_
                        refine O.nil ?_
                        refine X.next ?_
                        refine V.condD rfl (fun c12 => ?_) (fun c12 => ?_)
                        · skip
                          refine V.region ?_
                          refine O.p rfl rfl rfl (Pu.fieldAddr 1 rfl Try.underlying45 rfl sz26 rfl rfl) ?_
                          refine O.p rfl rfl rfl (Pu.load rfl pl26 rfl (Ld.blk 1 rfl rfl)) ?_
                          refine O.p rfl rfl rfl (Pu.loadAgg' (v := B3.v (bs[k]'e1)) rfl rfl ag70 sz70 rfl rfl (Ld.whole 0 rfl)) ?_
                          refine O.e rfl rfl rfl (Ef.build B3C ([(bs[k]'e1)] : List B3) rfl Try.underlying26 inf70 rfl rfl rfl (by first | decide | (simp; done)) (by kernel_rfl)) ?_
                          rintro _ _ ⟨A3, hA3, rfl, rfl⟩
                          refine O.e rfl rfl rfl (Ef.append (xs := out) (ys := ([(bs[k]'e1)] : List B3)) 3 rfl Try.underlying26 inf70 rfl rfl rfl rfl rfl rfl hA3 (Ld.own 0 (by exact rfl)) (by simp only [List.length_append, List.length_cons, List.length_nil] at *; omega) (by decide)) ?_
                          rintro _ _ ⟨A4, k2, rfl, rfl, hA4⟩
                          replace hA4 := hA4 (.inr (by simp))
                          refine O.p rfl rfl rfl (Pu.fieldAddr 1 rfl Try.underlying45 rfl sz26 rfl rfl) ?_
                          refine O.s rfl rfl (Ef.store1 (cs' := [_, _, _]) 2 rfl sz26 rfl rfl rfl rfl rfl (ltb rfl) rfl) ?_
                          rintro _ _ rfl
                          refine O.nil ?_
                          refine X.blockNormal ?_
                          refine X.next ?_
                          refine V.region ?_
                          refine O.p rfl rfl rfl (Pu.add64 (r := ((k + 1 : Nat) : Int)) rfl (by omega) rfl rfl rfl) ?_
                          refine O.p rfl rfl rfl (Pu.move rfl rfl) ?_
                          refine O.nil ?_
                          exact X.back3 (k + 1, A4, k2, (out ++ ([(bs[k]'e1)] : List B3))) (by (try dsimp only); exact ⟨by omega, by rw [flt_yes e1 (decide_eq_true ⟨by rw [cntY_val]; (repeat' split) <;> first | rfl | contradiction, by first | exact .inl (by assumption) | exact .inr (by assumption)⟩), ho], by simp only [List.length_append, List.length_singleton]; omega⟩) (by first | omega | (dsimp only; omega)) (Ent.cons rfl (Ent.nil _)) (Ent.cons (t := 1) rfl (Ent.cons (t := 2) rfl (Ent.cons (t := 8) rfl (Ent.cons (t := 12) rfl (Ent.cons (t := 13) rfl (Ent.cons (t := 70) rfl (Ent.cons (t := 71) rfl (Ent.nil _)))))))) (Sub.keep 2 rfl (Sub.keep 2 rfl (Sub.keep 2 rfl (Sub.keep 2 rfl (Sub.keep 2 rfl (Sub.keep 2 rfl (Sub.nil _)))))))
                        · skip
                          refine V.skip ?_
                          refine X.blockNormal ?_
                          refine X.next ?_
                          refine V.region ?_
                          refine O.p rfl rfl rfl (Pu.add64 (r := ((k + 1 : Nat) : Int)) rfl (by omega) rfl rfl rfl) ?_
                          refine O.p rfl rfl rfl (Pu.move rfl rfl) ?_
                          refine O.nil ?_
                          exact X.back3 (k + 1, outA, outc, out) (by (try dsimp only); exact ⟨by omega, by rw [flt_no e1 (decide_eq_false (fun h => by obtain ⟨h1, h2⟩ := h; rw [cntY_val] at h1; (repeat' split at h1) <;> first | omega | contradiction | (exact h2.elim (by assumption) (by assumption))))]; exact ho, by omega⟩) (by first | omega | (dsimp only; omega)) (Ent.cons rfl (Ent.nil _)) (Ent.cons (t := 1) rfl (Ent.cons (t := 2) rfl (Ent.cons (t := 8) rfl (Ent.cons (t := 12) rfl (Ent.cons (t := 13) rfl (Ent.cons (t := 70) rfl (Ent.cons (t := 71) rfl (Ent.nil _)))))))) (Sub.keep 1 rfl (Sub.keep 1 rfl (Sub.keep 1 rfl (Sub.keep 1 rfl (Sub.keep 1 rfl (Sub.keep 1 rfl (Sub.nil _)))))))
                  · skip
                    refine V.skip ?_
                    refine X.blockNormal ?_
                    refine X.next ?_
                    refine V.region ?_
                    refine O.p rfl rfl rfl (Pu.add64 (r := 2) (by decide) (by decide) rfl rfl rfl) ?_
                    refine O.p rfl rfl rfl (Pu.move rfl rfl) ?_
                    refine O.nil ?_
                    refine X.again 1 ?_
                    refine V.seq ?_
                    refine V.region ?_
                    refine O.p rfl rfl rfl (Pu.isT (by decide) (Pu.lss rfl rfl rfl)) ?_
                    refine O.nil ?_
                    refine X.next ?_
                    refine V.seq ?_
                    refine V.condT rfl ?_
                    refine V.skip ?_
                    refine X.next ?_
                    refine V.seq ?_
                    refine V.block ?_
                    refine V.seq ?_
                    refine V.region ?_
                    refine O.p rfl rfl rfl (Pu.indexAgg 2 rfl Try.underlying70 sz2 pl2 rfl rfl (by decide) (by decide) rfl) ?_
                    refine O.p rfl rfl rfl (Pu.assign rfl rfl) ?_
                    refine O.nil ?_
                    refine X.next ?_
                    refine V.seq ?_
                    refine V.region ?_
                    refine O.p rfl rfl rfl (Pu.move rfl rfl) ?_
                    refine O.p rfl rfl rfl (Pu.move rfl rfl) ?_
                    refine O.e rfl rfl rfl (Ef.callP call57 rfl rfl (fun w hw => containsI_ok  r1 ((bs[k]'e1).2.2) _ _ w ((Ld.own 3 (by exact rfl)) w hw) (by first | omega | (simp only [tops_len, conts_len, bl, List.length_append, List.length_cons, List.length_nil] at *; omega)) )) ?_
                    rintro _ _ ⟨rfl, rfl⟩
                    refine O.nil ?_
                    refine X.next ?_
                    refine V.condD rfl (fun c13 => ?_) (fun c13 => ?_)
                    · skip
                      refine V.region ?_
                      refine O.p rfl rfl rfl (Pu.move rfl rfl) ?_
                      refine O.p rfl rfl rfl (Pu.add64 (r := 2) (by decide) (by decide) rfl rfl rfl) ?_
                      refine O.p rfl rfl rfl (Pu.assign rfl rfl) ?_
                      refine O.nil ?_
                      refine X.blockNormal ?_
                      refine X.next ?_
                      refine V.region ?_
                      refine O.p rfl rfl rfl (Pu.add64 (r := 3) (by decide) (by decide) rfl rfl rfl) ?_
                      refine O.p rfl rfl rfl (Pu.move rfl rfl) ?_
                      refine O.nil ?_
                      refine X.again 0 ?_
                      refine V.seq ?_
                      refine V.region ?_
                      refine O.p rfl rfl rfl (Pu.isF (by decide) (Pu.lss rfl rfl rfl)) ?_
                      refine O.nil ?_
                      refine X.next ?_
                      refine V.seq ?_
                      refine V.condF rfl ?_
                      refine V.exit ?_
                      refine X.thenExit ?_
                      refine X.thenExit ?_
                      refine X.blockHit ?_
                      refine X.next ?_
                      refine V.seq ?_
                      refine V.region ?_
                      refine O.p rfl rfl rfl (Pu.move rfl rfl) ?_
                      refine O.p rfl rfl rfl (Pu.isT (by decide) (Pu.eql rfl rfl rfl)) ?_
                      refine O.p rfl rfl rfl (Pu.move rfl rfl) ?_
                      refine O.gp rfl rfl rfl rfl rfl (Pu.loadAgg' (v := B3.v (bs[k]'e1)) rfl rfl ag70 sz70 rfl rfl (Ld.whole 0 rfl)) ?_
                      refine O.gp rfl rfl rfl rfl rfl (Pu.move rfl rfl) ?_
                      refine O.ge rfl rfl rfl rfl rfl (Ef.callP call58 rfl rfl (fun w hw => has_ok (bs[k]'e1) _ w)) ?_
                      rintro _ _ ⟨rfl, rfl⟩
                      refine O.gp rfl rfl rfl rfl rfl (Pu.move rfl rfl) ?_
                      refine O.splitD 92 rfl (fun c14 => ?_) (fun c14 => ?_)
                      · skip
                        refine O.gs rfl rfl rfl rfl rfl rfl ?_
                        refine O.gs rfl rfl rfl rfl rfl rfl ?_
                        refine O.gs rfl rfl rfl rfl rfl rfl ?_
                        refine O.gp rfl rfl rfl rfl rfl (Pu.pickT rfl rfl rfl) ?_
                        refine O.p rfl rfl rfl (Pu.pickT rfl rfl rfl) ?_
                        refine O.nil ?_
                        refine X.next ?_
                        refine V.condT rfl ?_
                        refine V.region ?_
                        refine O.p rfl rfl rfl (Pu.fieldAddr 1 rfl Try.underlying45 rfl sz26 rfl rfl) ?_
                        refine O.p rfl rfl rfl (Pu.load rfl pl26 rfl (Ld.blk 1 rfl rfl)) ?_
                        refine O.p rfl rfl rfl (Pu.loadAgg' (v := B3.v (bs[k]'e1)) rfl rfl ag70 sz70 rfl rfl (Ld.whole 0 rfl)) ?_
                        refine O.e rfl rfl rfl (Ef.build B3C ([(bs[k]'e1)] : List B3) rfl Try.underlying26 inf70 rfl rfl rfl (by first | decide | (simp; done)) (by kernel_rfl)) ?_
                        rintro _ _ ⟨A5, hA5, rfl, rfl⟩
                        refine O.e rfl rfl rfl (Ef.append (xs := out) (ys := ([(bs[k]'e1)] : List B3)) 3 rfl Try.underlying26 inf70 rfl rfl rfl rfl rfl rfl hA5 (Ld.own 0 (by exact rfl)) (by simp only [List.length_append, List.length_cons, List.length_nil] at *; omega) (by decide)) ?_
                        rintro _ _ ⟨A6, k3, rfl, rfl, hA6⟩
                        replace hA6 := hA6 (.inr (by simp))
                        refine O.p rfl rfl rfl (Pu.fieldAddr 1 rfl Try.underlying45 rfl sz26 rfl rfl) ?_
                        refine O.s rfl rfl (Ef.store1 (cs' := [_, _, _]) 2 rfl sz26 rfl rfl rfl rfl rfl (ltb rfl) rfl) ?_
                        rintro _ _ rfl
                        refine O.nil ?_
                        refine X.blockNormal ?_
                        refine X.next ?_
                        refine V.region ?_
                        refine O.p rfl rfl rfl (Pu.add64 (r := ((k + 1 : Nat) : Int)) rfl (by omega) rfl rfl rfl) ?_
                        refine O.p rfl rfl rfl (Pu.move rfl rfl) ?_
                        refine O.nil ?_
                        exact X.back3 (k + 1, A6, k3, (out ++ ([(bs[k]'e1)] : List B3))) (by (try dsimp only); exact ⟨by omega, by rw [flt_yes e1 (decide_eq_true ⟨by rw [cntY_val]; (repeat' split) <;> first | rfl | contradiction, by first | exact .inl (by assumption) | exact .inr (by assumption)⟩), ho], by simp only [List.length_append, List.length_singleton]; omega⟩) (by first | omega | (dsimp only; omega)) (Ent.cons rfl (Ent.nil _)) (Ent.cons (t := 1) rfl (Ent.cons (t := 2) rfl (Ent.cons (t := 8) rfl (Ent.cons (t := 12) rfl (Ent.cons (t := 13) rfl (Ent.cons (t := 70) rfl (Ent.cons (t := 71) rfl (Ent.nil _)))))))) (Sub.keep 2 rfl (Sub.keep 2 rfl (Sub.keep 2 rfl (Sub.keep 2 rfl (Sub.keep 2 rfl (Sub.keep 2 rfl (Sub.nil _)))))))
                      · skip
                        refine O.gp rfl rfl rfl rfl rfl (Pu.loadAgg' (v := B3.v (bs[k]'e1)) rfl rfl ag70 sz70 rfl rfl (Ld.whole 0 rfl)) ?_
                        refine O.gp rfl rfl rfl rfl rfl (Pu.move rfl rfl) ?_
                        refine O.ge rfl rfl rfl rfl rfl (Ef.callP call58 rfl rfl (fun w hw => has_ok (bs[k]'e1) _ w)) ?_
                        rintro _ _ ⟨rfl, rfl⟩
                        refine O.gp rfl rfl rfl rfl rfl (Pu.pickF rfl rfl rfl) ?_
                        refine O.p rfl rfl rfl (Pu.pickT rfl rfl rfl) ?_
                        refine O.nil ?_
                        refine X.next ?_
                        refine V.condD rfl (fun c15 => ?_) (fun c15 => ?_)
                        · skip
                          refine V.region ?_
                          refine O.p rfl rfl rfl (Pu.fieldAddr 1 rfl Try.underlying45 rfl sz26 rfl rfl) ?_
                          refine O.p rfl rfl rfl (Pu.load rfl pl26 rfl (Ld.blk 1 rfl rfl)) ?_
                          refine O.p rfl rfl rfl (Pu.loadAgg' (v := B3.v (bs[k]'e1)) rfl rfl ag70 sz70 rfl rfl (Ld.whole 0 rfl)) ?_
                          refine O.e rfl rfl rfl (Ef.build B3C ([(bs[k]'e1)] : List B3) rfl Try.underlying26 inf70 rfl rfl rfl (by first | decide | (simp; done)) (by kernel_rfl)) ?_
                          rintro _ _ ⟨A7, hA7, rfl, rfl⟩
                          refine O.e rfl rfl rfl (Ef.append (xs := out) (ys := ([(bs[k]'e1)] : List B3)) 3 rfl Try.underlying26 inf70 rfl rfl rfl rfl rfl rfl hA7 (Ld.own 0 (by exact rfl)) (by simp only [List.length_append, List.length_cons, List.length_nil] at *; omega) (by decide)) ?_
                          rintro _ _ ⟨A8, k4, rfl, rfl, hA8⟩
                          replace hA8 := hA8 (.inr (by simp))
                          refine O.p rfl rfl rfl (Pu.fieldAddr 1 rfl Try.underlying45 rfl sz26 rfl rfl) ?_
                          refine O.s rfl rfl (Ef.store1 (cs' := [_, _, _]) 2 rfl sz26 rfl rfl rfl rfl rfl (ltb rfl) rfl) ?_
                          rintro _ _ rfl
                          refine O.nil ?_
                          refine X.blockNormal ?_
                          refine X.next ?_
                          refine V.region ?_
                          refine O.p rfl rfl rfl (Pu.add64 (r := ((k + 1 : Nat) : Int)) rfl (by omega) rfl rfl rfl) ?_
                          refine O.p rfl rfl rfl (Pu.move rfl rfl) ?_
                          refine O.nil ?_
                          exact X.back3 (k + 1, A8, k4, (out ++ ([(bs[k]'e1)] : List B3))) (by (try dsimp only); exact ⟨by omega, by rw [flt_yes e1 (decide_eq_true ⟨by rw [cntY_val]; (repeat' split) <;> first | rfl | contradiction, by first | exact .inl (by assumption) | exact .inr (by assumption)⟩), ho], by simp only [List.length_append, List.length_singleton]; omega⟩) (by first | omega | (dsimp only; omega)) (Ent.cons rfl (Ent.nil _)) (Ent.cons (t := 1) rfl (Ent.cons (t := 2) rfl (Ent.cons (t := 8) rfl (Ent.cons (t := 12) rfl (Ent.cons (t := 13) rfl (Ent.cons (t := 70) rfl (Ent.cons (t := 71) rfl (Ent.nil _)))))))) (Sub.keep 2 rfl (Sub.keep 2 rfl (Sub.keep 2 rfl (Sub.keep 2 rfl (Sub.keep 2 rfl (Sub.keep 2 rfl (Sub.nil _)))))))
                        · skip
                          refine V.skip ?_
                          refine X.blockNormal ?_
                          refine X.next ?_
                          refine V.region ?_
                          refine O.p rfl rfl rfl (Pu.add64 (r := ((k + 1 : Nat) : Int)) rfl (by omega) rfl rfl rfl) ?_
                          refine O.p rfl rfl rfl (Pu.move rfl rfl) ?_
                          refine O.nil ?_
                          exact X.back3 (k + 1, outA, outc, out) (by (try dsimp only); exact ⟨by omega, by rw [flt_no e1 (decide_eq_false (fun h => by obtain ⟨h1, h2⟩ := h; rw [cntY_val] at h1; (repeat' split at h1) <;> first | omega | contradiction | (exact h2.elim (by assumption) (by assumption))))]; exact ho, by omega⟩) (by first | omega | (dsimp only; omega)) (Ent.cons rfl (Ent.nil _)) (Ent.cons (t := 1) rfl (Ent.cons (t := 2) rfl (Ent.cons (t := 8) rfl (Ent.cons (t := 12) rfl (Ent.cons (t := 13) rfl (Ent.cons (t := 70) rfl (Ent.cons (t := 71) rfl (Ent.nil _)))))))) (Sub.keep 1 rfl (Sub.keep 1 rfl (Sub.keep 1 rfl (Sub.keep 1 rfl (Sub.keep 1 rfl (Sub.keep 1 rfl (Sub.nil _)))))))
                    · skip
                      refine V.skip ?_
                      refine X.blockNormal ?_
                      refine X.next ?_
                      refine V.region ?_
                      refine O.p rfl rfl rfl (Pu.add64 (r := 3) (by decide) (by decide) rfl rfl rfl) ?_
                      refine O.p rfl rfl rfl (Pu.move rfl rfl) ?_
                      refine O.nil ?_
                      refine X.again 0 ?_
                      refine V.seq ?_
                      refine V.region ?_
                      refine O.p rfl rfl rfl (Pu.isF (by decide) (Pu.lss rfl rfl rfl)) ?_
                      refine O.nil ?_
                      refine X.next ?_
                      refine V.seq ?_
                      refine V.condF rfl ?_
                      refine V.exit ?_
                      refine X.thenExit ?_
                      refine X.thenExit ?_
                      refine X.blockHit ?_
                      refine X.next ?_
                      refine V.seq ?_
                      refine V.region ?_
                      refine O.p rfl rfl rfl (Pu.move rfl rfl) ?_
                      refine O.p rfl rfl rfl (Pu.isF (by decide) (Pu.eql rfl rfl rfl)) ?_
                      refine O.p rfl rfl rfl (Pu.move rfl rfl) ?_
                      refine O.gs rfl rfl rfl rfl rfl rfl ?_
                      refine O.gs rfl rfl rfl rfl rfl rfl ?_
                      refine O.gs rfl rfl rfl rfl rfl rfl ?_
                      refine O.gs rfl rfl rfl rfl rfl rfl ?_
                      refine O.gs rfl rfl rfl rfl rfl rfl ?_
                      refine O.gs rfl rfl rfl rfl rfl rfl ?_
                      refine O.gs rfl rfl rfl rfl rfl rfl ?_
                      refine O.gs rfl rfl rfl rfl rfl rfl ?_
                      refine O.p rfl rfl rfl (Pu.pickF rfl rfl rfl) ?_
                      refine O.nil ?_
                      refine X.next ?_
                      refine V.condF rfl ?_
                      refine V.skip ?_
                      refine X.blockNormal ?_
                      refine X.next ?_
                      refine V.region ?_
                      refine O.p rfl rfl rfl (Pu.add64 (r := ((k + 1 : Nat) : Int)) rfl (by omega) rfl rfl rfl) ?_
                      refine O.p rfl rfl rfl (Pu.move rfl rfl) ?_
                      refine O.nil ?_
                      exact X.back3 (k + 1, outA, outc, out) (by (try dsimp only); exact ⟨by omega, by rw [flt_no e1 (decide_eq_false (fun h => by obtain ⟨h1, h2⟩ := h; rw [cntY_val] at h1; (repeat' split at h1) <;> first | omega | contradiction | (exact h2.elim (by assumption) (by assumption))))]; exact ho, by omega⟩) (by first | omega | (dsimp only; omega)) (Ent.cons rfl (Ent.nil _)) (Ent.cons (t := 1) rfl (Ent.cons (t := 2) rfl (Ent.cons (t := 8) rfl (Ent.cons (t := 12) rfl (Ent.cons (t := 13) rfl (Ent.cons (t := 70) rfl (Ent.cons (t := 71) rfl (Ent.nil _)))))))) (Sub.keep 1 rfl (Sub.keep 1 rfl (Sub.keep 1 rfl (Sub.keep 1 rfl (Sub.keep 1 rfl (Sub.keep 1 rfl (Sub.nil _)))))))
                · skip
                  refine V.skip ?_
                  refine X.blockNormal ?_
                  refine X.next ?_
                  refine V.region ?_
                  refine O.p rfl rfl rfl (Pu.add64 (r := 1) (by decide) (by decide) rfl rfl rfl) ?_
                  refine O.p rfl rfl rfl (Pu.move rfl rfl) ?_
                  refine O.nil ?_
                  refine X.again 2 ?_
                  refine V.seq ?_
                  refine V.region ?_
                  refine O.p rfl rfl rfl (Pu.isT (by decide) (Pu.lss rfl rfl rfl)) ?_
                  refine O.nil ?_
                  refine X.next ?_
                  refine V.seq ?_
                  refine V.condT rfl ?_
                  refine V.skip ?_
                  refine X.next ?_
                  refine V.seq ?_
                  refine V.block ?_
                  refine V.seq ?_
                  refine V.region ?_
                  refine O.p rfl rfl rfl (Pu.indexAgg 1 rfl Try.underlying70 sz2 pl2 rfl rfl (by decide) (by decide) rfl) ?_
                  refine O.p rfl rfl rfl (Pu.assign rfl rfl) ?_
                  refine O.nil ?_
                  refine X.next ?_
                  refine V.seq ?_
                  refine V.region ?_
                  refine O.p rfl rfl rfl (Pu.move rfl rfl) ?_
                  refine O.p rfl rfl rfl (Pu.move rfl rfl) ?_
                  refine O.e rfl rfl rfl (Ef.callP call57 rfl rfl (fun w hw => containsI_ok  r1 ((bs[k]'e1).2.1) _ _ w ((Ld.own 3 (by exact rfl)) w hw) (by first | omega | (simp only [tops_len, conts_len, bl, List.length_append, List.length_cons, List.length_nil] at *; omega)) )) ?_
                  rintro _ _ ⟨rfl, rfl⟩
                  refine O.nil ?_
                  refine X.next ?_
                  refine V.condD rfl (fun c16 => ?_) (fun c16 => ?_)
                  · skip
                    refine V.region ?_
                    refine O.p rfl rfl rfl (Pu.move rfl rfl) ?_
                    refine O.p rfl rfl rfl (Pu.add64 (r := 1) (by decide) (by decide) rfl rfl rfl) ?_
                    refine O.p rfl rfl rfl (Pu.assign rfl rfl) ?_
                    refine O.nil ?_
                    refine X.blockNormal ?_
                    refine X.next ?_
                    refine V.region ?_
                    refine O.p rfl rfl rfl (Pu.add64 (r := 2) (by decide) (by decide) rfl rfl rfl) ?_
                    refine O.p rfl rfl rfl (Pu.move rfl rfl) ?_
                    refine O.nil ?_
                    refine X.again 1 ?_
                    refine V.seq ?_
                    refine V.region ?_
                    refine O.p rfl rfl rfl (Pu.isT (by decide) (Pu.lss rfl rfl rfl)) ?_
                    refine O.nil ?_
                    refine X.next ?_
                    refine V.seq ?_
                    refine V.condT rfl ?_
                    refine V.skip ?_
                    refine X.next ?_
                    refine V.seq ?_
                    refine V.block ?_
                    refine V.seq ?_
                    refine V.region ?_
                    refine O.p rfl rfl rfl (Pu.indexAgg 2 rfl Try.underlying70 sz2 pl2 rfl rfl (by decide) (by decide) rfl) ?_
                    refine O.p rfl rfl rfl (Pu.assign rfl rfl) ?_
                    refine O.nil ?_
                    refine X.next ?_
                    refine V.seq ?_
                    refine V.region ?_
                    refine O.p rfl rfl rfl (Pu.move rfl rfl) ?_
                    refine O.p rfl rfl rfl (Pu.move rfl rfl) ?_
                    refine O.e rfl rfl rfl (Ef.callP call57 rfl rfl (fun w hw => containsI_ok  r1 ((bs[k]'e1).2.2) _ _ w ((Ld.own 3 (by exact rfl)) w hw) (by first | omega | (simp only [tops_len, conts_len, bl, List.length_append, List.length_cons, List.length_nil] at *; omega)) )) ?_
                    rintro _ _ ⟨rfl, rfl⟩
                    refine O.nil ?_
                    refine X.next ?_
                    refine V.condD rfl (fun c17 => ?_) (fun c17 => ?_)
                    · skip
                      refine V.region ?_
                      refine O.p rfl rfl rfl (Pu.move rfl rfl) ?_
                      refine O.p rfl rfl rfl (Pu.add64 (r := 2) (by decide) (by decide) rfl rfl rfl) ?_
                      refine O.p rfl rfl rfl (Pu.assign rfl rfl) ?_
                      refine O.nil ?_
                      refine X.blockNormal ?_
                      refine X.next ?_
                      refine V.region ?_
                      refine O.p rfl rfl rfl (Pu.add64 (r := 3) (by decide) (by decide) rfl rfl rfl) ?_
                      refine O.p rfl rfl rfl (Pu.move rfl rfl) ?_
                      refine O.nil ?_
                      refine X.again 0 ?_
                      refine V.seq ?_
                      refine V.region ?_
                      refine O.p rfl rfl rfl (Pu.isF (by decide) (Pu.lss rfl rfl rfl)) ?_
                      refine O.nil ?_
                      refine X.next ?_
                      refine V.seq ?_
                      refine V.condF rfl ?_
                      refine V.exit ?_
                      refine X.thenExit ?_
                      refine X.thenExit ?_
                      refine X.blockHit ?_
                      refine X.next ?_
                      refine V.seq ?_
                      refine V.region ?_
                      refine O.p rfl rfl rfl (Pu.move rfl rfl) ?_
                      refine O.p rfl rfl rfl (Pu.isT (by decide) (Pu.eql rfl rfl rfl)) ?_
                      refine O.p rfl rfl rfl (Pu.move rfl rfl) ?_
                      refine O.gp rfl rfl rfl rfl rfl (Pu.loadAgg' (v := B3.v (bs[k]'e1)) rfl rfl ag70 sz70 rfl rfl (Ld.whole 0 rfl)) ?_
                      refine O.gp rfl rfl rfl rfl rfl (Pu.move rfl rfl) ?_
                      refine O.ge rfl rfl rfl rfl rfl (Ef.callP call58 rfl rfl (fun w hw => has_ok (bs[k]'e1) _ w)) ?_
                      rintro _ _ ⟨rfl, rfl⟩
                      refine O.gp rfl rfl rfl rfl rfl (Pu.move rfl rfl) ?_
                      refine O.splitD 92 rfl (fun c18 => ?_) (fun c18 => ?_)
                      · skip
                        refine O.gs rfl rfl rfl rfl rfl rfl ?_
                        refine O.gs rfl rfl rfl rfl rfl rfl ?_
                        refine O.gs rfl rfl rfl rfl rfl rfl ?_
                        refine O.gp rfl rfl rfl rfl rfl (Pu.pickT rfl rfl rfl) ?_
                        refine O.p rfl rfl rfl (Pu.pickT rfl rfl rfl) ?_
                        refine O.nil ?_
                        refine X.next ?_
                        refine V.condT rfl ?_
                        refine V.region ?_
                        refine O.p rfl rfl rfl (Pu.fieldAddr 1 rfl Try.underlying45 rfl sz26 rfl rfl) ?_
                        refine O.p rfl rfl rfl (Pu.load rfl pl26 rfl (Ld.blk 1 rfl rfl)) ?_
                        refine O.p rfl rfl rfl (Pu.loadAgg' (v := B3.v (bs[k]'e1)) rfl rfl ag70 sz70 rfl rfl (Ld.whole 0 rfl)) ?_
                        refine O.e rfl rfl rfl (Ef.build B3C ([(bs[k]'e1)] : List B3) rfl Try.underlying26 inf70 rfl rfl rfl (by first | decide | (simp; done)) (by kernel_rfl)) ?_
                        rintro _ _ ⟨A9, hA9, rfl, rfl⟩
                        refine O.e rfl rfl rfl (Ef.append (xs := out) (ys := ([(bs[k]'e1)] : List B3)) 3 rfl Try.underlying26 inf70 rfl rfl rfl rfl rfl rfl hA9 (Ld.own 0 (by exact rfl)) (by simp only [List.length_append, List.length_cons, List.length_nil] at *; omega) (by decide)) ?_
                        rintro _ _ ⟨A10, k5, rfl, rfl, hA10⟩
                        replace hA10 := hA10 (.inr (by simp))
                        refine O.p rfl rfl rfl (Pu.fieldAddr 1 rfl Try.underlying45 rfl sz26 rfl rfl) ?_
                        refine O.s rfl rfl (Ef.store1 (cs' := [_, _, _]) 2 rfl sz26 rfl rfl rfl rfl rfl (ltb rfl) rfl) ?_
                        rintro _ _ rfl
                        refine O.nil ?_
                        refine X.blockNormal ?_
                        refine X.next ?_
                        refine V.region ?_
                        refine O.p rfl rfl rfl (Pu.add64 (r := ((k + 1 : Nat) : Int)) rfl (by omega) rfl rfl rfl) ?_
                        refine O.p rfl rfl rfl (Pu.move rfl rfl) ?_
                        refine O.nil ?_
                        exact X.back3 (k + 1, A10, k5, (out ++ ([(bs[k]'e1)] : List B3))) (by (try dsimp only); exact ⟨by omega, by rw [flt_yes e1 (decide_eq_true ⟨by rw [cntY_val]; (repeat' split) <;> first | rfl | contradiction, by first | exact .inl (by assumption) | exact .inr (by assumption)⟩), ho], by simp only [List.length_append, List.length_singleton]; omega⟩) (by first | omega | (dsimp only; omega)) (Ent.cons rfl (Ent.nil _)) (Ent.cons (t := 1) rfl (Ent.cons (t := 2) rfl (Ent.cons (t := 8) rfl (Ent.cons (t := 12) rfl (Ent.cons (t := 13) rfl (Ent.cons (t := 70) rfl (Ent.cons (t := 71) rfl (Ent.nil _)))))))) (Sub.keep 2 rfl (Sub.keep 2 rfl (Sub.keep 2 rfl (Sub.keep 2 rfl (Sub.keep 2 rfl (Sub.keep 2 rfl (Sub.nil _)))))))
                      · skip
                        refine O.gp rfl rfl rfl rfl rfl (Pu.loadAgg' (v := B3.v (bs[k]'e1)) rfl rfl ag70 sz70 rfl rfl (Ld.whole 0 rfl)) ?_
                        refine O.gp rfl rfl rfl rfl rfl (Pu.move rfl rfl) ?_
                        refine O.ge rfl rfl rfl rfl rfl (Ef.callP call58 rfl rfl (fun w hw => has_ok (bs[k]'e1) _ w)) ?_
                        rintro _ _ ⟨rfl, rfl⟩
                        refine O.gp rfl rfl rfl rfl rfl (Pu.pickF rfl rfl rfl) ?_
                        refine O.p rfl rfl rfl (Pu.pickT rfl rfl rfl) ?_
                        refine O.nil ?_
                        refine X.next ?_
                        refine V.condD rfl (fun c19 => ?_) (fun c19 => ?_)
                        · skip
                          refine V.region ?_
                          refine O.p rfl rfl rfl (Pu.fieldAddr 1 rfl Try.underlying45 rfl sz26 rfl rfl) ?_
                          refine O.p rfl rfl rfl (Pu.load rfl pl26 rfl (Ld.blk 1 rfl rfl)) ?_
                          refine O.p rfl rfl rfl (Pu.loadAgg' (v := B3.v (bs[k]'e1)) rfl rfl ag70 sz70 rfl rfl (Ld.whole 0 rfl)) ?_
                          refine O.e rfl rfl rfl (Ef.build B3C ([(bs[k]'e1)] : List B3) rfl Try.underlying26 inf70 rfl rfl rfl (by first | decide | (simp; done)) (by kernel_rfl)) ?_
                          rintro _ _ ⟨A11, hA11, rfl, rfl⟩
                          refine O.e rfl rfl rfl (Ef.append (xs := out) (ys := ([(bs[k]'e1)] : List B3)) 3 rfl Try.underlying26 inf70 rfl rfl rfl rfl rfl rfl hA11 (Ld.own 0 (by exact rfl)) (by simp only [List.length_append, List.length_cons, List.length_nil] at *; omega) (by decide)) ?_
                          rintro _ _ ⟨A12, k6, rfl, rfl, hA12⟩
                          replace hA12 := hA12 (.inr (by simp))
                          refine O.p rfl rfl rfl (Pu.fieldAddr 1 rfl Try.underlying45 rfl sz26 rfl rfl) ?_
                          refine O.s rfl rfl (Ef.store1 (cs' := [_, _, _]) 2 rfl sz26 rfl rfl rfl rfl rfl (ltb rfl) rfl) ?_
                          rintro _ _ rfl
                          refine O.nil ?_
                          refine X.blockNormal ?_
                          refine X.next ?_
                          refine V.region ?_
                          refine O.p rfl rfl rfl (Pu.add64 (r := ((k + 1 : Nat) : Int)) rfl (by omega) rfl rfl rfl) ?_
                          refine O.p rfl rfl rfl (Pu.move rfl rfl) ?_
                          refine O.nil ?_
                          exact X.back3 (k + 1, A12, k6, (out ++ ([(bs[k]'e1)] : List B3))) (by (try dsimp only); exact ⟨by omega, by rw [flt_yes e1 (decide_eq_true ⟨by rw [cntY_val]; (repeat' split) <;> first | rfl | contradiction, by first | exact .inl (by assumption) | exact .inr (by assumption)⟩), ho], by simp only [List.length_append, List.length_singleton]; omega⟩) (by first | omega | (dsimp only; omega)) (Ent.cons rfl (Ent.nil _)) (Ent.cons (t := 1) rfl (Ent.cons (t := 2) rfl (Ent.cons (t := 8) rfl (Ent.cons (t := 12) rfl (Ent.cons (t := 13) rfl (Ent.cons (t := 70) rfl (Ent.cons (t := 71) rfl (Ent.nil _)))))))) (Sub.keep 2 rfl (Sub.keep 2 rfl (Sub.keep 2 rfl (Sub.keep 2 rfl (Sub.keep 2 rfl (Sub.keep 2 rfl (Sub.nil _)))))))
                        · skip
                          refine V.skip ?_
                          refine X.blockNormal ?_
                          refine X.next ?_
                          refine V.region ?_
                          refine O.p rfl rfl rfl (Pu.add64 (r := ((k + 1 : Nat) : Int)) rfl (by omega) rfl rfl rfl) ?_
                          refine O.p rfl rfl rfl (Pu.move rfl rfl) ?_
                          refine O.nil ?_
                          exact X.back3 (k + 1, outA, outc, out) (by (try dsimp only); exact ⟨by omega, by rw [flt_no e1 (decide_eq_false (fun h => by obtain ⟨h1, h2⟩ := h; rw [cntY_val] at h1; (repeat' split at h1) <;> first | omega | contradiction | (exact h2.elim (by assumption) (by assumption))))]; exact ho, by omega⟩) (by first | omega | (dsimp only; omega)) (Ent.cons rfl (Ent.nil _)) (Ent.cons (t := 1) rfl (Ent.cons (t := 2) rfl (Ent.cons (t := 8) rfl (Ent.cons (t := 12) rfl (Ent.cons (t := 13) rfl (Ent.cons (t := 70) rfl (Ent.cons (t := 71) rfl (Ent.nil _)))))))) (Sub.keep 1 rfl (Sub.keep 1 rfl (Sub.keep 1 rfl (Sub.keep 1 rfl (Sub.keep 1 rfl (Sub.keep 1 rfl (Sub.nil _)))))))
                    · skip
                      refine V.skip ?_
                      refine X.blockNormal ?_
                      refine X.next ?_
                      refine V.region ?_
                      refine O.p rfl rfl rfl (Pu.add64 (r := 3) (by decide) (by decide) rfl rfl rfl) ?_
                      refine O.p rfl rfl rfl (Pu.move rfl rfl) ?_
                      refine O.nil ?_
                      refine X.again 0 ?_
                      refine V.seq ?_
                      refine V.region ?_
                      refine O.p rfl rfl rfl (Pu.isF (by decide) (Pu.lss rfl rfl rfl)) ?_
                      refine O.nil ?_
                      refine X.next ?_
                      refine V.seq ?_
                      refine V.condF rfl ?_
                      refine V.exit ?_
                      refine X.thenExit ?_
                      refine X.thenExit ?_
                      refine X.blockHit ?_
                      refine X.next ?_
                      refine V.seq ?_
                      refine V.region ?_
                      refine O.p rfl rfl rfl (Pu.move rfl rfl) ?_
                      refine O.p rfl rfl rfl (Pu.isF (by decide) (Pu.eql rfl rfl rfl)) ?_
                      refine O.p rfl rfl rfl (Pu.move rfl rfl) ?_
                      refine O.gs rfl rfl rfl rfl rfl rfl ?_
                      refine O.gs rfl rfl rfl rfl rfl rfl ?_
                      refine O.gs rfl rfl rfl rfl rfl rfl ?_
                      refine O.gs rfl rfl rfl rfl rfl rfl ?_
                      refine O.gs rfl rfl rfl rfl rfl rfl ?_
                      refine O.gs rfl rfl rfl rfl rfl rfl ?_
                      refine O.gs rfl rfl rfl rfl rfl rfl ?_
                      refine O.gs rfl rfl rfl rfl rfl rfl ?_
                      refine O.p rfl rfl rfl (Pu.pickF rfl rfl rfl) ?_
                      refine O.nil ?_
                      refine X.next ?_
                      refine V.condF rfl ?_
                      refine V.skip ?_
                      refine X.blockNormal ?_
                      refine X.next ?_
                      refine V.region ?_
                      refine O.p rfl rfl rfl (Pu.add64 (r := ((k + 1 : Nat) : Int)) rfl (by omega) rfl rfl rfl) ?_
                      refine O.p rfl rfl rfl (Pu.move rfl rfl) ?_
                      refine O.nil ?_
                      exact X.back3 (k + 1, outA, outc, out) (by (try dsimp only); exact ⟨by omega, by rw [flt_no e1 (decide_eq_false (fun h => by obtain ⟨h1, h2⟩ := h; rw [cntY_val] at h1; (repeat' split at h1) <;> first | omega | contradiction | (exact h2.elim (by assumption) (by assumption))))]; exact ho, by omega⟩) (by first | omega | (dsimp only; omega)) (Ent.cons rfl (Ent.nil _)) (Ent.cons (t := 1) rfl (Ent.cons (t := 2) rfl (Ent.cons (t := 8) rfl (Ent.cons (t := 12) rfl (Ent.cons (t := 13) rfl (Ent.cons (t := 70) rfl (Ent.cons (t := 71) rfl (Ent.nil _)))))))) (Sub.keep 1 rfl (Sub.keep 1 rfl (Sub.keep 1 rfl (Sub.keep 1 rfl (Sub.keep 1 rfl (Sub.keep 1 rfl (Sub.nil _)))))))
                  · skip
                    refine V.skip ?_
                    refine X.blockNormal ?_
                    refine X.next ?_
                    refine V.region ?_
                    refine O.p rfl rfl rfl (Pu.add64 (r := 2) (by decide) (by decide) rfl rfl rfl) ?_
                    refine O.p rfl rfl rfl (Pu.move rfl rfl) ?_
                    refine O.nil ?_
                    refine X.again 1 ?_
                    refine V.seq ?_
                    refine V.region ?_
                    refine O.p rfl rfl rfl (Pu.isT (by decide) (Pu.lss rfl rfl rfl)) ?_
                    refine O.nil ?_
                    refine X.next ?_
                    refine V.seq ?_
                    refine V.condT rfl ?_
                    refine V.skip ?_
                    refine X.next ?_
                    refine V.seq ?_
                    refine V.block ?_
                    refine V.seq ?_
                    refine V.region ?_
                    refine O.p rfl rfl rfl (Pu.indexAgg 2 rfl Try.underlying70 sz2 pl2 rfl rfl (by decide) (by decide) rfl) ?_
                    refine O.p rfl rfl rfl (Pu.assign rfl rfl) ?_
                    refine O.nil ?_
                    refine X.next ?_
                    refine V.seq ?_
                    refine V.region ?_
                    refine O.p rfl rfl rfl (Pu.move rfl rfl) ?_
                    refine O.p rfl rfl rfl (Pu.move rfl rfl) ?_
                    refine O.e rfl rfl rfl (Ef.callP call57 rfl rfl (fun w hw => containsI_ok  r1 ((bs[k]'e1).2.2) _ _ w ((Ld.own 3 (by exact rfl)) w hw) (by first | omega | (simp only [tops_len, conts_len, bl, List.length_append, List.length_cons, List.length_nil] at *; omega)) )) ?_
                    rintro _ _ ⟨rfl, rfl⟩
                    refine O.nil ?_
                    refine X.next ?_
                    refine V.condD rfl (fun c20 => ?_) (fun c20 => ?_)
                    · skip
                      refine V.region ?_
                      refine O.p rfl rfl rfl (Pu.move rfl rfl) ?_
                      refine O.p rfl rfl rfl (Pu.add64 (r := 1) (by decide) (by decide) rfl rfl rfl) ?_
                      refine O.p rfl rfl rfl (Pu.assign rfl rfl) ?_
                      refine O.nil ?_
                      refine X.blockNormal ?_
                      refine X.next ?_
                      refine V.region ?_
                      refine O.p rfl rfl rfl (Pu.add64 (r := 3) (by decide) (by decide) rfl rfl rfl) ?_
                      refine O.p rfl rfl rfl (Pu.move rfl rfl) ?_
                      refine O.nil ?_
                      refine X.again 0 ?_
                      refine V.seq ?_
                      refine V.region ?_
                      refine O.p rfl rfl rfl (Pu.isF (by decide) (Pu.lss rfl rfl rfl)) ?_
                      refine O.nil ?_
                      refine X.next ?_
                      refine V.seq ?_
                      refine V.condF rfl ?_
                      refine V.exit ?_
                      refine X.thenExit ?_
                      refine X.thenExit ?_
                      refine X.blockHit ?_
                      refine X.next ?_
                      refine V.seq ?_
                      refine V.region ?_
                      refine O.p rfl rfl rfl (Pu.move rfl rfl) ?_
                      refine O.p rfl rfl rfl (Pu.isF (by decide) (Pu.eql rfl rfl rfl)) ?_
                      refine O.p rfl rfl rfl (Pu.move rfl rfl) ?_
                      refine O.gs rfl rfl rfl rfl rfl rfl ?_
                      refine O.gs rfl rfl rfl rfl rfl rfl ?_
                      refine O.gs rfl rfl rfl rfl rfl rfl ?_
                      refine O.gs rfl rfl rfl rfl rfl rfl ?_
                      refine O.gs rfl rfl rfl rfl rfl rfl ?_
                      refine O.gs rfl rfl rfl rfl rfl rfl ?_
                      refine O.gs rfl rfl rfl rfl rfl rfl ?_
                      refine O.gs rfl rfl rfl rfl rfl rfl ?_
                      refine O.p rfl rfl rfl (Pu.pickF rfl rfl rfl) ?_
                      refine O.nil ?_
                      refine X.next ?_
                      refine V.condF rfl ?_
                      refine V.skip ?_
                      refine X.blockNormal ?_
                      refine X.next ?_
                      refine V.region ?_
                      refine O.p rfl rfl rfl (Pu.add64 (r := ((k + 1 : Nat) : Int)) rfl (by omega) rfl rfl rfl) ?_
                      refine O.p rfl rfl rfl (Pu.move rfl rfl) ?_
                      refine O.nil ?_
                      exact X.back3 (k + 1, outA, outc, out) (by (try dsimp only); exact ⟨by omega, by rw [flt_no e1 (decide_eq_false (fun h => by obtain ⟨h1, h2⟩ := h; rw [cntY_val] at h1; (repeat' split at h1) <;> first | omega | contradiction | (exact h2.elim (by assumption) (by assumption))))]; exact ho, by omega⟩) (by first | omega | (dsimp only; omega)) (Ent.cons rfl (Ent.nil _)) (Ent.cons (t := 1) rfl (Ent.cons (t := 2) rfl (Ent.cons (t := 8) rfl (Ent.cons (t := 12) rfl (Ent.cons (t := 13) rfl (Ent.cons (t := 70) rfl (Ent.cons (t := 71) rfl (Ent.nil _)))))))) (Sub.keep 1 rfl (Sub.keep 1 rfl (Sub.keep 1 rfl (Sub.keep 1 rfl (Sub.keep 1 rfl (Sub.keep 1 rfl (Sub.nil _)))))))
                    · skip
                      refine V.skip ?_
                      refine X.blockNormal ?_
                      refine X.next ?_
                      refine V.region ?_
                      refine O.p rfl rfl rfl (Pu.add64 (r := 3) (by decide) (by decide) rfl rfl rfl) ?_
                      refine O.p rfl rfl rfl (Pu.move rfl rfl) ?_
                      refine O.nil ?_
                      refine X.again 0 ?_
                      refine V.seq ?_
                      refine V.region ?_
                      refine O.p rfl rfl rfl (Pu.isF (by decide) (Pu.lss rfl rfl rfl)) ?_
                      refine O.nil ?_
                      refine X.next ?_
                      refine V.seq ?_
                      refine V.condF rfl ?_
                      refine V.exit ?_
                      refine X.thenExit ?_
                      refine X.thenExit ?_
                      refine X.blockHit ?_
                      refine X.next ?_
                      refine V.seq ?_
                      refine V.region ?_
                      refine O.p rfl rfl rfl (Pu.move rfl rfl) ?_
                      refine O.p rfl rfl rfl (Pu.isF (by decide) (Pu.eql rfl rfl rfl)) ?_
                      refine O.p rfl rfl rfl (Pu.move rfl rfl) ?_
                      refine O.gs rfl rfl rfl rfl rfl rfl ?_
                      refine O.gs rfl rfl rfl rfl rfl rfl ?_
                      refine O.gs rfl rfl rfl rfl rfl rfl ?_
                      refine O.gs rfl rfl rfl rfl rfl rfl ?_
                      refine O.gs rfl rfl rfl rfl rfl rfl ?_
                      refine O.gs rfl rfl rfl rfl rfl rfl ?_
                      refine O.gs rfl rfl rfl rfl rfl rfl ?_
                      refine O.gs rfl rfl rfl rfl rfl rfl ?_
                      refine O.p rfl rfl rfl (Pu.pickF rfl rfl rfl) ?_
                      refine O.nil ?_
                      refine X.next ?_
                      refine V.condF rfl ?_
                      refine V.skip ?_
                      refine X.blockNormal ?_
                      refine X.next ?_
                      refine V.region ?_
                      refine O.p rfl rfl rfl (Pu.add64 (r := ((k + 1 : Nat) : Int)) rfl (by omega) rfl rfl rfl) ?_
                      refine O.p rfl rfl rfl (Pu.move rfl rfl) ?_
                      refine O.nil ?_
                      exact X.back3 (k + 1, outA, outc, out) (by (try dsimp only); exact ⟨by omega, by rw [flt_no e1 (decide_eq_false (fun h => by obtain ⟨h1, h2⟩ := h; rw [cntY_val] at h1; (repeat' split at h1) <;> first | omega | contradiction | (exact h2.elim (by assumption) (by assumption))))]; exact ho, by omega⟩) (by first | omega | (dsimp only; omega)) (Ent.cons rfl (Ent.nil _)) (Ent.cons (t := 1) rfl (Ent.cons (t := 2) rfl (Ent.cons (t := 8) rfl (Ent.cons (t := 12) rfl (Ent.cons (t := 13) rfl (Ent.cons (t := 70) rfl (Ent.cons (t := 71) rfl (Ent.nil _)))))))) (Sub.keep 1 rfl (Sub.keep 1 rfl (Sub.keep 1 rfl (Sub.keep 1 rfl (Sub.keep 1 rfl (Sub.keep 1 rfl (Sub.nil _)))))))
              · skip
                refine V.exit ?_
                refine X.thenExit ?_
                refine X.thenExit ?_
                refine X.blockHit ?_
                refine X.next ?_
                refine V.seq ?_
                have hpo : out.Perm (outL bs a b p N) := by rw [ho, List.take_of_length_le (by omega), hr1_1]; exact outB_perm hab.1 hab.2 P
                refine V.region ?_
                refine O.p rfl rfl rfl (Pu.fieldAddr 1 rfl Try.underlying45 rfl sz26 rfl rfl) ?_
                refine O.p rfl rfl rfl (Pu.load rfl pl26 rfl (Ld.blk 0 rfl rfl)) ?_
                refine O.p rfl rfl rfl (Pu.move rfl rfl) ?_
                refine O.p rfl rfl rfl (Pu.move rfl rfl) ?_
                refine O.e rfl rfl rfl (Ef.call1 call59 rfl rfl (fun w hw => exchanged_ok  out a b _ _ w ((Ld.own 1 (by exact rfl)) w hw) (by first | omega | (simp only [tops_len, conts_len, bl, List.length_append, List.length_cons, List.length_nil] at *; omega)) (by first | assumption | omega | (try dsimp only at *; omega)))) ?_
                rintro _ _ rfl
                refine O.exi (fun r2A => ?_)
                refine O.exi (fun r2c => ?_)
                refine O.exi (fun r2 => ?_)
                refine O.sep ?_
                refine O.pur ?_
                rintro ⟨rfl, hr2_1, hr2_2⟩
                refine O.p rfl rfl rfl (Pu.fieldAddr 2 rfl Try.underlying45 rfl sz26 rfl rfl) ?_
                refine O.s rfl rfl (Ef.store1 (cs' := [_, _, _]) 1 rfl sz26 rfl rfl rfl rfl rfl (ltb rfl) rfl) ?_
                rintro _ _ rfl
                refine O.nil ?_
                refine X.next ?_
                refine V.seq ?_
                refine V.region ?_
                refine O.p rfl rfl rfl (Pu.loadAgg rfl ag45 sz45 rfl rfl (Ld.whole 1 rfl)) ?_
                refine O.s rfl rfl (Ef.storeAll 5 rfl sz45 rfl rfl rfl rfl (by simp [Value.oneCell']) rfl) ?_
                rintro _ _ rfl
                refine O.p rfl rfl rfl (Pu.assign rfl rfl) ?_
                refine O.nil ?_
                refine X.next ?_
                refine V.ret ?_
                refine X.retCell2 rfl ag45 sz45 rfl rfl rfl (Ld.whole 5 rfl) ?_
                exact fun w hw => St.mkExi outA (St.mkExi outc (St.mkExi out (St.mkExi r2A (St.mkExi r2c (St.mkExi r2 (St.unsep (St.addPur ⟨(by rw [hcode]; rfl), ⟨fun _ => ⟨N, P, ⟨hpo, by rw [ho]; rw [List.take_of_length_le (by omega)]; exact flt_srt hS⟩, hr2_1.trans ((hpo.map _).trans (by rw [inL_map hab.1 hab.2])), hr2_2⟩, fun h => absurd hcode h⟩⟩ (St.unsep (hw.sub (Sub.keep 2 rfl (Sub.keep 0 rfl (Sub.nil _))))))))))))
set_option maxRecDepth 100000 in
theorem heldTrade_ok (p1 : Int) (n1 n2 : Nat) (m : Int) (A1 A2 : Option Addr) (k1 k2 : Nat) (w : World) (hx : Rd B3C w A1 (marksB m n1)) (hy : Rd B3C w A2 (marksB (m + 3 * (n1 : Int)) n2)) (hm : 0 ≤ m ∧ m ≤ 1000000000) (lx : n1 ≤ 1000000) (ly : n2 ≤ 1000000) : Does Try.prog 26 [.agg #[.int .i64 p1, .slice A1 n1 k1, .slice A2 n2 k2], .int .i64 m] w [] (fun v => [.pur (v = .int .i64 (m + 3 * n1 + 3 * n2))]) := by
  refine Does.enter Try.func26 rfl rfl [(0, .agg #[.int .i64 p1, .slice A1 n1 k1, .slice A2 n2 k2]), (1, .int .i64 m)] rfl ?_
  refine V.seq ?_
  refine V.region ?_
  refine O.e rfl rfl rfl (Ef.box rfl rfl rfl) ?_
  rintro _ _ ⟨b1, rfl, rfl⟩
  refine O.p rfl rfl rfl (Pu.assign rfl rfl) ?_
  refine O.nil ?_
  refine X.next ?_
  refine V.seq ?_
  refine V.region ?_
  refine O.p rfl rfl rfl (Pu.fieldAddr 1 rfl Try.underlying45 rfl sz26 rfl rfl) ?_
  refine O.p rfl rfl rfl (Pu.load rfl pl26 rfl (Ld.blk 0 rfl rfl)) ?_
  refine O.p rfl rfl rfl (Pu.move rfl rfl) ?_
  refine O.e rfl rfl rfl (Ef.callP call42 rfl rfl (fun w hw => heldBlockX_ok n1 _ _ _ w ((Ld.old hx) w hw) (by omega) (by omega))) ?_
  rintro _ _ ⟨rfl, rfl⟩
  refine O.p rfl rfl rfl (Pu.assign rfl rfl) ?_
  refine O.nil ?_
  refine X.next ?_
  refine V.seq ?_
  refine V.seq ?_
  refine V.region ?_
  refine O.p rfl rfl rfl (Pu.move rfl rfl) ?_
  refine O.p rfl rfl rfl (Pu.lss rfl rfl rfl) ?_
  refine O.nil ?_
  refine X.next ?_
  refine V.condD rfl (fun c1 => ?_) (fun c1 => ?_)
  · skip
    exact absurd c1 (by omega)
  · skip
    refine V.skip ?_
    refine X.next ?_
    refine V.seq ?_
    refine V.region ?_
    refine O.p rfl rfl rfl (Pu.fieldAddr 2 rfl Try.underlying45 rfl sz26 rfl rfl) ?_
    refine O.p rfl rfl rfl (Pu.load rfl pl26 rfl (Ld.blk 0 rfl rfl)) ?_
    refine O.p rfl rfl rfl (Pu.move rfl rfl) ?_
    refine O.e rfl rfl rfl (Ef.callP call42 rfl rfl (fun w hw => heldBlockX_ok n2 _ _ _ w ((Ld.old hy) w hw) (by omega) (by omega))) ?_
    rintro _ _ ⟨rfl, rfl⟩
    refine O.p rfl rfl rfl (Pu.assign rfl rfl) ?_
    refine O.nil ?_
    refine X.next ?_
    refine V.seq ?_
    refine V.seq ?_
    refine V.region ?_
    refine O.p rfl rfl rfl (Pu.move rfl rfl) ?_
    refine O.p rfl rfl rfl (Pu.lss rfl rfl rfl) ?_
    refine O.nil ?_
    refine X.next ?_
    refine V.condD rfl (fun c2 => ?_) (fun c2 => ?_)
    · skip
      exact absurd c2 (by omega)
    · skip
      refine V.skip ?_
      refine X.next ?_
      refine V.seq ?_
      refine V.region ?_
      refine O.p rfl rfl rfl (Pu.move rfl rfl) ?_
      refine O.p rfl rfl rfl (Pu.assign rfl rfl) ?_
      refine O.nil ?_
      refine X.next ?_
      refine V.ret ?_
      refine X.ret1 rfl rfl ?_
      exact fun w hw => St.retP (iv (by omega)) hw
set_option maxRecDepth 100000 in
set_option maxHeartbeats 1000000 in
theorem FnExactCycleTrade_ok (v : Int) (bs : List B3) (aA : Int) (aB : Int) (aP : Int) (A : Option Addr) (c : Nat) (w : World) (hx : Rd B3C w A bs) (lx : bs.length ≤ 9223372036854775807) : Does Try.prog 6 [.agg #[.int .i64 v, .slice A bs.length c], .int .i64 aA, .int .i64 aB, .int .i64 aP] w [] (fun r => [.pur (r = .bool true)]) := by
  refine Does.enter Try.func6 rfl rfl [(0, .agg #[.int .i64 v, .slice A bs.length c]), (1, .int .i64 aA), (2, .int .i64 aB), (3, .int .i64 aP)] rfl ?_
  refine V.seq ?_
  refine V.region ?_
  refine O.e rfl rfl rfl (Ef.box rfl rfl rfl) ?_
  rintro _ _ ⟨b1, rfl, rfl⟩
  refine O.p rfl rfl rfl (Pu.assign rfl rfl) ?_
  refine O.nil ?_
  refine X.next ?_
  refine V.seq ?_
  refine V.region ?_
  refine O.p rfl rfl rfl (Pu.assign rfl rfl) ?_
  refine O.nil ?_
  refine X.next ?_
  refine V.seq ?_
  refine V.region ?_
  refine O.p rfl rfl rfl (Pu.loadAgg rfl ag24 sz24 rfl rfl (Ld.whole 0 rfl)) ?_
  refine O.p rfl rfl rfl (Pu.move rfl rfl) ?_
  refine O.e rfl rfl rfl (Ef.callP call8 rfl rfl (fun w hw => szSystem_ok _ _ bs _ _ w (by first | omega | (unfold roomLeft at *; split at * <;> omega)) (by omega))) ?_
  rintro _ _ ⟨rfl, rfl⟩
  refine O.p rfl rfl rfl (Pu.assign rfl rfl) ?_
  refine O.nil ?_
  refine X.next ?_
  refine V.seq ?_
  refine V.seq ?_
  refine V.region ?_
  refine O.p rfl rfl rfl (Pu.move rfl rfl) ?_
  refine O.p rfl rfl rfl (Pu.lss rfl rfl rfl) ?_
  refine O.nil ?_
  refine X.next ?_
  refine V.condD rfl (fun c1 => ?_) (fun c1 => ?_)
  · skip
    refine V.seq ?_
    refine V.region ?_
    refine O.p rfl rfl rfl (Pu.assign rfl rfl) ?_
    refine O.nil ?_
    refine X.next ?_
    refine V.ret ?_
    refine X.thenRet ?_
    refine X.ret1 rfl rfl ?_
    exact fun w hw => St.retP rfl hw
  · skip
    have hk : bs.length ≤ 1048576 := by unfold roomLeft at c1; split at c1 <;> omega
    refine V.skip ?_
    refine X.next ?_
    refine V.seq ?_
    refine V.region ?_
    refine O.p rfl rfl rfl (Pu.loadAgg rfl ag24 sz24 rfl rfl (Ld.whole 0 rfl)) ?_
    refine O.e rfl rfl rfl (Ef.call1 call10 rfl rfl (fun w hw => toSystem_ok _ bs _ _ w ((Ld.old hx) w hw) (by omega))) ?_
    rintro _ _ rfl
    refine O.exi (fun A1 => ?_)
    refine O.sep ?_
    refine O.pur ?_
    rintro ⟨hA1, rfl⟩
    refine O.p rfl rfl rfl (Pu.move rfl rfl) ?_
    refine O.p rfl rfl rfl (Pu.move rfl rfl) ?_
    refine O.p rfl rfl rfl (Pu.move rfl rfl) ?_
    refine O.e rfl rfl rfl (Ef.call1 call22 rfl rfl (fun w hw => specCycle_ok  v bs aA aB aP _ _ w ((Ld.own 0 (by exact rfl)) w hw) (by first | omega | (simp only [tops_len, conts_len, bl, List.length_append, List.length_cons, List.length_nil] at *; omega)) )) ?_
    rintro _ _ rfl
    refine O.exi (fun o1A => ?_)
    refine O.exi (fun o1c => ?_)
    refine O.exi (fun o1 => ?_)
    refine O.exi (fun i1A => ?_)
    refine O.exi (fun i1c => ?_)
    refine O.exi (fun i1 => ?_)
    refine O.sep ?_
    refine O.pur ?_
    rintro ⟨rfl, ho1_1⟩
    refine O.sep ?_
    refine O.p rfl rfl rfl (Pu.move rfl rfl) ?_
    refine O.p rfl rfl rfl (Pu.extract rfl rfl rfl) ?_
    refine O.p rfl rfl rfl (Pu.extract rfl rfl rfl) ?_
    refine O.e rfl rfl rfl (Ef.alloc rfl zr45 rfl) ?_
    rintro _ _ ⟨b2, rfl, rfl⟩
    refine O.s rfl rfl (Ef.storeAll 0 rfl sz45 rfl rfl rfl rfl (by simp [Value.oneCell']) rfl) ?_
    rintro _ _ rfl
    refine O.p rfl rfl rfl (Pu.assign rfl rfl) ?_
    refine O.nil ?_
    refine X.next ?_
    refine V.seq ?_
    refine V.region ?_
    refine O.p rfl rfl rfl (Pu.loadAgg rfl ag24 sz24 rfl rfl (Ld.whole 4 rfl)) ?_
    refine O.e rfl rfl rfl (Ef.call1 call10 rfl rfl (fun w hw => toSystem_ok _ bs _ _ w ((Ld.old hx) w hw) (by omega))) ?_
    rintro _ _ rfl
    refine O.exi (fun A2 => ?_)
    refine O.sep ?_
    refine O.pur ?_
    rintro ⟨hA2, rfl⟩
    refine O.e rfl rfl rfl (Ef.alloc rfl zr28 rfl) ?_
    rintro _ _ ⟨b3, rfl, rfl⟩
    refine O.s rfl rfl (Ef.storeAll 0 rfl sz28 rfl rfl rfl rfl (by simp [Value.oneCell']) rfl) ?_
    rintro _ _ rfl
    refine O.nil ?_
    refine X.next ?_
    refine V.seq ?_
    refine V.region ?_
    refine O.p rfl rfl rfl (Pu.loadAgg rfl ag28 sz28 rfl rfl (Ld.whole 0 rfl)) ?_
    refine O.p rfl rfl rfl (Pu.move rfl rfl) ?_
    refine O.p rfl rfl rfl (Pu.move rfl rfl) ?_
    refine O.p rfl rfl rfl (Pu.move rfl rfl) ?_
    refine O.e rfl rfl rfl (Ef.call1 call23 rfl rfl (fun w hw => implCycle_ok  v bs aA aB aP _ _ w ((Ld.own 1 (by exact rfl)) w hw) (by first | omega | (simp only [tops_len, conts_len, bl, List.length_append, List.length_cons, List.length_nil] at *; omega)) )) ?_
    rintro _ _ rfl
    refine O.exi (fun o2A => ?_)
    refine O.exi (fun o2c => ?_)
    refine O.exi (fun o2 => ?_)
    refine O.exi (fun i2A => ?_)
    refine O.exi (fun i2c => ?_)
    refine O.exi (fun i2 => ?_)
    refine O.sep ?_
    refine O.pur ?_
    rintro ⟨rfl, ho2_1⟩
    refine O.sep ?_
    have heq := (ho2_1.unique ho1_1).1
    have heq2 := (ho2_1.unique ho1_1).2
    have hlo2 := ho2_1.len
    have hl0 := ho1_1.len
    refine O.p rfl rfl rfl (Pu.move rfl rfl) ?_
    refine O.p rfl rfl rfl (Pu.extract rfl rfl rfl) ?_
    refine O.p rfl rfl rfl (Pu.extract rfl rfl rfl) ?_
    refine O.e rfl rfl rfl (Ef.alloc rfl zr45 rfl) ?_
    rintro _ _ ⟨b4, rfl, rfl⟩
    refine O.s rfl rfl (Ef.storeAll 0 rfl sz45 rfl rfl rfl rfl (by simp [Value.oneCell']) rfl) ?_
    rintro _ _ rfl
    refine O.p rfl rfl rfl (Pu.assign rfl rfl) ?_
    refine O.nil ?_
    refine X.next ?_
    refine V.seq ?_
    refine V.seq ?_
    refine V.region ?_
    refine O.p rfl rfl rfl (Pu.loadAgg rfl ag45 sz45 rfl rfl (Ld.whole 0 rfl)) ?_
    refine O.p rfl rfl rfl (Pu.loadAgg rfl ag45 sz45 rfl rfl (Ld.whole 5 rfl)) ?_
    refine O.e rfl rfl rfl (Ef.callP call24 rfl rfl (fun w hw => eqTrade_ok _ _ o2 i2 o1 i1 _ _ _ _ _ _ _ _ w ((Ld.own 1 (by exact rfl)) w hw) ((Ld.own 2 (by exact rfl)) w hw) ((Ld.own 6 (by exact rfl)) w hw) ((Ld.own 7 (by exact rfl)) w hw) (by omega) (by omega) (by omega) (by omega))) ?_
    rintro _ _ ⟨rfl, rfl⟩
    refine O.p rfl rfl rfl (Pu.not rfl rfl) ?_
    refine O.p rfl rfl rfl (Pu.move rfl rfl) ?_
    refine O.splitN 48 rfl (fun c2 => ?_) (fun c2 => ?_)
    · skip
      exact absurd ⟨rfl, by assumption, by assumption⟩ c2
    · skip
      refine O.gp rfl rfl rfl rfl rfl (Pu.move rfl rfl) ?_
      refine O.gp rfl rfl rfl rfl rfl (Pu.move rfl rfl) ?_
      refine O.gp rfl rfl rfl rfl rfl (Pu.neq rfl rfl rfl) ?_
      refine O.p rfl rfl rfl (Pu.pickF rfl rfl rfl) ?_
      refine O.nil ?_
      refine X.next ?_
      refine V.condNot rfl (fun c3 => ?_) (fun c3 => ?_)
      · skip
        refine V.seq ?_
        refine V.region ?_
        refine O.p rfl rfl rfl (Pu.assign rfl rfl) ?_
        refine O.nil ?_
        refine X.next ?_
        refine V.ret ?_
        refine X.thenRet ?_
        refine X.ret1 rfl rfl ?_
        exact absurd (by first | assumption | rfl | exact ⟨rfl, rfl⟩ | exact ⟨rfl, by assumption⟩ | exact ⟨⟨rfl, by assumption⟩, rfl, by assumption⟩ | omega | (simp only [*]; done) | (rw [rfl])) c3
      · skip
        refine V.skip ?_
        refine X.next ?_
        refine V.seq ?_
        refine V.seq ?_
        refine V.draw mo (by kernel_rfl) (fun hwf => ?_)
        refine D.p 0 rfl rfl rfl rfl rfl rfl (Pu.loadAgg rfl ag28 sz28 rfl rfl (Ld.whole 3 rfl)) ?_
        refine D.p 1 rfl rfl rfl rfl rfl rfl (Pu.loadAgg rfl ag24 sz24 rfl rfl (Ld.whole 9 rfl)) ?_
        refine D.eff hwf (e := 2) rfl rfl rfl rfl (Ef.call1 call10 rfl rfl (fun w hw => toSystem_ok _ bs _ _ w ((Ld.old hx) w hw) (by omega))) rfl rfl rfl ?_
        rintro _ _ rfl hs
        refine ⟨fun w hw => hs w hw.tail, ?_⟩
        refine D.exi (fun A3 => ?_)
        refine D.sep ?_
        refine D.pur1 ?_
        rintro ⟨hA3, rfl⟩
        refine D.eff hwf (e := 3) rfl rfl rfl rfl (Ef.callP call12 rfl rfl (fun w hw => eqSystem_ok _ _ bs bs _ _ _ _ w ((Ld.own 5 (by exact rfl)) w hw) ((Ld.own 0 (by exact rfl)) w hw) (by omega) (by omega))) rfl rfl rfl ?_
        rintro _ _ ⟨rfl, rfl⟩ hs
        refine ⟨fun w hw => hw.sub (Sub.keep 1 rfl (Sub.keep 1 rfl (Sub.keep 1 rfl (Sub.keep 1 rfl (Sub.keep 1 rfl (Sub.keep 1 rfl (Sub.keep 1 rfl (Sub.keep 1 rfl (Sub.keep 1 rfl (Sub.keep 1 rfl (Sub.nil _))))))))))), ?_⟩
        refine D.p 4 rfl rfl rfl rfl rfl rfl (Pu.not rfl rfl) ?_
        refine D.done hwf rfl ?_
        refine X.next ?_
        refine V.condNot rfl (fun c4 => ?_) (fun c4 => ?_)
        · skip
          refine V.seq ?_
          refine V.region ?_
          refine O.p rfl rfl rfl (Pu.assign rfl rfl) ?_
          refine O.nil ?_
          refine X.next ?_
          refine V.ret ?_
          refine X.thenRet ?_
          refine X.ret1 rfl rfl ?_
          exact absurd (by first | assumption | rfl | exact ⟨rfl, rfl⟩ | exact ⟨rfl, by assumption⟩ | exact ⟨⟨rfl, by assumption⟩, rfl, by assumption⟩ | omega | (simp only [*]; done) | (rw [rfl])) c4
        · skip
          refine V.skip ?_
          refine X.next ?_
          refine V.seq ?_
          refine V.region ?_
          refine O.p rfl rfl rfl (Pu.assign rfl rfl) ?_
          refine O.nil ?_
          refine X.next ?_
          refine V.seq ?_
          refine V.region ?_
          refine O.p rfl rfl rfl (Pu.loadAgg rfl ag28 sz28 rfl rfl (Ld.whole 4 rfl)) ?_
          refine O.p rfl rfl rfl (Pu.move rfl rfl) ?_
          refine O.e rfl rfl rfl (Ef.callM 5 call13 rfl rfl rfl (fun H _ => markSystemX_ok _ _ _ _ _ _ H (by omega) (by omega))) ?_
          rintro _ _ ⟨rfl, rfl⟩
          refine O.p rfl rfl rfl (Pu.assign rfl rfl) ?_
          refine O.nil ?_
          refine X.next ?_
          refine V.seq ?_
          refine V.seq ?_
          refine V.region ?_
          refine O.p rfl rfl rfl (Pu.move rfl rfl) ?_
          refine O.p rfl rfl rfl (Pu.lss rfl rfl rfl) ?_
          refine O.p rfl rfl rfl (Pu.move rfl rfl) ?_
          refine O.splitD 63 rfl (fun c5 => ?_) (fun c5 => ?_)
          · skip
            refine O.gs rfl rfl rfl rfl rfl rfl ?_
            refine O.gs rfl rfl rfl rfl rfl rfl ?_
            refine O.gs rfl rfl rfl rfl rfl rfl ?_
            refine O.gs rfl rfl rfl rfl rfl rfl ?_
            refine O.p rfl rfl rfl (Pu.pickT rfl rfl rfl) ?_
            refine O.p rfl rfl rfl (Pu.move rfl rfl) ?_
            refine O.gs rfl rfl rfl rfl rfl rfl ?_
            refine O.gs rfl rfl rfl rfl rfl rfl ?_
            refine O.gs rfl rfl rfl rfl rfl rfl ?_
            refine O.p rfl rfl rfl (Pu.pickT rfl rfl rfl) ?_
            refine O.nil ?_
            refine X.next ?_
            refine V.condT rfl ?_
            refine V.seq ?_
            refine V.region ?_
            refine O.p rfl rfl rfl (Pu.assign rfl rfl) ?_
            refine O.nil ?_
            refine X.next ?_
            refine V.ret ?_
            refine X.thenRet ?_
            refine X.ret1 rfl rfl ?_
            exact absurd c5 (by first | omega | assumption)
          · skip
            refine O.gp rfl rfl rfl rfl rfl (Pu.loadAgg rfl ag45 sz45 rfl rfl (Ld.whole 1 rfl)) ?_
            refine O.gp rfl rfl rfl rfl rfl (Pu.loadAgg rfl ag45 sz45 rfl rfl (Ld.whole 6 rfl)) ?_
            refine O.ge rfl rfl rfl rfl rfl (Ef.callP call24 rfl rfl (fun w hw => eqTrade_ok _ _ o2 i2 o1 i1 _ _ _ _ _ _ _ _ w ((Ld.own 2 (by exact rfl)) w hw) ((Ld.own 3 (by exact rfl)) w hw) ((Ld.own 7 (by exact rfl)) w hw) ((Ld.own 8 (by exact rfl)) w hw) (by omega) (by omega) (by omega) (by omega))) ?_
            rintro _ _ ⟨rfl, rfl⟩
            refine O.gp rfl rfl rfl rfl rfl (Pu.not rfl rfl) ?_
            refine O.p rfl rfl rfl (Pu.pickF rfl rfl rfl) ?_
            refine O.p rfl rfl rfl (Pu.move rfl rfl) ?_
            refine O.splitN 69 rfl (fun c6 => ?_) (fun c6 => ?_)
            · skip
              refine O.gs rfl rfl rfl rfl rfl rfl ?_
              refine O.gs rfl rfl rfl rfl rfl rfl ?_
              refine O.gs rfl rfl rfl rfl rfl rfl ?_
              refine O.p rfl rfl rfl (Pu.pickT rfl rfl rfl) ?_
              refine O.nil ?_
              refine X.next ?_
              refine V.condT rfl ?_
              refine V.seq ?_
              refine V.region ?_
              refine O.p rfl rfl rfl (Pu.assign rfl rfl) ?_
              refine O.nil ?_
              refine X.next ?_
              refine V.ret ?_
              refine X.thenRet ?_
              refine X.ret1 rfl rfl ?_
              exact absurd (by first | assumption | rfl | exact ⟨rfl, rfl⟩ | exact ⟨rfl, by assumption⟩ | exact ⟨⟨rfl, by assumption⟩, rfl, by assumption⟩ | omega | (simp only [*]; done) | (rw [rfl])) c6
            · skip
              refine O.gp rfl rfl rfl rfl rfl (Pu.move rfl rfl) ?_
              refine O.gp rfl rfl rfl rfl rfl (Pu.move rfl rfl) ?_
              refine O.gp rfl rfl rfl rfl rfl (Pu.neq rfl rfl rfl) ?_
              refine O.p rfl rfl rfl (Pu.pickF rfl rfl rfl) ?_
              refine O.nil ?_
              refine X.next ?_
              refine V.condNot rfl (fun c7 => ?_) (fun c7 => ?_)
              · skip
                refine V.seq ?_
                refine V.region ?_
                refine O.p rfl rfl rfl (Pu.assign rfl rfl) ?_
                refine O.nil ?_
                refine X.next ?_
                refine V.ret ?_
                refine X.thenRet ?_
                refine X.ret1 rfl rfl ?_
                exact absurd (by first | assumption | rfl | exact ⟨rfl, rfl⟩ | exact ⟨rfl, by assumption⟩ | exact ⟨⟨rfl, by assumption⟩, rfl, by assumption⟩ | omega | (simp only [*]; done) | (rw [rfl])) c7
              · skip
                refine V.skip ?_
                refine X.next ?_
                refine V.seq ?_
                refine V.region ?_
                refine O.p rfl rfl rfl (Pu.assign rfl rfl) ?_
                refine O.nil ?_
                refine X.next ?_
                refine V.seq ?_
                refine V.region ?_
                refine O.p rfl rfl rfl (Pu.loadAgg rfl ag45 sz45 rfl rfl (Ld.whole 1 rfl)) ?_
                refine O.p rfl rfl rfl (Pu.move rfl rfl) ?_
                refine O.e rfl rfl rfl (Ef.call call25 rfl rfl (Does.pre (fun w hw => hw.sub (Sub.keep 2 rfl (Sub.keep 2 rfl (Sub.keep 0 rfl (Sub.keep 0 rfl (Sub.keep 0 rfl (Sub.keep 0 rfl (Sub.keep 0 rfl (Sub.keep 0 rfl (Sub.keep 0 rfl (Sub.keep 0 rfl (Sub.keep 0 rfl (Sub.nil _))))))))))))) (markTrade_ok _ o2 i2 _ _ _ _ _ _ _ (by omega) (by omega) (by omega)))) ?_
                rintro _ _ rfl
                refine O.pur ?_
                rintro rfl
                refine O.p rfl rfl rfl (Pu.assign rfl rfl) ?_
                refine O.nil ?_
                refine X.next ?_
                refine V.seq ?_
                refine V.region ?_
                refine O.p rfl rfl rfl (Pu.assign rfl rfl) ?_
                refine O.nil ?_
                refine X.next ?_
                refine V.seq ?_
                refine V.region ?_
                refine O.p rfl rfl rfl (Pu.loadAgg rfl ag45 sz45 rfl rfl (Ld.whole 3 rfl)) ?_
                refine O.p rfl rfl rfl (Pu.move rfl rfl) ?_
                refine O.e rfl rfl rfl (Ef.callP call26 rfl rfl (fun w hw => heldTrade_ok _ o2.length i2.length _ _ _ _ _ w ((Ld.own 0 (by exact rfl)) w hw) ((Ld.own 1 (by exact rfl)) w hw) (by omega) (by omega) (by omega))) ?_
                rintro _ _ ⟨rfl, rfl⟩
                refine O.p rfl rfl rfl (Pu.assign rfl rfl) ?_
                refine O.nil ?_
                refine X.next ?_
                refine V.seq ?_
                refine V.seq ?_
                refine V.region ?_
                refine O.p rfl rfl rfl (Pu.move rfl rfl) ?_
                refine O.p rfl rfl rfl (Pu.lss rfl rfl rfl) ?_
                refine O.nil ?_
                refine X.next ?_
                refine V.condD rfl (fun c8 => ?_) (fun c8 => ?_)
                · skip
                  refine V.seq ?_
                  refine V.region ?_
                  refine O.p rfl rfl rfl (Pu.assign rfl rfl) ?_
                  refine O.nil ?_
                  refine X.next ?_
                  refine V.ret ?_
                  refine X.thenRet ?_
                  refine X.ret1 rfl rfl ?_
                  exact absurd c8 (by first | omega | assumption)
                · skip
                  refine V.skip ?_
                  refine X.next ?_
                  refine V.seq ?_
                  refine V.seq ?_
                  refine V.region ?_
                  refine O.p rfl rfl rfl (Pu.move rfl rfl) ?_
                  refine O.p rfl rfl rfl (Pu.move rfl rfl) ?_
                  refine O.p rfl rfl rfl (Pu.neq rfl rfl rfl) ?_
                  refine O.nil ?_
                  refine X.next ?_
                  refine V.condNot rfl (fun c9 => ?_) (fun c9 => ?_)
                  · skip
                    refine V.seq ?_
                    refine V.region ?_
                    refine O.p rfl rfl rfl (Pu.assign rfl rfl) ?_
                    refine O.nil ?_
                    refine X.next ?_
                    refine V.ret ?_
                    refine X.thenRet ?_
                    refine X.ret1 rfl rfl ?_
                    exact absurd (by first | assumption | rfl | exact ⟨rfl, rfl⟩ | exact ⟨rfl, by assumption⟩ | exact ⟨⟨rfl, by assumption⟩, rfl, by assumption⟩ | omega | (simp only [*]; done) | (rw [rfl])) c9
                  · skip
                    refine V.skip ?_
                    refine X.next ?_
                    refine V.seq ?_
                    refine V.region ?_
                    refine O.p rfl rfl rfl (Pu.loadAgg rfl ag24 sz24 rfl rfl (Ld.whole 10 rfl)) ?_
                    refine O.e rfl rfl rfl (Ef.call1 call10 rfl rfl (fun w hw => toSystem_ok _ bs _ _ w ((Ld.old hx) w hw) (by omega))) ?_
                    rintro _ _ rfl
                    refine O.exi (fun A4 => ?_)
                    refine O.sep ?_
                    refine O.pur ?_
                    rintro ⟨hA4, rfl⟩
                    refine O.p rfl rfl rfl (Pu.move rfl rfl) ?_
                    refine O.p rfl rfl rfl (Pu.move rfl rfl) ?_
                    refine O.p rfl rfl rfl (Pu.move rfl rfl) ?_
                    refine O.e rfl rfl rfl (Ef.call1 call23 rfl rfl (fun w hw => implCycle_ok  v bs aA aB aP _ _ w ((Ld.own 0 (by exact rfl)) w hw) (by first | omega | (simp only [tops_len, conts_len, bl, List.length_append, List.length_cons, List.length_nil] at *; omega)) )) ?_
                    rintro _ _ rfl
                    refine O.exi (fun o3A => ?_)
                    refine O.exi (fun o3c => ?_)
                    refine O.exi (fun o3 => ?_)
                    refine O.exi (fun i3A => ?_)
                    refine O.exi (fun i3c => ?_)
                    refine O.exi (fun i3 => ?_)
                    refine O.sep ?_
                    refine O.pur ?_
                    rintro ⟨rfl, ho3_1⟩
                    refine O.sep ?_
                    have heq := (ho3_1.unique ho1_1).1
                    have heq2 := (ho3_1.unique ho1_1).2
                    have hlo3 := ho3_1.len
                    have hl0 := ho1_1.len
                    refine O.p rfl rfl rfl (Pu.move rfl rfl) ?_
                    refine O.p rfl rfl rfl (Pu.extract rfl rfl rfl) ?_
                    refine O.p rfl rfl rfl (Pu.extract rfl rfl rfl) ?_
                    refine O.e rfl rfl rfl (Ef.alloc rfl zr45 rfl) ?_
                    rintro _ _ ⟨b5, rfl, rfl⟩
                    refine O.s rfl rfl (Ef.storeAll 0 rfl sz45 rfl rfl rfl rfl (by simp [Value.oneCell']) rfl) ?_
                    rintro _ _ rfl
                    refine O.p rfl rfl rfl (Pu.assign rfl rfl) ?_
                    refine O.nil ?_
                    refine X.next ?_
                    refine V.seq ?_
                    refine V.seq ?_
                    refine V.region ?_
                    refine O.p rfl rfl rfl (Pu.loadAgg rfl ag45 sz45 rfl rfl (Ld.whole 0 rfl)) ?_
                    refine O.p rfl rfl rfl (Pu.loadAgg rfl ag45 sz45 rfl rfl (Ld.whole 10 rfl)) ?_
                    refine O.e rfl rfl rfl (Ef.callP call24 rfl rfl (fun w hw => eqTrade_ok _ _ o3 i3 o1 i1 _ _ _ _ _ _ _ _ w ((Ld.own 1 (by exact rfl)) w hw) ((Ld.own 2 (by exact rfl)) w hw) ((Ld.own 11 (by exact rfl)) w hw) ((Ld.own 12 (by exact rfl)) w hw) (by omega) (by omega) (by omega) (by omega))) ?_
                    rintro _ _ ⟨rfl, rfl⟩
                    refine O.p rfl rfl rfl (Pu.not rfl rfl) ?_
                    refine O.p rfl rfl rfl (Pu.move rfl rfl) ?_
                    refine O.splitN 98 rfl (fun c10 => ?_) (fun c10 => ?_)
                    · skip
                      exact absurd ⟨rfl, by assumption, by assumption⟩ c10
                    · skip
                      refine O.gp rfl rfl rfl rfl rfl (Pu.move rfl rfl) ?_
                      refine O.gp rfl rfl rfl rfl rfl (Pu.move rfl rfl) ?_
                      refine O.gp rfl rfl rfl rfl rfl (Pu.neq rfl rfl rfl) ?_
                      refine O.p rfl rfl rfl (Pu.pickF rfl rfl rfl) ?_
                      refine O.nil ?_
                      refine X.next ?_
                      refine V.condNot rfl (fun c11 => ?_) (fun c11 => ?_)
                      · skip
                        refine V.seq ?_
                        refine V.region ?_
                        refine O.p rfl rfl rfl (Pu.assign rfl rfl) ?_
                        refine O.nil ?_
                        refine X.next ?_
                        refine V.ret ?_
                        refine X.thenRet ?_
                        refine X.ret1 rfl rfl ?_
                        exact absurd (by first | assumption | rfl | exact ⟨rfl, rfl⟩ | exact ⟨rfl, by assumption⟩ | exact ⟨⟨rfl, by assumption⟩, rfl, by assumption⟩ | omega | (simp only [*]; done) | (rw [rfl])) c11
                      · skip
                        refine V.skip ?_
                        refine X.next ?_
                        refine V.seq ?_
                        refine V.region ?_
                        refine O.p rfl rfl rfl (Pu.assign rfl rfl) ?_
                        refine O.nil ?_
                        refine X.next ?_
                        refine V.seq ?_
                        refine V.region ?_
                        refine O.p rfl rfl rfl (Pu.loadAgg rfl ag45 sz45 rfl rfl (Ld.whole 7 rfl)) ?_
                        refine O.p rfl rfl rfl (Pu.move rfl rfl) ?_
                        refine O.e rfl rfl rfl (Ef.callP call26 rfl rfl (fun w hw => heldTrade_ok _ o2.length i2.length _ _ _ _ _ w ((Ld.own 4 (by exact rfl)) w hw) ((Ld.own 5 (by exact rfl)) w hw) (by omega) (by omega) (by omega))) ?_
                        rintro _ _ ⟨rfl, rfl⟩
                        refine O.p rfl rfl rfl (Pu.assign rfl rfl) ?_
                        refine O.nil ?_
                        refine X.next ?_
                        refine V.seq ?_
                        refine V.seq ?_
                        refine V.region ?_
                        refine O.p rfl rfl rfl (Pu.move rfl rfl) ?_
                        refine O.p rfl rfl rfl (Pu.lss rfl rfl rfl) ?_
                        refine O.nil ?_
                        refine X.next ?_
                        refine V.condD rfl (fun c12 => ?_) (fun c12 => ?_)
                        · skip
                          refine V.seq ?_
                          refine V.region ?_
                          refine O.p rfl rfl rfl (Pu.assign rfl rfl) ?_
                          refine O.nil ?_
                          refine X.next ?_
                          refine V.ret ?_
                          refine X.thenRet ?_
                          refine X.ret1 rfl rfl ?_
                          exact absurd c12 (by first | omega | assumption)
                        · skip
                          refine V.skip ?_
                          refine X.next ?_
                          refine V.seq ?_
                          refine V.seq ?_
                          refine V.region ?_
                          refine O.p rfl rfl rfl (Pu.move rfl rfl) ?_
                          refine O.p rfl rfl rfl (Pu.move rfl rfl) ?_
                          refine O.p rfl rfl rfl (Pu.neq rfl rfl rfl) ?_
                          refine O.nil ?_
                          refine X.next ?_
                          refine V.condNot rfl (fun c13 => ?_) (fun c13 => ?_)
                          · skip
                            refine V.seq ?_
                            refine V.region ?_
                            refine O.p rfl rfl rfl (Pu.assign rfl rfl) ?_
                            refine O.nil ?_
                            refine X.next ?_
                            refine V.ret ?_
                            refine X.thenRet ?_
                            refine X.ret1 rfl rfl ?_
                            exact absurd (by first | assumption | rfl | exact ⟨rfl, rfl⟩ | exact ⟨rfl, by assumption⟩ | exact ⟨⟨rfl, by assumption⟩, rfl, by assumption⟩ | omega | (simp only [*]; done) | (rw [rfl])) c13
                          · skip
                            refine V.skip ?_
                            refine X.next ?_
                            refine V.seq ?_
                            refine V.region ?_
                            refine O.p rfl rfl rfl (Pu.assign rfl rfl) ?_
                            refine O.nil ?_
                            refine X.next ?_
                            refine V.ret ?_
                            refine X.ret1 rfl rfl ?_
                            exact fun w hw => St.retP rfl hw
end Go.Proofs.Ytnngcemighmikaa
