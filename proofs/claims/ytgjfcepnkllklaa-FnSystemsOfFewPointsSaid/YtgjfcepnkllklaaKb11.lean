/-
  Contracts, part 11.
-/
import Derived.Test.YtgjfcepnkllklaaKb10
set_option linter.unusedVariables false
set_option linter.unusedSimpArgs false
namespace Go.Proofs.Ytgjfcepnkllklaa
open Go Go.RowKit Go.Vc Go.Proofs
set_option maxRecDepth 100000 in
set_option maxHeartbeats 1000000 in
theorem implSystemAt_ok (v_ : Int) (i : Int) (w : World) : Does Try.prog 9 [.int .i64 v_, .int .i64 i] w [] (fun r => [.exi fun (oA : Option Addr) => .exi fun (oc : Nat) => .exi fun (o : List B3) => .sep (.pur (r = .tuple #[.agg #[.int .i64 ((atR v_ i).1), .slice oA o.length oc], .int .i64 ((atR v_ i).2.2)] ∧ o = (atR v_ i).2.1)) (Own 56 B3C oA oc o)]) := by
  refine Does.enter Try.func9 rfl rfl [(0, .int .i64 v_), (1, .int .i64 i)] rfl ?_
  refine V.seq ?_
  refine V.region ?_
  refine O.e rfl rfl rfl (Ef.alloc rfl zr26 rfl) ?_
  rintro _ _ ⟨b1, rfl, rfl⟩
  refine O.p rfl rfl rfl (Pu.assign rfl rfl) ?_
  refine O.nil ?_
  refine X.next ?_
  refine V.seq ?_
  refine V.seq ?_
  refine V.region ?_
  refine O.p rfl rfl rfl (Pu.move rfl rfl) ?_
  refine O.e rfl rfl rfl (Ef.callP call36 rfl rfl (fun w hw => isFew_ok  v_ w   )) ?_
  rintro _ _ ⟨rfl, rfl⟩
  refine O.p rfl rfl rfl (Pu.not rfl rfl) ?_
  refine O.nil ?_
  refine X.next ?_
  refine V.condNot rfl (fun c1 => ?_) (fun c1 => ?_)
  · skip
    refine V.seq ?_
    refine V.region ?_
    refine O.p rfl rfl rfl (Pu.buildS (cs := [.int .i64 (0 : Int), .slice none 0 0]) rfl rfl Try.underlying26 zr26 (by kernel_rfl) rfl (by kernel_rfl)) ?_
    refine O.s rfl rfl (Ef.storeAll 0 rfl sz26 rfl rfl rfl rfl (by simp [Value.oneCell']) rfl) ?_
    rintro _ _ rfl
    refine O.p rfl rfl rfl (Pu.assign rfl rfl) ?_
    refine O.nil ?_
    refine X.next ?_
    refine V.ret ?_
    refine X.thenRet ?_
    refine X.retCell2 rfl ag26 sz26 rfl rfl rfl (Ld.whole 0 rfl) ?_
    exact fun w hw => St.mkExi none (St.mkExi 0 (St.mkExi [] (St.unsep (St.addPur ⟨(by rw [atR_no (fun h => c1 h.1)]; try rfl), (by rw [atR_no (fun h => c1 h.1)])⟩ (St.addNil (T := 56) (C := B3C) (hw.sub (Sub.nil _)))))))
  · skip
    have hf : few9 v_ := c1
    have hfl := few_len hf
    refine V.skip ?_
    refine X.next ?_
    refine V.seq ?_
    refine V.region ?_
    refine O.p rfl rfl rfl (Pu.move rfl rfl) ?_
    refine O.e rfl rfl rfl (Ef.call1 call28 rfl rfl (fun w hw => systemsOfI_ok 40 v_ w   hfl.2.2.2 hfl.2.2.1 hfl.2.1 hfl.1 (by decide))) ?_
    rintro _ _ rfl
    refine O.exi (fun r1A => ?_)
    refine O.exi (fun r1c => ?_)
    refine O.exi (fun r1 => ?_)
    refine O.sep ?_
    refine O.pur ?_
    rintro ⟨rfl, hr1_1⟩
    refine O.sep ?_
    refine O.fact (RowsA.len 1 rfl) (fun hn_r1 => ?_)
    have htl_r1 := tops_len r1
    have hcl := conts_len r1
    have hnum : r1.length = numN v_ := by rw [← hcl, hr1_1]; exact all_num hf
    have hnl := num_le (v := v_)
    refine O.p rfl rfl rfl (Pu.assign rfl rfl) ?_
    refine O.nil ?_
    refine X.next ?_
    refine V.seq ?_
    refine V.seq ?_
    refine V.region ?_
    refine O.p rfl rfl rfl (Pu.move rfl rfl) ?_
    refine O.p rfl rfl rfl (Pu.move rfl rfl) ?_
    refine O.p rfl rfl rfl (Pu.len rfl Try.underlying52 rfl) ?_
    refine O.p rfl rfl rfl (Pu.sub64 rfl (by omega) rfl rfl rfl) ?_
    refine O.e rfl rfl rfl (Ef.callP call37 rfl rfl (fun w hw => within_ok _ _ _ _)) ?_
    rintro _ _ ⟨rfl, rfl⟩
    refine O.p rfl rfl rfl (Pu.not rfl rfl) ?_
    refine O.nil ?_
    refine X.next ?_
    refine V.condNot rfl (fun c2 => ?_) (fun c2 => ?_)
    · skip
      refine V.seq ?_
      refine V.region ?_
      refine O.p rfl rfl rfl (Pu.buildS (cs := [.int .i64 (0 : Int), .slice none 0 0]) rfl rfl Try.underlying26 zr26 (by kernel_rfl) rfl (by kernel_rfl)) ?_
      refine O.s rfl rfl (Ef.storeAll 2 rfl sz26 rfl rfl rfl rfl (by simp [Value.oneCell']) rfl) ?_
      rintro _ _ rfl
      refine O.p rfl rfl rfl (Pu.assign rfl rfl) ?_
      refine O.nil ?_
      refine X.next ?_
      refine V.ret ?_
      refine X.thenRet ?_
      refine X.retCell2 rfl ag26 sz26 rfl rfl rfl (Ld.whole 2 rfl) ?_
      exact fun w hw => St.mkExi none (St.mkExi 0 (St.mkExi [] (St.unsep (St.addPur ⟨(by rw [atR_no (fun h => c2 ⟨by omega, by omega⟩)]; try rfl), (by rw [atR_no (fun h => c2 ⟨by omega, by omega⟩)])⟩ (St.addNil (T := 56) (C := B3C) (hw.sub (Sub.nil _)))))))
    · skip
      refine V.skip ?_
      refine X.next ?_
      refine V.seq ?_
      refine V.region ?_
      refine O.p rfl rfl rfl (Pu.move rfl rfl) ?_
      refine O.p rfl rfl rfl (Pu.move rfl rfl) ?_
      refine O.p rfl rfl rfl (Pu.indexAddrS ((i).toNat) rfl Try.underlying52 sz26 rfl rfl (by omega) (by omega) (fun w hw => Own.some hw (i := 0) (by exact rfl) (by omega))) ?_
      have e1 : (i).toNat < r1.length := by have := tops_len r1; omega
      refine O.p rfl rfl rfl (Pu.loadAgg' (v := .agg #[.int .i64 v_, .slice (r1[(i).toNat]'e1).1.A (r1[(i).toNat]'e1).2.length (r1[(i).toNat]'e1).1.c]) rfl rfl ag26 sz26 rfl rfl (Ld.rowY (Ld.own 0 (by exact rfl)) hn_r1 e1 rfl)) ?_
      refine O.s rfl rfl (Ef.storeAll 2 rfl sz26 rfl rfl rfl rfl (by simp [Value.oneCell']) rfl) ?_
      rintro _ _ rfl
      refine O.p rfl rfl rfl (Pu.assign rfl rfl) ?_
      refine O.nil ?_
      refine X.next ?_
      refine V.ret ?_
      refine X.retCell2 rfl ag26 sz26 rfl rfl rfl (Ld.whole 2 rfl) ?_
      refine St.mapR (fun w hw => RowsA.out (T := 56) (C := B3C) (ps := r1) (k := i.toNat) (by omega) (hw.perm (pull_perm (i := 1) rfl))) ?_
      exact fun w hw => St.mkExi ((r1[i.toNat]).1.A) (St.mkExi ((r1[i.toNat]).1.c) (St.mkExi ((r1[i.toNat]).2) (St.unsep (St.addPur ⟨(by rw [atR_yes hf (by omega) (by omega)]), (by rw [atR_yes hf (by omega) (by omega)]; exact (at_row hr1_1 (by omega)).symm)⟩ (hw.sub (Sub.keep 0 rfl (Sub.nil _)))))))
set_option maxRecDepth 100000 in
set_option maxHeartbeats 1000000 in
theorem specSystemAt_ok (v_ : Int) (i : Int) (w : World) : Does Try.prog 10 [.int .i64 v_, .int .i64 i] w [] (fun r => [.exi fun (oA : Option Addr) => .exi fun (oc : Nat) => .exi fun (o : List B3) => .sep (.pur (r = .tuple #[.agg #[.int .i64 ((atR v_ i).1), .slice oA o.length oc], .int .i64 ((atR v_ i).2.2)] ∧ o = (atR v_ i).2.1)) (Own 56 B3C oA oc o)]) := by
  refine Does.enter Try.func10 rfl rfl [(0, .int .i64 v_), (1, .int .i64 i)] rfl ?_
  have hni : (if v_ = 3 then (1 : Int) else if v_ = 7 then 30 else if v_ = 9 then 840 else 0) = (numN v_ : Int) := by unfold numN; (repeat' split) <;> rfl
  have hnl := num_le (v := v_)
  refine V.seq ?_
  refine V.region ?_
  refine O.e rfl rfl rfl (Ef.alloc rfl zr26 rfl) ?_
  rintro _ _ ⟨b1, rfl, rfl⟩
  refine O.p rfl rfl rfl (Pu.assign rfl rfl) ?_
  refine O.nil ?_
  refine X.next ?_
  refine V.seq ?_
  refine V.seq ?_
  refine V.region ?_
  refine O.p rfl rfl rfl (Pu.move rfl rfl) ?_
  refine O.e rfl rfl rfl (Ef.callP call38 rfl rfl (fun w hw => l10Number_ok  v_ w   )) ?_
  rintro _ _ ⟨rfl, rfl⟩
  refine O.p rfl rfl rfl (Pu.eql rfl rfl rfl) ?_
  refine O.p rfl rfl rfl (Pu.move rfl rfl) ?_
  refine O.splitD 9 rfl (fun c1 => ?_) (fun c1 => ?_)
  · skip
    refine O.gs rfl rfl rfl rfl rfl rfl ?_
    refine O.gs rfl rfl rfl rfl rfl rfl ?_
    refine O.gs rfl rfl rfl rfl rfl rfl ?_
    refine O.gs rfl rfl rfl rfl rfl rfl ?_
    refine O.gs rfl rfl rfl rfl rfl rfl ?_
    refine O.gs rfl rfl rfl rfl rfl rfl ?_
    refine O.p rfl rfl rfl (Pu.pickT rfl rfl rfl) ?_
    refine O.nil ?_
    refine X.next ?_
    refine V.condT rfl ?_
    refine V.seq ?_
    refine V.region ?_
    refine O.p rfl rfl rfl (Pu.buildS (cs := [.int .i64 (0 : Int), .slice none 0 0]) rfl rfl Try.underlying26 zr26 (by kernel_rfl) rfl (by kernel_rfl)) ?_
    refine O.s rfl rfl (Ef.storeAll 0 rfl sz26 rfl rfl rfl rfl (by simp [Value.oneCell']) rfl) ?_
    rintro _ _ rfl
    refine O.p rfl rfl rfl (Pu.assign rfl rfl) ?_
    refine O.nil ?_
    refine X.next ?_
    refine V.ret ?_
    refine X.thenRet ?_
    refine X.retCell2 rfl ag26 sz26 rfl rfl rfl (Ld.whole 0 rfl) ?_
    exact fun w hw => St.mkExi none (St.mkExi 0 (St.mkExi [] (St.unsep (St.addPur ⟨(by rw [atR_no (fun h => num_pos.2 h.1 (by omega))]; try rfl), (by rw [atR_no (fun h => num_pos.2 h.1 (by omega))])⟩ (St.addNil (T := 56) (C := B3C) (hw.sub (Sub.nil _)))))))
  · skip
    have hf : few9 v_ := num_pos.1 (by omega)
    have hfl := few_len hf
    have hflt := few_lt hf
    refine O.gp rfl rfl rfl rfl rfl (Pu.move rfl rfl) ?_
    refine O.gp rfl rfl rfl rfl rfl (Pu.move rfl rfl) ?_
    refine O.ge rfl rfl rfl rfl rfl (Ef.callP call38 rfl rfl (fun w hw => l10Number_ok  v_ w   )) ?_
    rintro _ _ ⟨rfl, rfl⟩
    refine O.gp rfl rfl rfl rfl rfl (Pu.sub64 rfl (by omega) rfl rfl rfl) ?_
    refine O.ge rfl rfl rfl rfl rfl (Ef.callP call39 rfl rfl (fun w hw => l01In_ok _ _ _ _)) ?_
    rintro _ _ ⟨rfl, rfl⟩
    refine O.gp rfl rfl rfl rfl rfl (Pu.not rfl rfl) ?_
    refine O.p rfl rfl rfl (Pu.pickF rfl rfl rfl) ?_
    refine O.nil ?_
    refine X.next ?_
    refine V.condNot rfl (fun c2 => ?_) (fun c2 => ?_)
    · skip
      refine V.seq ?_
      refine V.region ?_
      refine O.p rfl rfl rfl (Pu.buildS (cs := [.int .i64 (0 : Int), .slice none 0 0]) rfl rfl Try.underlying26 zr26 (by kernel_rfl) rfl (by kernel_rfl)) ?_
      refine O.s rfl rfl (Ef.storeAll 0 rfl sz26 rfl rfl rfl rfl (by simp [Value.oneCell']) rfl) ?_
      rintro _ _ rfl
      refine O.p rfl rfl rfl (Pu.assign rfl rfl) ?_
      refine O.nil ?_
      refine X.next ?_
      refine V.ret ?_
      refine X.thenRet ?_
      refine X.retCell2 rfl ag26 sz26 rfl rfl rfl (Ld.whole 0 rfl) ?_
      exact fun w hw => St.mkExi none (St.mkExi 0 (St.mkExi [] (St.unsep (St.addPur ⟨(by rw [atR_no (fun h => c2 ⟨by omega, by omega⟩)]; try rfl), (by rw [atR_no (fun h => c2 ⟨by omega, by omega⟩)])⟩ (St.addNil (T := 56) (C := B3C) (hw.sub (Sub.nil _)))))))
    · skip
      refine V.skip ?_
      refine X.next ?_
      refine V.seq ?_
      refine V.region ?_
      refine O.p rfl rfl rfl (Pu.move rfl rfl) ?_
      refine O.e rfl rfl rfl (Ef.call1 call32 rfl rfl (fun w hw => l10AllI_ok 40 v_ w   hfl.2.2.2 hfl.2.2.1 hfl.2.1 hflt (by decide))) ?_
      rintro _ _ rfl
      refine O.exi (fun r1A => ?_)
      refine O.exi (fun r1c => ?_)
      refine O.exi (fun r1 => ?_)
      refine O.sep ?_
      refine O.pur ?_
      rintro ⟨rfl, hr1_1⟩
      refine O.sep ?_
      refine O.fact (RowsA.len 1 rfl) (fun hn_r1 => ?_)
      have htl_r1 := tops_len r1
      have hcl := conts_len r1
      have hnum : r1.length = numN v_ := by rw [← hcl, hr1_1]; exact all_num hf
      refine O.p rfl rfl rfl (Pu.move rfl rfl) ?_
      refine O.p rfl rfl rfl (Pu.indexAddrS ((i).toNat) rfl Try.underlying52 sz26 rfl rfl (by omega) (by omega) (fun w hw => Own.some hw (i := 0) (by exact rfl) (by omega))) ?_
      have e1 : (i).toNat < r1.length := by have := tops_len r1; omega
      refine O.p rfl rfl rfl (Pu.loadAgg' (v := .agg #[.int .i64 v_, .slice (r1[(i).toNat]'e1).1.A (r1[(i).toNat]'e1).2.length (r1[(i).toNat]'e1).1.c]) rfl rfl ag26 sz26 rfl rfl (Ld.rowY (Ld.own 0 (by exact rfl)) hn_r1 e1 rfl)) ?_
      refine O.s rfl rfl (Ef.storeAll 2 rfl sz26 rfl rfl rfl rfl (by simp [Value.oneCell']) rfl) ?_
      rintro _ _ rfl
      refine O.p rfl rfl rfl (Pu.assign rfl rfl) ?_
      refine O.nil ?_
      refine X.next ?_
      refine V.ret ?_
      refine X.retCell2 rfl ag26 sz26 rfl rfl rfl (Ld.whole 2 rfl) ?_
      refine St.mapR (fun w hw => RowsA.out (T := 56) (C := B3C) (ps := r1) (k := i.toNat) (by omega) (hw.perm (pull_perm (i := 1) rfl))) ?_
      exact fun w hw => St.mkExi ((r1[i.toNat]).1.A) (St.mkExi ((r1[i.toNat]).1.c) (St.mkExi ((r1[i.toNat]).2) (St.unsep (St.addPur ⟨(by rw [atR_yes hf (by omega) (by omega)]), (by rw [atR_yes hf (by omega) (by omega)]; exact (at_row hr1_1 (by omega)).symm)⟩ (hw.sub (Sub.keep 0 rfl (Sub.nil _)))))))
set_option maxRecDepth 100000 in
set_option maxHeartbeats 1000000 in
theorem implAreApart_ok (v : Int) (bs : List B3) (v2 : Int) (bs2 : List B3) (A : Option Addr) (c : Nat) (A2 : Option Addr) (c2 : Nat) (w : World) (hx : Rd B3C w A bs) (hx2 : Rd B3C w A2 bs2) (lx : bs.length ≤ 4611686018427387904) (lx2 : bs2.length ≤ 4611686018427387904) : Does Try.prog 19 [.agg #[.int .i64 v, .slice A bs.length c], .agg #[.int .i64 v2, .slice A2 bs2.length c2]] w [] (fun r => [.pur (r = .tuple #[.bool (decide (aaC v bs v2 bs2 = 0 ∧ ApartB bs bs2)), .int .i64 (aaC v bs v2 bs2)])]) := by
  refine Does.enter Try.func19 rfl rfl [(0, .agg #[.int .i64 v, .slice A bs.length c]), (1, .agg #[.int .i64 v2, .slice A2 bs2.length c2])] rfl ?_
  refine V.seq ?_
  refine V.region ?_
  refine O.e rfl rfl rfl (Ef.box rfl rfl rfl) ?_
  rintro _ _ ⟨b1, rfl, rfl⟩
  refine O.e rfl rfl rfl (Ef.box rfl rfl rfl) ?_
  rintro _ _ ⟨b2, rfl, rfl⟩
  refine O.p rfl rfl rfl (Pu.assign rfl rfl) ?_
  refine O.p rfl rfl rfl (Pu.assign rfl rfl) ?_
  refine O.nil ?_
  refine X.next ?_
  refine V.seq ?_
  refine V.block ?_
  refine V.seq ?_
  refine V.region ?_
  refine O.p rfl rfl rfl (Pu.loadAgg rfl ag26 sz26 rfl rfl (Ld.whole 1 rfl)) ?_
  refine O.e rfl rfl rfl (Ef.callP call46 rfl rfl (fun w hw => IsSystem_ok _ bs _ _ w ((Ld.old hx) w hw) (by omega))) ?_
  rintro _ _ ⟨rfl, rfl⟩
  refine O.p rfl rfl rfl (Pu.not rfl rfl) ?_
  refine O.p rfl rfl rfl (Pu.move rfl rfl) ?_
  refine O.splitN 10 rfl (fun c1 => ?_) (fun c1 => ?_)
  · skip
    refine O.gs rfl rfl rfl rfl rfl rfl ?_
    refine O.gs rfl rfl rfl rfl rfl rfl ?_
    refine O.gs rfl rfl rfl rfl rfl rfl ?_
    refine O.p rfl rfl rfl (Pu.pickT rfl rfl rfl) ?_
    refine O.p rfl rfl rfl (Pu.assign rfl rfl) ?_
    refine O.nil ?_
    refine X.next ?_
    refine V.condT rfl ?_
    refine V.seq ?_
    refine V.region ?_
    refine O.p rfl rfl rfl (Pu.assign rfl rfl) ?_
    refine O.p rfl rfl rfl (Pu.assign rfl rfl) ?_
    refine O.nil ?_
    refine X.next ?_
    refine V.ret ?_
    refine X.blockRet ?_
    refine X.thenRet ?_
    refine X.ret2 rfl rfl rfl ?_
    exact fun w hw => St.addPur (by rw [aaC_1 (fun h => c1 h.1)]; simp) (hw.sub (Sub.nil _))
  · skip
    have hl1 := c1.few
    refine O.gp rfl rfl rfl rfl rfl (Pu.loadAgg rfl ag26 sz26 rfl rfl (Ld.whole 0 rfl)) ?_
    refine O.ge rfl rfl rfl rfl rfl (Ef.callP call46 rfl rfl (fun w hw => IsSystem_ok _ bs2 _ _ w ((Ld.old hx2) w hw) (by omega))) ?_
    rintro _ _ ⟨rfl, rfl⟩
    refine O.gp rfl rfl rfl rfl rfl (Pu.not rfl rfl) ?_
    refine O.p rfl rfl rfl (Pu.pickF rfl rfl rfl) ?_
    refine O.p rfl rfl rfl (Pu.assign rfl rfl) ?_
    refine O.nil ?_
    refine X.next ?_
    refine V.condNot rfl (fun c2 => ?_) (fun c2 => ?_)
    · skip
      refine V.seq ?_
      refine V.region ?_
      refine O.p rfl rfl rfl (Pu.assign rfl rfl) ?_
      refine O.p rfl rfl rfl (Pu.assign rfl rfl) ?_
      refine O.nil ?_
      refine X.next ?_
      refine V.ret ?_
      refine X.blockRet ?_
      refine X.thenRet ?_
      refine X.ret2 rfl rfl rfl ?_
      exact fun w hw => St.addPur (by rw [aaC_1 (fun h => c2 h.2)]; simp) (hw.sub (Sub.nil _))
    · skip
      have hl2 := c2.few
      refine V.seq ?_
      refine V.region ?_
      refine O.p rfl rfl rfl (Pu.fieldAddr 0 rfl Try.underlying26 rfl sz2 rfl rfl) ?_
      refine O.p rfl rfl rfl (Pu.load rfl pl2 rfl (Ld.blk 1 rfl rfl)) ?_
      refine O.p rfl rfl rfl (Pu.fieldAddr 0 rfl Try.underlying26 rfl sz2 rfl rfl) ?_
      refine O.p rfl rfl rfl (Pu.load rfl pl2 rfl (Ld.blk 0 rfl rfl)) ?_
      refine O.p rfl rfl rfl (Pu.neq rfl rfl rfl) ?_
      refine O.p rfl rfl rfl (Pu.assign rfl rfl) ?_
      refine O.nil ?_
      refine X.next ?_
      refine V.condNot rfl (fun c3 => ?_) (fun c3 => ?_)
      · skip
        refine V.seq ?_
        refine V.region ?_
        refine O.p rfl rfl rfl (Pu.assign rfl rfl) ?_
        refine O.p rfl rfl rfl (Pu.assign rfl rfl) ?_
        refine O.nil ?_
        refine X.next ?_
        refine V.ret ?_
        refine X.blockRet ?_
        refine X.thenRet ?_
        refine X.ret2 rfl rfl rfl ?_
        exact fun w hw => St.addPur (by rw [aaC_5 c1 c2 c3]; simp) (hw.sub (Sub.nil _))
      · skip
        refine V.skip ?_
        refine X.blockNormal ?_
        refine X.next ?_
        refine V.seq ?_
        refine V.region ?_
        refine O.p rfl rfl rfl (Pu.fieldAddr 1 rfl Try.underlying26 rfl sz24 rfl rfl) ?_
        refine O.p rfl rfl rfl (Pu.load rfl pl24 rfl (Ld.blk 1 rfl rfl)) ?_
        refine O.p rfl rfl rfl (Pu.fieldAddr 1 rfl Try.underlying26 rfl sz24 rfl rfl) ?_
        refine O.p rfl rfl rfl (Pu.load rfl pl24 rfl (Ld.blk 0 rfl rfl)) ?_
        refine O.e rfl rfl rfl (Ef.call1 call41 rfl rfl (fun w hw => implCommon_ok  bs bs2 _ _ _ _ w ((Ld.old hx) w hw) ((Ld.old hx2) w hw) (by first | omega | (simp only [tops_len, conts_len, bl, List.length_append, List.length_cons, List.length_nil] at *; omega)) (by first | omega | (simp only [tops_len, conts_len, bl, List.length_append, List.length_cons, List.length_nil] at *; omega)) )) ?_
        rintro _ _ rfl
        refine O.exi (fun r1A => ?_)
        refine O.exi (fun r1c => ?_)
        refine O.exi (fun r1 => ?_)
        refine O.sep ?_
        refine O.pur ?_
        rintro ⟨rfl, hr1_1⟩
        refine O.p rfl rfl rfl (Pu.len rfl Try.underlying24 rfl) ?_
        refine O.p rfl rfl rfl (Pu.eql rfl rfl rfl) ?_
        refine O.p rfl rfl rfl (Pu.assign rfl rfl) ?_
        refine O.p rfl rfl rfl (Pu.assign rfl rfl) ?_
        refine O.nil ?_
        refine X.next ?_
        refine V.ret ?_
        refine X.ret2 rfl rfl rfl ?_
        exact fun w hw => St.addPur (by rw [aaC_0 c1 c2 c3, hr1_1]; simp [← apart_I]) (hw.sub (Sub.nil _))
set_option maxRecDepth 100000 in
set_option maxHeartbeats 1000000 in
theorem specAreApart_ok (v : Int) (bs : List B3) (v2 : Int) (bs2 : List B3) (A : Option Addr) (c : Nat) (A2 : Option Addr) (c2 : Nat) (w : World) (hx : Rd B3C w A bs) (hx2 : Rd B3C w A2 bs2) (lx : bs.length ≤ 4611686018427387904) (lx2 : bs2.length ≤ 4611686018427387904) : Does Try.prog 20 [.agg #[.int .i64 v, .slice A bs.length c], .agg #[.int .i64 v2, .slice A2 bs2.length c2]] w [] (fun r => [.pur (r = .tuple #[.bool (decide (aaC v bs v2 bs2 = 0 ∧ ApartB bs bs2)), .int .i64 (aaC v bs v2 bs2)])]) := by
  refine Does.enter Try.func20 rfl rfl [(0, .agg #[.int .i64 v, .slice A bs.length c]), (1, .agg #[.int .i64 v2, .slice A2 bs2.length c2])] rfl ?_
  refine V.seq ?_
  refine V.region ?_
  refine O.e rfl rfl rfl (Ef.box rfl rfl rfl) ?_
  rintro _ _ ⟨b1, rfl, rfl⟩
  refine O.e rfl rfl rfl (Ef.box rfl rfl rfl) ?_
  rintro _ _ ⟨b2, rfl, rfl⟩
  refine O.p rfl rfl rfl (Pu.assign rfl rfl) ?_
  refine O.p rfl rfl rfl (Pu.assign rfl rfl) ?_
  refine O.nil ?_
  refine X.next ?_
  refine V.seq ?_
  refine V.block ?_
  refine V.seq ?_
  refine V.region ?_
  refine O.p rfl rfl rfl (Pu.loadAgg rfl ag26 sz26 rfl rfl (Ld.whole 1 rfl)) ?_
  refine O.e rfl rfl rfl (Ef.callP call43 rfl rfl (fun w hw => l01Is_ok _ bs _ _ w ((Ld.old hx) w hw) (by omega))) ?_
  rintro _ _ ⟨rfl, rfl⟩
  refine O.p rfl rfl rfl (Pu.not rfl rfl) ?_
  refine O.p rfl rfl rfl (Pu.move rfl rfl) ?_
  refine O.splitN 10 rfl (fun c1 => ?_) (fun c1 => ?_)
  · skip
    refine O.gs rfl rfl rfl rfl rfl rfl ?_
    refine O.gs rfl rfl rfl rfl rfl rfl ?_
    refine O.gs rfl rfl rfl rfl rfl rfl ?_
    refine O.p rfl rfl rfl (Pu.pickT rfl rfl rfl) ?_
    refine O.p rfl rfl rfl (Pu.assign rfl rfl) ?_
    refine O.nil ?_
    refine X.next ?_
    refine V.condT rfl ?_
    refine V.seq ?_
    refine V.region ?_
    refine O.p rfl rfl rfl (Pu.assign rfl rfl) ?_
    refine O.p rfl rfl rfl (Pu.assign rfl rfl) ?_
    refine O.nil ?_
    refine X.next ?_
    refine V.ret ?_
    refine X.blockRet ?_
    refine X.thenRet ?_
    refine X.ret2 rfl rfl rfl ?_
    exact fun w hw => St.addPur (by rw [aaC_1 (fun h => c1 h.1)]; simp) (hw.sub (Sub.nil _))
  · skip
    have hl1 := c1.few
    refine O.gp rfl rfl rfl rfl rfl (Pu.loadAgg rfl ag26 sz26 rfl rfl (Ld.whole 0 rfl)) ?_
    refine O.ge rfl rfl rfl rfl rfl (Ef.callP call43 rfl rfl (fun w hw => l01Is_ok _ bs2 _ _ w ((Ld.old hx2) w hw) (by omega))) ?_
    rintro _ _ ⟨rfl, rfl⟩
    refine O.gp rfl rfl rfl rfl rfl (Pu.not rfl rfl) ?_
    refine O.p rfl rfl rfl (Pu.pickF rfl rfl rfl) ?_
    refine O.p rfl rfl rfl (Pu.assign rfl rfl) ?_
    refine O.nil ?_
    refine X.next ?_
    refine V.condNot rfl (fun c2 => ?_) (fun c2 => ?_)
    · skip
      refine V.seq ?_
      refine V.region ?_
      refine O.p rfl rfl rfl (Pu.assign rfl rfl) ?_
      refine O.p rfl rfl rfl (Pu.assign rfl rfl) ?_
      refine O.nil ?_
      refine X.next ?_
      refine V.ret ?_
      refine X.blockRet ?_
      refine X.thenRet ?_
      refine X.ret2 rfl rfl rfl ?_
      exact fun w hw => St.addPur (by rw [aaC_1 (fun h => c2 h.2)]; simp) (hw.sub (Sub.nil _))
    · skip
      have hl2 := c2.few
      refine V.seq ?_
      refine V.region ?_
      refine O.p rfl rfl rfl (Pu.fieldAddr 0 rfl Try.underlying26 rfl sz2 rfl rfl) ?_
      refine O.p rfl rfl rfl (Pu.load rfl pl2 rfl (Ld.blk 1 rfl rfl)) ?_
      refine O.p rfl rfl rfl (Pu.fieldAddr 0 rfl Try.underlying26 rfl sz2 rfl rfl) ?_
      refine O.p rfl rfl rfl (Pu.load rfl pl2 rfl (Ld.blk 0 rfl rfl)) ?_
      refine O.p rfl rfl rfl (Pu.neq rfl rfl rfl) ?_
      refine O.p rfl rfl rfl (Pu.assign rfl rfl) ?_
      refine O.nil ?_
      refine X.next ?_
      refine V.condNot rfl (fun c3 => ?_) (fun c3 => ?_)
      · skip
        refine V.seq ?_
        refine V.region ?_
        refine O.p rfl rfl rfl (Pu.assign rfl rfl) ?_
        refine O.p rfl rfl rfl (Pu.assign rfl rfl) ?_
        refine O.nil ?_
        refine X.next ?_
        refine V.ret ?_
        refine X.blockRet ?_
        refine X.thenRet ?_
        refine X.ret2 rfl rfl rfl ?_
        exact fun w hw => St.addPur (by rw [aaC_5 c1 c2 c3]; simp) (hw.sub (Sub.nil _))
      · skip
        refine V.skip ?_
        refine X.blockNormal ?_
        refine X.next ?_
        refine V.seq ?_
        refine V.region ?_
        refine O.p rfl rfl rfl (Pu.loadAgg rfl ag26 sz26 rfl rfl (Ld.whole 1 rfl)) ?_
        refine O.p rfl rfl rfl (Pu.loadAgg rfl ag26 sz26 rfl rfl (Ld.whole 0 rfl)) ?_
        refine O.e rfl rfl rfl (Ef.callP call33 rfl rfl (fun w hw => l10Common_ok  v bs v2 bs2 _ _ _ _ w ((Ld.old hx) w hw) ((Ld.old hx2) w hw) (by first | omega | (simp only [tops_len, conts_len, bl, List.length_append, List.length_cons, List.length_nil] at *; omega)) (by first | omega | (simp only [tops_len, conts_len, bl, List.length_append, List.length_cons, List.length_nil] at *; omega)) (by omega) (by omega))) ?_
        rintro _ _ ⟨rfl, rfl⟩
        refine O.p rfl rfl rfl (Pu.eql rfl rfl rfl) ?_
        refine O.p rfl rfl rfl (Pu.assign rfl rfl) ?_
        refine O.p rfl rfl rfl (Pu.assign rfl rfl) ?_
        refine O.nil ?_
        refine X.next ?_
        refine V.ret ?_
        refine X.ret2 rfl rfl rfl ?_
        exact fun w hw => St.addPur (by rw [aaC_0 c1 c2 c3]; simp [← apart_I]) (hw.sub (Sub.nil _))
set_option maxRecDepth 100000 in
set_option maxHeartbeats 1000000 in
theorem commonBlocksV_ok (v : Int) (bs : List B3) (v2 : Int) (bs2 : List B3) (A : Option Addr) (c : Nat) (A2 : Option Addr) (c2 : Nat) (w : World) (hx : Rd B3C w A bs) (hx2 : Rd B3C w A2 bs2) (lx : bs.length ≤ 4611686018427387904) (lx2 : bs2.length ≤ 4611686018427387904) (hS : STS v bs) (hS2 : STS v2 bs2) (hv : v = v2) : Does Try.prog 21 [.agg #[.int .i64 v, .slice A bs.length c], .agg #[.int .i64 v2, .slice A2 bs2.length c2]] w [] (fun rv_ => [.exi fun (rA : Option Addr) => .exi fun (rc : Nat) => .exi fun (r : List B3) => .sep (.pur (rv_ = .tuple #[.slice rA r.length rc, .int .i64 0] ∧ r = (bs.filter fun b => decide (b ∈ bs2)))) (Own 56 B3C rA rc r)]) := by
  refine Does.enter Try.func21 rfl rfl [(0, .agg #[.int .i64 v, .slice A bs.length c]), (1, .agg #[.int .i64 v2, .slice A2 bs2.length c2])] rfl ?_
  have hl1 := hS.few
  have hl2 := hS2.few
  refine V.seq ?_
  refine V.region ?_
  refine O.e rfl rfl rfl (Ef.box rfl rfl rfl) ?_
  rintro _ _ ⟨b1, rfl, rfl⟩
  refine O.e rfl rfl rfl (Ef.box rfl rfl rfl) ?_
  rintro _ _ ⟨b2, rfl, rfl⟩
  refine O.p rfl rfl rfl (Pu.assign rfl rfl) ?_
  refine O.p rfl rfl rfl (Pu.assign rfl rfl) ?_
  refine O.nil ?_
  refine X.next ?_
  refine V.seq ?_
  refine V.block ?_
  refine V.seq ?_
  refine V.region ?_
  refine O.p rfl rfl rfl (Pu.loadAgg rfl ag26 sz26 rfl rfl (Ld.whole 1 rfl)) ?_
  refine O.e rfl rfl rfl (Ef.callP call46 rfl rfl (fun w hw => IsSystem_ok _ bs _ _ w ((Ld.old hx) w hw) (by omega))) ?_
  rintro _ _ ⟨rfl, rfl⟩
  refine O.p rfl rfl rfl (Pu.not rfl rfl) ?_
  refine O.p rfl rfl rfl (Pu.move rfl rfl) ?_
  refine O.splitN 10 rfl (fun c1 => ?_) (fun c1 => ?_)
  · skip
    exact absurd hS c1
  · skip
    refine O.gp rfl rfl rfl rfl rfl (Pu.loadAgg rfl ag26 sz26 rfl rfl (Ld.whole 0 rfl)) ?_
    refine O.ge rfl rfl rfl rfl rfl (Ef.callP call46 rfl rfl (fun w hw => IsSystem_ok _ bs2 _ _ w ((Ld.old hx2) w hw) (by omega))) ?_
    rintro _ _ ⟨rfl, rfl⟩
    refine O.gp rfl rfl rfl rfl rfl (Pu.not rfl rfl) ?_
    refine O.p rfl rfl rfl (Pu.pickF rfl rfl rfl) ?_
    refine O.p rfl rfl rfl (Pu.assign rfl rfl) ?_
    refine O.nil ?_
    refine X.next ?_
    refine V.condNot rfl (fun c2 => ?_) (fun c2 => ?_)
    · skip
      exact absurd hS2 c2
    · skip
      refine V.seq ?_
      refine V.region ?_
      refine O.p rfl rfl rfl (Pu.fieldAddr 0 rfl Try.underlying26 rfl sz2 rfl rfl) ?_
      refine O.p rfl rfl rfl (Pu.load rfl pl2 rfl (Ld.blk 1 rfl rfl)) ?_
      refine O.p rfl rfl rfl (Pu.fieldAddr 0 rfl Try.underlying26 rfl sz2 rfl rfl) ?_
      refine O.p rfl rfl rfl (Pu.load rfl pl2 rfl (Ld.blk 0 rfl rfl)) ?_
      refine O.p rfl rfl rfl (Pu.neq rfl rfl rfl) ?_
      refine O.p rfl rfl rfl (Pu.assign rfl rfl) ?_
      refine O.nil ?_
      refine X.next ?_
      refine V.condNot rfl (fun c3 => ?_) (fun c3 => ?_)
      · skip
        exact absurd hv c3
      · skip
        refine V.skip ?_
        refine X.blockNormal ?_
        refine X.next ?_
        refine V.seq ?_
        refine V.region ?_
        refine O.p rfl rfl rfl (Pu.fieldAddr 1 rfl Try.underlying26 rfl sz24 rfl rfl) ?_
        refine O.p rfl rfl rfl (Pu.load rfl pl24 rfl (Ld.blk 1 rfl rfl)) ?_
        refine O.p rfl rfl rfl (Pu.fieldAddr 1 rfl Try.underlying26 rfl sz24 rfl rfl) ?_
        refine O.p rfl rfl rfl (Pu.load rfl pl24 rfl (Ld.blk 0 rfl rfl)) ?_
        refine O.e rfl rfl rfl (Ef.call1 call41 rfl rfl (fun w hw => implCommon_ok  bs bs2 _ _ _ _ w ((Ld.old hx) w hw) ((Ld.old hx2) w hw) (by first | omega | (simp only [tops_len, conts_len, bl, List.length_append, List.length_cons, List.length_nil] at *; omega)) (by first | omega | (simp only [tops_len, conts_len, bl, List.length_append, List.length_cons, List.length_nil] at *; omega)) )) ?_
        rintro _ _ rfl
        refine O.exi (fun r1A => ?_)
        refine O.exi (fun r1c => ?_)
        refine O.exi (fun r1 => ?_)
        refine O.sep ?_
        refine O.pur ?_
        rintro ⟨rfl, hr1_1⟩
        refine O.p rfl rfl rfl (Pu.assign rfl rfl) ?_
        refine O.p rfl rfl rfl (Pu.assign rfl rfl) ?_
        refine O.nil ?_
        refine X.next ?_
        refine V.ret ?_
        refine X.ret2 rfl rfl rfl ?_
        exact fun w hw => St.mkExi r1A (St.mkExi r1c (St.mkExi r1 (St.unsep (St.addPur ⟨rfl, hr1_1⟩ (hw.sub (Sub.keep 0 rfl (Sub.nil _)))))))
set_option maxRecDepth 100000 in
set_option maxHeartbeats 1000000 in
theorem implIsFull_ok (v : Int) (bs : List B3) (A : Option Addr) (c : Nat) (w : World) (hx : Rd B3C w A bs) (lx : bs.length ≤ 4611686018427387904) : Does Try.prog 23 [.agg #[.int .i64 v, .slice A bs.length c]] w [] (fun r => [.pur (r = .tuple #[.bool (decide (STS v bs ∧ 6 * (bs.length : Int) = v * (v - 1))), .int .i64 (if STS v bs then 0 else 1)])]) := by
  refine Does.enter Try.func23 rfl rfl [(0, .agg #[.int .i64 v, .slice A bs.length c])] rfl ?_
  refine V.seq ?_
  refine V.region ?_
  refine O.e rfl rfl rfl (Ef.box rfl rfl rfl) ?_
  rintro _ _ ⟨b1, rfl, rfl⟩
  refine O.p rfl rfl rfl (Pu.assign rfl rfl) ?_
  refine O.p rfl rfl rfl (Pu.assign rfl rfl) ?_
  refine O.nil ?_
  refine X.next ?_
  refine V.seq ?_
  refine V.seq ?_
  refine V.region ?_
  refine O.p rfl rfl rfl (Pu.loadAgg rfl ag26 sz26 rfl rfl (Ld.whole 0 rfl)) ?_
  refine O.e rfl rfl rfl (Ef.callP call46 rfl rfl (fun w hw => IsSystem_ok _ bs _ _ w ((Ld.old hx) w hw) (by omega))) ?_
  rintro _ _ ⟨rfl, rfl⟩
  refine O.p rfl rfl rfl (Pu.not rfl rfl) ?_
  refine O.nil ?_
  refine X.next ?_
  refine V.condNot rfl (fun c1 => ?_) (fun c1 => ?_)
  · skip
    refine V.seq ?_
    refine V.region ?_
    refine O.p rfl rfl rfl (Pu.assign rfl rfl) ?_
    refine O.p rfl rfl rfl (Pu.assign rfl rfl) ?_
    refine O.nil ?_
    refine X.next ?_
    refine V.ret ?_
    refine X.thenRet ?_
    refine X.ret2 rfl rfl rfl ?_
    exact fun w hw => St.addPur (by rw [if_neg c1]; simp [c1]) (hw.sub (Sub.nil _))
  · skip
    have hmul := sts_mul c1
    have hlo := c1.lo
    have hhi := c1.hi
    have hfw := c1.few
    refine V.skip ?_
    refine X.next ?_
    refine V.seq ?_
    refine V.region ?_
    refine O.p rfl rfl rfl (Pu.loadAgg rfl ag26 sz26 rfl rfl (Ld.whole 0 rfl)) ?_
    refine O.e rfl rfl rfl (Ef.callP call47 rfl rfl (fun w hw => isFullI_ok  v bs _ _ w ((Ld.old hx) w hw) (by first | omega | (simp only [tops_len, conts_len, bl, List.length_append, List.length_cons, List.length_nil] at *; omega)) (by first | assumption | omega | (try dsimp only at *; omega)) (by first | assumption | omega | (try dsimp only at *; omega)) (by first | assumption | omega | (try dsimp only at *; omega)))) ?_
    rintro _ _ ⟨rfl, rfl⟩
    refine O.p rfl rfl rfl (Pu.assign rfl rfl) ?_
    refine O.p rfl rfl rfl (Pu.assign rfl rfl) ?_
    refine O.nil ?_
    refine X.next ?_
    refine V.ret ?_
    refine X.ret2 rfl rfl rfl ?_
    exact fun w hw => St.addPur (by rw [if_pos c1]; simp [c1]) (hw.sub (Sub.nil _))
set_option maxRecDepth 100000 in
set_option maxHeartbeats 1000000 in
theorem FnSystemsOfFewPoints_ok (code : List UInt8) (codeA : Option Addr) (codec : Nat) (w : World) (hcode : Rd U8C w codeA code) (lcode : code.length ≤ 9223372036854775807) : Does Try.prog 3 [.slice codeA code.length codec] w [] (fun r => [.pur (r = .bool true)]) := by
  refine Does.enter Try.func3 rfl rfl [(0, .slice codeA code.length codec)] rfl ?_
  refine V.seq ?_
  refine V.region ?_
  refine O.p rfl rfl rfl (Pu.assign rfl rfl) ?_
  refine O.nil ?_
  refine X.next ?_
  refine V.seq ?_
  refine V.seq ?_
  refine V.region ?_
  refine O.p rfl rfl rfl (Pu.move rfl rfl) ?_
  refine O.e rfl rfl rfl (Ef.callP call4 rfl rfl (fun w hw => big_ok  code _ _ w ((Ld.old hcode) w hw) (by first | omega | (simp only [tops_len, conts_len, bl, List.length_append, List.length_cons, List.length_nil] at *; omega)) )) ?_
  rintro _ _ ⟨rfl, rfl⟩
  refine O.nil ?_
  refine X.next ?_
  refine V.condD rfl (fun c1 => ?_) (fun c1 => ?_)
  · skip
    refine V.seq ?_
    refine V.region ?_
    refine O.p rfl rfl rfl (Pu.assign rfl rfl) ?_
    refine O.nil ?_
    refine X.next ?_
    refine V.ret ?_
    refine X.thenRet ?_
    refine X.ret1 rfl rfl ?_
    exact fun w hw => St.retP rfl hw
  · skip
    have lc : code.length ≤ 1048576 := by omega
    refine V.skip ?_
    refine X.next ?_
    refine V.seq ?_
    refine V.region ?_
    refine O.p rfl rfl rfl (Pu.move rfl rfl) ?_
    refine O.e rfl rfl rfl (Ef.call1 call5 rfl rfl (fun w hw => DrawNumberOfSystem_ok  code _ _ w ((Ld.old hcode) w hw) (by first | omega | (simp only [tops_len, conts_len, bl, List.length_append, List.length_cons, List.length_nil] at *; omega)) (by first | assumption | omega | (try dsimp only at *; omega)))) ?_
    rintro _ _ rfl
    refine O.exi (fun pv1 => ?_)
    refine O.exi (fun r1A => ?_)
    refine O.exi (fun r1c => ?_)
    refine O.exi (fun r1 => ?_)
    refine O.sep ?_
    refine O.pur ?_
    rintro ⟨rfl, hpv1_1⟩
    refine O.e rfl rfl rfl (Ef.alloc rfl zr26 rfl) ?_
    rintro _ _ ⟨b1, rfl, rfl⟩
    refine O.s rfl rfl (Ef.storeAll 0 rfl sz26 rfl rfl rfl rfl (by simp [Value.oneCell']) rfl) ?_
    rintro _ _ rfl
    refine O.nil ?_
    refine X.next ?_
    refine V.seq ?_
    refine V.region ?_
    refine O.p rfl rfl rfl (Pu.loadAgg rfl ag26 sz26 rfl rfl (Ld.whole 0 rfl)) ?_
    refine O.e rfl rfl rfl (Ef.call1 call6 rfl rfl (fun w hw => implNumberOfSystem_ok  pv1 r1 _ _ w ((Ld.own 1 (by exact rfl)) w hw) (by first | omega | (simp only [tops_len, conts_len, bl, List.length_append, List.length_cons, List.length_nil] at *; omega)) )) ?_
    rintro _ _ rfl
    refine O.exi (fun r2 => ?_)
    refine O.exi (fun code1 => ?_)
    refine O.pur ?_
    rintro ⟨rfl, hr2_1⟩
    refine O.p rfl rfl rfl (Pu.move rfl rfl) ?_
    refine O.p rfl rfl rfl (Pu.extract rfl rfl rfl) ?_
    refine O.p rfl rfl rfl (Pu.extract rfl rfl rfl) ?_
    refine O.p rfl rfl rfl (Pu.assign rfl rfl) ?_
    refine O.p rfl rfl rfl (Pu.assign rfl rfl) ?_
    refine O.nil ?_
    refine X.next ?_
    refine V.seq ?_
    refine V.seq ?_
    refine V.region ?_
    refine O.p rfl rfl rfl (Pu.loadAgg rfl ag26 sz26 rfl rfl (Ld.whole 0 rfl)) ?_
    refine O.e rfl rfl rfl (Ef.call1 call7 rfl rfl (fun w hw => specNumberOfSystem_ok  pv1 r1 _ _ w ((Ld.own 1 (by exact rfl)) w hw) (by first | omega | (simp only [tops_len, conts_len, bl, List.length_append, List.length_cons, List.length_nil] at *; omega)) )) ?_
    rintro _ _ rfl
    refine O.exi (fun r3 => ?_)
    refine O.exi (fun code2 => ?_)
    refine O.pur ?_
    rintro ⟨rfl, hr3_1⟩
    have hn1 := NOS.unique hr2_1 hr3_1
    have hn2 := hn1.1
    have hn3 := hn1.2
    refine O.p rfl rfl rfl (Pu.move rfl rfl) ?_
    refine O.p rfl rfl rfl (Pu.extract rfl rfl rfl) ?_
    refine O.p rfl rfl rfl (Pu.extract rfl rfl rfl) ?_
    refine O.p rfl rfl rfl (Pu.assign rfl rfl) ?_
    refine O.p rfl rfl rfl (Pu.assign rfl rfl) ?_
    refine O.nil ?_
    refine X.next ?_
    refine V.seq ?_
    refine V.region ?_
    refine O.p rfl rfl rfl (Pu.move rfl rfl) ?_
    refine O.p rfl rfl rfl (Pu.move rfl rfl) ?_
    refine O.p rfl rfl rfl (Pu.neq rfl rfl rfl) ?_
    refine O.p rfl rfl rfl (Pu.move rfl rfl) ?_
    refine O.splitN 55 rfl (fun c2 => ?_) (fun c2 => ?_)
    · skip
      refine O.gs rfl rfl rfl rfl rfl rfl ?_
      refine O.gs rfl rfl rfl rfl rfl rfl ?_
      refine O.gs rfl rfl rfl rfl rfl rfl ?_
      refine O.p rfl rfl rfl (Pu.pickT rfl rfl rfl) ?_
      refine O.nil ?_
      refine X.next ?_
      refine V.condT rfl ?_
      refine V.seq ?_
      refine V.region ?_
      refine O.p rfl rfl rfl (Pu.assign rfl rfl) ?_
      refine O.nil ?_
      refine X.next ?_
      refine V.ret ?_
      refine X.thenRet ?_
      refine X.ret1 rfl rfl ?_
      exact absurd (by first | assumption | rfl | exact ⟨rfl, rfl⟩ | exact ⟨rfl, by assumption⟩ | exact ⟨⟨rfl, by assumption⟩, rfl, by assumption⟩ | omega | (simp only [*]; done) | (rw [rfl])) c2
    · skip
      refine O.gp rfl rfl rfl rfl rfl (Pu.move rfl rfl) ?_
      refine O.gp rfl rfl rfl rfl rfl (Pu.move rfl rfl) ?_
      refine O.gp rfl rfl rfl rfl rfl (Pu.neq rfl rfl rfl) ?_
      refine O.p rfl rfl rfl (Pu.pickF rfl rfl rfl) ?_
      refine O.nil ?_
      refine X.next ?_
      refine V.condNot rfl (fun c3 => ?_) (fun c3 => ?_)
      · skip
        refine V.seq ?_
        refine V.region ?_
        refine O.p rfl rfl rfl (Pu.assign rfl rfl) ?_
        refine O.nil ?_
        refine X.next ?_
        refine V.ret ?_
        refine X.thenRet ?_
        refine X.ret1 rfl rfl ?_
        exact absurd (by first | assumption | rfl | exact ⟨rfl, rfl⟩ | exact ⟨rfl, by assumption⟩ | exact ⟨⟨rfl, by assumption⟩, rfl, by assumption⟩ | omega | (simp only [*]; done) | (rw [rfl])) c3
      · skip
        refine V.skip ?_
        refine X.next ?_
        refine V.seq ?_
        refine V.region ?_
        refine O.p rfl rfl rfl (Pu.move rfl rfl) ?_
        refine O.e rfl rfl rfl (Ef.call1 call8 rfl rfl (fun w hw => DrawSystemAt_ok  code _ _ w ((Ld.old hcode) w hw) (by first | omega | (simp only [tops_len, conts_len, bl, List.length_append, List.length_cons, List.length_nil] at *; omega)) (by first | assumption | omega | (try dsimp only at *; omega)))) ?_
        rintro _ _ rfl
        refine O.exi (fun a1 => ?_)
        refine O.exi (fun b2 => ?_)
        refine O.pur ?_
        rintro rfl
        refine O.p rfl rfl rfl (Pu.move rfl rfl) ?_
        refine O.p rfl rfl rfl (Pu.extract rfl rfl rfl) ?_
        refine O.p rfl rfl rfl (Pu.extract rfl rfl rfl) ?_
        refine O.p rfl rfl rfl (Pu.assign rfl rfl) ?_
        refine O.p rfl rfl rfl (Pu.assign rfl rfl) ?_
        refine O.nil ?_
        refine X.next ?_
        refine V.seq ?_
        refine V.region ?_
        refine O.p rfl rfl rfl (Pu.move rfl rfl) ?_
        refine O.p rfl rfl rfl (Pu.move rfl rfl) ?_
        refine O.e rfl rfl rfl (Ef.call1 call9 rfl rfl (fun w hw => implSystemAt_ok  a1 b2 w   )) ?_
        rintro _ _ rfl
        refine O.exi (fun o1A => ?_)
        refine O.exi (fun o1c => ?_)
        refine O.exi (fun o1 => ?_)
        refine O.sep ?_
        refine O.pur ?_
        rintro ⟨rfl, ho1_1⟩
        have hlo1 : o1.length ≤ 40 := by rw [ho1_1]; exact atR_len
        refine O.p rfl rfl rfl (Pu.move rfl rfl) ?_
        refine O.p rfl rfl rfl (Pu.extract rfl rfl rfl) ?_
        refine O.p rfl rfl rfl (Pu.extract rfl rfl rfl) ?_
        refine O.e rfl rfl rfl (Ef.alloc rfl zr26 rfl) ?_
        rintro _ _ ⟨b3, rfl, rfl⟩
        refine O.s rfl rfl (Ef.storeAll 0 rfl sz26 rfl rfl rfl rfl (by simp [Value.oneCell']) rfl) ?_
        rintro _ _ rfl
        refine O.p rfl rfl rfl (Pu.assign rfl rfl) ?_
        refine O.nil ?_
        refine X.next ?_
        refine V.seq ?_
        refine V.seq ?_
        refine V.region ?_
        refine O.p rfl rfl rfl (Pu.move rfl rfl) ?_
        refine O.p rfl rfl rfl (Pu.move rfl rfl) ?_
        refine O.e rfl rfl rfl (Ef.call1 call10 rfl rfl (fun w hw => specSystemAt_ok  a1 b2 w   )) ?_
        rintro _ _ rfl
        refine O.exi (fun o2A => ?_)
        refine O.exi (fun o2c => ?_)
        refine O.exi (fun o2 => ?_)
        refine O.sep ?_
        refine O.pur ?_
        rintro ⟨rfl, ho2_1⟩
        have hlo2 : o2.length ≤ 40 := by rw [ho2_1]; exact atR_len
        have heqo2 : o1 = o2 := ho1_1.trans ho2_1.symm
        refine O.p rfl rfl rfl (Pu.move rfl rfl) ?_
        refine O.p rfl rfl rfl (Pu.extract rfl rfl rfl) ?_
        refine O.p rfl rfl rfl (Pu.extract rfl rfl rfl) ?_
        refine O.e rfl rfl rfl (Ef.alloc rfl zr26 rfl) ?_
        rintro _ _ ⟨b4, rfl, rfl⟩
        refine O.s rfl rfl (Ef.storeAll 0 rfl sz26 rfl rfl rfl rfl (by simp [Value.oneCell']) rfl) ?_
        rintro _ _ rfl
        refine O.p rfl rfl rfl (Pu.assign rfl rfl) ?_
        refine O.nil ?_
        refine X.next ?_
        refine V.seq ?_
        refine V.region ?_
        refine O.p rfl rfl rfl (Pu.move rfl rfl) ?_
        refine O.p rfl rfl rfl (Pu.move rfl rfl) ?_
        refine O.p rfl rfl rfl (Pu.neq rfl rfl rfl) ?_
        refine O.p rfl rfl rfl (Pu.move rfl rfl) ?_
        refine O.splitN 80 rfl (fun c4 => ?_) (fun c4 => ?_)
        · skip
          refine O.gs rfl rfl rfl rfl rfl rfl ?_
          refine O.gs rfl rfl rfl rfl rfl rfl ?_
          refine O.gs rfl rfl rfl rfl rfl rfl ?_
          refine O.gs rfl rfl rfl rfl rfl rfl ?_
          refine O.p rfl rfl rfl (Pu.pickT rfl rfl rfl) ?_
          refine O.nil ?_
          refine X.next ?_
          refine V.condT rfl ?_
          refine V.seq ?_
          refine V.region ?_
          refine O.p rfl rfl rfl (Pu.assign rfl rfl) ?_
          refine O.nil ?_
          refine X.next ?_
          refine V.ret ?_
          refine X.thenRet ?_
          refine X.ret1 rfl rfl ?_
          exact absurd (by first | assumption | rfl | exact ⟨rfl, rfl⟩ | exact ⟨rfl, by assumption⟩ | exact ⟨⟨rfl, by assumption⟩, rfl, by assumption⟩ | omega | (simp only [*]; done) | (rw [rfl])) c4
        · skip
          refine O.gp rfl rfl rfl rfl rfl (Pu.loadAgg rfl ag26 sz26 rfl rfl (Ld.whole 2 rfl)) ?_
          refine O.gp rfl rfl rfl rfl rfl (Pu.loadAgg rfl ag26 sz26 rfl rfl (Ld.whole 0 rfl)) ?_
          refine O.ge rfl rfl rfl rfl rfl (Ef.callP call11 rfl rfl (fun w hw => system9_ok  ((atR a1 b2).1) o1 ((atR a1 b2).1) o2 _ _ _ _ w ((Ld.own 3 (by exact rfl)) w hw) ((Ld.own 1 (by exact rfl)) w hw) (by first | omega | (simp only [tops_len, conts_len, bl, List.length_append, List.length_cons, List.length_nil] at *; omega)) (by first | omega | (simp only [tops_len, conts_len, bl, List.length_append, List.length_cons, List.length_nil] at *; omega)) )) ?_
          rintro _ _ ⟨rfl, rfl⟩
          refine O.gp rfl rfl rfl rfl rfl (Pu.not rfl rfl) ?_
          refine O.p rfl rfl rfl (Pu.pickF rfl rfl rfl) ?_
          refine O.nil ?_
          refine X.next ?_
          refine V.condNot rfl (fun c5 => ?_) (fun c5 => ?_)
          · skip
            refine V.seq ?_
            refine V.region ?_
            refine O.p rfl rfl rfl (Pu.assign rfl rfl) ?_
            refine O.nil ?_
            refine X.next ?_
            refine V.ret ?_
            refine X.thenRet ?_
            refine X.ret1 rfl rfl ?_
            exact absurd (by first | assumption | rfl | exact ⟨rfl, rfl⟩ | exact ⟨rfl, by assumption⟩ | exact ⟨⟨rfl, by assumption⟩, rfl, by assumption⟩ | omega | (simp only [*]; done) | (rw [rfl])) c5
          · skip
            refine V.skip ?_
            refine X.next ?_
            refine V.seq ?_
            refine V.region ?_
            refine O.p rfl rfl rfl (Pu.move rfl rfl) ?_
            refine O.e rfl rfl rfl (Ef.call1 call12 rfl rfl (fun w hw => DrawCommonNumbers_ok  code _ _ w ((Ld.old hcode) w hw) (by first | omega | (simp only [tops_len, conts_len, bl, List.length_append, List.length_cons, List.length_nil] at *; omega)) (by first | assumption | omega | (try dsimp only at *; omega)))) ?_
            rintro _ _ rfl
            refine O.exi (fun pv2 => ?_)
            refine O.exi (fun r4A => ?_)
            refine O.exi (fun r4c => ?_)
            refine O.exi (fun r4 => ?_)
            refine O.sep ?_
            refine O.pur ?_
            rintro ⟨rfl, hpv2_1⟩
            refine O.e rfl rfl rfl (Ef.alloc rfl zr26 rfl) ?_
            rintro _ _ ⟨b5, rfl, rfl⟩
            refine O.s rfl rfl (Ef.storeAll 0 rfl sz26 rfl rfl rfl rfl (by simp [Value.oneCell']) rfl) ?_
            rintro _ _ rfl
            refine O.nil ?_
            refine X.next ?_
            refine V.seq ?_
            refine V.region ?_
            refine O.p rfl rfl rfl (Pu.loadAgg rfl ag26 sz26 rfl rfl (Ld.whole 0 rfl)) ?_
            refine O.e rfl rfl rfl (Ef.call1 call13 rfl rfl (fun w hw => implCommonNumbers_ok  pv2 r4 _ _ w ((Ld.own 1 (by exact rfl)) w hw) (by first | omega | (simp only [tops_len, conts_len, bl, List.length_append, List.length_cons, List.length_nil] at *; omega)) )) ?_
            rintro _ _ rfl
            refine O.exi (fun o3A => ?_)
            refine O.exi (fun o3c => ?_)
            refine O.exi (fun o3 => ?_)
            refine O.sep ?_
            refine O.pur ?_
            rintro ⟨rfl, ho3_1⟩
            have hlo3 : o3.length ≤ r4.length + 1 := by rw [ho3_1]; exact cmR_len
            refine O.p rfl rfl rfl (Pu.move rfl rfl) ?_
            refine O.p rfl rfl rfl (Pu.extract rfl rfl rfl) ?_
            refine O.p rfl rfl rfl (Pu.extract rfl rfl rfl) ?_
            refine O.p rfl rfl rfl (Pu.assign rfl rfl) ?_
            refine O.p rfl rfl rfl (Pu.assign rfl rfl) ?_
            refine O.nil ?_
            refine X.next ?_
            refine V.seq ?_
            refine V.seq ?_
            refine V.region ?_
            refine O.p rfl rfl rfl (Pu.loadAgg rfl ag26 sz26 rfl rfl (Ld.whole 1 rfl)) ?_
            refine O.e rfl rfl rfl (Ef.call1 call14 rfl rfl (fun w hw => specCommonNumbers_ok  pv2 r4 _ _ w ((Ld.own 2 (by exact rfl)) w hw) (by first | omega | (simp only [tops_len, conts_len, bl, List.length_append, List.length_cons, List.length_nil] at *; omega)) )) ?_
            rintro _ _ rfl
            refine O.exi (fun o4A => ?_)
            refine O.exi (fun o4c => ?_)
            refine O.exi (fun o4 => ?_)
            refine O.sep ?_
            refine O.pur ?_
            rintro ⟨rfl, ho4_1⟩
            have hlo4 : o4.length ≤ r4.length + 1 := by rw [ho4_1]; exact cmR_len
            have heqo4 : o3 = o4 := ho3_1.trans ho4_1.symm
            refine O.p rfl rfl rfl (Pu.move rfl rfl) ?_
            refine O.p rfl rfl rfl (Pu.extract rfl rfl rfl) ?_
            refine O.p rfl rfl rfl (Pu.extract rfl rfl rfl) ?_
            refine O.p rfl rfl rfl (Pu.assign rfl rfl) ?_
            refine O.p rfl rfl rfl (Pu.assign rfl rfl) ?_
            refine O.nil ?_
            refine X.next ?_
            refine V.seq ?_
            refine V.region ?_
            refine O.p rfl rfl rfl (Pu.move rfl rfl) ?_
            refine O.p rfl rfl rfl (Pu.move rfl rfl) ?_
            refine O.p rfl rfl rfl (Pu.neq rfl rfl rfl) ?_
            refine O.p rfl rfl rfl (Pu.move rfl rfl) ?_
            refine O.splitN 101 rfl (fun c6 => ?_) (fun c6 => ?_)
            · skip
              refine O.gs rfl rfl rfl rfl rfl rfl ?_
              refine O.gs rfl rfl rfl rfl rfl rfl ?_
              refine O.gs rfl rfl rfl rfl rfl rfl ?_
              refine O.gs rfl rfl rfl rfl rfl rfl ?_
              refine O.p rfl rfl rfl (Pu.pickT rfl rfl rfl) ?_
              refine O.nil ?_
              refine X.next ?_
              refine V.condT rfl ?_
              refine V.seq ?_
              refine V.region ?_
              refine O.p rfl rfl rfl (Pu.assign rfl rfl) ?_
              refine O.nil ?_
              refine X.next ?_
              refine V.ret ?_
              refine X.thenRet ?_
              refine X.ret1 rfl rfl ?_
              exact absurd (by first | assumption | rfl | exact ⟨rfl, rfl⟩ | exact ⟨rfl, by assumption⟩ | exact ⟨⟨rfl, by assumption⟩, rfl, by assumption⟩ | omega | (simp only [*]; done) | (rw [rfl])) c6
            · skip
              refine O.gp rfl rfl rfl rfl rfl (Pu.move rfl rfl) ?_
              refine O.gp rfl rfl rfl rfl rfl (Pu.move rfl rfl) ?_
              refine O.ge rfl rfl rfl rfl rfl (Ef.callP call15 rfl rfl (fun w hw => likeInts_ok  o3 o4 _ _ _ _ w ((Ld.own 1 (by exact rfl)) w hw) ((Ld.own 0 (by exact rfl)) w hw) (by first | omega | (simp only [tops_len, conts_len, bl, List.length_append, List.length_cons, List.length_nil] at *; omega)) (by first | omega | (simp only [tops_len, conts_len, bl, List.length_append, List.length_cons, List.length_nil] at *; omega)) )) ?_
              rintro _ _ ⟨rfl, rfl⟩
              refine O.gp rfl rfl rfl rfl rfl (Pu.not rfl rfl) ?_
              refine O.p rfl rfl rfl (Pu.pickF rfl rfl rfl) ?_
              refine O.nil ?_
              refine X.next ?_
              refine V.condNot rfl (fun c7 => ?_) (fun c7 => ?_)
              · skip
                refine V.seq ?_
                refine V.region ?_
                refine O.p rfl rfl rfl (Pu.assign rfl rfl) ?_
                refine O.nil ?_
                refine X.next ?_
                refine V.ret ?_
                refine X.thenRet ?_
                refine X.ret1 rfl rfl ?_
                exact absurd (by first | assumption | rfl | exact ⟨rfl, rfl⟩ | exact ⟨rfl, by assumption⟩ | exact ⟨⟨rfl, by assumption⟩, rfl, by assumption⟩ | omega | (simp only [*]; done) | (rw [rfl])) c7
              · skip
                refine V.skip ?_
                refine X.next ?_
                refine V.seq ?_
                refine V.region ?_
                refine O.p rfl rfl rfl (Pu.loadAgg rfl ag26 sz26 rfl rfl (Ld.whole 2 rfl)) ?_
                refine O.e rfl rfl rfl (Ef.call1 call16 rfl rfl (fun w hw => implFirstApart_ok  pv2 r4 _ _ w ((Ld.own 3 (by exact rfl)) w hw) (by first | omega | (simp only [tops_len, conts_len, bl, List.length_append, List.length_cons, List.length_nil] at *; omega)) )) ?_
                rintro _ _ rfl
                refine O.exi (fun o5A => ?_)
                refine O.exi (fun o5c => ?_)
                refine O.exi (fun o5 => ?_)
                refine O.sep ?_
                refine O.pur ?_
                rintro ⟨rfl, ho5_1⟩
                have hlo5 : o5.length ≤ 40 := by rw [ho5_1]; exact apR_len
                refine O.p rfl rfl rfl (Pu.move rfl rfl) ?_
                refine O.p rfl rfl rfl (Pu.extract rfl rfl rfl) ?_
                refine O.p rfl rfl rfl (Pu.extract rfl rfl rfl) ?_
                refine O.e rfl rfl rfl (Ef.alloc rfl zr26 rfl) ?_
                rintro _ _ ⟨b6, rfl, rfl⟩
                refine O.s rfl rfl (Ef.storeAll 0 rfl sz26 rfl rfl rfl rfl (by simp [Value.oneCell']) rfl) ?_
                rintro _ _ rfl
                refine O.p rfl rfl rfl (Pu.assign rfl rfl) ?_
                refine O.nil ?_
                refine X.next ?_
                refine V.seq ?_
                refine V.seq ?_
                refine V.region ?_
                refine O.p rfl rfl rfl (Pu.loadAgg rfl ag26 sz26 rfl rfl (Ld.whole 4 rfl)) ?_
                refine O.e rfl rfl rfl (Ef.call1 call17 rfl rfl (fun w hw => specFirstApart_ok  pv2 r4 _ _ w ((Ld.own 5 (by exact rfl)) w hw) (by first | omega | (simp only [tops_len, conts_len, bl, List.length_append, List.length_cons, List.length_nil] at *; omega)) )) ?_
                rintro _ _ rfl
                refine O.exi (fun o6A => ?_)
                refine O.exi (fun o6c => ?_)
                refine O.exi (fun o6 => ?_)
                refine O.sep ?_
                refine O.pur ?_
                rintro ⟨rfl, ho6_1⟩
                have hlo6 : o6.length ≤ 40 := by rw [ho6_1]; exact apR_len
                have heqo6 : o5 = o6 := ho5_1.trans ho6_1.symm
                refine O.p rfl rfl rfl (Pu.move rfl rfl) ?_
                refine O.p rfl rfl rfl (Pu.extract rfl rfl rfl) ?_
                refine O.p rfl rfl rfl (Pu.extract rfl rfl rfl) ?_
                refine O.e rfl rfl rfl (Ef.alloc rfl zr26 rfl) ?_
                rintro _ _ ⟨b7, rfl, rfl⟩
                refine O.s rfl rfl (Ef.storeAll 0 rfl sz26 rfl rfl rfl rfl (by simp [Value.oneCell']) rfl) ?_
                rintro _ _ rfl
                refine O.p rfl rfl rfl (Pu.assign rfl rfl) ?_
                refine O.nil ?_
                refine X.next ?_
                refine V.seq ?_
                refine V.region ?_
                refine O.p rfl rfl rfl (Pu.move rfl rfl) ?_
                refine O.p rfl rfl rfl (Pu.move rfl rfl) ?_
                refine O.p rfl rfl rfl (Pu.neq rfl rfl rfl) ?_
                refine O.p rfl rfl rfl (Pu.move rfl rfl) ?_
                refine O.splitN 120 rfl (fun c8 => ?_) (fun c8 => ?_)
                · skip
                  refine O.gs rfl rfl rfl rfl rfl rfl ?_
                  refine O.gs rfl rfl rfl rfl rfl rfl ?_
                  refine O.gs rfl rfl rfl rfl rfl rfl ?_
                  refine O.gs rfl rfl rfl rfl rfl rfl ?_
                  refine O.p rfl rfl rfl (Pu.pickT rfl rfl rfl) ?_
                  refine O.nil ?_
                  refine X.next ?_
                  refine V.condT rfl ?_
                  refine V.seq ?_
                  refine V.region ?_
                  refine O.p rfl rfl rfl (Pu.assign rfl rfl) ?_
                  refine O.nil ?_
                  refine X.next ?_
                  refine V.ret ?_
                  refine X.thenRet ?_
                  refine X.ret1 rfl rfl ?_
                  exact absurd (by first | assumption | rfl | exact ⟨rfl, rfl⟩ | exact ⟨rfl, by assumption⟩ | exact ⟨⟨rfl, by assumption⟩, rfl, by assumption⟩ | omega | (simp only [*]; done) | (rw [rfl])) c8
                · skip
                  refine O.gp rfl rfl rfl rfl rfl (Pu.loadAgg rfl ag26 sz26 rfl rfl (Ld.whole 2 rfl)) ?_
                  refine O.gp rfl rfl rfl rfl rfl (Pu.loadAgg rfl ag26 sz26 rfl rfl (Ld.whole 0 rfl)) ?_
                  refine O.ge rfl rfl rfl rfl rfl (Ef.callP call11 rfl rfl (fun w hw => system9_ok  ((apR pv2 r4).1) o5 ((apR pv2 r4).1) o6 _ _ _ _ w ((Ld.own 3 (by exact rfl)) w hw) ((Ld.own 1 (by exact rfl)) w hw) (by first | omega | (simp only [tops_len, conts_len, bl, List.length_append, List.length_cons, List.length_nil] at *; omega)) (by first | omega | (simp only [tops_len, conts_len, bl, List.length_append, List.length_cons, List.length_nil] at *; omega)) )) ?_
                  rintro _ _ ⟨rfl, rfl⟩
                  refine O.gp rfl rfl rfl rfl rfl (Pu.not rfl rfl) ?_
                  refine O.p rfl rfl rfl (Pu.pickF rfl rfl rfl) ?_
                  refine O.nil ?_
                  refine X.next ?_
                  refine V.condNot rfl (fun c9 => ?_) (fun c9 => ?_)
                  · skip
                    refine V.seq ?_
                    refine V.region ?_
                    refine O.p rfl rfl rfl (Pu.assign rfl rfl) ?_
                    refine O.nil ?_
                    refine X.next ?_
                    refine V.ret ?_
                    refine X.thenRet ?_
                    refine X.ret1 rfl rfl ?_
                    exact absurd (by first | assumption | rfl | exact ⟨rfl, rfl⟩ | exact ⟨rfl, by assumption⟩ | exact ⟨⟨rfl, by assumption⟩, rfl, by assumption⟩ | omega | (simp only [*]; done) | (rw [rfl])) c9
                  · skip
                    refine V.skip ?_
                    refine X.next ?_
                    refine V.seq ?_
                    refine V.region ?_
                    refine O.p rfl rfl rfl (Pu.move rfl rfl) ?_
                    refine O.e rfl rfl rfl (Ef.call1 call18 rfl rfl (fun w hw => DrawAreApart_ok  code _ _ w ((Ld.old hcode) w hw) (by first | omega | (simp only [tops_len, conts_len, bl, List.length_append, List.length_cons, List.length_nil] at *; omega)) (by first | assumption | omega | (try dsimp only at *; omega)))) ?_
                    rintro _ _ rfl
                    refine O.exi (fun pv3 => ?_)
                    refine O.exi (fun r5A => ?_)
                    refine O.exi (fun r5c => ?_)
                    refine O.exi (fun r5 => ?_)
                    refine O.exi (fun pu1 => ?_)
                    refine O.exi (fun q1A => ?_)
                    refine O.exi (fun q1c => ?_)
                    refine O.exi (fun q1 => ?_)
                    refine O.sep ?_
                    refine O.pur ?_
                    rintro ⟨rfl, hpv3_1, hpv3_2⟩
                    refine O.sep ?_
                    refine O.p rfl rfl rfl (Pu.move rfl rfl) ?_
                    refine O.p rfl rfl rfl (Pu.extract rfl rfl rfl) ?_
                    refine O.p rfl rfl rfl (Pu.extract rfl rfl rfl) ?_
                    refine O.e rfl rfl rfl (Ef.alloc rfl zr26 rfl) ?_
                    rintro _ _ ⟨b8, rfl, rfl⟩
                    refine O.e rfl rfl rfl (Ef.alloc rfl zr26 rfl) ?_
                    rintro _ _ ⟨b9, rfl, rfl⟩
                    refine O.s rfl rfl (Ef.storeAll 1 rfl sz26 rfl rfl rfl rfl (by simp [Value.oneCell']) rfl) ?_
                    rintro _ _ rfl
                    refine O.s rfl rfl (Ef.storeAll 0 rfl sz26 rfl rfl rfl rfl (by simp [Value.oneCell']) rfl) ?_
                    rintro _ _ rfl
                    refine O.nil ?_
                    refine X.next ?_
                    refine V.seq ?_
                    refine V.region ?_
                    refine O.p rfl rfl rfl (Pu.loadAgg rfl ag26 sz26 rfl rfl (Ld.whole 1 rfl)) ?_
                    refine O.p rfl rfl rfl (Pu.loadAgg rfl ag26 sz26 rfl rfl (Ld.whole 0 rfl)) ?_
                    refine O.e rfl rfl rfl (Ef.callP call19 rfl rfl (fun w hw => implAreApart_ok  pv3 r5 pu1 q1 _ _ _ _ w ((Ld.own 2 (by exact rfl)) w hw) ((Ld.own 3 (by exact rfl)) w hw) (by first | omega | (simp only [tops_len, conts_len, bl, List.length_append, List.length_cons, List.length_nil] at *; omega)) (by first | omega | (simp only [tops_len, conts_len, bl, List.length_append, List.length_cons, List.length_nil] at *; omega)) )) ?_
                    rintro _ _ ⟨rfl, rfl⟩
                    refine O.p rfl rfl rfl (Pu.move rfl rfl) ?_
                    refine O.p rfl rfl rfl (Pu.extract rfl rfl rfl) ?_
                    refine O.p rfl rfl rfl (Pu.extract rfl rfl rfl) ?_
                    refine O.p rfl rfl rfl (Pu.assign rfl rfl) ?_
                    refine O.p rfl rfl rfl (Pu.assign rfl rfl) ?_
                    refine O.nil ?_
                    refine X.next ?_
                    refine V.seq ?_
                    refine V.seq ?_
                    refine V.region ?_
                    refine O.p rfl rfl rfl (Pu.loadAgg rfl ag26 sz26 rfl rfl (Ld.whole 1 rfl)) ?_
                    refine O.p rfl rfl rfl (Pu.loadAgg rfl ag26 sz26 rfl rfl (Ld.whole 0 rfl)) ?_
                    refine O.e rfl rfl rfl (Ef.callP call20 rfl rfl (fun w hw => specAreApart_ok  pv3 r5 pu1 q1 _ _ _ _ w ((Ld.own 2 (by exact rfl)) w hw) ((Ld.own 3 (by exact rfl)) w hw) (by first | omega | (simp only [tops_len, conts_len, bl, List.length_append, List.length_cons, List.length_nil] at *; omega)) (by first | omega | (simp only [tops_len, conts_len, bl, List.length_append, List.length_cons, List.length_nil] at *; omega)) )) ?_
                    rintro _ _ ⟨rfl, rfl⟩
                    refine O.p rfl rfl rfl (Pu.move rfl rfl) ?_
                    refine O.p rfl rfl rfl (Pu.extract rfl rfl rfl) ?_
                    refine O.p rfl rfl rfl (Pu.extract rfl rfl rfl) ?_
                    refine O.p rfl rfl rfl (Pu.assign rfl rfl) ?_
                    refine O.p rfl rfl rfl (Pu.assign rfl rfl) ?_
                    refine O.nil ?_
                    refine X.next ?_
                    refine V.seq ?_
                    refine V.region ?_
                    refine O.p rfl rfl rfl (Pu.move rfl rfl) ?_
                    refine O.p rfl rfl rfl (Pu.move rfl rfl) ?_
                    refine O.p rfl rfl rfl (Pu.neq rfl rfl rfl) ?_
                    refine O.p rfl rfl rfl (Pu.move rfl rfl) ?_
                    refine O.splitN 146 rfl (fun c10 => ?_) (fun c10 => ?_)
                    · skip
                      refine O.gs rfl rfl rfl rfl rfl rfl ?_
                      refine O.gs rfl rfl rfl rfl rfl rfl ?_
                      refine O.gs rfl rfl rfl rfl rfl rfl ?_
                      refine O.p rfl rfl rfl (Pu.pickT rfl rfl rfl) ?_
                      refine O.nil ?_
                      refine X.next ?_
                      refine V.condT rfl ?_
                      refine V.seq ?_
                      refine V.region ?_
                      refine O.p rfl rfl rfl (Pu.assign rfl rfl) ?_
                      refine O.nil ?_
                      refine X.next ?_
                      refine V.ret ?_
                      refine X.thenRet ?_
                      refine X.ret1 rfl rfl ?_
                      exact absurd (by first | assumption | rfl | exact ⟨rfl, rfl⟩ | exact ⟨rfl, by assumption⟩ | exact ⟨⟨rfl, by assumption⟩, rfl, by assumption⟩ | omega | (simp only [*]; done) | (rw [rfl])) c10
                    · skip
                      refine O.gp rfl rfl rfl rfl rfl (Pu.move rfl rfl) ?_
                      refine O.gp rfl rfl rfl rfl rfl (Pu.move rfl rfl) ?_
                      refine O.gp rfl rfl rfl rfl rfl (Pu.boolNeq Try.underlying4 rfl rfl rfl) ?_
                      refine O.p rfl rfl rfl (Pu.pickF rfl rfl rfl) ?_
                      refine O.nil ?_
                      refine X.next ?_
                      refine V.cond rfl (fun c11 => ?_) (fun c11 => ?_)
                      · skip
                        refine V.seq ?_
                        refine V.region ?_
                        refine O.p rfl rfl rfl (Pu.assign rfl rfl) ?_
                        refine O.nil ?_
                        refine X.next ?_
                        refine V.ret ?_
                        refine X.thenRet ?_
                        refine X.ret1 rfl rfl ?_
                        exact absurd c11 (by simp)
                      · skip
                        refine V.skip ?_
                        refine X.next ?_
                        refine V.seq ?_
                        refine V.seq ?_
                        refine V.region ?_
                        refine O.p rfl rfl rfl (Pu.move rfl rfl) ?_
                        refine O.p rfl rfl rfl (Pu.eql rfl rfl rfl) ?_
                        refine O.nil ?_
                        refine X.next ?_
                        refine V.cut2 [] (Ent.cons (t := 3) rfl (Ent.cons (t := 4) rfl (Ent.cons (t := 5) rfl (Ent.cons (t := 8) rfl (Ent.cons (t := 9) rfl (Ent.cons (t := 10) rfl (Ent.cons (t := 11) rfl (Ent.cons (t := 14) rfl (Ent.cons (t := 15) rfl (Ent.cons (t := 16) rfl (Ent.cons (t := 20) rfl (Ent.nil _)))))))))))) (Sub.keep 0 rfl (Sub.keep 0 rfl (Sub.keep 0 rfl (Sub.keep 0 rfl (Sub.keep 0 rfl (Sub.keep 0 rfl (Sub.keep 0 rfl (Sub.keep 0 rfl (Sub.keep 0 rfl (Sub.keep 0 rfl (Sub.keep 0 rfl (Sub.keep 0 rfl (Sub.keep 0 rfl (Sub.keep 0 rfl (Sub.keep 0 rfl (Sub.keep 0 rfl (Sub.keep 0 rfl (Sub.keep 0 rfl (Sub.nil _))))))))))))))))))) ?_ ?_
                        · skip
                          refine V.condD rfl (fun c12 => ?_) (fun c12 => ?_)
                          · skip
                            obtain ⟨hsa, hsb, hsv⟩ := aaC_cases.1 c12
                            refine V.seq ?_
                            refine V.region ?_
                            refine O.p rfl rfl rfl (Pu.loadAgg rfl ag26 sz26 rfl rfl (Ld.whole 1 rfl)) ?_
                            refine O.p rfl rfl rfl (Pu.loadAgg rfl ag26 sz26 rfl rfl (Ld.whole 0 rfl)) ?_
                            refine O.e rfl rfl rfl (Ef.call1 call21 rfl rfl (fun w hw => commonBlocksV_ok  pv3 r5 pu1 q1 _ _ _ _ w ((Ld.own 2 (by exact rfl)) w hw) ((Ld.own 3 (by exact rfl)) w hw) (by first | omega | (simp only [tops_len, conts_len, bl, List.length_append, List.length_cons, List.length_nil] at *; omega)) (by first | omega | (simp only [tops_len, conts_len, bl, List.length_append, List.length_cons, List.length_nil] at *; omega)) hsa hsb hsv)) ?_
                            rintro _ _ rfl
                            refine O.exi (fun r6A => ?_)
                            refine O.exi (fun r6c => ?_)
                            refine O.exi (fun r6 => ?_)
                            refine O.sep ?_
                            refine O.pur ?_
                            rintro ⟨rfl, hr6_1⟩
                            have hap : (aaC pv3 r5 pu1 q1 = 0 ∧ ApartB r5 q1) ↔ ((r6.length : Nat) : Int) = 0 := by
                              rw [hr6_1, ← apart_I]
                              exact ⟨fun h => by omega, fun h => ⟨c12, by omega⟩⟩
                            refine O.p rfl rfl rfl (Pu.move rfl rfl) ?_
                            refine O.p rfl rfl rfl (Pu.extract rfl rfl rfl) ?_
                            refine O.p rfl rfl rfl (Pu.extract rfl rfl rfl) ?_
                            refine O.p rfl rfl rfl (Pu.assign rfl rfl) ?_
                            refine O.p rfl rfl rfl (Pu.assign rfl rfl) ?_
                            refine O.nil ?_
                            refine X.next ?_
                            refine V.seq ?_
                            refine V.region ?_
                            refine O.p rfl rfl rfl (Pu.move rfl rfl) ?_
                            refine O.p rfl rfl rfl (Pu.neq rfl rfl rfl) ?_
                            refine O.p rfl rfl rfl (Pu.move rfl rfl) ?_
                            refine O.splitN 161 rfl (fun c13 => ?_) (fun c13 => ?_)
                            · skip
                              exact absurd rfl c13
                            · skip
                              refine O.gp rfl rfl rfl rfl rfl (Pu.move rfl rfl) ?_
                              refine O.gp rfl rfl rfl rfl rfl (Pu.move rfl rfl) ?_
                              refine O.gp rfl rfl rfl rfl rfl (Pu.len rfl Try.underlying24 rfl) ?_
                              refine O.gp rfl rfl rfl rfl rfl (Pu.eql rfl rfl rfl) ?_
                              refine O.gp rfl rfl rfl rfl rfl (Pu.boolNeq Try.underlying4 rfl rfl rfl) ?_
                              refine O.p rfl rfl rfl (Pu.pickF rfl rfl rfl) ?_
                              refine O.nil ?_
                              refine X.next ?_
                              refine V.cond rfl (fun c14 => ?_) (fun c14 => ?_)
                              · skip
                                exact (dec_ne hap c14).elim
                              · skip
                                refine V.skip ?_
                                exact X.cut (Ent.nil _) (Ent.cons (t := 3) rfl (Ent.cons (t := 4) rfl (Ent.cons (t := 5) rfl (Ent.cons (t := 8) rfl (Ent.cons (t := 9) rfl (Ent.cons (t := 10) rfl (Ent.cons (t := 11) rfl (Ent.cons (t := 14) rfl (Ent.cons (t := 15) rfl (Ent.cons (t := 16) rfl (Ent.cons (t := 20) rfl (Ent.nil _)))))))))))) (Sub.keep 1 rfl (Sub.keep 1 rfl (Sub.keep 1 rfl (Sub.keep 1 rfl (Sub.keep 1 rfl (Sub.keep 1 rfl (Sub.keep 1 rfl (Sub.keep 1 rfl (Sub.keep 1 rfl (Sub.keep 1 rfl (Sub.keep 1 rfl (Sub.keep 1 rfl (Sub.keep 1 rfl (Sub.keep 1 rfl (Sub.keep 1 rfl (Sub.keep 1 rfl (Sub.keep 1 rfl (Sub.keep 1 rfl (Sub.nil _)))))))))))))))))))
                          · skip
                            refine V.skip ?_
                            exact X.cut (Ent.nil _) (Ent.cons (t := 3) rfl (Ent.cons (t := 4) rfl (Ent.cons (t := 5) rfl (Ent.cons (t := 8) rfl (Ent.cons (t := 9) rfl (Ent.cons (t := 10) rfl (Ent.cons (t := 11) rfl (Ent.cons (t := 14) rfl (Ent.cons (t := 15) rfl (Ent.cons (t := 16) rfl (Ent.cons (t := 20) rfl (Ent.nil _)))))))))))) (Sub.keep 0 rfl (Sub.keep 0 rfl (Sub.keep 0 rfl (Sub.keep 0 rfl (Sub.keep 0 rfl (Sub.keep 0 rfl (Sub.keep 0 rfl (Sub.keep 0 rfl (Sub.keep 0 rfl (Sub.keep 0 rfl (Sub.keep 0 rfl (Sub.keep 0 rfl (Sub.keep 0 rfl (Sub.keep 0 rfl (Sub.keep 0 rfl (Sub.keep 0 rfl (Sub.keep 0 rfl (Sub.keep 0 rfl (Sub.nil _)))))))))))))))))))
                        · skip
                          refine X.next ?_
                          refine V.seq ?_
                          refine V.seq ?_
                          refine V.region ?_
                          refine O.p rfl rfl rfl (Pu.move rfl rfl) ?_
                          refine O.p rfl rfl rfl (Pu.eql rfl rfl rfl) ?_
                          refine O.nil ?_
                          refine X.next ?_
                          refine V.cut2 [] (Ent.cons (t := 3) rfl (Ent.cons (t := 4) rfl (Ent.cons (t := 5) rfl (Ent.cons (t := 8) rfl (Ent.cons (t := 9) rfl (Ent.cons (t := 10) rfl (Ent.cons (t := 11) rfl (Ent.nil _)))))))) (Sub.keep 0 rfl (Sub.keep 0 rfl (Sub.keep 0 rfl (Sub.keep 0 rfl (Sub.keep 0 rfl (Sub.keep 0 rfl (Sub.keep 0 rfl (Sub.keep 0 rfl (Sub.keep 0 rfl (Sub.keep 0 rfl (Sub.keep 0 rfl (Sub.keep 0 rfl (Sub.keep 0 rfl (Sub.keep 0 rfl (Sub.keep 0 rfl (Sub.keep 0 rfl (Sub.keep 0 rfl (Sub.keep 0 rfl (Sub.nil _))))))))))))))))))) ?_ ?_
                          · skip
                            refine V.condD rfl (fun c15 => ?_) (fun c15 => ?_)
                            · skip
                              have hsum : o3.sum = ((numN pv2 : Nat) : Int) := by rw [ho3_1]; exact cm_sum c15
                              have hol3 : o3.length = r4.length + 1 := by rw [ho3_1]; exact cm_len c15
                              have hf3 := (cm_code c15).2.1
                              have hbd3 : ∀ x ∈ o3, 0 ≤ x ∧ x ≤ 1000000 := by rw [ho3_1]; exact cm_bd c15
                              have hown3 : o3[r4.length]'(by omega) = 1 := by
                                have hk : r4.length < (cmR pv2 r4).1.length := by rw [← ho3_1]; omega
                                rw [List.getElem_of_eq ho3_1]
                                exact cm_own c15 hk
                              have hno3 : ((apR pv2 r4).2.2 = 0) ↔ 0 < o3[0]'(by omega) := by
                                have hk : 0 < (cmR pv2 r4).1.length := by rw [← ho3_1]; omega
                                rw [List.getElem_of_eq ho3_1]
                                exact (cm_none c15 hk).symm
                              refine V.seq ?_
                              refine V.region ?_
                              refine O.p rfl rfl rfl (Pu.assign rfl rfl) ?_
                              refine O.nil ?_
                              refine X.next ?_
                              refine V.seq ?_
                              refine V.seq ?_
                              refine V.region ?_
                              refine O.p rfl rfl rfl (Pu.fieldAddr 0 rfl Try.underlying26 rfl sz2 rfl rfl) ?_
                              refine O.p rfl rfl rfl (Pu.load rfl pl2 rfl (Ld.blk 10 rfl rfl)) ?_
                              refine O.p rfl rfl rfl (Pu.eql rfl rfl rfl) ?_
                              refine O.nil ?_
                              refine X.next ?_
                              refine V.cut2 [(31, .int .i64 ((numN pv2 : Nat) : Int))] (Ent.cons (t := 3) rfl (Ent.cons (t := 4) rfl (Ent.cons (t := 5) rfl (Ent.cons (t := 8) rfl (Ent.cons (t := 9) rfl (Ent.cons (t := 10) rfl (Ent.cons (t := 11) rfl (Ent.cons (t := 14) rfl (Ent.cons (t := 15) rfl (Ent.cons (t := 20) rfl (Ent.nil _))))))))))) (Sub.keep 0 rfl (Sub.keep 0 rfl (Sub.keep 0 rfl (Sub.keep 0 rfl (Sub.keep 0 rfl (Sub.keep 0 rfl (Sub.keep 0 rfl (Sub.keep 0 rfl (Sub.keep 0 rfl (Sub.keep 0 rfl (Sub.keep 0 rfl (Sub.keep 0 rfl (Sub.keep 0 rfl (Sub.keep 0 rfl (Sub.keep 0 rfl (Sub.keep 0 rfl (Sub.keep 0 rfl (Sub.keep 0 rfl (Sub.nil _))))))))))))))))))) ?_ ?_
                              · skip
                                refine V.condD rfl (fun c16 => ?_) (fun c16 => ?_)
                                · skip
                                  refine V.region ?_
                                  refine O.p rfl rfl rfl (Pu.assign rfl rfl) ?_
                                  refine O.nil ?_
                                  exact X.cut (Ent.cons' rfl (iv (by have h9 := hf3; unfold numN; unfold few9 at h9; (repeat' split) <;> omega)) (Ent.nil _)) (Ent.cons (t := 3) rfl (Ent.cons (t := 4) rfl (Ent.cons (t := 5) rfl (Ent.cons (t := 8) rfl (Ent.cons (t := 9) rfl (Ent.cons (t := 10) rfl (Ent.cons (t := 11) rfl (Ent.cons (t := 14) rfl (Ent.cons (t := 15) rfl (Ent.cons (t := 20) rfl (Ent.nil _))))))))))) (Sub.keep 0 rfl (Sub.keep 0 rfl (Sub.keep 0 rfl (Sub.keep 0 rfl (Sub.keep 0 rfl (Sub.keep 0 rfl (Sub.keep 0 rfl (Sub.keep 0 rfl (Sub.keep 0 rfl (Sub.keep 0 rfl (Sub.keep 0 rfl (Sub.keep 0 rfl (Sub.keep 0 rfl (Sub.keep 0 rfl (Sub.keep 0 rfl (Sub.keep 0 rfl (Sub.keep 0 rfl (Sub.keep 0 rfl (Sub.nil _)))))))))))))))))))
                                · skip
                                  refine V.seq ?_
                                  refine V.region ?_
                                  refine O.p rfl rfl rfl (Pu.fieldAddr 0 rfl Try.underlying26 rfl sz2 rfl rfl) ?_
                                  refine O.p rfl rfl rfl (Pu.load rfl pl2 rfl (Ld.blk 10 rfl rfl)) ?_
                                  refine O.p rfl rfl rfl (Pu.eql rfl rfl rfl) ?_
                                  refine O.nil ?_
                                  refine X.next ?_
                                  refine V.condD rfl (fun c17 => ?_) (fun c17 => ?_)
                                  · skip
                                    refine V.region ?_
                                    refine O.p rfl rfl rfl (Pu.assign rfl rfl) ?_
                                    refine O.nil ?_
                                    exact X.cut (Ent.cons' rfl (iv (by have h9 := hf3; unfold numN; unfold few9 at h9; (repeat' split) <;> omega)) (Ent.nil _)) (Ent.cons (t := 3) rfl (Ent.cons (t := 4) rfl (Ent.cons (t := 5) rfl (Ent.cons (t := 8) rfl (Ent.cons (t := 9) rfl (Ent.cons (t := 10) rfl (Ent.cons (t := 11) rfl (Ent.cons (t := 14) rfl (Ent.cons (t := 15) rfl (Ent.cons (t := 20) rfl (Ent.nil _))))))))))) (Sub.keep 0 rfl (Sub.keep 0 rfl (Sub.keep 0 rfl (Sub.keep 0 rfl (Sub.keep 0 rfl (Sub.keep 0 rfl (Sub.keep 0 rfl (Sub.keep 0 rfl (Sub.keep 0 rfl (Sub.keep 0 rfl (Sub.keep 0 rfl (Sub.keep 0 rfl (Sub.keep 0 rfl (Sub.keep 0 rfl (Sub.keep 0 rfl (Sub.keep 0 rfl (Sub.keep 0 rfl (Sub.keep 0 rfl (Sub.nil _)))))))))))))))))))
                                  · skip
                                    refine V.skip ?_
                                    exact X.cut (Ent.cons' rfl (iv (by have h9 := hf3; unfold numN; unfold few9 at h9; (repeat' split) <;> omega)) (Ent.nil _)) (Ent.cons (t := 3) rfl (Ent.cons (t := 4) rfl (Ent.cons (t := 5) rfl (Ent.cons (t := 8) rfl (Ent.cons (t := 9) rfl (Ent.cons (t := 10) rfl (Ent.cons (t := 11) rfl (Ent.cons (t := 14) rfl (Ent.cons (t := 15) rfl (Ent.cons (t := 20) rfl (Ent.nil _))))))))))) (Sub.keep 0 rfl (Sub.keep 0 rfl (Sub.keep 0 rfl (Sub.keep 0 rfl (Sub.keep 0 rfl (Sub.keep 0 rfl (Sub.keep 0 rfl (Sub.keep 0 rfl (Sub.keep 0 rfl (Sub.keep 0 rfl (Sub.keep 0 rfl (Sub.keep 0 rfl (Sub.keep 0 rfl (Sub.keep 0 rfl (Sub.keep 0 rfl (Sub.keep 0 rfl (Sub.keep 0 rfl (Sub.keep 0 rfl (Sub.nil _)))))))))))))))))))
                              · skip
                                refine X.next ?_
                                refine V.seq ?_
                                refine V.region ?_
                                refine O.p rfl rfl rfl (Pu.move rfl rfl) ?_
                                refine O.e rfl rfl rfl (Ef.callP call22 rfl rfl (fun w hw => sum_ok  o3 _ _ w ((Ld.own 9 (by exact rfl)) w hw) (by first | omega | (simp only [tops_len, conts_len, bl, List.length_append, List.length_cons, List.length_nil] at *; omega)) hbd3 (by omega))) ?_
                                rintro _ _ ⟨rfl, rfl⟩
                                refine O.p rfl rfl rfl (Pu.move rfl rfl) ?_
                                refine O.p rfl rfl rfl (Pu.neq rfl rfl rfl) ?_
                                refine O.p rfl rfl rfl (Pu.move rfl rfl) ?_
                                refine O.splitN 180 rfl (fun c18 => ?_) (fun c18 => ?_)
                                · skip
                                  refine O.gs rfl rfl rfl rfl rfl rfl ?_
                                  refine O.gs rfl rfl rfl rfl rfl rfl ?_
                                  refine O.gs rfl rfl rfl rfl rfl rfl ?_
                                  refine O.gs rfl rfl rfl rfl rfl rfl ?_
                                  refine O.gs rfl rfl rfl rfl rfl rfl ?_
                                  refine O.gs rfl rfl rfl rfl rfl rfl ?_
                                  refine O.gs rfl rfl rfl rfl rfl rfl ?_
                                  refine O.p rfl rfl rfl (Pu.pickT rfl rfl rfl) ?_
                                  refine O.p rfl rfl rfl (Pu.move rfl rfl) ?_
                                  refine O.gs rfl rfl rfl rfl rfl rfl ?_
                                  refine O.gs rfl rfl rfl rfl rfl rfl ?_
                                  refine O.gs rfl rfl rfl rfl rfl rfl ?_
                                  refine O.gs rfl rfl rfl rfl rfl rfl ?_
                                  refine O.gs rfl rfl rfl rfl rfl rfl ?_
                                  refine O.gs rfl rfl rfl rfl rfl rfl ?_
                                  refine O.gs rfl rfl rfl rfl rfl rfl ?_
                                  refine O.p rfl rfl rfl (Pu.pickT rfl rfl rfl) ?_
                                  refine O.nil ?_
                                  refine X.next ?_
                                  refine V.condT rfl ?_
                                  refine V.seq ?_
                                  refine V.region ?_
                                  refine O.p rfl rfl rfl (Pu.assign rfl rfl) ?_
                                  refine O.nil ?_
                                  refine X.next ?_
                                  refine V.ret ?_
                                  refine X.thenRet ?_
                                  refine X.thenRet ?_
                                  refine X.ret1 rfl rfl ?_
                                  exact absurd (by first | assumption | rfl | exact ⟨rfl, rfl⟩ | exact ⟨rfl, by assumption⟩ | exact ⟨⟨rfl, by assumption⟩, rfl, by assumption⟩ | omega | (simp only [*]; done) | (rw [rfl])) c18
                                · skip
                                  refine O.gp rfl rfl rfl rfl rfl (Pu.move rfl rfl) ?_
                                  refine O.gp rfl rfl rfl rfl rfl (Pu.fieldAddr 1 rfl Try.underlying26 rfl sz24 rfl rfl) ?_
                                  refine O.gp rfl rfl rfl rfl rfl (Pu.load rfl pl24 rfl (Ld.blk 10 rfl rfl)) ?_
                                  refine O.gp rfl rfl rfl rfl rfl (Pu.len rfl Try.underlying24 rfl) ?_
                                  refine O.gp rfl rfl rfl rfl rfl (Pu.indexAddrS (r4.length) rfl Try.underlying34 sz2 rfl rfl (by omega) (by omega) (fun w hw => Own.some hw (i := 9) (by exact rfl) (by omega))) ?_
                                  have e1 : r4.length < o3.length := by omega
                                  refine O.gp rfl rfl rfl rfl rfl (Pu.load rfl pl2 rfl (Ld.rd (Ld.own 9 (by exact rfl)) (k := r4.length) e1 rfl rfl)) ?_
                                  refine O.gp rfl rfl rfl rfl rfl (Pu.neq rfl rfl rfl) ?_
                                  refine O.p rfl rfl rfl (Pu.pickF rfl rfl rfl) ?_
                                  refine O.p rfl rfl rfl (Pu.move rfl rfl) ?_
                                  refine O.splitN 189 rfl (fun c19 => ?_) (fun c19 => ?_)
                                  · skip
                                    refine O.gs rfl rfl rfl rfl rfl rfl ?_
                                    refine O.gs rfl rfl rfl rfl rfl rfl ?_
                                    refine O.gs rfl rfl rfl rfl rfl rfl ?_
                                    refine O.gs rfl rfl rfl rfl rfl rfl ?_
                                    refine O.gs rfl rfl rfl rfl rfl rfl ?_
                                    refine O.gs rfl rfl rfl rfl rfl rfl ?_
                                    refine O.gs rfl rfl rfl rfl rfl rfl ?_
                                    refine O.p rfl rfl rfl (Pu.pickT rfl rfl rfl) ?_
                                    refine O.nil ?_
                                    refine X.next ?_
                                    refine V.condT rfl ?_
                                    refine V.seq ?_
                                    refine V.region ?_
                                    refine O.p rfl rfl rfl (Pu.assign rfl rfl) ?_
                                    refine O.nil ?_
                                    refine X.next ?_
                                    refine V.ret ?_
                                    refine X.thenRet ?_
                                    refine X.thenRet ?_
                                    refine X.ret1 rfl rfl ?_
                                    exact absurd (by first | assumption | rfl | exact ⟨rfl, rfl⟩ | exact ⟨rfl, by assumption⟩ | exact ⟨⟨rfl, by assumption⟩, rfl, by assumption⟩ | omega | (simp only [*]; done) | (rw [rfl])) c19
                                  · skip
                                    refine O.gp rfl rfl rfl rfl rfl (Pu.move rfl rfl) ?_
                                    refine O.gp rfl rfl rfl rfl rfl (Pu.eql rfl rfl rfl) ?_
                                    refine O.gp rfl rfl rfl rfl rfl (Pu.move rfl rfl) ?_
                                    refine O.gp rfl rfl rfl rfl rfl (Pu.indexAddrS (0) rfl Try.underlying34 sz2 rfl rfl (by omega) (by omega) (fun w hw => Own.some hw (i := 9) (by exact rfl) (by omega))) ?_
                                    have e2 : 0 < o3.length := by omega
                                    refine O.gp rfl rfl rfl rfl rfl (Pu.load rfl pl2 rfl (Ld.rd (Ld.own 9 (by exact rfl)) (k := 0) e2 rfl rfl)) ?_
                                    refine O.gp rfl rfl rfl rfl rfl (Pu.gtr rfl rfl rfl) ?_
                                    refine O.gp rfl rfl rfl rfl rfl (Pu.boolNeq Try.underlying4 rfl rfl rfl) ?_
                                    refine O.p rfl rfl rfl (Pu.pickF rfl rfl rfl) ?_
                                    refine O.nil ?_
                                    refine X.next ?_
                                    refine V.cond rfl (fun c20 => ?_) (fun c20 => ?_)
                                    · skip
                                      exact (dec_ne hno3 c20).elim
                                    · skip
                                      refine V.skip ?_
                                      exact X.cut (Ent.nil _) (Ent.cons (t := 3) rfl (Ent.cons (t := 4) rfl (Ent.cons (t := 5) rfl (Ent.cons (t := 8) rfl (Ent.cons (t := 9) rfl (Ent.cons (t := 10) rfl (Ent.cons (t := 11) rfl (Ent.nil _)))))))) (Sub.keep 0 rfl (Sub.keep 0 rfl (Sub.keep 0 rfl (Sub.keep 0 rfl (Sub.keep 0 rfl (Sub.keep 0 rfl (Sub.keep 0 rfl (Sub.keep 0 rfl (Sub.keep 0 rfl (Sub.keep 0 rfl (Sub.keep 0 rfl (Sub.keep 0 rfl (Sub.keep 0 rfl (Sub.keep 0 rfl (Sub.keep 0 rfl (Sub.keep 0 rfl (Sub.keep 0 rfl (Sub.keep 0 rfl (Sub.nil _)))))))))))))))))))
                            · skip
                              refine V.skip ?_
                              exact X.cut (Ent.nil _) (Ent.cons (t := 3) rfl (Ent.cons (t := 4) rfl (Ent.cons (t := 5) rfl (Ent.cons (t := 8) rfl (Ent.cons (t := 9) rfl (Ent.cons (t := 10) rfl (Ent.cons (t := 11) rfl (Ent.nil _)))))))) (Sub.keep 0 rfl (Sub.keep 0 rfl (Sub.keep 0 rfl (Sub.keep 0 rfl (Sub.keep 0 rfl (Sub.keep 0 rfl (Sub.keep 0 rfl (Sub.keep 0 rfl (Sub.keep 0 rfl (Sub.keep 0 rfl (Sub.keep 0 rfl (Sub.keep 0 rfl (Sub.keep 0 rfl (Sub.keep 0 rfl (Sub.keep 0 rfl (Sub.keep 0 rfl (Sub.keep 0 rfl (Sub.keep 0 rfl (Sub.nil _)))))))))))))))))))
                          · skip
                            refine X.next ?_
                            refine V.seq ?_
                            refine V.seq ?_
                            refine V.region ?_
                            refine O.p rfl rfl rfl (Pu.move rfl rfl) ?_
                            refine O.p rfl rfl rfl (Pu.eql rfl rfl rfl) ?_
                            refine O.nil ?_
                            refine X.next ?_
                            refine V.cut2 [] (Ent.cons (t := 3) rfl (Ent.cons (t := 4) rfl (Ent.cons (t := 5) rfl (Ent.nil _)))) (Sub.keep 0 rfl (Sub.keep 0 rfl (Sub.keep 0 rfl (Sub.keep 0 rfl (Sub.keep 0 rfl (Sub.keep 0 rfl (Sub.keep 0 rfl (Sub.keep 0 rfl (Sub.keep 0 rfl (Sub.keep 0 rfl (Sub.keep 0 rfl (Sub.keep 0 rfl (Sub.keep 0 rfl (Sub.keep 0 rfl (Sub.keep 0 rfl (Sub.keep 0 rfl (Sub.keep 0 rfl (Sub.keep 0 rfl (Sub.nil _))))))))))))))))))) ?_ ?_
                            · skip
                              refine V.condD rfl (fun c21 => ?_) (fun c21 => ?_)
                              · skip
                                obtain ⟨hq1, hq2, hq3, hq4, hq5⟩ := atR_ok c21
                                have hst : STS (atR a1 b2).1 o1 ∧ Few (atR a1 b2).1 o1 := by rw [ho1_1, hq4]; exact all_sts hq1 hq5
                                have hif : (if STS (atR a1 b2).1 o1 then (0 : Int) else 1) = 0 := if_pos hst.1
                                have hfu : STS (atR a1 b2).1 o1 ∧ 6 * (o1.length : Int) = (atR a1 b2).1 * ((atR a1 b2).1 - 1) := ⟨hst.1, hst.2.2⟩
                                refine V.seq ?_
                                refine V.region ?_
                                refine O.p rfl rfl rfl (Pu.loadAgg rfl ag26 sz26 rfl rfl (Ld.whole 14 rfl)) ?_
                                refine O.e rfl rfl rfl (Ef.callP call23 rfl rfl (fun w hw => implIsFull_ok  ((atR a1 b2).1) o1 _ _ w ((Ld.own 15 (by exact rfl)) w hw) (by first | omega | (simp only [tops_len, conts_len, bl, List.length_append, List.length_cons, List.length_nil] at *; omega)) )) ?_
                                rintro _ _ ⟨rfl, rfl⟩
                                refine O.p rfl rfl rfl (Pu.move rfl rfl) ?_
                                refine O.p rfl rfl rfl (Pu.extract rfl rfl rfl) ?_
                                refine O.p rfl rfl rfl (Pu.extract rfl rfl rfl) ?_
                                refine O.p rfl rfl rfl (Pu.assign rfl rfl) ?_
                                refine O.p rfl rfl rfl (Pu.assign rfl rfl) ?_
                                refine O.nil ?_
                                refine X.next ?_
                                refine V.seq ?_
                                refine V.region ?_
                                refine O.p rfl rfl rfl (Pu.loadAgg rfl ag26 sz26 rfl rfl (Ld.whole 14 rfl)) ?_
                                refine O.e rfl rfl rfl (Ef.call1 call6 rfl rfl (fun w hw => implNumberOfSystem_ok  ((atR a1 b2).1) o1 _ _ w ((Ld.own 15 (by exact rfl)) w hw) (by first | omega | (simp only [tops_len, conts_len, bl, List.length_append, List.length_cons, List.length_nil] at *; omega)) )) ?_
                                rintro _ _ rfl
                                refine O.exi (fun r7 => ?_)
                                refine O.exi (fun code3 => ?_)
                                refine O.pur ?_
                                rintro ⟨rfl, hr7_1⟩
                                rw [ho1_1] at hr7_1
                                have hat := nos_at c21 hr7_1
                                have hat1 := hat.1
                                have hat2 := hat.2.1
                                refine O.p rfl rfl rfl (Pu.move rfl rfl) ?_
                                refine O.p rfl rfl rfl (Pu.extract rfl rfl rfl) ?_
                                refine O.p rfl rfl rfl (Pu.extract rfl rfl rfl) ?_
                                refine O.p rfl rfl rfl (Pu.assign rfl rfl) ?_
                                refine O.p rfl rfl rfl (Pu.assign rfl rfl) ?_
                                refine O.nil ?_
                                refine X.next ?_
                                refine V.seq ?_
                                refine V.region ?_
                                refine O.p rfl rfl rfl (Pu.move rfl rfl) ?_
                                refine O.p rfl rfl rfl (Pu.neq rfl rfl rfl) ?_
                                refine O.p rfl rfl rfl (Pu.move rfl rfl) ?_
                                refine O.splitN 212 rfl (fun c22 => ?_) (fun c22 => ?_)
                                · skip
                                  refine O.gs rfl rfl rfl rfl rfl rfl ?_
                                  refine O.gs rfl rfl rfl rfl rfl rfl ?_
                                  refine O.p rfl rfl rfl (Pu.pickT rfl rfl rfl) ?_
                                  refine O.p rfl rfl rfl (Pu.move rfl rfl) ?_
                                  refine O.gs rfl rfl rfl rfl rfl rfl ?_
                                  refine O.gs rfl rfl rfl rfl rfl rfl ?_
                                  refine O.p rfl rfl rfl (Pu.pickT rfl rfl rfl) ?_
                                  refine O.p rfl rfl rfl (Pu.move rfl rfl) ?_
                                  refine O.gs rfl rfl rfl rfl rfl rfl ?_
                                  refine O.gs rfl rfl rfl rfl rfl rfl ?_
                                  refine O.gs rfl rfl rfl rfl rfl rfl ?_
                                  refine O.p rfl rfl rfl (Pu.pickT rfl rfl rfl) ?_
                                  refine O.p rfl rfl rfl (Pu.move rfl rfl) ?_
                                  refine O.gs rfl rfl rfl rfl rfl rfl ?_
                                  refine O.gs rfl rfl rfl rfl rfl rfl ?_
                                  refine O.gs rfl rfl rfl rfl rfl rfl ?_
                                  refine O.gs rfl rfl rfl rfl rfl rfl ?_
                                  refine O.p rfl rfl rfl (Pu.pickT rfl rfl rfl) ?_
                                  refine O.nil ?_
                                  refine X.next ?_
                                  refine V.condT rfl ?_
                                  refine V.seq ?_
                                  refine V.region ?_
                                  refine O.p rfl rfl rfl (Pu.assign rfl rfl) ?_
                                  refine O.nil ?_
                                  refine X.next ?_
                                  refine V.ret ?_
                                  refine X.thenRet ?_
                                  refine X.thenRet ?_
                                  refine X.ret1 rfl rfl ?_
                                  exact absurd (by first | assumption | rfl | exact ⟨rfl, rfl⟩ | exact ⟨rfl, by assumption⟩ | exact ⟨⟨rfl, by assumption⟩, rfl, by assumption⟩ | omega | (simp only [*]; done) | (rw [rfl])) c22
                                · skip
                                  refine O.gp rfl rfl rfl rfl rfl (Pu.move rfl rfl) ?_
                                  refine O.gp rfl rfl rfl rfl rfl (Pu.not rfl rfl) ?_
                                  refine O.p rfl rfl rfl (Pu.pickF rfl rfl rfl) ?_
                                  refine O.p rfl rfl rfl (Pu.move rfl rfl) ?_
                                  refine O.splitN 216 rfl (fun c23 => ?_) (fun c23 => ?_)
                                  · skip
                                    refine O.gs rfl rfl rfl rfl rfl rfl ?_
                                    refine O.gs rfl rfl rfl rfl rfl rfl ?_
                                    refine O.p rfl rfl rfl (Pu.pickT rfl rfl rfl) ?_
                                    refine O.p rfl rfl rfl (Pu.move rfl rfl) ?_
                                    refine O.gs rfl rfl rfl rfl rfl rfl ?_
                                    refine O.gs rfl rfl rfl rfl rfl rfl ?_
                                    refine O.gs rfl rfl rfl rfl rfl rfl ?_
                                    refine O.p rfl rfl rfl (Pu.pickT rfl rfl rfl) ?_
                                    refine O.p rfl rfl rfl (Pu.move rfl rfl) ?_
                                    refine O.gs rfl rfl rfl rfl rfl rfl ?_
                                    refine O.gs rfl rfl rfl rfl rfl rfl ?_
                                    refine O.gs rfl rfl rfl rfl rfl rfl ?_
                                    refine O.gs rfl rfl rfl rfl rfl rfl ?_
                                    refine O.p rfl rfl rfl (Pu.pickT rfl rfl rfl) ?_
                                    refine O.nil ?_
                                    refine X.next ?_
                                    refine V.condT rfl ?_
                                    refine V.seq ?_
                                    refine V.region ?_
                                    refine O.p rfl rfl rfl (Pu.assign rfl rfl) ?_
                                    refine O.nil ?_
                                    refine X.next ?_
                                    refine V.ret ?_
                                    refine X.thenRet ?_
                                    refine X.thenRet ?_
                                    refine X.ret1 rfl rfl ?_
                                    exact absurd (by first | assumption | rfl | exact ⟨rfl, rfl⟩ | exact ⟨rfl, by assumption⟩ | exact ⟨⟨rfl, by assumption⟩, rfl, by assumption⟩ | omega | (simp only [*]; done) | (rw [rfl])) c23
                                  · skip
                                    refine O.gp rfl rfl rfl rfl rfl (Pu.move rfl rfl) ?_
                                    refine O.gp rfl rfl rfl rfl rfl (Pu.neq rfl rfl rfl) ?_
                                    refine O.p rfl rfl rfl (Pu.pickF rfl rfl rfl) ?_
                                    refine O.p rfl rfl rfl (Pu.move rfl rfl) ?_
                                    refine O.splitN 220 rfl (fun c24 => ?_) (fun c24 => ?_)
                                    · skip
                                      refine O.gs rfl rfl rfl rfl rfl rfl ?_
                                      refine O.gs rfl rfl rfl rfl rfl rfl ?_
                                      refine O.gs rfl rfl rfl rfl rfl rfl ?_
                                      refine O.p rfl rfl rfl (Pu.pickT rfl rfl rfl) ?_
                                      refine O.p rfl rfl rfl (Pu.move rfl rfl) ?_
                                      refine O.gs rfl rfl rfl rfl rfl rfl ?_
                                      refine O.gs rfl rfl rfl rfl rfl rfl ?_
                                      refine O.gs rfl rfl rfl rfl rfl rfl ?_
                                      refine O.gs rfl rfl rfl rfl rfl rfl ?_
                                      refine O.p rfl rfl rfl (Pu.pickT rfl rfl rfl) ?_
                                      refine O.nil ?_
                                      refine X.next ?_
                                      refine V.condT rfl ?_
                                      refine V.seq ?_
                                      refine V.region ?_
                                      refine O.p rfl rfl rfl (Pu.assign rfl rfl) ?_
                                      refine O.nil ?_
                                      refine X.next ?_
                                      refine V.ret ?_
                                      refine X.thenRet ?_
                                      refine X.thenRet ?_
                                      refine X.ret1 rfl rfl ?_
                                      exact absurd (by first | assumption | rfl | exact ⟨rfl, rfl⟩ | exact ⟨rfl, by assumption⟩ | exact ⟨⟨rfl, by assumption⟩, rfl, by assumption⟩ | omega | (simp only [*]; done) | (rw [rfl])) c24
                                    · skip
                                      refine O.gp rfl rfl rfl rfl rfl (Pu.move rfl rfl) ?_
                                      refine O.gp rfl rfl rfl rfl rfl (Pu.move rfl rfl) ?_
                                      refine O.gp rfl rfl rfl rfl rfl (Pu.neq rfl rfl rfl) ?_
                                      refine O.p rfl rfl rfl (Pu.pickF rfl rfl rfl) ?_
                                      refine O.p rfl rfl rfl (Pu.move rfl rfl) ?_
                                      refine O.splitN 225 rfl (fun c25 => ?_) (fun c25 => ?_)
                                      · skip
                                        refine O.gs rfl rfl rfl rfl rfl rfl ?_
                                        refine O.gs rfl rfl rfl rfl rfl rfl ?_
                                        refine O.gs rfl rfl rfl rfl rfl rfl ?_
                                        refine O.gs rfl rfl rfl rfl rfl rfl ?_
                                        refine O.p rfl rfl rfl (Pu.pickT rfl rfl rfl) ?_
                                        refine O.nil ?_
                                        refine X.next ?_
                                        refine V.condT rfl ?_
                                        refine V.seq ?_
                                        refine V.region ?_
                                        refine O.p rfl rfl rfl (Pu.assign rfl rfl) ?_
                                        refine O.nil ?_
                                        refine X.next ?_
                                        refine V.ret ?_
                                        refine X.thenRet ?_
                                        refine X.thenRet ?_
                                        refine X.ret1 rfl rfl ?_
                                        exact absurd (by first | assumption | rfl | exact ⟨rfl, rfl⟩ | exact ⟨rfl, by assumption⟩ | exact ⟨⟨rfl, by assumption⟩, rfl, by assumption⟩ | omega | (simp only [*]; done) | (rw [rfl])) c25
                                      · skip
                                        refine O.gp rfl rfl rfl rfl rfl (Pu.fieldAddr 0 rfl Try.underlying26 rfl sz2 rfl rfl) ?_
                                        refine O.gp rfl rfl rfl rfl rfl (Pu.load rfl pl2 rfl (Ld.blk 14 rfl rfl)) ?_
                                        refine O.gp rfl rfl rfl rfl rfl (Pu.move rfl rfl) ?_
                                        refine O.gp rfl rfl rfl rfl rfl (Pu.neq rfl rfl rfl) ?_
                                        refine O.p rfl rfl rfl (Pu.pickF rfl rfl rfl) ?_
                                        refine O.nil ?_
                                        refine X.next ?_
                                        refine V.condNot rfl (fun c26 => ?_) (fun c26 => ?_)
                                        · skip
                                          refine V.seq ?_
                                          refine V.region ?_
                                          refine O.p rfl rfl rfl (Pu.assign rfl rfl) ?_
                                          refine O.nil ?_
                                          refine X.next ?_
                                          refine V.ret ?_
                                          refine X.thenRet ?_
                                          refine X.thenRet ?_
                                          refine X.ret1 rfl rfl ?_
                                          exact absurd (by first | assumption | rfl | exact ⟨rfl, rfl⟩ | exact ⟨rfl, by assumption⟩ | exact ⟨⟨rfl, by assumption⟩, rfl, by assumption⟩ | omega | (simp only [*]; done) | (rw [rfl])) c26
                                        · skip
                                          refine V.skip ?_
                                          exact X.cut (Ent.nil _) (Ent.cons (t := 3) rfl (Ent.cons (t := 4) rfl (Ent.cons (t := 5) rfl (Ent.nil _)))) (Sub.keep 0 rfl (Sub.keep 0 rfl (Sub.keep 0 rfl (Sub.keep 0 rfl (Sub.keep 0 rfl (Sub.keep 0 rfl (Sub.keep 0 rfl (Sub.keep 0 rfl (Sub.keep 0 rfl (Sub.keep 0 rfl (Sub.keep 0 rfl (Sub.keep 0 rfl (Sub.keep 0 rfl (Sub.keep 0 rfl (Sub.keep 0 rfl (Sub.keep 0 rfl (Sub.keep 0 rfl (Sub.keep 0 rfl (Sub.nil _)))))))))))))))))))
                              · skip
                                refine V.skip ?_
                                exact X.cut (Ent.nil _) (Ent.cons (t := 3) rfl (Ent.cons (t := 4) rfl (Ent.cons (t := 5) rfl (Ent.nil _)))) (Sub.keep 0 rfl (Sub.keep 0 rfl (Sub.keep 0 rfl (Sub.keep 0 rfl (Sub.keep 0 rfl (Sub.keep 0 rfl (Sub.keep 0 rfl (Sub.keep 0 rfl (Sub.keep 0 rfl (Sub.keep 0 rfl (Sub.keep 0 rfl (Sub.keep 0 rfl (Sub.keep 0 rfl (Sub.keep 0 rfl (Sub.keep 0 rfl (Sub.keep 0 rfl (Sub.keep 0 rfl (Sub.keep 0 rfl (Sub.nil _)))))))))))))))))))
                            · skip
                              refine X.next ?_
                              refine V.seq ?_
                              refine V.seq ?_
                              refine V.region ?_
                              refine O.p rfl rfl rfl (Pu.move rfl rfl) ?_
                              refine O.p rfl rfl rfl (Pu.neq rfl rfl rfl) ?_
                              refine O.nil ?_
                              refine X.next ?_
                              refine V.condNot rfl (fun c27 => ?_) (fun c27 => ?_)
                              · skip
                                refine V.seq ?_
                                refine V.region ?_
                                refine O.p rfl rfl rfl (Pu.move rfl rfl) ?_
                                refine O.p rfl rfl rfl (Pu.eql rfl rfl rfl) ?_
                                refine O.p rfl rfl rfl (Pu.assign rfl rfl) ?_
                                refine O.nil ?_
                                refine X.next ?_
                                refine V.ret ?_
                                refine X.thenRet ?_
                                refine X.ret1 rfl rfl ?_
                                exact fun w hw => St.retP (by rw [decide_eq_true (nos_no hr2_1 c27)]) hw
                              · skip
                                have hnb := at_nos (c27 ▸ hr2_1)
                                have hnz : (atR pv1 r2).2.2 = 0 := by rw [hnb]
                                refine V.skip ?_
                                refine X.next ?_
                                refine V.seq ?_
                                refine V.region ?_
                                refine O.p rfl rfl rfl (Pu.fieldAddr 0 rfl Try.underlying26 rfl sz2 rfl rfl) ?_
                                refine O.p rfl rfl rfl (Pu.load rfl pl2 rfl (Ld.blk 16 rfl rfl)) ?_
                                refine O.p rfl rfl rfl (Pu.move rfl rfl) ?_
                                refine O.e rfl rfl rfl (Ef.call1 call9 rfl rfl (fun w hw => implSystemAt_ok  pv1 r2 w   )) ?_
                                rintro _ _ rfl
                                refine O.exi (fun o7A => ?_)
                                refine O.exi (fun o7c => ?_)
                                refine O.exi (fun o7 => ?_)
                                refine O.sep ?_
                                refine O.pur ?_
                                rintro ⟨rfl, ho7_1⟩
                                have hlo7 : o7.length ≤ 40 := by rw [ho7_1]; exact atR_len
                                refine O.p rfl rfl rfl (Pu.move rfl rfl) ?_
                                refine O.p rfl rfl rfl (Pu.extract rfl rfl rfl) ?_
                                refine O.p rfl rfl rfl (Pu.extract rfl rfl rfl) ?_
                                refine O.e rfl rfl rfl (Ef.alloc rfl zr26 rfl) ?_
                                rintro _ _ ⟨b10, rfl, rfl⟩
                                refine O.s rfl rfl (Ef.storeAll 0 rfl sz26 rfl rfl rfl rfl (by simp [Value.oneCell']) rfl) ?_
                                rintro _ _ rfl
                                refine O.p rfl rfl rfl (Pu.assign rfl rfl) ?_
                                refine O.nil ?_
                                refine X.next ?_
                                refine V.seq ?_
                                refine V.region ?_
                                refine O.p rfl rfl rfl (Pu.move rfl rfl) ?_
                                refine O.p rfl rfl rfl (Pu.eql rfl rfl rfl) ?_
                                refine O.p rfl rfl rfl (Pu.move rfl rfl) ?_
                                refine O.splitD 244 rfl (fun c28 => ?_) (fun c28 => ?_)
                                · skip
                                  refine O.gp rfl rfl rfl rfl rfl (Pu.loadAgg rfl ag26 sz26 rfl rfl (Ld.whole 0 rfl)) ?_
                                  refine O.gp rfl rfl rfl rfl rfl (Pu.loadAgg rfl ag26 sz26 rfl rfl (Ld.whole 18 rfl)) ?_
                                  refine O.ge rfl rfl rfl rfl rfl (Ef.callP call11 rfl rfl (fun w hw => system9_ok  ((atR pv1 r2).1) o7 pv1 r1 _ _ _ _ w ((Ld.own 1 (by exact rfl)) w hw) ((Ld.own 19 (by exact rfl)) w hw) (by first | omega | (simp only [tops_len, conts_len, bl, List.length_append, List.length_cons, List.length_nil] at *; omega)) (by first | omega | (simp only [tops_len, conts_len, bl, List.length_append, List.length_cons, List.length_nil] at *; omega)) )) ?_
                                  rintro _ _ ⟨rfl, rfl⟩
                                  refine O.p rfl rfl rfl (Pu.pickT rfl rfl rfl) ?_
                                  refine O.p rfl rfl rfl (Pu.assign rfl rfl) ?_
                                  refine O.nil ?_
                                  refine X.next ?_
                                  refine V.ret ?_
                                  refine X.ret1 rfl rfl ?_
                                  exact fun w hw => St.retP (by rw [decide_eq_true ⟨by rw [hnb], by rw [ho7_1, hnb]⟩]) hw
                                · skip
                                  refine O.gs rfl rfl rfl rfl rfl rfl ?_
                                  refine O.gs rfl rfl rfl rfl rfl rfl ?_
                                  refine O.gs rfl rfl rfl rfl rfl rfl ?_
                                  refine O.p rfl rfl rfl (Pu.pickF rfl rfl rfl) ?_
                                  refine O.p rfl rfl rfl (Pu.assign rfl rfl) ?_
                                  refine O.nil ?_
                                  refine X.next ?_
                                  refine V.ret ?_
                                  refine X.ret1 rfl rfl ?_
                                  exact absurd (by first | assumption | rfl | exact ⟨rfl, rfl⟩ | exact ⟨rfl, by assumption⟩ | exact ⟨⟨rfl, by assumption⟩, rfl, by assumption⟩ | omega | (simp only [*]; done) | (rw [rfl])) c28
end Go.Proofs.Ytgjfcepnkllklaa
