/-
  Resolutions, up to most of them.
-/
import Derived.Test.YtjpfngmoabnffaaZ2
set_option linter.unusedVariables false
set_option linter.unusedSimpArgs false
namespace Go.Proofs.Ytjpfngmoabnffaa
open Go Go.RowKit Go.Vc Go.Proofs
set_option maxRecDepth 100000 in
set_option maxHeartbeats 1000000 in
theorem resolutions1_ok (b : B3) (w : World) : Does Try.prog 129 [B3.v b] w [] (fun r => [.pur (r = .bool (decide (True)))]) := by
  refine Does.enter Try.func129 rfl rfl [(0, B3.v b)] rfl ?_
  refine V.seq ?_
  refine V.region ?_
  refine O.e rfl rfl rfl (Ef.box rfl rfl rfl) ?_
  rintro _ _ ⟨b1, rfl, rfl⟩
  refine O.p rfl rfl rfl (Pu.assign rfl rfl) ?_
  refine O.nil ?_
  refine X.next ?_
  refine V.seq ?_
  refine V.region ?_
  refine O.p rfl rfl rfl (Pu.assign rfl rfl) ?_
  refine O.nil ?_
  refine X.next ?_
  refine V.ret ?_
  refine X.ret1 rfl rfl ?_
  exact fun w hw => St.retP (boolT (trivial)) hw

set_option maxRecDepth 100000 in
set_option maxHeartbeats 1000000 in
theorem resolutions_ok (v : Int) (bs : List B3) (most : Nat) (A : Option Addr) (c : Nat) (w : World) (hx : Rd B3C w A bs) (lx : bs.length ≤ 4611686018427387904) (hm : 0 < most) (hmm : most ≤ 1000) : Does Try.prog 59 [.agg #[.int .i64 v, .slice A bs.length c], .int .i64 (most : Int)] w [] (fun rv_ => [.exi fun (rA : Option Addr) => .exi fun (rc : Nat) => .exi fun (r : List (Sl × List Sl)) => .exi fun (code : Int) => .exi fun (cl : List (Sl × List Int)) => .sep (.pur (rv_ = .tuple #[.slice rA (tops r).length rc, .int .i64 code] ∧ RSol v bs most cl (conts r) code ∧ r.length ≤ most)) (.sep (.sep (Own 34 SlC rA rc (tops r)) (RowsA 43 SlC r)) (RowsA 2 I64 cl))]) := by
  refine Does.enter Try.func59 rfl rfl [(0, .agg #[.int .i64 v, .slice A bs.length c]), (1, .int .i64 (most : Int))] rfl ?_
  refine V.seq ?_
  refine V.region ?_
  refine O.e rfl rfl rfl (Ef.box rfl rfl rfl) ?_
  rintro _ _ ⟨b1, rfl, rfl⟩
  refine O.p rfl rfl rfl (Pu.assign rfl rfl) ?_
  refine O.p rfl rfl rfl (Pu.assign rfl rfl) ?_
  refine O.nil ?_
  refine X.next ?_
  refine V.seq ?_
  refine V.seq ?_
  refine V.region ?_
  refine O.p rfl rfl rfl (Pu.loadAgg rfl ag30 sz30 rfl rfl (Ld.whole 0 rfl)) ?_
  refine O.e rfl rfl rfl (Ef.callP call72 rfl rfl (fun w hw => IsSystem_ok _ bs _ _ w ((Ld.old hx) w hw) (by omega))) ?_
  rintro _ _ ⟨rfl, rfl⟩
  refine O.p rfl rfl rfl (Pu.not rfl rfl) ?_
  refine O.nil ?_
  refine X.next ?_
  refine V.condNot rfl (fun c1 => ?_) (fun c1 => ?_)
  · skip
    refine V.seq ?_
    refine V.region ?_
    refine O.p rfl rfl rfl (Pu.assign rfl rfl) ?_
    refine O.p rfl rfl rfl (Pu.assign rfl rfl) ?_
    refine O.nil ?_
    refine X.next ?_
    refine V.ret ?_
    refine X.thenRet ?_
    refine X.ret2 rfl rfl rfl ?_
    exact fun w hw => St.mkExi none (St.mkExi 0 (St.mkExi [] (St.mkExi (1 : Int) (St.mkExi [] (St.unsep (St.addPur ⟨rfl, ⟨fun _ => ⟨rfl, rfl⟩, fun h => absurd h c1⟩, by simp⟩ (St.unsep (St.unsep (St.addNil (T := 34) (C := SlC) (RowsA.nil (T := 43) (C := SlC) (RowsA.nil (T := 2) (C := I64) (hw.sub (Sub.nil _)))))))))))))
  · skip
    have hfew := c1.few
    have hb := c1.good
    have hlo := c1.lo
    have hhi := c1.hi
    refine V.skip ?_
    refine X.next ?_
    refine V.seq ?_
    refine V.region ?_
    refine O.p rfl rfl rfl (Pu.loadAgg rfl ag30 sz30 rfl rfl (Ld.whole 0 rfl)) ?_
    refine O.e rfl rfl rfl (Ef.call1 call75 rfl rfl (fun w hw => classesI_ok _ bs _ _ w ((Ld.old hx) w hw) c1)) ?_
    rintro _ _ rfl
    refine O.exi (fun p1 => ?_)
    refine O.sep ?_
    refine O.pur ?_
    rintro ⟨rfl, hp1_1, hp1_2⟩
    refine O.sep ?_
    refine O.fact (RowsA.len 1 rfl) (fun hn_p1 => ?_)
    have htl_p1 := tops_len p1.2
    have hcl_p1 := conts_len p1.2
    refine O.p rfl rfl rfl (Pu.assign rfl rfl) ?_
    refine O.nil ?_
    refine X.next ?_
    refine V.seq ?_
    refine V.seq ?_
    refine V.region ?_
    refine O.p rfl rfl rfl (Pu.move rfl rfl) ?_
    refine O.p rfl rfl rfl (Pu.len rfl Try.underlying34 rfl) ?_
    refine O.p rfl rfl rfl (Pu.gtr rfl rfl rfl) ?_
    refine O.nil ?_
    refine X.next ?_
    refine V.condD rfl (fun c2 => ?_) (fun c2 => ?_)
    · skip
      refine V.seq ?_
      refine V.region ?_
      refine O.p rfl rfl rfl (Pu.assign rfl rfl) ?_
      refine O.p rfl rfl rfl (Pu.assign rfl rfl) ?_
      refine O.nil ?_
      refine X.next ?_
      refine V.ret ?_
      refine X.thenRet ?_
      refine X.ret2 rfl rfl rfl ?_
      exact fun w hw => St.mkExi none (St.mkExi 0 (St.mkExi [] (St.mkExi (3 : Int) (St.mkExi (p1.2) (St.unsep (St.addPur ⟨rfl, ⟨fun h => absurd c1 h, fun _ => ⟨hp1_1, .inl ⟨by omega, rfl, rfl⟩⟩⟩, by simp⟩ (St.unsep (St.unsep (St.addNil (T := 34) (C := SlC) (RowsA.nil (T := 43) (C := SlC) (hw.sub (Sub.keep 1 rfl (Sub.nil _)))))))))))))
    · skip
      refine V.skip ?_
      refine X.next ?_
      refine V.seq ?_
      refine V.region ?_
      refine O.p rfl rfl rfl (Pu.loadAgg rfl ag30 sz30 rfl rfl (Ld.whole 2 rfl)) ?_
      refine O.e rfl rfl rfl (Ef.call1 call128 rfl rfl (fun w hw => numbersOf_ok  v bs (fun _ => True) (129) _ _ _ w ((Ld.old hx) w hw) (by first | omega | (simp only [tops_len, conts_len, bl, List.length_append, List.length_cons, List.length_nil] at *; omega)) (call129) (by omega) (fun k hk w' hb => resolutions1_ok _ w'))) ?_
      rintro _ _ rfl
      refine O.exi (fun r1A => ?_)
      refine O.exi (fun r1c => ?_)
      refine O.exi (fun r1 => ?_)
      refine O.sep ?_
      refine O.pur ?_
      rintro ⟨rfl, hr1_1⟩
      have hlr1 : r1.length ≤ bs.length := by rw [hr1_1]; exact numsAt_len
      refine O.p rfl rfl rfl (Pu.assign rfl rfl) ?_
      refine O.nil ?_
      refine X.next ?_
      refine V.seq ?_
      refine V.region ?_
      refine O.p rfl rfl rfl (Pu.loadAgg rfl ag30 sz30 rfl rfl (Ld.whole 3 rfl)) ?_
      refine O.p rfl rfl rfl (Pu.move rfl rfl) ?_
      refine O.p rfl rfl rfl (Pu.move rfl rfl) ?_
      refine O.p rfl rfl rfl (Pu.move rfl rfl) ?_
      refine O.map (fun w hw => St.addNil (T := 34) (C := SlC) (RowsA.nil (T := 43) (C := SlC) hw)) ?_
      refine O.e rfl rfl rfl (Ef.call call130 rfl rfl (Does.pre (fun w hw => hw.sub (Sub.keep 0 rfl (Sub.keep 0 rfl (Sub.keep 0 rfl (Sub.keep 0 rfl (Sub.keep 0 rfl (Sub.keep 0 rfl (Sub.nil _)))))))) (resolve_ok bs.length  v bs ([]) (p1.2) ([]) r1 most _ _ _ _ _ _ _ _ _ _ w _ (Ld.old hx) (Ld.ll 1 2 (by exact rfl) (by exact rfl)) hn_p1 (fun w hw => Rd.nil _ _ _) (Ld.own 0 (by exact rfl)) (by first | omega | (simp only [tops_len, conts_len, bl, List.length_append, List.length_cons, List.length_nil] at *; omega)) (by first | omega | (simp only [tops_len, conts_len, bl, List.length_append, List.length_cons, List.length_nil] at *; omega)) (by first | omega | (simp only [tops_len, conts_len, bl, List.length_append, List.length_cons, List.length_nil] at *; omega)) (by first | omega | (simp only [tops_len, conts_len, bl, List.length_append, List.length_cons, List.length_nil] at *; omega)) (fun q hq => by have h1 := (hp1_1.2 q).1 hq; have h2 := (cls_count hb (by omega) q).1 h1; omega) (by rw [hr1_1, numsAt_all]; exact leftM_len _ _) (by simp only [List.length_nil]; omega) (by omega) (by simp only [List.length_nil]; omega) (by omega)))) ?_
      rintro _ _ rfl
      refine O.exi (fun r2A => ?_)
      refine O.exi (fun r2c => ?_)
      refine O.exi (fun r2 => ?_)
      refine O.sep ?_
      refine O.pur ?_
      rintro ⟨rfl, hr2_1, hr2_2⟩
      refine O.sep ?_
      refine O.fact (RowsA.len 1 rfl) (fun hn_r2 => ?_)
      have htl_r2 := tops_len r2
      refine O.p rfl rfl rfl (Pu.assign rfl rfl) ?_
      refine O.p rfl rfl rfl (Pu.assign rfl rfl) ?_
      refine O.nil ?_
      refine X.next ?_
      refine V.ret ?_
      refine X.ret2 rfl rfl rfl ?_
      exact fun w hw => St.mkExi r2A (St.mkExi r2c (St.mkExi r2 (St.mkExi (0 : Int) (St.mkExi (p1.2) (St.unsep (St.addPur ⟨(by first | rfl | (simp only [tops_append]; done) | (simp only [tops_append]; rfl)), ⟨fun h => absurd c1 h, fun _ => ⟨hp1_1, .inr ⟨by omega, rfl, by rw [hr2_1, hr1_1, numsAt_all]; simp [conts]⟩⟩⟩, hr2_2⟩ (St.unsep (St.unsep (hw.sub (Sub.keep 0 rfl (Sub.keep 0 rfl (Sub.keep 2 rfl (Sub.nil _)))))))))))))

set_option maxRecDepth 100000 in
set_option maxHeartbeats 1000000 in
theorem implCountResolutions_ok (v : Int) (bs : List B3) (A : Option Addr) (c : Nat) (w : World) (hx : Rd B3C w A bs) (lx : bs.length ≤ 4611686018427387904) : Does Try.prog 18 [.agg #[.int .i64 v, .slice A bs.length c]] w [] (fun r => [.exi fun (n : Int) => .exi fun (code : Int) => .pur (r = .tuple #[.int .i64 n, .int .i64 code] ∧ CRes v bs n code)]) := by
  refine Does.enter Try.func18 rfl rfl [(0, .agg #[.int .i64 v, .slice A bs.length c])] rfl ?_
  refine V.seq ?_
  refine V.region ?_
  refine O.e rfl rfl rfl (Ef.box rfl rfl rfl) ?_
  rintro _ _ ⟨b1, rfl, rfl⟩
  refine O.p rfl rfl rfl (Pu.assign rfl rfl) ?_
  refine O.p rfl rfl rfl (Pu.assign rfl rfl) ?_
  refine O.nil ?_
  refine X.next ?_
  refine V.seq ?_
  refine V.region ?_
  refine O.p rfl rfl rfl (Pu.loadAgg rfl ag30 sz30 rfl rfl (Ld.whole 0 rfl)) ?_
  refine O.e rfl rfl rfl (Ef.call1 call59 rfl rfl (fun w hw => resolutions_ok  v bs 301 _ _ w ((Ld.old hx) w hw) (by first | omega | (simp only [tops_len, conts_len, bl, List.length_append, List.length_cons, List.length_nil] at *; omega)) (by decide) (by decide))) ?_
  rintro _ _ rfl
  refine O.exi (fun r1A => ?_)
  refine O.exi (fun r1c => ?_)
  refine O.exi (fun r1 => ?_)
  refine O.exi (fun code1 => ?_)
  refine O.exi (fun cl1 => ?_)
  refine O.sep ?_
  refine O.pur ?_
  rintro ⟨rfl, hr1_1, hr1_2⟩
  refine O.sep ?_
  refine O.sep ?_
  refine O.fact (RowsA.len 1 rfl) (fun hn_r1 => ?_)
  have htl_r1 := tops_len r1
  refine O.fact (RowsA.len 2 rfl) (fun hn_cl1 => ?_)
  have htl_cl1 := tops_len cl1
  have hcr := rsol_count hr1_1
  have hclr := conts_len r1
  refine O.p rfl rfl rfl (Pu.move rfl rfl) ?_
  refine O.p rfl rfl rfl (Pu.extract rfl rfl rfl) ?_
  refine O.p rfl rfl rfl (Pu.extract rfl rfl rfl) ?_
  refine O.p rfl rfl rfl (Pu.assign rfl rfl) ?_
  refine O.p rfl rfl rfl (Pu.assign rfl rfl) ?_
  refine O.nil ?_
  refine X.next ?_
  refine V.seq ?_
  refine V.block ?_
  refine V.seq ?_
  refine V.region ?_
  refine O.p rfl rfl rfl (Pu.move rfl rfl) ?_
  refine O.p rfl rfl rfl (Pu.neq rfl rfl rfl) ?_
  refine O.p rfl rfl rfl (Pu.assign rfl rfl) ?_
  refine O.nil ?_
  refine X.next ?_
  refine V.condNot rfl (fun c1 => ?_) (fun c1 => ?_)
  · skip
    refine V.seq ?_
    refine V.region ?_
    refine O.p rfl rfl rfl (Pu.move rfl rfl) ?_
    refine O.p rfl rfl rfl (Pu.assign rfl rfl) ?_
    refine O.p rfl rfl rfl (Pu.assign rfl rfl) ?_
    refine O.nil ?_
    refine X.next ?_
    refine V.ret ?_
    refine X.blockRet ?_
    refine X.thenRet ?_
    refine X.ret2 rfl rfl rfl ?_
    exact fun w hw => St.mkExi (0 : Int) (St.mkExi code1 (St.addPur ⟨rfl, by rw [if_neg (fun h => c1 h.1), if_neg c1] at hcr; exact hcr⟩ (hw.sub (Sub.nil _))))
  · skip
    refine V.seq ?_
    refine V.region ?_
    refine O.p rfl rfl rfl (Pu.move rfl rfl) ?_
    refine O.p rfl rfl rfl (Pu.len rfl Try.underlying64 rfl) ?_
    refine O.p rfl rfl rfl (Pu.gtr rfl rfl rfl) ?_
    refine O.p rfl rfl rfl (Pu.assign rfl rfl) ?_
    refine O.nil ?_
    refine X.next ?_
    refine V.condD rfl (fun c2 => ?_) (fun c2 => ?_)
    · skip
      refine V.seq ?_
      refine V.region ?_
      refine O.p rfl rfl rfl (Pu.assign rfl rfl) ?_
      refine O.p rfl rfl rfl (Pu.assign rfl rfl) ?_
      refine O.nil ?_
      refine X.next ?_
      refine V.ret ?_
      refine X.blockRet ?_
      refine X.thenRet ?_
      refine X.ret2 rfl rfl rfl ?_
      exact fun w hw => St.mkExi (0 : Int) (St.mkExi (3 : Int) (St.addPur ⟨rfl, by rw [if_neg (fun h => by omega), if_pos (by omega), if_pos (by omega)] at hcr; exact hcr⟩ (hw.sub (Sub.nil _))))
    · skip
      refine V.skip ?_
      refine X.blockNormal ?_
      refine X.next ?_
      refine V.seq ?_
      refine V.region ?_
      refine O.p rfl rfl rfl (Pu.move rfl rfl) ?_
      refine O.p rfl rfl rfl (Pu.len rfl Try.underlying64 rfl) ?_
      refine O.p rfl rfl rfl (Pu.assign rfl rfl) ?_
      refine O.p rfl rfl rfl (Pu.assign rfl rfl) ?_
      refine O.nil ?_
      refine X.next ?_
      refine V.ret ?_
      refine X.ret2 rfl rfl rfl ?_
      exact fun w hw => St.mkExi (↑((tops r1).length) : Int) (St.mkExi (0 : Int) (St.addPur ⟨rfl, by rw [if_pos (by omega), if_pos (by omega), if_neg (by omega)] at hcr; rwa [hclr, ← htl_r1] at hcr⟩ (hw.sub (Sub.nil _))))
end Go.Proofs.Ytjpfngmoabnffaa
