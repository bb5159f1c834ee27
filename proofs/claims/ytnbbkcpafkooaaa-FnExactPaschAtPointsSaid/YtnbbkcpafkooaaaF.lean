/-
  Desks.
-/
import Derived.Test.YtnbbkcpafkooaaaE
set_option linter.unusedVariables false
set_option linter.unusedSimpArgs false
namespace Go.Proofs.Ytnbbkcpafkooaaa
open Go Go.RowKit Go.Vc Go.Proofs
set_option maxRecDepth 100000 in
theorem szDesk_ok (v1 v2 left : Int) (xs ys : List B3) (A1 A2 : Option Addr) (c1 c2 : Nat) (w : World) (hl : 0 ≤ left ∧ left ≤ 4611686018427387904) (lx : xs.length ≤ 9223372036854775807) (ly : ys.length ≤ 9223372036854775807) : Does Try.prog 8 [.agg #[.int .i64 v1, .slice A1 xs.length c1, .int .i64 v2, .slice A2 ys.length c2], .int .i64 left] w [] (fun v => [.pur (v = .int .i64 (if roomLeft xs.length left < 0 then -1 else roomLeft ys.length (roomLeft xs.length left)))]) := by
  refine Does.enter Try.func8 rfl rfl [(0, .agg #[.int .i64 v1, .slice A1 xs.length c1, .int .i64 v2, .slice A2 ys.length c2]), (1, .int .i64 left)] rfl ?_
  refine V.seq ?_
  refine V.region ?_
  refine O.e rfl rfl rfl (Ef.box rfl rfl rfl) ?_
  rintro _ _ ⟨b1, rfl, rfl⟩
  refine O.p rfl rfl rfl (Pu.assign rfl rfl) ?_
  refine O.nil ?_
  refine X.next ?_
  refine V.seq ?_
  refine V.region ?_
  refine O.p rfl rfl rfl (Pu.fieldAddr 0 rfl Try.underlying26 rfl sz24 rfl rfl) ?_
  refine O.p rfl rfl rfl (Pu.loadAgg (cs := [_, _]) rfl ag24 sz24 rfl rfl (Ld.blks 0 rfl rfl)) ?_
  refine O.p rfl rfl rfl (Pu.move rfl rfl) ?_
  refine O.e rfl rfl rfl (Ef.callP call13 rfl rfl (fun w hw => szSystem_ok _ _ xs _ _ w (by first | omega | (unfold roomLeft at *; split at * <;> omega)) (by omega))) ?_
  rintro _ _ ⟨rfl, rfl⟩
  refine O.p rfl rfl rfl (Pu.assign rfl rfl) ?_
  refine O.nil ?_
  refine X.next ?_
  refine V.seq ?_
  refine V.seq ?_
  refine V.region ?_
  refine O.p rfl rfl rfl (Pu.move rfl rfl) ?_
  refine O.p rfl rfl rfl (Pu.lss rfl rfl rfl) ?_
  refine O.nil ?_
  refine X.next ?_
  refine V.condD rfl (fun d1 => ?_) (fun d1 => ?_)
  · skip
    refine V.seq ?_
    refine V.region ?_
    refine O.p rfl rfl rfl (Pu.assign rfl rfl) ?_
    refine O.nil ?_
    refine X.next ?_
    refine V.ret ?_
    refine X.thenRet ?_
    refine X.ret1 rfl rfl ?_
    exact fun w hw => St.retP (iv (by rw [if_pos d1])) hw
  · skip
    refine V.skip ?_
    refine X.next ?_
    refine V.seq ?_
    refine V.region ?_
    refine O.p rfl rfl rfl (Pu.fieldAddr 2 rfl Try.underlying26 rfl sz24 rfl rfl) ?_
    refine O.p rfl rfl rfl (Pu.loadAgg (cs := [_, _]) rfl ag24 sz24 rfl rfl (Ld.blks 0 rfl rfl)) ?_
    refine O.p rfl rfl rfl (Pu.move rfl rfl) ?_
    refine O.e rfl rfl rfl (Ef.callP call13 rfl rfl (fun w hw => szSystem_ok _ _ ys _ _ w (by first | omega | (unfold roomLeft at *; split at * <;> omega)) (by omega))) ?_
    rintro _ _ ⟨rfl, rfl⟩
    refine O.p rfl rfl rfl (Pu.assign rfl rfl) ?_
    refine O.nil ?_
    refine X.next ?_
    refine V.seq ?_
    refine V.seq ?_
    refine V.region ?_
    refine O.p rfl rfl rfl (Pu.move rfl rfl) ?_
    refine O.p rfl rfl rfl (Pu.lss rfl rfl rfl) ?_
    refine O.nil ?_
    refine X.next ?_
    refine V.condD rfl (fun d2 => ?_) (fun d2 => ?_)
    · skip
      refine V.seq ?_
      refine V.region ?_
      refine O.p rfl rfl rfl (Pu.assign rfl rfl) ?_
      refine O.nil ?_
      refine X.next ?_
      refine V.ret ?_
      refine X.thenRet ?_
      refine X.ret1 rfl rfl ?_
      exact fun w hw => St.retP (iv (by rw [if_neg d1]; exact roomLeft_neg d2)) hw
    · skip
      refine V.skip ?_
      refine X.next ?_
      refine V.seq ?_
      refine V.region ?_
      refine O.p rfl rfl rfl (Pu.move rfl rfl) ?_
      refine O.p rfl rfl rfl (Pu.assign rfl rfl) ?_
      refine O.nil ?_
      refine X.next ?_
      refine V.ret ?_
      refine X.ret1 rfl rfl ?_
      exact fun w hw => St.retP (iv (by rw [if_neg d1])) hw

set_option maxRecDepth 100000 in
theorem specIsDesk_ok (v1 v2 : Int) (xs ys : List B3) (A1 A2 : Option Addr) (c1 c2 : Nat) (w : World) (hx : Rd B3C w A1 xs) (hy : Rd B3C w A2 ys) (lx : xs.length ≤ 4611686018427387904) (ly : ys.length ≤ 4611686018427387904) : Does Try.prog 9 [.agg #[.int .i64 v1, .slice A1 xs.length c1, .int .i64 v2, .slice A2 ys.length c2]] w [] (fun v => [.pur (v = .bool (decide (STS v1 xs ∧ STS v2 ys)))]) := by
  refine Does.enter Try.func9 rfl rfl [(0, .agg #[.int .i64 v1, .slice A1 xs.length c1, .int .i64 v2, .slice A2 ys.length c2])] rfl ?_
  refine V.seq ?_
  refine V.region ?_
  refine O.e rfl rfl rfl (Ef.box rfl rfl rfl) ?_
  rintro _ _ ⟨b1, rfl, rfl⟩
  refine O.p rfl rfl rfl (Pu.assign rfl rfl) ?_
  refine O.nil ?_
  refine X.next ?_
  refine V.seq ?_
  refine V.region ?_
  refine O.p rfl rfl rfl (Pu.fieldAddr 0 rfl Try.underlying33 rfl sz31 rfl rfl) ?_
  refine O.p rfl rfl rfl (Pu.loadAgg (cs := [_, _]) rfl ag31 sz31 rfl rfl (Ld.blks 0 rfl rfl)) ?_
  refine O.e rfl rfl rfl (Ef.callP call31 rfl rfl (fun w hw => l01Is_ok _ xs _ _ w ((Ld.old hx) w hw) (by omega))) ?_
  rintro _ _ ⟨rfl, rfl⟩
  refine O.p rfl rfl rfl (Pu.move rfl rfl) ?_
  refine O.splitD 6 rfl (fun d1 => ?_) (fun d1 => ?_)
  · skip
    refine O.gp rfl rfl rfl rfl rfl (Pu.fieldAddr 2 rfl Try.underlying33 rfl sz31 rfl rfl) ?_
    refine O.gp rfl rfl rfl rfl rfl (Pu.loadAgg (cs := [_, _]) rfl ag31 sz31 rfl rfl (Ld.blks 0 rfl rfl)) ?_
    refine O.ge rfl rfl rfl rfl rfl (Ef.callP call31 rfl rfl (fun w hw => l01Is_ok _ ys _ _ w ((Ld.old hy) w hw) (by omega))) ?_
    rintro _ _ ⟨rfl, rfl⟩
    refine O.p rfl rfl rfl (Pu.pickT rfl rfl rfl) ?_
    refine O.p rfl rfl rfl (Pu.assign rfl rfl) ?_
    refine O.nil ?_
    refine X.next ?_
    refine V.ret ?_
    refine X.ret1 rfl rfl ?_
    exact fun w hw => St.retP (boolD ⟨fun h => ⟨d1, h⟩, fun h => h.2⟩) hw
  · skip
    refine O.gs rfl rfl rfl rfl rfl rfl ?_
    refine O.gs rfl rfl rfl rfl rfl rfl ?_
    refine O.gs rfl rfl rfl rfl rfl rfl ?_
    refine O.p rfl rfl rfl (Pu.pickF rfl rfl rfl) ?_
    refine O.p rfl rfl rfl (Pu.assign rfl rfl) ?_
    refine O.nil ?_
    refine X.next ?_
    refine V.ret ?_
    refine X.ret1 rfl rfl ?_
    exact fun w hw => St.retP (boolF (fun h => d1 h.1)) hw

set_option maxRecDepth 100000 in
theorem implIsDesk_ok (v1 v2 : Int) (xs ys : List B3) (A1 A2 : Option Addr) (c1 c2 : Nat) (w : World) (hx : Rd B3C w A1 xs) (hy : Rd B3C w A2 ys) (lx : xs.length ≤ 4611686018427387904) (ly : ys.length ≤ 4611686018427387904) : Does Try.prog 11 [.agg #[.int .i64 v1, .slice A1 xs.length c1, .int .i64 v2, .slice A2 ys.length c2]] w [] (fun v => [.pur (v = .bool (decide (STS v1 xs ∧ STS v2 ys)))]) := by
  refine Does.enter Try.func11 rfl rfl [(0, .agg #[.int .i64 v1, .slice A1 xs.length c1, .int .i64 v2, .slice A2 ys.length c2])] rfl ?_
  refine V.seq ?_
  refine V.region ?_
  refine O.e rfl rfl rfl (Ef.box rfl rfl rfl) ?_
  rintro _ _ ⟨b1, rfl, rfl⟩
  refine O.p rfl rfl rfl (Pu.assign rfl rfl) ?_
  refine O.nil ?_
  refine X.next ?_
  refine V.seq ?_
  refine V.region ?_
  refine O.p rfl rfl rfl (Pu.fieldAddr 0 rfl Try.underlying33 rfl sz31 rfl rfl) ?_
  refine O.p rfl rfl rfl (Pu.loadAgg (cs := [_, _]) rfl ag31 sz31 rfl rfl (Ld.blks 0 rfl rfl)) ?_
  refine O.e rfl rfl rfl (Ef.callP call32 rfl rfl (fun w hw => IsSystem_ok _ xs _ _ w ((Ld.old hx) w hw) (by omega))) ?_
  rintro _ _ ⟨rfl, rfl⟩
  refine O.p rfl rfl rfl (Pu.move rfl rfl) ?_
  refine O.splitD 6 rfl (fun d1 => ?_) (fun d1 => ?_)
  · skip
    refine O.gp rfl rfl rfl rfl rfl (Pu.fieldAddr 2 rfl Try.underlying33 rfl sz31 rfl rfl) ?_
    refine O.gp rfl rfl rfl rfl rfl (Pu.loadAgg (cs := [_, _]) rfl ag31 sz31 rfl rfl (Ld.blks 0 rfl rfl)) ?_
    refine O.ge rfl rfl rfl rfl rfl (Ef.callP call32 rfl rfl (fun w hw => IsSystem_ok _ ys _ _ w ((Ld.old hy) w hw) (by omega))) ?_
    rintro _ _ ⟨rfl, rfl⟩
    refine O.p rfl rfl rfl (Pu.pickT rfl rfl rfl) ?_
    refine O.p rfl rfl rfl (Pu.assign rfl rfl) ?_
    refine O.nil ?_
    refine X.next ?_
    refine V.ret ?_
    refine X.ret1 rfl rfl ?_
    exact fun w hw => St.retP (boolD ⟨fun h => ⟨d1, h⟩, fun h => h.2⟩) hw
  · skip
    refine O.gs rfl rfl rfl rfl rfl rfl ?_
    refine O.gs rfl rfl rfl rfl rfl rfl ?_
    refine O.gs rfl rfl rfl rfl rfl rfl ?_
    refine O.p rfl rfl rfl (Pu.pickF rfl rfl rfl) ?_
    refine O.p rfl rfl rfl (Pu.assign rfl rfl) ?_
    refine O.nil ?_
    refine X.next ?_
    refine V.ret ?_
    refine X.ret1 rfl rfl ?_
    exact fun w hw => St.retP (boolF (fun h => d1 h.1)) hw

set_option maxRecDepth 100000 in
theorem toDesk_ok (v1 v2 : Int) (xs ys : List B3) (A1 A2 : Option Addr) (c1 c2 : Nat) (w : World) (hx : Rd B3C w A1 xs) (hy : Rd B3C w A2 ys) (lx : xs.length ≤ 1099511627776) (ly : ys.length ≤ 1099511627776) : Does Try.prog 10 [.agg #[.int .i64 v1, .slice A1 xs.length c1, .int .i64 v2, .slice A2 ys.length c2]] w [] (fun v => [.exi fun p : Option Addr × Option Addr => .sep (.pur (p.1.isSome = true ∧ p.2.isSome = true ∧ v = .agg #[.int .i64 v1, .slice p.1 xs.length xs.length, .int .i64 v2, .slice p.2 ys.length ys.length])) (.sep (Own 66 B3C p.1 xs.length xs) (Own 66 B3C p.2 ys.length ys))]) := by
  refine Does.enter Try.func10 rfl rfl [(0, .agg #[.int .i64 v1, .slice A1 xs.length c1, .int .i64 v2, .slice A2 ys.length c2])] rfl ?_
  refine V.seq ?_
  refine V.region ?_
  refine O.e rfl rfl rfl (Ef.box rfl rfl rfl) ?_
  rintro _ _ ⟨b1, rfl, rfl⟩
  refine O.e rfl rfl rfl (Ef.alloc rfl zr33 rfl) ?_
  rintro _ _ ⟨b2, rfl, rfl⟩
  refine O.nil ?_
  refine X.next ?_
  refine V.seq ?_
  refine V.region ?_
  refine O.e rfl rfl rfl (Ef.alloc rfl zr33 rfl) ?_
  rintro _ _ ⟨b3, rfl, rfl⟩
  refine O.nil ?_
  refine X.next ?_
  refine V.seq ?_
  refine V.region ?_
  refine O.p rfl rfl rfl (Pu.fieldAddr 0 rfl Try.underlying26 rfl sz24 rfl rfl) ?_
  refine O.p rfl rfl rfl (Pu.loadAgg (cs := [_, _]) rfl ag24 sz24 rfl rfl (Ld.blks 2 rfl rfl)) ?_
  refine O.e rfl rfl rfl (Ef.call1 call15 rfl rfl (fun w hw => toSystem_ok _ xs _ _ w ((Ld.old hx) w hw) (by omega))) ?_
  rintro _ _ rfl
  refine O.exi (fun D1 => ?_)
  refine O.sep ?_
  refine O.pur ?_
  rintro ⟨hD1, rfl⟩
  refine O.p rfl rfl rfl (Pu.fieldAddr 0 rfl Try.underlying33 rfl sz31 rfl rfl) ?_
  refine O.s rfl rfl (Ef.storePart (cs' := [_, _, _, _]) 1 rfl sz31 rfl rfl rfl rfl (by simp [Value.oneCell']) (leb rfl) rfl) ?_
  rintro _ _ rfl
  refine O.nil ?_
  refine X.next ?_
  refine V.seq ?_
  refine V.region ?_
  refine O.p rfl rfl rfl (Pu.fieldAddr 2 rfl Try.underlying26 rfl sz24 rfl rfl) ?_
  refine O.p rfl rfl rfl (Pu.loadAgg (cs := [_, _]) rfl ag24 sz24 rfl rfl (Ld.blks 3 rfl rfl)) ?_
  refine O.e rfl rfl rfl (Ef.call1 call15 rfl rfl (fun w hw => toSystem_ok _ ys _ _ w ((Ld.old hy) w hw) (by omega))) ?_
  rintro _ _ rfl
  refine O.exi (fun D2 => ?_)
  refine O.sep ?_
  refine O.pur ?_
  rintro ⟨hD2, rfl⟩
  refine O.p rfl rfl rfl (Pu.fieldAddr 2 rfl Try.underlying33 rfl sz31 rfl rfl) ?_
  refine O.s rfl rfl (Ef.storePart (cs' := [_, _, _, _]) 2 rfl sz31 rfl rfl rfl rfl (by simp [Value.oneCell']) (leb rfl) rfl) ?_
  rintro _ _ rfl
  refine O.nil ?_
  refine X.next ?_
  refine V.seq ?_
  refine V.region ?_
  refine O.p rfl rfl rfl (Pu.loadAgg rfl ag33 sz33 rfl rfl (Ld.whole 2 rfl)) ?_
  refine O.s rfl rfl (Ef.storeAll 3 rfl sz33 rfl rfl rfl rfl (by simp [Value.oneCell']) rfl) ?_
  rintro _ _ rfl
  refine O.nil ?_
  refine X.next ?_
  refine V.ret ?_
  refine X.retCell rfl ag33 sz33 rfl rfl (Ld.whole 3 rfl) ?_
  exact fun w hw => St.retX (D1, D2) ⟨hD1, hD2, rfl⟩ (St.unsep (hw.sub (Sub.keep 1 rfl (Sub.keep 0 rfl (Sub.nil _)))))

set_option maxRecDepth 100000 in
theorem eqDesk_ok (v1 v2 u1 u2 : Int) (xs ys zs ts : List B3) (A1 A2 B1 B2 : Option Addr) (c1 c2 k1 k2 : Nat) (w : World) (hx : Rd B3C w A1 xs) (hy : Rd B3C w A2 ys) (hz : Rd B3C w B1 zs) (ht : Rd B3C w B2 ts) (lx : xs.length ≤ 4611686018427387904) (ly : ys.length ≤ 4611686018427387904) (lz : zs.length ≤ 4611686018427387904) (lt : ts.length ≤ 4611686018427387904) : Does Try.prog 12 [.agg #[.int .i64 v1, .slice A1 xs.length c1, .int .i64 v2, .slice A2 ys.length c2], .agg #[.int .i64 u1, .slice B1 zs.length k1, .int .i64 u2, .slice B2 ts.length k2]] w [] (fun v => [.pur (v = .bool (decide ((v1 = u1 ∧ xs = zs) ∧ (v2 = u2 ∧ ys = ts))))]) := by
  refine Does.enter Try.func12 rfl rfl [(0, .agg #[.int .i64 v1, .slice A1 xs.length c1, .int .i64 v2, .slice A2 ys.length c2]), (1, .agg #[.int .i64 u1, .slice B1 zs.length k1, .int .i64 u2, .slice B2 ts.length k2])] rfl ?_
  refine V.seq ?_
  refine V.region ?_
  refine O.e rfl rfl rfl (Ef.box rfl rfl rfl) ?_
  rintro _ _ ⟨b1, rfl, rfl⟩
  refine O.e rfl rfl rfl (Ef.box rfl rfl rfl) ?_
  rintro _ _ ⟨b2, rfl, rfl⟩
  refine O.p rfl rfl rfl (Pu.assign rfl rfl) ?_
  refine O.nil ?_
  refine X.next ?_
  refine V.seq ?_
  refine V.seq ?_
  refine V.region ?_
  refine O.p rfl rfl rfl (Pu.fieldAddr 0 rfl Try.underlying33 rfl sz31 rfl rfl) ?_
  refine O.p rfl rfl rfl (Pu.loadAgg (cs := [_, _]) rfl ag31 sz31 rfl rfl (Ld.blks 1 rfl rfl)) ?_
  refine O.p rfl rfl rfl (Pu.fieldAddr 0 rfl Try.underlying33 rfl sz31 rfl rfl) ?_
  refine O.p rfl rfl rfl (Pu.loadAgg (cs := [_, _]) rfl ag31 sz31 rfl rfl (Ld.blks 0 rfl rfl)) ?_
  refine O.e rfl rfl rfl (Ef.callP call18 rfl rfl (fun w hw => eqSystem_ok _ _ xs zs _ _ _ _ w ((Ld.old hx) w hw) ((Ld.old hz) w hw) (by omega) (by omega))) ?_
  rintro _ _ ⟨rfl, rfl⟩
  refine O.p rfl rfl rfl (Pu.not rfl rfl) ?_
  refine O.nil ?_
  refine X.next ?_
  refine V.condNot rfl (fun d1 => ?_) (fun d1 => ?_)
  · skip
    refine V.seq ?_
    refine V.region ?_
    refine O.p rfl rfl rfl (Pu.assign rfl rfl) ?_
    refine O.nil ?_
    refine X.next ?_
    refine V.ret ?_
    refine X.thenRet ?_
    refine X.ret1 rfl rfl ?_
    exact fun w hw => St.retP (boolF (fun h => d1 h.1)) hw
  · skip
    refine V.skip ?_
    refine X.next ?_
    refine V.seq ?_
    refine V.seq ?_
    refine V.region ?_
    refine O.p rfl rfl rfl (Pu.fieldAddr 2 rfl Try.underlying33 rfl sz31 rfl rfl) ?_
    refine O.p rfl rfl rfl (Pu.loadAgg (cs := [_, _]) rfl ag31 sz31 rfl rfl (Ld.blks 1 rfl rfl)) ?_
    refine O.p rfl rfl rfl (Pu.fieldAddr 2 rfl Try.underlying33 rfl sz31 rfl rfl) ?_
    refine O.p rfl rfl rfl (Pu.loadAgg (cs := [_, _]) rfl ag31 sz31 rfl rfl (Ld.blks 0 rfl rfl)) ?_
    refine O.e rfl rfl rfl (Ef.callP call18 rfl rfl (fun w hw => eqSystem_ok _ _ ys ts _ _ _ _ w ((Ld.old hy) w hw) ((Ld.old ht) w hw) (by omega) (by omega))) ?_
    rintro _ _ ⟨rfl, rfl⟩
    refine O.p rfl rfl rfl (Pu.not rfl rfl) ?_
    refine O.nil ?_
    refine X.next ?_
    refine V.condNot rfl (fun d2 => ?_) (fun d2 => ?_)
    · skip
      refine V.seq ?_
      refine V.region ?_
      refine O.p rfl rfl rfl (Pu.assign rfl rfl) ?_
      refine O.nil ?_
      refine X.next ?_
      refine V.ret ?_
      refine X.thenRet ?_
      refine X.ret1 rfl rfl ?_
      exact fun w hw => St.retP (boolF (fun h => d2 h.2)) hw
    · skip
      refine V.skip ?_
      refine X.next ?_
      refine V.seq ?_
      refine V.region ?_
      refine O.p rfl rfl rfl (Pu.assign rfl rfl) ?_
      refine O.nil ?_
      refine X.next ?_
      refine V.ret ?_
      refine X.ret1 rfl rfl ?_
      exact fun w hw => St.retP (boolT ⟨d1, d2⟩) hw

set_option maxRecDepth 100000 in
theorem FnExactIsDesk_ok (v1 v2 : Int) (xs ys : List B3) (A1 A2 : Option Addr) (c1 c2 : Nat) (w : World) (hx : Rd B3C w A1 xs) (hy : Rd B3C w A2 ys) (lx : xs.length ≤ 9223372036854775807) (ly : ys.length ≤ 9223372036854775807) : Does Try.prog 3 [.agg #[.int .i64 v1, .slice A1 xs.length c1, .int .i64 v2, .slice A2 ys.length c2]] w [] (fun v => [.pur (v = .bool true)]) := by
  refine Does.enter Try.func3 rfl rfl [(0, .agg #[.int .i64 v1, .slice A1 xs.length c1, .int .i64 v2, .slice A2 ys.length c2])] rfl ?_
  refine V.seq ?_
  refine V.region ?_
  refine O.e rfl rfl rfl (Ef.box rfl rfl rfl) ?_
  rintro _ _ ⟨b1, rfl, rfl⟩
  refine O.p rfl rfl rfl (Pu.assign rfl rfl) ?_
  refine O.nil ?_
  refine X.next ?_
  refine V.seq ?_
  refine V.region ?_
  refine O.p rfl rfl rfl (Pu.assign rfl rfl) ?_
  refine O.nil ?_
  refine X.next ?_
  refine V.seq ?_
  refine V.region ?_
  refine O.p rfl rfl rfl (Pu.loadAgg rfl ag26 sz26 rfl rfl (Ld.whole 0 rfl)) ?_
  refine O.p rfl rfl rfl (Pu.move rfl rfl) ?_
  refine O.e rfl rfl rfl (Ef.callP call8 rfl rfl (fun w hw => szDesk_ok _ _ _ xs ys _ _ _ _ w (by omega) (by omega) (by omega))) ?_
  rintro _ _ ⟨rfl, rfl⟩
  refine O.p rfl rfl rfl (Pu.assign rfl rfl) ?_
  refine O.nil ?_
  refine X.next ?_
  refine V.seq ?_
  refine V.seq ?_
  refine V.region ?_
  refine O.p rfl rfl rfl (Pu.move rfl rfl) ?_
  refine O.p rfl rfl rfl (Pu.lss rfl rfl rfl) ?_
  refine O.nil ?_
  refine X.next ?_
  refine V.condD rfl (fun d1 => ?_) (fun d1 => ?_)
  · skip
    refine V.seq ?_
    refine V.region ?_
    refine O.p rfl rfl rfl (Pu.assign rfl rfl) ?_
    refine O.nil ?_
    refine X.next ?_
    refine V.ret ?_
    refine X.thenRet ?_
    refine X.ret1 rfl rfl ?_
    exact fun w hw => St.retP (rfl) hw
  · skip
    have hk : xs.length ≤ 1048576 ∧ ys.length ≤ 1048576 := by unfold roomLeft at d1; (repeat' split at d1) <;> omega
    refine V.skip ?_
    refine X.next ?_
    refine V.seq ?_
    refine V.region ?_
    refine O.p rfl rfl rfl (Pu.loadAgg rfl ag26 sz26 rfl rfl (Ld.whole 0 rfl)) ?_
    refine O.e rfl rfl rfl (Ef.call1 call10 rfl rfl (fun w hw => toDesk_ok _ _ xs ys _ _ _ _ w ((Ld.old hx) w hw) ((Ld.old hy) w hw) (by omega) (by omega))) ?_
    rintro _ _ rfl
    refine O.exi (fun p1 => ?_)
    refine O.sep ?_
    refine O.pur ?_
    rintro ⟨hp1_1, hp1_2, rfl⟩
    refine O.sep ?_
    refine O.e rfl rfl rfl (Ef.callP call9 rfl rfl (fun w hw => specIsDesk_ok _ _ xs ys _ _ _ _ w ((Ld.own 0 (by exact rfl)) w hw) ((Ld.own 1 (by exact rfl)) w hw) (by omega) (by omega))) ?_
    rintro _ _ ⟨rfl, rfl⟩
    refine O.p rfl rfl rfl (Pu.assign rfl rfl) ?_
    refine O.nil ?_
    refine X.next ?_
    refine V.seq ?_
    refine V.region ?_
    refine O.p rfl rfl rfl (Pu.loadAgg rfl ag26 sz26 rfl rfl (Ld.whole 2 rfl)) ?_
    refine O.e rfl rfl rfl (Ef.call1 call10 rfl rfl (fun w hw => toDesk_ok _ _ xs ys _ _ _ _ w ((Ld.old hx) w hw) ((Ld.old hy) w hw) (by omega) (by omega))) ?_
    rintro _ _ rfl
    refine O.exi (fun p2 => ?_)
    refine O.sep ?_
    refine O.pur ?_
    rintro ⟨hp2_1, hp2_2, rfl⟩
    refine O.sep ?_
    refine O.e rfl rfl rfl (Ef.alloc rfl zr33 rfl) ?_
    rintro _ _ ⟨b2, rfl, rfl⟩
    refine O.s rfl rfl (Ef.storeAll 0 rfl sz33 rfl rfl rfl rfl (by simp [Value.oneCell']) rfl) ?_
    rintro _ _ rfl
    refine O.nil ?_
    refine X.next ?_
    refine V.seq ?_
    refine V.region ?_
    refine O.p rfl rfl rfl (Pu.loadAgg rfl ag33 sz33 rfl rfl (Ld.whole 0 rfl)) ?_
    refine O.e rfl rfl rfl (Ef.callP call11 rfl rfl (fun w hw => implIsDesk_ok _ _ xs ys _ _ _ _ w ((Ld.own 1 (by exact rfl)) w hw) ((Ld.own 2 (by exact rfl)) w hw) (by omega) (by omega))) ?_
    rintro _ _ ⟨rfl, rfl⟩
    refine O.p rfl rfl rfl (Pu.assign rfl rfl) ?_
    refine O.nil ?_
    refine X.next ?_
    refine V.seq ?_
    refine V.seq ?_
    refine V.region ?_
    refine O.p rfl rfl rfl (Pu.move rfl rfl) ?_
    refine O.p rfl rfl rfl (Pu.move rfl rfl) ?_
    refine O.p rfl rfl rfl (Pu.boolNeq Try.underlying4 rfl rfl rfl) ?_
    refine O.nil ?_
    refine X.next ?_
    refine V.cond rfl (fun d2 => ?_) (fun d2 => ?_)
    · skip
      exact absurd d2 (by simp)
    · skip
      refine V.skip ?_
      refine X.next ?_
      refine V.seq ?_
      refine V.seq ?_
      refine V.draw mo (by kernel_rfl) (fun hwf => ?_)
      refine D.p 0 rfl rfl rfl rfl rfl rfl (Pu.loadAgg rfl ag33 sz33 rfl rfl (Ld.whole 0 rfl)) ?_
      refine D.p 1 rfl rfl rfl rfl rfl rfl (Pu.loadAgg rfl ag26 sz26 rfl rfl (Ld.whole 5 rfl)) ?_
      refine D.eff hwf (e := 2) rfl rfl rfl rfl (Ef.call1 call10 rfl rfl (fun w hw => toDesk_ok _ _ xs ys _ _ _ _ w ((Ld.old hx) w hw) ((Ld.old hy) w hw) (by omega) (by omega))) rfl rfl rfl ?_
      rintro _ _ rfl hs
      refine ⟨fun w hw => hs w hw.tail, ?_⟩
      refine D.exi (fun p3 => ?_)
      refine D.sep ?_
      refine D.pur1 ?_
      rintro ⟨hp3_1, hp3_2, rfl⟩
      refine D.sep ?_
      refine D.eff hwf (e := 3) rfl rfl rfl rfl (Ef.callP call12 rfl rfl (fun w hw => eqDesk_ok _ _ _ _ xs ys xs ys _ _ _ _ _ _ _ _ w ((Ld.own 3 (by exact rfl)) w hw) ((Ld.own 4 (by exact rfl)) w hw) ((Ld.own 0 (by exact rfl)) w hw) ((Ld.own 1 (by exact rfl)) w hw) (by omega) (by omega) (by omega) (by omega))) rfl rfl rfl ?_
      rintro _ _ ⟨rfl, rfl⟩ hs
      refine ⟨fun w hw => hw.sub (Sub.keep 2 rfl (Sub.keep 2 rfl (Sub.keep 2 rfl (Sub.keep 2 rfl (Sub.keep 2 rfl (Sub.keep 2 rfl (Sub.nil _))))))), ?_⟩
      refine D.p 4 rfl rfl rfl rfl rfl rfl (Pu.not rfl rfl) ?_
      refine D.done hwf rfl ?_
      refine X.next ?_
      refine V.condNot rfl (fun d3 => ?_) (fun d3 => ?_)
      · skip
        exact absurd ⟨⟨rfl, rfl⟩, rfl, rfl⟩ d3
      · skip
        refine V.skip ?_
        refine X.next ?_
        refine V.seq ?_
        refine V.region ?_
        refine O.p rfl rfl rfl (Pu.assign rfl rfl) ?_
        refine O.nil ?_
        refine X.next ?_
        refine V.ret ?_
        refine X.ret1 rfl rfl ?_
        exact fun w hw => St.retP (rfl) hw
end Go.Proofs.Ytnbbkcpafkooaaa
