/-
  Contracts, part 8.
-/
import Derived.Test.YtgfpljeppfaolaaGreatKb7
set_option linter.unusedVariables false
set_option linter.unusedSimpArgs false
namespace Go.Proofs.YtgfpljeppfaolaaGreat
open Go Go.RowKit Go.Vc Go.Proofs
set_option maxRecDepth 100000 in
set_option maxHeartbeats 1000000 in
theorem fits_ok (v : Int) (bs : List B3) (p : Int) (os ns : List B3) (A : Option Addr) (c : Nat) (A1 A2 : Option Addr) (k1 k2 : Nat) (w : World) (hx : Rd B3C w A bs) (ho : Rd B3C w A1 os) (hnt : Rd B3C w A2 ns) (lx : bs.length ≤ 4611686018427387904) (lo : os.length ≤ 4611686018427387904) (ln : ns.length ≤ 4611686018427387904) (lb : bs.length ≤ 1000000) (lb2 : os.length ≤ 1000000) : Does Tryz.prog 90 [.agg #[.int .i64 v, .slice A bs.length c], .agg #[.int .i64 p, .slice A1 os.length k1, .slice A2 ns.length k2]] w [] (fun r => [.pur (r = .bool (decide (FIT v bs p os)))]) := by
 refine Does.enter Tryz.func90 rfl rfl [(0, .agg #[.int .i64 v, .slice A bs.length c]), (1, .agg #[.int .i64 p, .slice A1 os.length k1, .slice A2 ns.length k2])] rfl (Za (O.f rfl (Ef.box rfl rfl rfl) ?_))
 rintro _ _ ⟨b1, rfl, rfl⟩
 refine O.f rfl (Ef.box rfl rfl rfl) ?_
 rintro _ _ ⟨b2, rfl, rfl⟩
 refine O.m rfl (Zf (Vs (V.ent (Ent.cons (t := 2) rfl (Ent.cons (t := 3) rfl (Ent.nil _))) (V.draw mo (by kernel_rfl) (fun hwf => D.q 0 rfl (Pu.fieldAddr 0 rfl ut26 rfl sz2 rfl rfl) (D.q 1 rfl (Pu.load rfl pl2 rfl (Ld.blk 1 rfl rfl)) (D.q 2 rfl (Pu.fieldAddr 0 rfl ut35 rfl sz2 rfl rfl) (D.q 3 rfl (Pu.load rfl pl2 rfl (Ld.blk 0 rfl rfl)) (D.q 4 rfl (Pu.eql rfl rfl rfl) (D.m 5 rfl (D.splitD 10 rfl (fun c1 => ?_) (fun c1 => ?_))))))))))))
 ·refine D.gq 6 rfl (Pu.fieldAddr 1 rfl ut35 rfl sz24 rfl rfl) (D.gq 7 rfl (Pu.load rfl pl24 rfl (Ld.blk 0 rfl rfl)) (D.gq 8 rfl (Pu.fieldAddr 1 rfl ut26 rfl sz24 rfl rfl) (D.gq 9 rfl (Pu.load rfl pl24 rfl (Ld.blk 1 rfl rfl)) (D.gq 12 rfl (Pu.fieldAddr 1 rfl ut35 rfl sz24 rfl rfl) (D.gq 13 rfl (Pu.load rfl pl24 rfl (Ld.blk 0 rfl rfl)) (D.gq 14 rfl (Pu.len rfl ut24 rfl) (D.geff hwf (e := 10) rfl rfl rfl rfl rfl rfl (Ef.call1 call93 rfl rfl (fun w hw => implCommon_ok  os bs _ _ _ _ w ((Ld.old ho) w hw) ((Ld.old hx) w hw) (by omega) (by omega) )) rfl rfl rfl ?_)))))))
  rintro _ _ rfl hs
  refine ⟨fun w hw => hs w hw.tail, (D.exi (fun r1A => D.exi (fun r1c => D.exi (fun r1 => D.sep (D.pur1 ?_)))))⟩
  rintro ⟨rfl, hr1_1⟩
  exact D.gq 11 rfl (Pu.len rfl ut24 rfl) (D.gq 15 rfl (Pu.eql rfl rfl rfl) (D.m 16 rfl (D.m 17 rfl (D.done hwf rfl (Xn (Vt (X.ret1 rfl rfl (fun w hw => St.retP (boolD (⟨fun h => ⟨c1, fit_len.1 (by rw [← hr1_1]; omega)⟩, fun h => by have h2 := fit_len.2 h.2; rw [← hr1_1] at h2; omega⟩)) hw))))))))
 ·refine D.g 6 rfl (D.g 7 rfl (D.g 8 rfl (D.g 9 rfl (D.g 10 rfl (D.g 11 rfl (D.g 12 rfl (D.g 13 rfl (D.g 14 rfl (D.g 15 rfl (D.m 16 rfl (D.m 17 rfl ?_)))))))))))
  exact D.done hwf rfl (Xn (Vt (X.ret1 rfl rfl (fun w hw => St.retP (boolF (fun h => c1 h.1)) hw))))
set_option maxRecDepth 100000 in
set_option maxHeartbeats 1000000 in
theorem carriedOut_ok (v : Int) (bs : List B3) (p : Int) (os ns : List B3) (A : Option Addr) (c : Nat) (A1 A2 : Option Addr) (k1 k2 : Nat) (w : World) (hx : Rd B3C w A bs) (ho : Rd B3C w A1 os) (hnt : Rd B3C w A2 ns) (lx : bs.length ≤ 4611686018427387904) (lo : os.length ≤ 4611686018427387904) (ln : ns.length ≤ 4611686018427387904) (lb : bs.length ≤ 1000) (lb2 : os.length ≤ 1000) (lb3 : ns.length ≤ 1000) (hnn : A2 = none → k2 = 0) : Does Tryz.prog 91 [.agg #[.int .i64 v, .slice A bs.length c], .agg #[.int .i64 p, .slice A1 os.length k1, .slice A2 ns.length k2]] w [] (fun rv_ => [.exi fun (rA : Option Addr) => .exi fun (rc : Nat) => .exi fun (r : List B3) => .sep (.pur (rv_ = .agg #[.int .i64 v, .slice rA r.length rc] ∧ r.Perm (lessB bs os ++ ns) ∧ SrtB r)) (Own 81 B3C rA rc r)]) := by
 refine Does.enter Tryz.func91 rfl rfl [(0, .agg #[.int .i64 v, .slice A bs.length c]), (1, .agg #[.int .i64 p, .slice A1 os.length k1, .slice A2 ns.length k2])] rfl (Za (O.f rfl (Ef.box rfl rfl rfl) ?_))
 rintro _ _ ⟨b1, rfl, rfl⟩
 refine O.f rfl (Ef.box rfl rfl rfl) ?_
 rintro _ _ ⟨b2, rfl, rfl⟩
 refine O.f rfl (Ef.alloc rfl zr26 rfl) ?_
 rintro _ _ ⟨b3, rfl, rfl⟩
 refine Zf (Vs (V.draw mo (by kernel_rfl) (fun hwf => D.q 0 rfl (Pu.fieldAddr 0 rfl ut26 rfl sz2 rfl rfl) (D.q 1 rfl (Pu.load rfl pl2 rfl (Ld.blk 2 rfl rfl)) (D.q 2 rfl (Pu.fieldAddr 1 rfl ut26 rfl sz24 rfl rfl) (D.q 3 rfl (Pu.load rfl pl24 rfl (Ld.blk 2 rfl rfl)) (D.q 4 rfl (Pu.fieldAddr 1 rfl ut35 rfl sz24 rfl rfl) (D.q 5 rfl (Pu.load rfl pl24 rfl (Ld.blk 1 rfl rfl)) (D.q 7 rfl (Pu.fieldAddr 2 rfl ut35 rfl sz24 rfl rfl) (D.q 8 rfl (Pu.load rfl pl24 rfl (Ld.blk 1 rfl rfl)) ?_))))))))))
 refine D.f hwf 6 rfl (Ef.call1 call87 rfl rfl (fun w hw => less_ok  bs os _ _ _ _ w ((Ld.old hx) w hw) ((Ld.old ho) w hw) (by omega) (by omega) )) ?_
 rintro _ _ rfl hs
 refine ⟨fun w hw => hs w hw.tail, (D.exi (fun r1A => D.exi (fun r1c => D.exi (fun r1 => D.sep (D.pur1 ?_)))))⟩
 rintro ⟨rfl, hr1_1⟩
 have hll : r1.length ≤ bs.length := by rw [hr1_1]; exact lessB_len
 refine D.f hwf 9 rfl (Ef.appendN (xs := r1) (ys := ns) 0 rfl ut24 inf81 rfl rfl rfl rfl rfl rfl (fun w hw h => ⟨by rw [Rd.none ((Ld.old hnt) w hw) h]; rfl, hnn h⟩) (Ld.old hnt) (by omega) (by decide)) ?_
 rintro _ _ ⟨D1, e1, rfl, rfl, hD1⟩ hs
 refine ⟨fun w hw => hw.sub (Sub.s [1,1,1] rfl), (D.f hwf 10 rfl (Ef.call1 call160 rfl rfl (fun w hw => system_ok  v (r1 ++ ns) _ _ w ((Ld.own 0 (by exact rfl)) w hw) (by rw [List.length_append]; omega) (by rw [List.length_append]; omega))) ?_)⟩
 rintro _ _ rfl hs
 refine ⟨fun w hw => hs w hw.tail, (D.exi (fun r2A => D.exi (fun r2c => D.exi (fun r2 => D.sep (D.pur1 ?_)))))⟩
 rintro ⟨rfl, hr2_1, hr2_2⟩
 refine D.effX (Hs' := []) hwf (e := 11) rfl rfl rfl rfl (Ef.storeAll 2 rfl sz26 rfl rfl rfl rfl (by simp [Value.oneCell']) rfl) rfl [] rfl (List.forall_mem_nil _) ?_
 rintro _ _ rfl
 exact ⟨fun w hw => hw.sub (Sub.nil _), (D.done hwf rfl (Xn (Vt (X.retCell rfl ag26 sz26 rfl rfl (Ld.whole 2 rfl) (fun w hw => St.mkExi r2A (St.mkExi r2c (St.mkExi r2 (St.unsep (St.addPur ⟨rfl, by rw [hr1_1] at hr2_1; exact hr2_1, hr2_2⟩ (hw.sub (Sub.s [0] rfl)))))))))))⟩
set_option maxRecDepth 100000 in
set_option maxHeartbeats 1000000 in
theorem implCarry_ok (v : Int) (bs : List B3) (p : Int) (os ns : List B3) (A : Option Addr) (c : Nat) (A1 A2 : Option Addr) (k1 k2 : Nat) (w : World) (hx : Rd B3C w A bs) (ho : Rd B3C w A1 os) (hnt : Rd B3C w A2 ns) (lx : bs.length ≤ 4611686018427387904) (lo : os.length ≤ 4611686018427387904) (ln : ns.length ≤ 4611686018427387904) (hnn : A2 = none → k2 = 0) : Does Tryz.prog 18 [.agg #[.int .i64 v, .slice A bs.length c], .agg #[.int .i64 p, .slice A1 os.length k1, .slice A2 ns.length k2]] w [] (fun rv_ => [.exi fun (rA : Option Addr) => .exi fun (rc : Nat) => .exi fun (r : List B3) => .sep (.pur (rv_ = .tuple #[.agg #[.int .i64 (if crC v bs p os ns = 0 then v else 0), .slice rA r.length rc], .int .i64 (crC v bs p os ns)] ∧ CRR v bs p os ns r)) (Own 81 B3C rA rc r)]) := by
 refine Does.enter Tryz.func18 rfl rfl [(0, .agg #[.int .i64 v, .slice A bs.length c]), (1, .agg #[.int .i64 p, .slice A1 os.length k1, .slice A2 ns.length k2])] rfl (Za (O.f rfl (Ef.box rfl rfl rfl) ?_))
 rintro _ _ ⟨b1, rfl, rfl⟩
 refine O.f rfl (Ef.box rfl rfl rfl) ?_
 rintro _ _ ⟨b2, rfl, rfl⟩
 refine O.f rfl (Ef.alloc rfl zr26 rfl) ?_
 rintro _ _ ⟨b3, rfl, rfl⟩
 refine O.m rfl (Zf (Vs (Vb (Za (O.q rfl (Pu.loadAgg rfl ag26 sz26 rfl rfl (Ld.whole 2 rfl)) (O.f rfl (Ef.callP call62 rfl rfl (fun w hw => IsSystem_ok _ bs _ _ w ((Ld.old hx) w hw) (by omega))) ?_))))))
 rintro _ _ ⟨rfl, rfl⟩
 refine O.q rfl (Pu.not rfl rfl) (O.m rfl (O.splitN 10 rfl (fun c1 => ?_) (fun c1 => ?_)))
 ·refine O.g rfl (O.g rfl (O.g rfl (O.m rfl (O.m rfl (Zf (V.condT rfl (Za (O.q rfl (Pu.buildS (cs := [.int .i64 (0 : Int), .slice none 0 0]) rfl rfl ut26 zr26 (by kernel_rfl) rfl (by kernel_rfl)) (O.s rfl rfl (Ef.storeAll 0 rfl sz26 rfl rfl rfl rfl (by simp [Value.oneCell']) rfl) ?_)))))))))
  rintro _ _ rfl
  exact O.m rfl (Ze (Xq (Xr (X.retCell2 rfl ag26 sz26 rfl rfl rfl (Ld.whole 0 rfl) (fun w hw => St.mkExi none (St.mkExi 0 (St.mkExi [] (St.unsep (St.addPur ⟨(by rw [crC_1 (fun h => c1 h.1)]; rfl), ⟨fun h => by rw [crC_1 (fun h => c1 h.1)] at h; omega, fun _ => rfl⟩⟩ (St.addNil (T := 81) (C := B3C) (hw.sub (Sub.nil _))))))))))))
 ·have hfb := c1.few
  refine O.gq rfl (Pu.loadAgg rfl ag35 sz35 rfl rfl (Ld.whole 1 rfl)) (O.gf rfl (Ef.callP call19 rfl rfl (fun w hw => isTrade_ok  p os ns _ _ _ _ w ((Ld.old ho) w hw) ((Ld.old hnt) w hw) (by omega) (by omega) )) ?_)
  rintro _ _ ⟨rfl, rfl⟩
  refine O.gq rfl (Pu.not rfl rfl) (O.m rfl (O.m rfl (Zf (V.condNot rfl (fun c2 => ?_) (fun c2 => ?_)))))
  ·refine Za (O.q rfl (Pu.buildS (cs := [.int .i64 (0 : Int), .slice none 0 0]) rfl rfl ut26 zr26 (by kernel_rfl) rfl (by kernel_rfl)) (O.s rfl rfl (Ef.storeAll 0 rfl sz26 rfl rfl rfl rfl (by simp [Value.oneCell']) rfl) ?_))
   rintro _ _ rfl
   exact O.m rfl (Ze (Xq (Xr (X.retCell2 rfl ag26 sz26 rfl rfl rfl (Ld.whole 0 rfl) (fun w hw => St.mkExi none (St.mkExi 0 (St.mkExi [] (St.unsep (St.addPur ⟨(by rw [crC_1 (fun h => c2 h.2)]; rfl), ⟨fun h => by rw [crC_1 (fun h => c2 h.2)] at h; omega, fun _ => rfl⟩⟩ (St.addNil (T := 81) (C := B3C) (hw.sub (Sub.nil _))))))))))))
  ·have hfo := c2.1.few
   have hfn := c2.2.1.few
   refine Za (O.q rfl (Pu.loadAgg rfl ag26 sz26 rfl rfl (Ld.whole 2 rfl)) (O.q rfl (Pu.loadAgg rfl ag35 sz35 rfl rfl (Ld.whole 1 rfl)) (O.f rfl (Ef.callP call90 rfl rfl (fun w hw => fits_ok  v bs p os ns _ _ _ _ _ _ w ((Ld.old hx) w hw) ((Ld.old ho) w hw) ((Ld.old hnt) w hw) (by first | omega | (simp only [tops_len, conts_len, bl, List.length_append, List.length_cons, List.length_nil] at *; omega)) (by omega) (by omega) (by first | assumption | omega | (try dsimp only at *; omega)) (by first | assumption | omega | (try dsimp only at *; omega)))) ?_)))
   rintro _ _ ⟨rfl, rfl⟩
   refine O.q rfl (Pu.not rfl rfl) (O.m rfl (Zf (V.condNot rfl (fun c3 => ?_) (fun c3 => ?_))))
   ·refine Za (O.q rfl (Pu.buildS (cs := [.int .i64 (0 : Int), .slice none 0 0]) rfl rfl ut26 zr26 (by kernel_rfl) rfl (by kernel_rfl)) (O.s rfl rfl (Ef.storeAll 0 rfl sz26 rfl rfl rfl rfl (by simp [Value.oneCell']) rfl) ?_))
    rintro _ _ rfl
    exact O.m rfl (Ze (Xq (Xr (X.retCell2 rfl ag26 sz26 rfl rfl rfl (Ld.whole 0 rfl) (fun w hw => St.mkExi none (St.mkExi 0 (St.mkExi [] (St.unsep (St.addPur ⟨(by rw [crC_5 c1 c2 c3]; rfl), ⟨fun h => by rw [crC_5 c1 c2 c3] at h; omega, fun _ => rfl⟩⟩ (St.addNil (T := 81) (C := B3C) (hw.sub (Sub.nil _))))))))))))
   ·have hc0 := crC_0 c1 c2 c3
    refine Vk (Xb (Xn (Za (O.q rfl (Pu.loadAgg rfl ag26 sz26 rfl rfl (Ld.whole 2 rfl)) (O.q rfl (Pu.loadAgg rfl ag35 sz35 rfl rfl (Ld.whole 1 rfl)) (O.f rfl (Ef.call1 call91 rfl rfl (fun w hw => carriedOut_ok  v bs p os ns _ _ _ _ _ _ w ((Ld.old hx) w hw) ((Ld.old ho) w hw) ((Ld.old hnt) w hw) (by first | omega | (simp only [tops_len, conts_len, bl, List.length_append, List.length_cons, List.length_nil] at *; omega)) (by omega) (by omega) (by first | assumption | omega | (try dsimp only at *; omega)) (by first | assumption | omega | (try dsimp only at *; omega)) (by first | assumption | omega | (try dsimp only at *; omega)) (by first | assumption | omega | (try dsimp only at *; omega)))) ?_))))))
    rintro _ _ rfl
    refine O.exi (fun r1A => O.exi (fun r1c => O.exi (fun r1 => O.sep (O.pur ?_))))
    rintro ⟨rfl, hr1_1, hr1_2⟩
    refine O.s rfl rfl (Ef.storeAll 1 rfl sz26 rfl rfl rfl rfl (by simp [Value.oneCell']) rfl) ?_
    rintro _ _ rfl
    exact O.m rfl (Ze (X.retCell2 rfl ag26 sz26 rfl rfl rfl (Ld.whole 1 rfl) (fun w hw => St.mkExi r1A (St.mkExi r1c (St.mkExi r1 (St.unsep (St.addPur ⟨(by rw [hc0]; rfl), ⟨fun _ => ⟨hr1_1, hr1_2⟩, fun h => absurd hc0 h⟩⟩ (hw.sub (Sub.s [0] rfl)))))))))
set_option maxRecDepth 100000 in
set_option maxHeartbeats 1000000 in
theorem implFitsSystem_ok (v : Int) (bs : List B3) (p : Int) (os ns : List B3) (A : Option Addr) (c : Nat) (A1 A2 : Option Addr) (k1 k2 : Nat) (w : World) (hx : Rd B3C w A bs) (ho : Rd B3C w A1 os) (hnt : Rd B3C w A2 ns) (lx : bs.length ≤ 4611686018427387904) (lo : os.length ≤ 4611686018427387904) (ln : ns.length ≤ 4611686018427387904) : Does Tryz.prog 22 [.agg #[.int .i64 v, .slice A bs.length c], .agg #[.int .i64 p, .slice A1 os.length k1, .slice A2 ns.length k2]] w [] (fun r => [.pur (r = .tuple #[.bool (decide (STS v bs ∧ TRD p os ns ∧ FIT v bs p os)), .int .i64 (if STS v bs ∧ TRD p os ns then 0 else 1)])]) := by
 refine Does.enter Tryz.func22 rfl rfl [(0, .agg #[.int .i64 v, .slice A bs.length c]), (1, .agg #[.int .i64 p, .slice A1 os.length k1, .slice A2 ns.length k2])] rfl (Za (O.f rfl (Ef.box rfl rfl rfl) ?_))
 rintro _ _ ⟨b1, rfl, rfl⟩
 refine O.f rfl (Ef.box rfl rfl rfl) ?_
 rintro _ _ ⟨b2, rfl, rfl⟩
 refine O.m rfl (O.m rfl (Zc (O.q rfl (Pu.loadAgg rfl ag26 sz26 rfl rfl (Ld.whole 1 rfl)) (O.f rfl (Ef.callP call62 rfl rfl (fun w hw => IsSystem_ok _ bs _ _ w ((Ld.old hx) w hw) (by omega))) ?_))))
 rintro _ _ ⟨rfl, rfl⟩
 refine O.q rfl (Pu.not rfl rfl) (O.m rfl (O.splitN 9 rfl (fun c1 => ?_) (fun c1 => ?_)))
 ·refine O.g rfl (O.g rfl (O.g rfl (O.m rfl (Zf (V.condT rfl (Za (O.m rfl (O.m rfl (On ?_)))))))))
  exact Xn (Vt (Xr (X.ret2 rfl rfl rfl (fun w hw => St.addPur (by rw [if_neg (fun h => c1 h.1)]; exact congrArg (fun b => Value.tuple #[.bool b, .int .i64 1]) (decide_eq_false (fun h => c1 h.1)).symm) (hw.sub (Sub.nil _))))))
 ·have hfb := c1.few
  refine O.gq rfl (Pu.loadAgg rfl ag35 sz35 rfl rfl (Ld.whole 0 rfl)) (O.gf rfl (Ef.callP call19 rfl rfl (fun w hw => isTrade_ok  p os ns _ _ _ _ w ((Ld.old ho) w hw) ((Ld.old hnt) w hw) (by omega) (by omega) )) ?_)
  rintro _ _ ⟨rfl, rfl⟩
  refine O.gq rfl (Pu.not rfl rfl) (O.m rfl (Zf (V.condNot rfl (fun c2 => ?_) (fun c2 => ?_))))
  ·exact Za (O.m rfl (O.m rfl (Ze (Xr (X.ret2 rfl rfl rfl (fun w hw => St.addPur (by rw [if_neg (fun h => c2 h.2)]; exact congrArg (fun b => Value.tuple #[.bool b, .int .i64 1]) (decide_eq_false (fun h => c2 h.2.1)).symm) (hw.sub (Sub.nil _))))))))
  ·have hfo := c2.1.few
   refine Vk (Xn (Za (O.q rfl (Pu.loadAgg rfl ag26 sz26 rfl rfl (Ld.whole 1 rfl)) (O.q rfl (Pu.loadAgg rfl ag35 sz35 rfl rfl (Ld.whole 0 rfl)) (O.f rfl (Ef.callP call90 rfl rfl (fun w hw => fits_ok  v bs p os ns _ _ _ _ _ _ w ((Ld.old hx) w hw) ((Ld.old ho) w hw) ((Ld.old hnt) w hw) (by first | omega | (simp only [tops_len, conts_len, bl, List.length_append, List.length_cons, List.length_nil] at *; omega)) (by omega) (by omega) (by first | assumption | omega | (try dsimp only at *; omega)) (by first | assumption | omega | (try dsimp only at *; omega)))) ?_)))))
   rintro _ _ ⟨rfl, rfl⟩
   exact O.m rfl (O.m rfl (Ze (X.ret2 rfl rfl rfl (fun w hw => St.addPur (by rw [if_pos ⟨c1, c2⟩]; exact congrArg (fun b => Value.tuple #[.bool b, .int .i64 0]) (decide_eq_decide.2 ⟨fun h => ⟨c1, c2, h⟩, fun h => h.2.2⟩)) (hw.sub (Sub.nil _))))))
set_option maxRecDepth 100000 in
set_option maxHeartbeats 1000000 in
theorem l04Less_ok (list : List B3) (others : List B3) (listA : Option Addr) (listc : Nat) (othersA : Option Addr) (othersc : Nat) (w : World) (hlist : Rd B3C w listA list) (hothers : Rd B3C w othersA others) (llist : list.length ≤ 1099511627776) (lothers : others.length ≤ 1099511627776) : Does Tryz.prog 89 [.slice listA list.length listc, .slice othersA others.length othersc] w [] (fun rv_ => [.exi fun (rA : Option Addr) => .exi fun (rc : Nat) => .exi fun (r : List B3) => .sep (.pur (rv_ = .slice rA r.length rc ∧ r = lessB list others)) (Own 81 B3C rA rc r)]) := by
 refine Does.enter Tryz.func89 rfl rfl [(0, .slice listA list.length listc), (1, .slice othersA others.length othersc)] rfl (Za (O.m rfl (Zb (O.f rfl (Ef.build B3C ([] : List B3) rfl ut24 inf81 rfl rfl rfl (by first | decide | (simp; done)) (by kernel_rfl)) ?_))))
 rintro _ _ ⟨A1, hA1, rfl, rfl⟩
 refine O.m rfl (Zc (O.m rfl (Zi (V.loop2 (β := (Option Addr) × Nat × (List B3) × Nat) (fun x => [(5, .slice x.1 x.2.2.1.length x.2.1), (6, .int .i64 (x.2.2.2 : Int))]) _ (fun x => [Own 81 B3C x.1 x.2.1 x.2.2.1]) (fun x => x.2.2.2 ≤ list.length ∧ x.2.2.1 = lessB (list.take x.2.2.2) others ∧ x.2.2.1.length ≤ x.2.2.2) (fun x => list.length - x.2.2.2) (A1, 0, ([] : List B3), 0) (by (try dsimp only); exact ⟨by omega, rfl, by simp⟩) (Ent.cons rfl (Ent.cons rfl (Ent.nil _))) (Ent.cons (t := 0) rfl (Ent.cons (t := 1) rfl (Ent.nil _))) (Sub.s [0] rfl) ?_))))
 rintro ⟨outA, outc, out, i⟩ ⟨hi, ho, hl⟩
 dsimp only at hi ho hl ⊢
 refine Zj (O.m rfl (O.m rfl (O.q rfl (Pu.len rfl ut24 rfl) (O.q rfl (Pu.lss rfl rfl rfl) (Zf (V.condD rfl (fun c1 => ?_) (fun c1 => ?_)))))))
 ·refine Zh (O.m rfl (O.m rfl (O.m rfl (O.q rfl (Pu.indexAddr (i) rfl ut24 sz81 rfl rfl (by omega) (by omega) (hlist.some (by omega))) ?_))))
  have e1 : i < list.length := by omega
  refine O.q rfl (Pu.loadAgg' (v := B3.v (list[i]'e1)) rfl rfl ag81 sz81 rfl rfl (Ld.rds (Ld.old hlist) (k := i) e1 rfl)) (O.f rfl (Ef.callP call159 rfl rfl (fun w hw => l04Member_ok  others (list[i]'e1) _ _ w ((Ld.old hothers) w hw) (by first | omega | (simp only [tops_len, conts_len, bl, List.length_append, List.length_cons, List.length_nil] at *; omega)) )) ?_)
  rintro _ _ ⟨rfl, rfl⟩
  refine O.q rfl (Pu.not rfl rfl) (Zf (V.condNot rfl (fun c2 => ?_) (fun c2 => ?_)))
  ·refine Vr (O.m rfl (O.m rfl (O.m rfl (O.q rfl (Pu.indexAddr (i) rfl ut24 sz81 rfl rfl (by omega) (by omega) (hlist.some (by omega))) (O.q rfl (Pu.loadAgg' (v := B3.v (list[i]'e1)) rfl rfl ag81 sz81 rfl rfl (Ld.rds (Ld.old hlist) (k := i) e1 rfl)) (O.f rfl (Ef.build B3C ([(list[i]'e1)] : List B3) rfl ut24 inf81 rfl rfl rfl (by first | decide | (simp; done)) (by kernel_rfl)) ?_))))))
   rintro _ _ ⟨A2, hA2, rfl, rfl⟩
   refine O.f rfl (Ef.append (xs := out) (ys := ([(list[i]'e1)] : List B3)) 1 rfl ut24 inf81 rfl rfl rfl rfl rfl rfl hA2 (Ld.own 0 (by exact rfl)) (by simp only [List.length_append, List.length_cons, List.length_nil] at *; omega) (by decide)) ?_
   rintro _ _ ⟨A3, k1, rfl, rfl, hA3⟩
   replace hA3 := hA3 (.inr (by simp))
   exact O.m rfl (Zk (O.m rfl (O.q rfl (Pu.add64 (r := ((i + 1 : Nat) : Int)) rfl (by omega) rfl rfl rfl) (O.m rfl (On (X.back2 (A3, k1, (out ++ ([(list[i]'e1)] : List B3)), i + 1) (by (try dsimp only); exact ⟨by omega, by rw [flt_less_yes e1 c2, ho], by simp only [List.length_append, List.length_singleton]; omega⟩) (by first | omega | (dsimp only; omega)) (Ent.cons rfl (Ent.cons rfl (Ent.nil _))) (Ent.cons (t := 0) rfl (Ent.cons (t := 1) rfl (Ent.nil _))) (Sub.s [1] rfl)))))))
  ·exact Zg (O.m rfl (O.q rfl (Pu.add64 (r := ((i + 1 : Nat) : Int)) rfl (by omega) rfl rfl rfl) (O.m rfl (On (X.back2 (outA, outc, out, i + 1) (by (try dsimp only); exact ⟨by omega, by rw [flt_less_no e1 c2, ho], by omega⟩) (by first | omega | (dsimp only; omega)) (Ent.cons rfl (Ent.cons rfl (Ent.nil _))) (Ent.cons (t := 0) rfl (Ent.cons (t := 1) rfl (Ent.nil _))) (Sub.s [0] rfl))))))
 ·refine Zd (O.m rfl (O.m rfl (Ze ?_)))
  exact X.ret1 rfl rfl (fun w hw => St.mkExi outA (St.mkExi outc (St.mkExi out (St.unsep (St.addPur ⟨rfl, by rw [ho, List.take_of_length_le (by omega)]⟩ (hw.sub (Sub.s [0] rfl)))))))
set_option maxRecDepth 100000 in
set_option maxHeartbeats 1000000 in
theorem specDifference_ok (v : Int) (bs : List B3) (v2 : Int) (bs2 : List B3) (A : Option Addr) (c : Nat) (A2 : Option Addr) (c2 : Nat) (w : World) (hx : Rd B3C w A bs) (hx2 : Rd B3C w A2 bs2) (lx : bs.length ≤ 4611686018427387904) (lx2 : bs2.length ≤ 4611686018427387904) : Does Tryz.prog 17 [.agg #[.int .i64 v, .slice A bs.length c], .agg #[.int .i64 v2, .slice A2 bs2.length c2]] w [] (fun r => [.exi fun (oA : Option Addr) => .exi fun (oc : Nat) => .exi fun (o : List B3) => .exi fun (iA : Option Addr) => .exi fun (ic : Nat) => .exi fun (i : List B3) => .sep (.pur (r = .tuple #[.agg #[.int .i64 (if dfC v bs v2 bs2 = 0 then v else 0), .slice oA o.length oc, .slice iA i.length ic], .int .i64 (dfC v bs v2 bs2)] ∧ DFR v bs v2 bs2 o i)) (.sep (Own 81 B3C oA oc o) (Own 81 B3C iA ic i))]) := by
 refine Does.enter Tryz.func17 rfl rfl [(0, .agg #[.int .i64 v, .slice A bs.length c]), (1, .agg #[.int .i64 v2, .slice A2 bs2.length c2])] rfl (Za (O.f rfl (Ef.box rfl rfl rfl) ?_))
 rintro _ _ ⟨b1, rfl, rfl⟩
 refine O.f rfl (Ef.box rfl rfl rfl) ?_
 rintro _ _ ⟨b2, rfl, rfl⟩
 refine O.f rfl (Ef.alloc rfl zr35 rfl) ?_
 rintro _ _ ⟨b3, rfl, rfl⟩
 refine O.m rfl (Zf (Vs (Vb (Za (O.q rfl (Pu.loadAgg rfl ag26 sz26 rfl rfl (Ld.whole 2 rfl)) (O.f rfl (Ef.callP call64 rfl rfl (fun w hw => l01Is_ok _ bs _ _ w ((Ld.old hx) w hw) (by omega))) ?_))))))
 rintro _ _ ⟨rfl, rfl⟩
 refine O.q rfl (Pu.not rfl rfl) (O.m rfl (O.splitN 10 rfl (fun c1 => ?_) (fun c1 => ?_)))
 ·refine O.g rfl (O.g rfl (O.g rfl (O.m rfl (O.m rfl (Zf (V.condT rfl (Za (O.q rfl (Pu.buildS (cs := [.int .i64 (0 : Int), .slice none 0 0, .slice none 0 0]) rfl rfl ut35 zr35 (by kernel_rfl) rfl (by kernel_rfl)) (O.s rfl rfl (Ef.storeAll 0 rfl sz35 rfl rfl rfl rfl (by simp [Value.oneCell']) rfl) ?_)))))))))
  rintro _ _ rfl
  exact O.m rfl (Ze (Xq (Xr (X.retCell2 rfl ag35 sz35 rfl rfl rfl (Ld.whole 0 rfl) (fun w hw => St.mkExi none (St.mkExi 0 (St.mkExi [] (St.mkExi none (St.mkExi 0 (St.mkExi [] (St.unsep (St.addPur ⟨(by rw [dfC_1 (fun h => c1 h.1)]; rfl), ⟨fun h => by rw [dfC_1 (fun h => c1 h.1)] at h; omega, fun _ => ⟨rfl, rfl⟩⟩⟩ (St.unsep (St.addNil (T := 81) (C := B3C) (St.addNil (T := 81) (C := B3C) (hw.sub (Sub.nil _)))))))))))))))))
 ·have hlo := c1.lo
  have hhi := c1.hi
  have hfb := c1.few
  have hos : STS (v.toNat : Int) bs := by rw [show (v.toNat : Int) = v by omega]; exact c1
  refine O.gq rfl (Pu.loadAgg rfl ag26 sz26 rfl rfl (Ld.whole 1 rfl)) (O.gf rfl (Ef.callP call64 rfl rfl (fun w hw => l01Is_ok _ bs2 _ _ w ((Ld.old hx2) w hw) (by omega))) ?_)
  rintro _ _ ⟨rfl, rfl⟩
  refine O.gq rfl (Pu.not rfl rfl) (O.m rfl (O.m rfl (Zf (V.condNot rfl (fun c2 => ?_) (fun c2 => ?_)))))
  ·refine Za (O.q rfl (Pu.buildS (cs := [.int .i64 (0 : Int), .slice none 0 0, .slice none 0 0]) rfl rfl ut35 zr35 (by kernel_rfl) rfl (by kernel_rfl)) (O.s rfl rfl (Ef.storeAll 0 rfl sz35 rfl rfl rfl rfl (by simp [Value.oneCell']) rfl) ?_))
   rintro _ _ rfl
   exact O.m rfl (Ze (Xq (Xr (X.retCell2 rfl ag35 sz35 rfl rfl rfl (Ld.whole 0 rfl) (fun w hw => St.mkExi none (St.mkExi 0 (St.mkExi [] (St.mkExi none (St.mkExi 0 (St.mkExi [] (St.unsep (St.addPur ⟨(by rw [dfC_1 (fun h => c2 h.2)]; rfl), ⟨fun h => by rw [dfC_1 (fun h => c2 h.2)] at h; omega, fun _ => ⟨rfl, rfl⟩⟩⟩ (St.unsep (St.addNil (T := 81) (C := B3C) (St.addNil (T := 81) (C := B3C) (hw.sub (Sub.nil _)))))))))))))))))
  ·have hf2 := c2.few
   refine Za (O.q rfl (Pu.fieldAddr 0 rfl ut26 rfl sz2 rfl rfl) (O.q rfl (Pu.load rfl pl2 rfl (Ld.blk 2 rfl rfl)) (O.q rfl (Pu.fieldAddr 0 rfl ut26 rfl sz2 rfl rfl) (O.q rfl (Pu.load rfl pl2 rfl (Ld.blk 1 rfl rfl)) (O.q rfl (Pu.neq rfl rfl rfl) (O.m rfl (O.splitN 22 rfl (fun c3 => ?_) (fun c3 => ?_))))))))
   ·refine O.g rfl (O.g rfl (O.g rfl (O.g rfl (O.g rfl (O.g rfl (O.m rfl (O.m rfl (Zf (V.condT rfl (Vs ?_))))))))))
    refine Vr (O.q rfl (Pu.buildS (cs := [.int .i64 (0 : Int), .slice none 0 0, .slice none 0 0]) rfl rfl ut35 zr35 (by kernel_rfl) rfl (by kernel_rfl)) (O.s rfl rfl (Ef.storeAll 0 rfl sz35 rfl rfl rfl rfl (by simp [Value.oneCell']) rfl) ?_))
    rintro _ _ rfl
    exact O.m rfl (Ze (Xq (Xr (X.retCell2 rfl ag35 sz35 rfl rfl rfl (Ld.whole 0 rfl) (fun w hw => St.mkExi none (St.mkExi 0 (St.mkExi [] (St.mkExi none (St.mkExi 0 (St.mkExi [] (St.unsep (St.addPur ⟨(by rw [dfC_5 c1 c2 (fun h => c3 h.1)]; rfl), ⟨fun h => by rw [dfC_5 c1 c2 (fun h => c3 h.1)] at h; omega, fun _ => ⟨rfl, rfl⟩⟩⟩ (St.unsep (St.addNil (T := 81) (C := B3C) (St.addNil (T := 81) (C := B3C) (hw.sub (Sub.nil _)))))))))))))))))
   ·have hns : STS (v.toNat : Int) bs2 := by rw [show (v.toNat : Int) = v2 by omega]; exact c2
    have hui := usedL_iff (v := v.toNat) (by omega) hos hns
    refine O.gq rfl (Pu.fieldAddr 1 rfl ut26 rfl sz24 rfl rfl) (O.gq rfl (Pu.load rfl pl24 rfl (Ld.blk 2 rfl rfl)) (O.gq rfl (Pu.fieldAddr 1 rfl ut26 rfl sz24 rfl rfl) (O.gq rfl (Pu.load rfl pl24 rfl (Ld.blk 1 rfl rfl)) (O.gf rfl (Ef.callP call88 rfl rfl (fun w hw => l04Same_ok v.toNat bs bs2 _ _ _ _ w ((Ld.old hx) w hw) ((Ld.old hx2) w hw) (by omega) (by omega) (by omega) (fun d hd => (sts_rest hos).ok d hd) (fun d hd => (sts_rest hns).ok d hd))) ?_))))
    rintro _ _ ⟨rfl, rfl⟩
    refine O.gq rfl (Pu.not rfl rfl) (O.m rfl (O.m rfl (Zf (V.condNot rfl (fun c4 => ?_) (fun c4 => ?_)))))
    ·refine Za (O.q rfl (Pu.buildS (cs := [.int .i64 (0 : Int), .slice none 0 0, .slice none 0 0]) rfl rfl ut35 zr35 (by kernel_rfl) rfl (by kernel_rfl)) (O.s rfl rfl (Ef.storeAll 0 rfl sz35 rfl rfl rfl rfl (by simp [Value.oneCell']) rfl) ?_))
     rintro _ _ rfl
     exact O.m rfl (Ze (Xq (Xr (X.retCell2 rfl ag35 sz35 rfl rfl rfl (Ld.whole 0 rfl) (fun w hw => St.mkExi none (St.mkExi 0 (St.mkExi [] (St.mkExi none (St.mkExi 0 (St.mkExi [] (St.unsep (St.addPur ⟨(by rw [dfC_5 c1 c2 (fun h => c4 (hui.2 h.2))]; rfl), ⟨fun h => by rw [dfC_5 c1 c2 (fun h => c4 (hui.2 h.2))] at h; omega, fun _ => ⟨rfl, rfl⟩⟩⟩ (St.unsep (St.addNil (T := 81) (C := B3C) (St.addNil (T := 81) (C := B3C) (hw.sub (Sub.nil _)))))))))))))))))
    ·have hc0 := dfC_0 c1 c2 ⟨c3, hui.1 c4⟩
     refine Vk (Xb (Xn (Vs (V.ent (Ent.cons (t := 2) rfl (Ent.cons (t := 3) rfl (Ent.cons (t := 4) rfl (Ent.nil _)))) (V.drawS mo (by kernel_rfl) (Sub.s [1,1] rfl) (fun hwf => D.q 0 rfl (Pu.fieldAddr 0 rfl ut26 rfl sz2 rfl rfl) (D.q 1 rfl (Pu.load rfl pl2 rfl (Ld.blk 1 rfl rfl)) (D.q 2 rfl (Pu.fieldAddr 1 rfl ut26 rfl sz24 rfl rfl) (D.q 3 rfl (Pu.load rfl pl24 rfl (Ld.blk 1 rfl rfl)) (D.q 4 rfl (Pu.fieldAddr 1 rfl ut26 rfl sz24 rfl rfl) (D.q 5 rfl (Pu.load rfl pl24 rfl (Ld.blk 0 rfl rfl)) ?_)))))))))))
     refine D.q 7 rfl (Pu.fieldAddr 1 rfl ut26 rfl sz24 rfl rfl) (D.q 8 rfl (Pu.load rfl pl24 rfl (Ld.blk 0 rfl rfl)) (D.q 9 rfl (Pu.fieldAddr 1 rfl ut26 rfl sz24 rfl rfl) (D.q 10 rfl (Pu.load rfl pl24 rfl (Ld.blk 1 rfl rfl)) (D.f hwf 6 rfl (Ef.call1 call89 rfl rfl (fun w hw => l04Less_ok  bs bs2 _ _ _ _ w ((Ld.old hx) w hw) ((Ld.old hx2) w hw) (by omega) (by omega) )) ?_))))
     rintro _ _ rfl hs
     refine ⟨fun w hw => hs w hw.tail, (D.exi (fun r1A => D.exi (fun r1c => D.exi (fun r1 => D.sep (D.pur1 ?_)))))⟩
     rintro ⟨rfl, hr1_1⟩
     have hll1 : r1.length ≤ bs.length := by rw [hr1_1]; exact lessB_len
     refine D.f hwf 11 rfl (Ef.call1 call89 rfl rfl (fun w hw => l04Less_ok  bs2 bs _ _ _ _ w ((Ld.old hx2) w hw) ((Ld.old hx) w hw) (by omega) (by omega) )) ?_
     rintro _ _ rfl hs
     refine ⟨fun w hw => hs w hw.tail, (D.exi (fun r2A => D.exi (fun r2c => D.exi (fun r2 => D.sep (D.pur1 ?_)))))⟩
     rintro ⟨rfl, hr2_1⟩
     have hll2 : r2.length ≤ bs2.length := by rw [hr2_1]; exact lessB_len
     refine D.f hwf 12 rfl (Ef.call1 call81 rfl rfl (fun w hw => l04Made_ok  v r1 r2 _ _ _ _ w ((Ld.own 1 (by exact rfl)) w hw) ((Ld.own 0 (by exact rfl)) w hw) (by omega) (by omega) (by omega) (by omega))) ?_
     rintro _ _ rfl hs
     refine ⟨fun w hw => hs w hw.tail, (D.exi (fun o1A => D.exi (fun o1c => D.exi (fun o1 => D.exi (fun i1A => D.exi (fun i1c => D.exi (fun i1 => D.sep (D.pur1 ?_))))))))⟩
     rintro ⟨rfl, ho1_1, ho1_2⟩
     refine D.sep (D.f hwf 13 rfl (Ef.storeAll 4 rfl sz35 rfl rfl rfl rfl (by simp [Value.oneCell']) rfl) ?_)
     rintro _ _ rfl hs
     exact ⟨fun w hw => hw.sub (Sub.s [5,5] rfl), (D.m 14 rfl (D.done hwf rfl (Xn (Vt (X.retCell2 rfl ag35 sz35 rfl rfl rfl (Ld.whole 4 rfl) (fun w hw => St.mkExi o1A (St.mkExi o1c (St.mkExi o1 (St.mkExi i1A (St.mkExi i1c (St.mkExi i1 (St.unsep (St.addPur ⟨(by rw [hc0]; rfl), ⟨fun _ => by rw [hr1_1] at ho1_1; rw [hr2_1] at ho1_2; exact ⟨ho1_1, ho1_2⟩, fun h => absurd hc0 h⟩⟩ (St.unsep (hw.sub (Sub.s [0,0] rfl))))))))))))))))⟩
set_option maxRecDepth 100000 in
set_option maxHeartbeats 1000000 in
theorem l01SwitchedR_ok (cA : Option Addr) (cc : Nat) (code : List UInt8) (n : Nat) (s : Nat) (bA : Option Addr) (bc : Nat) (xs : List B3) (v : Int) (bs : List B3) (A : Option Addr) (c : Nat) (w0 : World) (H : List Assn) (hc : Rd U8C w0 cA code) (lc : code.length ≤ 1048576) (hD : DrS n v bs) (hn : n ≤ 5000) : Does Tryz.prog 85 [.pointer (some ⟨s, 0, none⟩), .agg #[.int .i64 v, .slice A bs.length c]] w0 (SrcK 133 cA cc code s :: TrdA bA bc xs A c bs :: H) (fun rv_ => [.exi fun (rA : Option Addr) => .exi fun (rc : Nat) => .exi fun (r : List B3) => .sep (.pur (rv_ = .agg #[.int .i64 v, .slice rA r.length rc] ∧ DrS (n + 4) v r)) (.sep (TrdA bA bc xs rA rc r) (SrcK 133 cA cc code s))] ++ H) := by
 refine Does.enter Tryz.func85 rfl rfl [(0, .pointer (some ⟨s, 0, none⟩)), (1, .agg #[.int .i64 v, .slice A bs.length c])] rfl ?_
 have hv := hD.1
 have hg := hD.2.1
 have hl := hD.2.2
 have hg15 := hD.g15
 refine Za (O.f rfl (Ef.box rfl rfl rfl) ?_)
 rintro _ _ ⟨b1, rfl, rfl⟩
 refine O.f rfl (Ef.alloc rfl zr26 rfl) ?_
 rintro _ _ ⟨b2, rfl, rfl⟩
 refine Zb (O.m rfl (O.q rfl (Pu.fieldAddr 0 rfl ut26 rfl sz2 rfl rfl) (O.q rfl (Pu.load rfl pl2 rfl (Ld.blk 1 rfl rfl)) (O.f rfl (Ef.call call84 rfl rfl (Does.pre (fun w hw => hw.sub (Sub.t [2,0,0,0] 0 rfl)) (l01DrawOrder_ok _ _ _ s v w0 _   (by first | assumption | omega | (try dsimp only at *; omega)) (by first | assumption | omega | (try dsimp only at *; omega)) (by omega)))) ?_))))
 rintro _ _ rfl
 refine O.exi (fun r1A => O.exi (fun r1c => O.exi (fun r1 => O.sep (O.pur ?_))))
 rintro ⟨rfl, hr1_1⟩
 refine O.sep ?_
 have hol := hr1_1.1
 refine O.m rfl (Zf (Vs (V.draw mo (by kernel_rfl) (fun hwf => D.m 0 rfl (D.q 1 rfl (Pu.indexAddrS (0) rfl ut49 sz2 rfl rfl (by omega) (by omega) (fun w hw => Own.some hw (i := 0) (by exact rfl) (by omega))) ?_)))))
 have e1 : 0 < r1.length := by omega
 refine D.q 2 rfl (Pu.load rfl pl2 rfl (Ld.rd (Ld.own 0 (by exact rfl)) (k := 0) e1 rfl rfl)) (D.m 3 rfl (D.q 4 rfl (Pu.indexAddrS (1) rfl ut49 sz2 rfl rfl (by omega) (by omega) (fun w hw => Own.some hw (i := 0) (by exact rfl) (by omega))) ?_))
 have e2 : 1 < r1.length := by omega
 refine D.q 5 rfl (Pu.load rfl pl2 rfl (Ld.rd (Ld.own 0 (by exact rfl)) (k := 1) e2 rfl rfl)) (D.m 6 rfl (D.m 7 rfl (D.done hwf rfl (Xn (Zj (O.m rfl (Zi ?_)))))))
 refine V.loop3 (β := Nat) (fun i => [(8, .int .i64 (i : Int))]) _ (fun i => []) _ (fun i => 2 ≤ i ∧ i ≤ r1.length) (fun i => r1.length - i) 2 ⟨by omega, by omega⟩ (Ent.cons rfl (Ent.nil _)) (Ent.cons (t := 3) rfl (Ent.cons (t := 4) rfl (Ent.cons (t := 5) rfl (Ent.cons (t := 6) rfl (Ent.cons (t := 7) rfl (Ent.nil _)))))) (Sub.t [0,0,0,0,0] 0 rfl) ?_
 rintro i ⟨hi2, hi⟩
 refine Zj (O.m rfl (O.m rfl (O.q rfl (Pu.len rfl ut49 rfl) (O.q rfl (Pu.lss rfl rfl rfl) (Zf (V.condD rfl (fun c1 => ?_) (fun c1 => ?_)))))))
 ·refine Zh (O.m rfl (O.m rfl (O.q rfl (Pu.indexAddrS (i) rfl ut49 sz2 rfl rfl (by omega) (by omega) (fun w hw => Own.some hw (i := 0) (by exact rfl) (by omega))) ?_)))
  have e3 : i < r1.length := by omega
  refine O.q rfl (Pu.load rfl pl2 rfl (Ld.rd (Ld.own 0 (by exact rfl)) (k := i) e3 rfl rfl)) (O.m rfl (Zf (Vs ?_)))
  have g0 := ord_at hr1_1 (i := 0) (by omega)
  have g1 := ord_at hr1_1 (i := 1) (by omega)
  have gi := ord_at hr1_1 (i := i) (by omega)
  have n01 := ord_ne hr1_1 (i := 0) (j := 1) (by omega) (by omega) (by decide)
  have n0i := ord_ne hr1_1 (i := 0) (j := i) (by omega) (by omega) (by omega)
  have n1i := ord_ne hr1_1 (i := 1) (j := i) (by omega) (by omega) (by omega)
  refine Vr (O.q rfl (Pu.loadAgg rfl ag26 sz26 rfl rfl (Ld.whole 3 rfl)) (O.m rfl (O.m rfl (O.f rfl (Ef.callP call78 rfl rfl (fun w hw => l01Third_ok  v bs (r1[0]'e1) (r1[i]'e3) _ _ w ((Ld.trI 4 (by exact rfl)) w hw) (by first | omega | (simp only [tops_len, conts_len, bl, List.length_append, List.length_cons, List.length_nil] at *; omega)) hg15 (by omega) (by omega))) ?_))))
  rintro _ _ ⟨rfl, rfl⟩
  refine O.m rfl (Zb (O.q rfl (Pu.loadAgg rfl ag26 sz26 rfl rfl (Ld.whole 3 rfl)) (O.m rfl (O.m rfl (O.f rfl (Ef.callP call78 rfl rfl (fun w hw => l01Third_ok  v bs (r1[1]'e2) (r1[i]'e3) _ _ w ((Ld.trI 4 (by exact rfl)) w hw) (by first | omega | (simp only [tops_len, conts_len, bl, List.length_append, List.length_cons, List.length_nil] at *; omega)) hg15 (by omega) (by omega))) ?_)))))
  rintro _ _ ⟨rfl, rfl⟩
  refine O.m rfl (Zc (O.m rfl (O.q rfl (Pu.lss rfl rfl rfl) (O.m rfl (O.splitD 46 rfl (fun c2 => ?_) (fun c2 => ?_))))))
  ·refine O.g rfl (O.g rfl (O.m rfl (O.m rfl (O.g rfl (O.g rfl (O.g rfl (O.m rfl (O.m rfl (O.g rfl (O.g rfl (O.g rfl ?_)))))))))))
   refine O.m rfl (Zf (V.condT rfl (Ve (Xe (Xh (Xn (Vr (O.m rfl (O.q rfl (Pu.add64 (r := ((i + 1 : Nat) : Int)) rfl (by omega) rfl rfl rfl) (O.m rfl ?_))))))))))
   exact On (X.back3 (i + 1) ⟨by omega, by omega⟩ (by first | omega | (dsimp only; omega)) (Ent.cons rfl (Ent.nil _)) (Ent.cons (t := 3) rfl (Ent.cons (t := 4) rfl (Ent.cons (t := 5) rfl (Ent.cons (t := 6) rfl (Ent.cons (t := 7) rfl (Ent.nil _)))))) (Sub.t [0,0,0,0,0] 0 rfl))
  ·refine O.gm rfl (O.gq rfl (Pu.lss rfl rfl rfl) (O.m rfl (O.m rfl (O.splitD 50 rfl (fun c3 => ?_) (fun c3 => ?_)))))
   ·refine O.g rfl (O.g rfl (O.g rfl (O.m rfl (O.m rfl (O.g rfl (O.g rfl (O.g rfl (O.m rfl (Zf (V.condT rfl ?_))))))))))
    exact Ve (Xe (Xh (Xn (Vr (O.m rfl (O.q rfl (Pu.add64 (r := ((i + 1 : Nat) : Int)) rfl (by omega) rfl rfl rfl) (O.m rfl (On (X.back3 (i + 1) ⟨by omega, by omega⟩ (by first | omega | (dsimp only; omega)) (Ent.cons rfl (Ent.nil _)) (Ent.cons (t := 3) rfl (Ent.cons (t := 4) rfl (Ent.cons (t := 5) rfl (Ent.cons (t := 6) rfl (Ent.cons (t := 7) rfl (Ent.nil _)))))) (Sub.t [0,0,0,0,0] 0 rfl))))))))))
   ·refine O.gm rfl (O.gm rfl (O.gq rfl (Pu.eql rfl rfl rfl) (O.m rfl (O.m rfl (O.splitD 55 rfl (fun c4 => ?_) (fun c4 => ?_))))))
    ·refine O.g rfl (O.g rfl (O.g rfl (O.m rfl (Zf (V.condT rfl (Ve (Xe (Xh (Xn (Vr ?_))))))))))
     exact O.m rfl (O.q rfl (Pu.add64 (r := ((i + 1 : Nat) : Int)) rfl (by omega) rfl rfl rfl) (O.m rfl (On (X.back3 (i + 1) ⟨by omega, by omega⟩ (by first | omega | (dsimp only; omega)) (Ent.cons rfl (Ent.nil _)) (Ent.cons (t := 3) rfl (Ent.cons (t := 4) rfl (Ent.cons (t := 5) rfl (Ent.cons (t := 6) rfl (Ent.cons (t := 7) rfl (Ent.nil _)))))) (Sub.t [0,0,0,0,0] 0 rfl)))))
    ·refine O.gm rfl (O.gm rfl (O.gq rfl (Pu.eql rfl rfl rfl) (O.m rfl (Zf (V.condD rfl (fun c5 => ?_) (fun c5 => ?_))))))
     ·exact Ve (Xe (Xh (Xn (Vr (O.m rfl (O.q rfl (Pu.add64 (r := ((i + 1 : Nat) : Int)) rfl (by omega) rfl rfl rfl) (O.m rfl (On (X.back3 (i + 1) ⟨by omega, by omega⟩ (by first | omega | (dsimp only; omega)) (Ent.cons rfl (Ent.nil _)) (Ent.cons (t := 3) rfl (Ent.cons (t := 4) rfl (Ent.cons (t := 5) rfl (Ent.cons (t := 6) rfl (Ent.cons (t := 7) rfl (Ent.nil _)))))) (Sub.t [0,0,0,0,0] 0 rfl))))))))))
     ·refine Vk (Xn (Vs ?_))
      have te : (0 ≤ (third bs (r1[0]'e1) (r1[i]'e3)) ∧ (third bs (r1[0]'e1) (r1[i]'e3)) < v) ∧ (third bs (r1[0]'e1) (r1[i]'e3)) ≠ (r1[0]'e1) ∧ (third bs (r1[0]'e1) (r1[i]'e3)) ≠ (r1[i]'e3) := third_good hg n0i (by omega)
      have tf : (0 ≤ (third bs (r1[1]'e2) (r1[i]'e3)) ∧ (third bs (r1[1]'e2) (r1[i]'e3)) < v) ∧ (third bs (r1[1]'e2) (r1[i]'e3)) ≠ (r1[1]'e2) ∧ (third bs (r1[1]'e2) (r1[i]'e3)) ≠ (r1[i]'e3) := third_good hg n1i (by omega)
      refine Vr (O.q rfl (Pu.loadAgg rfl ag26 sz26 rfl rfl (Ld.whole 3 rfl)) (O.m rfl (O.m rfl (O.f rfl (Ef.callP call78 rfl rfl (fun w hw => l01Third_ok  v bs (r1[0]'e1) (third bs (r1[1]'e2) (r1[i]'e3)) _ _ w ((Ld.trI 4 (by exact rfl)) w hw) (by first | omega | (simp only [tops_len, conts_len, bl, List.length_append, List.length_cons, List.length_nil] at *; omega)) hg15 (by omega) (by omega))) ?_))))
      rintro _ _ ⟨rfl, rfl⟩
      refine O.m rfl (Zc (O.m rfl (O.q rfl (Pu.lss rfl rfl rfl) (O.m rfl (O.splitD 66 rfl (fun c6 => ?_) (fun c6 => ?_))))))
      ·refine O.g rfl (O.g rfl (O.g rfl (O.m rfl (O.m rfl (O.g rfl (O.g rfl (O.g rfl (O.g rfl (O.g rfl (O.g rfl (O.m rfl ?_)))))))))))
       exact Zf (V.condT rfl (Ve (Xe (Xh (Xn (Vr (O.m rfl (O.q rfl (Pu.add64 (r := ((i + 1 : Nat) : Int)) rfl (by omega) rfl rfl rfl) (O.m rfl (On (X.back3 (i + 1) ⟨by omega, by omega⟩ (by first | omega | (dsimp only; omega)) (Ent.cons rfl (Ent.nil _)) (Ent.cons (t := 3) rfl (Ent.cons (t := 4) rfl (Ent.cons (t := 5) rfl (Ent.cons (t := 6) rfl (Ent.cons (t := 7) rfl (Ent.nil _)))))) (Sub.t [0,0,0,0,0] 0 rfl))))))))))))
      ·refine O.gm rfl (O.gm rfl (O.gq rfl (Pu.eql rfl rfl rfl) (O.m rfl (O.m rfl (O.splitD 71 rfl (fun c7 => ?_) (fun c7 => ?_))))))
       ·refine O.g rfl (O.g rfl (O.g rfl (O.g rfl (O.g rfl (O.g rfl (O.m rfl (Zf (V.condT rfl (Ve (Xe ?_))))))))))
        exact Xh (Xn (Vr (O.m rfl (O.q rfl (Pu.add64 (r := ((i + 1 : Nat) : Int)) rfl (by omega) rfl rfl rfl) (O.m rfl (On (X.back3 (i + 1) ⟨by omega, by omega⟩ (by first | omega | (dsimp only; omega)) (Ent.cons rfl (Ent.nil _)) (Ent.cons (t := 3) rfl (Ent.cons (t := 4) rfl (Ent.cons (t := 5) rfl (Ent.cons (t := 6) rfl (Ent.cons (t := 7) rfl (Ent.nil _)))))) (Sub.t [0,0,0,0,0] 0 rfl))))))))
       ·refine O.gq rfl (Pu.loadAgg rfl ag26 sz26 rfl rfl (Ld.whole 3 rfl)) (O.gm rfl (O.gm rfl (O.gf rfl (Ef.callP call78 rfl rfl (fun w hw => l01Third_ok  v bs (r1[1]'e2) (third bs (r1[0]'e1) (r1[i]'e3)) _ _ w ((Ld.trI 4 (by exact rfl)) w hw) (by first | omega | (simp only [tops_len, conts_len, bl, List.length_append, List.length_cons, List.length_nil] at *; omega)) hg15 (by omega) (by omega))) ?_)))
        rintro _ _ ⟨rfl, rfl⟩
        refine O.gm rfl (O.gq rfl (Pu.neq rfl rfl rfl) (O.m rfl (Zf (V.condNot rfl (fun c8 => ?_) (fun c8 => ?_)))))
        ·exact Ve (Xe (Xh (Xn (Vr (O.m rfl (O.q rfl (Pu.add64 (r := ((i + 1 : Nat) : Int)) rfl (by omega) rfl rfl rfl) (O.m rfl (On (X.back3 (i + 1) ⟨by omega, by omega⟩ (by first | omega | (dsimp only; omega)) (Ent.cons rfl (Ent.nil _)) (Ent.cons (t := 3) rfl (Ent.cons (t := 4) rfl (Ent.cons (t := 5) rfl (Ent.cons (t := 6) rfl (Ent.cons (t := 7) rfl (Ent.nil _)))))) (Sub.t [0,0,0,0,0] 0 rfl))))))))))
        ·refine Vk (Xn (Vs ?_))
         have td : (0 ≤ (third bs (r1[0]'e1) (third bs (r1[1]'e2) (r1[i]'e3))) ∧ (third bs (r1[0]'e1) (third bs (r1[1]'e2) (r1[i]'e3))) < v) ∧ (third bs (r1[0]'e1) (third bs (r1[1]'e2) (r1[i]'e3))) ≠ (r1[0]'e1) ∧ (third bs (r1[0]'e1) (third bs (r1[1]'e2) (r1[i]'e3))) ≠ (third bs (r1[1]'e2) (r1[i]'e3)) := third_good hg (by omega) (by omega)
         have tg := third_good hg (a := (r1[1]'e2)) (b := (third bs (r1[0]'e1) (r1[i]'e3))) (by omega) (by omega)
         have q1 : good v (bk3 (r1[1]'e2) (r1[i]'e3) (third bs (r1[0]'e1) (r1[i]'e3))) := good_bk3 (by omega) (by omega) (by omega) (by omega) (by omega) (by omega)
         have q2 : good v (bk3 (r1[1]'e2) (third bs (r1[0]'e1) (third bs (r1[1]'e2) (r1[i]'e3))) (third bs (r1[1]'e2) (r1[i]'e3))) := good_bk3 (by omega) (by omega) (by omega) (by omega) (by omega) (by omega)
         have q3 : good v (bk3 (r1[0]'e1) (r1[i]'e3) (third bs (r1[1]'e2) (r1[i]'e3))) := good_bk3 (by omega) (by omega) (by omega) (by omega) (by omega) (by omega)
         have q4 : good v (bk3 (r1[0]'e1) (third bs (r1[0]'e1) (third bs (r1[1]'e2) (r1[i]'e3))) (third bs (r1[0]'e1) (r1[i]'e3))) := good_bk3 (by omega) (by omega) (by omega) (by omega) (by omega) (by omega)
         refine Vr (O.m rfl (O.m rfl (O.m rfl (O.f rfl (Ef.callP call80 rfl rfl (fun w hw => l01BlockD_ok  (r1[1]'e2) (r1[i]'e3) (third bs (r1[0]'e1) (r1[i]'e3)) w   (by first | assumption | omega | (try dsimp only at *; omega)) (by first | assumption | omega | (try dsimp only at *; omega)) (by first | assumption | omega | (try dsimp only at *; omega)))) ?_))))
         rintro _ _ ⟨rfl, rfl⟩
         refine O.m rfl (O.m rfl (O.m rfl (O.f rfl (Ef.callP call80 rfl rfl (fun w hw => l01BlockD_ok  (r1[1]'e2) (third bs (r1[0]'e1) (third bs (r1[1]'e2) (r1[i]'e3))) (third bs (r1[1]'e2) (r1[i]'e3)) w   (by first | assumption | omega | (try dsimp only at *; omega)) (by first | assumption | omega | (try dsimp only at *; omega)) (by first | assumption | omega | (try dsimp only at *; omega)))) ?_)))
         rintro _ _ ⟨rfl, rfl⟩
         refine O.m rfl (O.m rfl (O.m rfl (O.f rfl (Ef.callP call80 rfl rfl (fun w hw => l01BlockD_ok  (r1[0]'e1) (r1[i]'e3) (third bs (r1[1]'e2) (r1[i]'e3)) w   (by first | assumption | omega | (try dsimp only at *; omega)) (by first | assumption | omega | (try dsimp only at *; omega)) (by first | assumption | omega | (try dsimp only at *; omega)))) ?_)))
         rintro _ _ ⟨rfl, rfl⟩
         refine O.m rfl (O.m rfl (O.m rfl (O.f rfl (Ef.callP call80 rfl rfl (fun w hw => l01BlockD_ok  (r1[0]'e1) (third bs (r1[0]'e1) (third bs (r1[1]'e2) (r1[i]'e3))) (third bs (r1[0]'e1) (r1[i]'e3)) w   (by first | assumption | omega | (try dsimp only at *; omega)) (by first | assumption | omega | (try dsimp only at *; omega)) (by first | assumption | omega | (try dsimp only at *; omega)))) ?_)))
         rintro _ _ ⟨rfl, rfl⟩
         refine O.f rfl (Ef.build B3C ([(bk3 (r1[1]'e2) (r1[i]'e3) (third bs (r1[0]'e1) (r1[i]'e3))), (bk3 (r1[1]'e2) (third bs (r1[0]'e1) (third bs (r1[1]'e2) (r1[i]'e3))) (third bs (r1[1]'e2) (r1[i]'e3))), (bk3 (r1[0]'e1) (r1[i]'e3) (third bs (r1[1]'e2) (r1[i]'e3))), (bk3 (r1[0]'e1) (third bs (r1[0]'e1) (third bs (r1[1]'e2) (r1[i]'e3))) (third bs (r1[0]'e1) (r1[i]'e3)))] : List B3) rfl ut24 inf81 rfl rfl rfl (by first | decide | (simp; done)) (by kernel_rfl)) ?_
         rintro _ _ ⟨A1, hA1, rfl, rfl⟩
         refine O.m rfl (Zb (O.m rfl (O.m rfl (O.m rfl (O.f rfl (Ef.callP call80 rfl rfl (fun w hw => l01BlockD_ok  (r1[0]'e1) (r1[i]'e3) (third bs (r1[0]'e1) (r1[i]'e3)) w   (by first | assumption | omega | (try dsimp only at *; omega)) (by first | assumption | omega | (try dsimp only at *; omega)) (by first | assumption | omega | (try dsimp only at *; omega)))) ?_)))))
         rintro _ _ ⟨rfl, rfl⟩
         refine O.m rfl (O.m rfl (O.m rfl (O.f rfl (Ef.callP call80 rfl rfl (fun w hw => l01BlockD_ok  (r1[0]'e1) (third bs (r1[0]'e1) (third bs (r1[1]'e2) (r1[i]'e3))) (third bs (r1[1]'e2) (r1[i]'e3)) w   (by first | assumption | omega | (try dsimp only at *; omega)) (by first | assumption | omega | (try dsimp only at *; omega)) (by first | assumption | omega | (try dsimp only at *; omega)))) ?_)))
         rintro _ _ ⟨rfl, rfl⟩
         refine O.m rfl (O.m rfl (O.m rfl (O.f rfl (Ef.callP call80 rfl rfl (fun w hw => l01BlockD_ok  (r1[1]'e2) (r1[i]'e3) (third bs (r1[1]'e2) (r1[i]'e3)) w   (by first | assumption | omega | (try dsimp only at *; omega)) (by first | assumption | omega | (try dsimp only at *; omega)) (by first | assumption | omega | (try dsimp only at *; omega)))) ?_)))
         rintro _ _ ⟨rfl, rfl⟩
         refine O.m rfl (O.m rfl (O.m rfl (O.f rfl (Ef.callP call80 rfl rfl (fun w hw => l01BlockD_ok  (r1[1]'e2) (third bs (r1[0]'e1) (third bs (r1[1]'e2) (r1[i]'e3))) (third bs (r1[0]'e1) (r1[i]'e3)) w   (by first | assumption | omega | (try dsimp only at *; omega)) (by first | assumption | omega | (try dsimp only at *; omega)) (by first | assumption | omega | (try dsimp only at *; omega)))) ?_)))
         rintro _ _ ⟨rfl, rfl⟩
         refine O.f rfl (Ef.build B3C ([(bk3 (r1[0]'e1) (r1[i]'e3) (third bs (r1[0]'e1) (r1[i]'e3))), (bk3 (r1[0]'e1) (third bs (r1[0]'e1) (third bs (r1[1]'e2) (r1[i]'e3))) (third bs (r1[1]'e2) (r1[i]'e3))), (bk3 (r1[1]'e2) (r1[i]'e3) (third bs (r1[1]'e2) (r1[i]'e3))), (bk3 (r1[1]'e2) (third bs (r1[0]'e1) (third bs (r1[1]'e2) (r1[i]'e3))) (third bs (r1[0]'e1) (r1[i]'e3)))] : List B3) rfl ut24 inf81 rfl rfl rfl (by first | decide | (simp; done)) (by kernel_rfl)) ?_
         rintro _ _ ⟨A2, hA2, rfl, rfl⟩
         refine O.m rfl (Zc (O.m rfl (Zi (V.loop3 (β := (Option Addr) × Nat × (List B3) × Nat) (fun x => [(13, .slice x.1 x.2.2.1.length x.2.1), (15, .int .i64 (x.2.2.2 : Int))]) _ (fun x => [Own 81 B3C x.1 x.2.1 x.2.2.1]) _ (fun x => x.2.2.2 ≤ bs.length ∧ (∀ d ∈ x.2.2.1, good v d) ∧ x.2.2.1.length ≤ 4 + x.2.2.2) (fun x => bs.length - x.2.2.2) (A1, 4, ([(bk3 (r1[1]'e2) (r1[i]'e3) (third bs (r1[0]'e1) (r1[i]'e3))), (bk3 (r1[1]'e2) (third bs (r1[0]'e1) (third bs (r1[1]'e2) (r1[i]'e3))) (third bs (r1[1]'e2) (r1[i]'e3))), (bk3 (r1[0]'e1) (r1[i]'e3) (third bs (r1[1]'e2) (r1[i]'e3))), (bk3 (r1[0]'e1) (third bs (r1[0]'e1) (third bs (r1[1]'e2) (r1[i]'e3))) (third bs (r1[0]'e1) (r1[i]'e3)))] : List B3), 0) (by (try dsimp only); exact ⟨by omega, (by intro d hd; simp only [List.mem_cons, List.not_mem_nil, or_false] at hd; rcases hd with rfl | rfl | rfl | rfl; (· exact q1); (· exact q2); (· exact q3); (· exact q4)), by simp⟩) (Ent.cons rfl (Ent.cons rfl (Ent.nil _))) (Ent.cons (t := 3) rfl (Ent.cons (t := 4) rfl (Ent.cons (t := 5) rfl (Ent.cons (t := 6) rfl (Ent.cons (t := 7) rfl (Ent.cons (t := 8) rfl (Ent.cons (t := 14) rfl (Ent.nil _)))))))) (Sub.t [1,0,0,0,0,0,0] 0 rfl) ?_))))
         rintro ⟨blocksA, blocksc, blocks, k⟩ ⟨hk, hgb, hlb⟩
         dsimp only at hk hgb hlb ⊢
         refine Zj (O.m rfl (O.q rfl (Pu.fieldAddr 1 rfl ut26 rfl sz24 rfl rfl) (O.q rfl (Pu.load rfl pl24 rfl (Ld.blk 5 rfl rfl)) (O.q rfl (Pu.len rfl ut24 rfl) (O.q rfl (Pu.lss rfl rfl rfl) (Zf (V.condD rfl (fun c9 => ?_) (fun c9 => ?_))))))))
         ·refine Vk (Xn (Vs (Vb (Vs (V.draw mo (by kernel_rfl) (fun hwf => D.q 0 rfl (Pu.fieldAddr 1 rfl ut26 rfl sz24 rfl rfl) (D.q 1 rfl (Pu.load rfl pl24 rfl (Ld.blk 5 rfl rfl)) (D.m 2 rfl (D.q 3 rfl (Pu.indexAddrS (k) rfl ut24 sz81 rfl rfl (by omega) (by omega) (fun w hw => ((Ld.trI 6 (by exact rfl)) w hw).some (by omega))) ?_)))))))))
          have e4 : k < bs.length := by omega
          refine D.q 4 rfl (Pu.loadAgg' (v := B3.v (bs[k]'e4)) rfl rfl ag81 sz81 rfl rfl (Ld.rds (C := B3C) (Ld.trI 6 (by exact rfl)) (k := k) e4 rfl)) (D.m 5 rfl (D.q 6 rfl (Pu.indexAddr (0) rfl ut24 sz81 rfl rfl (by omega) (by simp) hA2) ?_))
          have e5 : 0 < ([(bk3 (r1[0]'e1) (r1[i]'e3) (third bs (r1[0]'e1) (r1[i]'e3))), (bk3 (r1[0]'e1) (third bs (r1[0]'e1) (third bs (r1[1]'e2) (r1[i]'e3))) (third bs (r1[1]'e2) (r1[i]'e3))), (bk3 (r1[1]'e2) (r1[i]'e3) (third bs (r1[1]'e2) (r1[i]'e3))), (bk3 (r1[1]'e2) (third bs (r1[0]'e1) (third bs (r1[1]'e2) (r1[i]'e3))) (third bs (r1[0]'e1) (r1[i]'e3)))] : List B3).length := by simp
          refine D.q 7 rfl (Pu.loadAgg' (v := B3.v (([(bk3 (r1[0]'e1) (r1[i]'e3) (third bs (r1[0]'e1) (r1[i]'e3))), (bk3 (r1[0]'e1) (third bs (r1[0]'e1) (third bs (r1[1]'e2) (r1[i]'e3))) (third bs (r1[1]'e2) (r1[i]'e3))), (bk3 (r1[1]'e2) (r1[i]'e3) (third bs (r1[1]'e2) (r1[i]'e3))), (bk3 (r1[1]'e2) (third bs (r1[0]'e1) (third bs (r1[1]'e2) (r1[i]'e3))) (third bs (r1[0]'e1) (r1[i]'e3)))] : List B3)[0]'e5)) rfl rfl ag81 sz81 rfl rfl (Ld.rds (C := B3C) (Ld.own 1 (by exact rfl)) (k := 0) e5 rfl)) (D.q 8 rfl (Pu.neqB3 ut81 ut2 sz2 (by kernel_rfl) rfl rfl rfl) (D.m 9 rfl (D.splitN 129 rfl (fun c10 => ?_) (fun c10 => ?_))))
          ·refine D.gq 10 rfl (Pu.fieldAddr 1 rfl ut26 rfl sz24 rfl rfl) (D.gq 11 rfl (Pu.load rfl pl24 rfl (Ld.blk 5 rfl rfl)) (D.gm 12 rfl (D.gq 13 rfl (Pu.indexAddrS (k) rfl ut24 sz81 rfl rfl (by omega) (by omega) (fun w hw => ((Ld.trI 6 (by exact rfl)) w hw).some (by omega))) (D.gq 14 rfl (Pu.loadAgg' (v := B3.v (bs[k]'e4)) rfl rfl ag81 sz81 rfl rfl (Ld.rds (C := B3C) (Ld.trI 6 (by exact rfl)) (k := k) e4 rfl)) (D.gm 15 rfl (D.gq 16 rfl (Pu.indexAddr (1) rfl ut24 sz81 rfl rfl (by omega) (by simp) hA2) ?_))))))
           have e6 : 1 < ([(bk3 (r1[0]'e1) (r1[i]'e3) (third bs (r1[0]'e1) (r1[i]'e3))), (bk3 (r1[0]'e1) (third bs (r1[0]'e1) (third bs (r1[1]'e2) (r1[i]'e3))) (third bs (r1[1]'e2) (r1[i]'e3))), (bk3 (r1[1]'e2) (r1[i]'e3) (third bs (r1[1]'e2) (r1[i]'e3))), (bk3 (r1[1]'e2) (third bs (r1[0]'e1) (third bs (r1[1]'e2) (r1[i]'e3))) (third bs (r1[0]'e1) (r1[i]'e3)))] : List B3).length := by simp
           refine D.gq 17 rfl (Pu.loadAgg' (v := B3.v (([(bk3 (r1[0]'e1) (r1[i]'e3) (third bs (r1[0]'e1) (r1[i]'e3))), (bk3 (r1[0]'e1) (third bs (r1[0]'e1) (third bs (r1[1]'e2) (r1[i]'e3))) (third bs (r1[1]'e2) (r1[i]'e3))), (bk3 (r1[1]'e2) (r1[i]'e3) (third bs (r1[1]'e2) (r1[i]'e3))), (bk3 (r1[1]'e2) (third bs (r1[0]'e1) (third bs (r1[1]'e2) (r1[i]'e3))) (third bs (r1[0]'e1) (r1[i]'e3)))] : List B3)[1]'e6)) rfl rfl ag81 sz81 rfl rfl (Ld.rds (C := B3C) (Ld.own 1 (by exact rfl)) (k := 1) e6 rfl)) (D.gq 18 rfl (Pu.neqB3 ut81 ut2 sz2 (by kernel_rfl) rfl rfl rfl) (D.m 19 rfl (D.m 20 rfl (D.splitN 140 rfl (fun c11 => ?_) (fun c11 => ?_)))))
           ·refine D.gq 21 rfl (Pu.fieldAddr 1 rfl ut26 rfl sz24 rfl rfl) (D.gq 22 rfl (Pu.load rfl pl24 rfl (Ld.blk 5 rfl rfl)) (D.gm 23 rfl (D.gq 24 rfl (Pu.indexAddrS (k) rfl ut24 sz81 rfl rfl (by omega) (by omega) (fun w hw => ((Ld.trI 6 (by exact rfl)) w hw).some (by omega))) (D.gq 25 rfl (Pu.loadAgg' (v := B3.v (bs[k]'e4)) rfl rfl ag81 sz81 rfl rfl (Ld.rds (C := B3C) (Ld.trI 6 (by exact rfl)) (k := k) e4 rfl)) (D.gm 26 rfl (D.gq 27 rfl (Pu.indexAddr (2) rfl ut24 sz81 rfl rfl (by omega) (by simp) hA2) ?_))))))
            have e7 : 2 < ([(bk3 (r1[0]'e1) (r1[i]'e3) (third bs (r1[0]'e1) (r1[i]'e3))), (bk3 (r1[0]'e1) (third bs (r1[0]'e1) (third bs (r1[1]'e2) (r1[i]'e3))) (third bs (r1[1]'e2) (r1[i]'e3))), (bk3 (r1[1]'e2) (r1[i]'e3) (third bs (r1[1]'e2) (r1[i]'e3))), (bk3 (r1[1]'e2) (third bs (r1[0]'e1) (third bs (r1[1]'e2) (r1[i]'e3))) (third bs (r1[0]'e1) (r1[i]'e3)))] : List B3).length := by simp
            refine D.gq 28 rfl (Pu.loadAgg' (v := B3.v (([(bk3 (r1[0]'e1) (r1[i]'e3) (third bs (r1[0]'e1) (r1[i]'e3))), (bk3 (r1[0]'e1) (third bs (r1[0]'e1) (third bs (r1[1]'e2) (r1[i]'e3))) (third bs (r1[1]'e2) (r1[i]'e3))), (bk3 (r1[1]'e2) (r1[i]'e3) (third bs (r1[1]'e2) (r1[i]'e3))), (bk3 (r1[1]'e2) (third bs (r1[0]'e1) (third bs (r1[1]'e2) (r1[i]'e3))) (third bs (r1[0]'e1) (r1[i]'e3)))] : List B3)[2]'e7)) rfl rfl ag81 sz81 rfl rfl (Ld.rds (C := B3C) (Ld.own 1 (by exact rfl)) (k := 2) e7 rfl)) (D.gq 29 rfl (Pu.neqB3 ut81 ut2 sz2 (by kernel_rfl) rfl rfl rfl) (D.m 30 rfl (D.m 31 rfl (D.splitN 151 rfl (fun c12 => ?_) (fun c12 => ?_)))))
            ·refine D.gq 32 rfl (Pu.fieldAddr 1 rfl ut26 rfl sz24 rfl rfl) (D.gq 33 rfl (Pu.load rfl pl24 rfl (Ld.blk 5 rfl rfl)) (D.gm 34 rfl (D.gq 35 rfl (Pu.indexAddrS (k) rfl ut24 sz81 rfl rfl (by omega) (by omega) (fun w hw => ((Ld.trI 6 (by exact rfl)) w hw).some (by omega))) (D.gq 36 rfl (Pu.loadAgg' (v := B3.v (bs[k]'e4)) rfl rfl ag81 sz81 rfl rfl (Ld.rds (C := B3C) (Ld.trI 6 (by exact rfl)) (k := k) e4 rfl)) (D.gm 37 rfl (D.gq 38 rfl (Pu.indexAddr (3) rfl ut24 sz81 rfl rfl (by omega) (by simp) hA2) ?_))))))
             have e8 : 3 < ([(bk3 (r1[0]'e1) (r1[i]'e3) (third bs (r1[0]'e1) (r1[i]'e3))), (bk3 (r1[0]'e1) (third bs (r1[0]'e1) (third bs (r1[1]'e2) (r1[i]'e3))) (third bs (r1[1]'e2) (r1[i]'e3))), (bk3 (r1[1]'e2) (r1[i]'e3) (third bs (r1[1]'e2) (r1[i]'e3))), (bk3 (r1[1]'e2) (third bs (r1[0]'e1) (third bs (r1[1]'e2) (r1[i]'e3))) (third bs (r1[0]'e1) (r1[i]'e3)))] : List B3).length := by simp
             refine D.gq 39 rfl (Pu.loadAgg' (v := B3.v (([(bk3 (r1[0]'e1) (r1[i]'e3) (third bs (r1[0]'e1) (r1[i]'e3))), (bk3 (r1[0]'e1) (third bs (r1[0]'e1) (third bs (r1[1]'e2) (r1[i]'e3))) (third bs (r1[1]'e2) (r1[i]'e3))), (bk3 (r1[1]'e2) (r1[i]'e3) (third bs (r1[1]'e2) (r1[i]'e3))), (bk3 (r1[1]'e2) (third bs (r1[0]'e1) (third bs (r1[1]'e2) (r1[i]'e3))) (third bs (r1[0]'e1) (r1[i]'e3)))] : List B3)[3]'e8)) rfl rfl ag81 sz81 rfl rfl (Ld.rds (C := B3C) (Ld.own 1 (by exact rfl)) (k := 3) e8 rfl)) (D.gq 40 rfl (Pu.neqB3 ut81 ut2 sz2 (by kernel_rfl) rfl rfl rfl) (D.m 41 rfl (D.done hwf rfl (Xn (V.condNot rfl (fun c13 => ?_) (fun c13 => ?_))))))
             ·refine Vr (O.m rfl (O.q rfl (Pu.fieldAddr 1 rfl ut26 rfl sz24 rfl rfl) (O.q rfl (Pu.load rfl pl24 rfl (Ld.blk 5 rfl rfl)) (O.m rfl (O.q rfl (Pu.indexAddrS (k) rfl ut24 sz81 rfl rfl (by omega) (by omega) (fun w hw => ((Ld.trI 6 (by exact rfl)) w hw).some (by omega))) (O.q rfl (Pu.loadAgg' (v := B3.v (bs[k]'e4)) rfl rfl ag81 sz81 rfl rfl (Ld.rds (C := B3C) (Ld.trI 6 (by exact rfl)) (k := k) e4 rfl)) (O.f rfl (Ef.build B3C ([(bs[k]'e4)] : List B3) rfl ut24 inf81 rfl rfl rfl (by first | decide | (simp; done)) (by kernel_rfl)) ?_)))))))
              rintro _ _ ⟨A3, hA3, rfl, rfl⟩
              refine O.f rfl (Ef.append (xs := blocks) (ys := ([(bs[k]'e4)] : List B3)) 1 rfl ut24 inf81 rfl rfl rfl rfl rfl rfl hA3 (Ld.own 0 (by exact rfl)) (by simp only [List.length_append, List.length_cons, List.length_nil] at *; omega) (by decide)) ?_
              rintro _ _ ⟨A4, k1, rfl, rfl, hA4⟩
              replace hA4 := hA4 (.inr (by simp))
              exact O.m rfl (Zk (O.m rfl (O.q rfl (Pu.add64 (r := ((k + 1 : Nat) : Int)) rfl (by omega) rfl rfl rfl) (O.m rfl (On (X.back3 (A4, k1, (blocks ++ ([(bs[k]'e4)] : List B3)), k + 1) (by (try dsimp only); exact ⟨by omega, (by first | exact hgb | exact good_snoc hgb (hg _ (List.getElem_mem _))), (by first | omega | (simp only [List.length_append, List.length_singleton]; omega))⟩) (by first | omega | (dsimp only; omega)) (Ent.cons rfl (Ent.cons rfl (Ent.nil _))) (Ent.cons (t := 3) rfl (Ent.cons (t := 4) rfl (Ent.cons (t := 5) rfl (Ent.cons (t := 6) rfl (Ent.cons (t := 7) rfl (Ent.cons (t := 8) rfl (Ent.cons (t := 14) rfl (Ent.nil _)))))))) (Sub.t [1,1,1,1,1,1,1] 1 rfl)))))))
             ·exact Zg (O.m rfl (O.q rfl (Pu.add64 (r := ((k + 1 : Nat) : Int)) rfl (by omega) rfl rfl rfl) (O.m rfl (On (X.back3 (blocksA, blocksc, blocks, k + 1) (by (try dsimp only); exact ⟨by omega, (by first | exact hgb | exact good_snoc hgb (hg _ (List.getElem_mem _))), (by first | omega | (simp only [List.length_append, List.length_singleton]; omega))⟩) (by first | omega | (dsimp only; omega)) (Ent.cons rfl (Ent.cons rfl (Ent.nil _))) (Ent.cons (t := 3) rfl (Ent.cons (t := 4) rfl (Ent.cons (t := 5) rfl (Ent.cons (t := 6) rfl (Ent.cons (t := 7) rfl (Ent.cons (t := 8) rfl (Ent.cons (t := 14) rfl (Ent.nil _)))))))) (Sub.t [0,0,0,0,0,0,0] 0 rfl))))))
            ·refine D.g 32 rfl (D.g 33 rfl (D.g 34 rfl (D.g 35 rfl (D.g 36 rfl (D.g 37 rfl (D.g 38 rfl (D.g 39 rfl (D.g 40 rfl (D.m 41 rfl (D.done hwf rfl (Xn ?_)))))))))))
             exact V.condF rfl (Zg (O.m rfl (O.q rfl (Pu.add64 (r := ((k + 1 : Nat) : Int)) rfl (by omega) rfl rfl rfl) (O.m rfl (On (X.back3 (blocksA, blocksc, blocks, k + 1) (by (try dsimp only); exact ⟨by omega, (by first | exact hgb | exact good_snoc hgb (hg _ (List.getElem_mem _))), (by first | omega | (simp only [List.length_append, List.length_singleton]; omega))⟩) (by first | omega | (dsimp only; omega)) (Ent.cons rfl (Ent.cons rfl (Ent.nil _))) (Ent.cons (t := 3) rfl (Ent.cons (t := 4) rfl (Ent.cons (t := 5) rfl (Ent.cons (t := 6) rfl (Ent.cons (t := 7) rfl (Ent.cons (t := 8) rfl (Ent.cons (t := 14) rfl (Ent.nil _)))))))) (Sub.t [0,0,0,0,0,0,0] 0 rfl)))))))
           ·refine D.g 21 rfl (D.g 22 rfl (D.g 23 rfl (D.g 24 rfl (D.g 25 rfl (D.g 26 rfl (D.g 27 rfl (D.g 28 rfl (D.g 29 rfl (D.m 30 rfl (D.m 31 rfl (D.g 32 rfl ?_)))))))))))
            refine D.g 33 rfl (D.g 34 rfl (D.g 35 rfl (D.g 36 rfl (D.g 37 rfl (D.g 38 rfl (D.g 39 rfl (D.g 40 rfl (D.m 41 rfl (D.done hwf rfl (Xn (V.condF rfl ?_)))))))))))
            exact Zg (O.m rfl (O.q rfl (Pu.add64 (r := ((k + 1 : Nat) : Int)) rfl (by omega) rfl rfl rfl) (O.m rfl (On (X.back3 (blocksA, blocksc, blocks, k + 1) (by (try dsimp only); exact ⟨by omega, (by first | exact hgb | exact good_snoc hgb (hg _ (List.getElem_mem _))), (by first | omega | (simp only [List.length_append, List.length_singleton]; omega))⟩) (by first | omega | (dsimp only; omega)) (Ent.cons rfl (Ent.cons rfl (Ent.nil _))) (Ent.cons (t := 3) rfl (Ent.cons (t := 4) rfl (Ent.cons (t := 5) rfl (Ent.cons (t := 6) rfl (Ent.cons (t := 7) rfl (Ent.cons (t := 8) rfl (Ent.cons (t := 14) rfl (Ent.nil _)))))))) (Sub.t [0,0,0,0,0,0,0] 0 rfl))))))
          ·refine D.g 10 rfl (D.g 11 rfl (D.g 12 rfl (D.g 13 rfl (D.g 14 rfl (D.g 15 rfl (D.g 16 rfl (D.g 17 rfl (D.g 18 rfl (D.m 19 rfl (D.m 20 rfl (D.g 21 rfl ?_)))))))))))
           refine D.g 22 rfl (D.g 23 rfl (D.g 24 rfl (D.g 25 rfl (D.g 26 rfl (D.g 27 rfl (D.g 28 rfl (D.g 29 rfl (D.m 30 rfl (D.m 31 rfl (D.g 32 rfl (D.g 33 rfl ?_)))))))))))
           refine D.g 34 rfl (D.g 35 rfl (D.g 36 rfl (D.g 37 rfl (D.g 38 rfl (D.g 39 rfl (D.g 40 rfl (D.m 41 rfl (D.done hwf rfl (Xn (V.condF rfl (Vk ?_)))))))))))
           exact Xb (Xn (Vr (O.m rfl (O.q rfl (Pu.add64 (r := ((k + 1 : Nat) : Int)) rfl (by omega) rfl rfl rfl) (O.m rfl (On (X.back3 (blocksA, blocksc, blocks, k + 1) (by (try dsimp only); exact ⟨by omega, (by first | exact hgb | exact good_snoc hgb (hg _ (List.getElem_mem _))), (by first | omega | (simp only [List.length_append, List.length_singleton]; omega))⟩) (by first | omega | (dsimp only; omega)) (Ent.cons rfl (Ent.cons rfl (Ent.nil _))) (Ent.cons (t := 3) rfl (Ent.cons (t := 4) rfl (Ent.cons (t := 5) rfl (Ent.cons (t := 6) rfl (Ent.cons (t := 7) rfl (Ent.cons (t := 8) rfl (Ent.cons (t := 14) rfl (Ent.nil _)))))))) (Sub.t [0,0,0,0,0,0,0] 0 rfl))))))))
         ·refine Zd (O.q rfl (Pu.fieldAddr 0 rfl ut26 rfl sz2 rfl rfl) (O.q rfl (Pu.load rfl pl2 rfl (Ld.blk 5 rfl rfl)) (O.m rfl (O.f rfl (Ef.call1 call151 rfl rfl (fun w hw => l01Made_ok  v blocks _ _ w ((Ld.own 0 (by exact rfl)) w hw) (by first | omega | (simp only [List.length_append, List.length_cons, List.length_nil, List.length_take, List.length_drop]; omega)) (by first | omega | (simp only [List.length_append, List.length_cons, List.length_nil, List.length_take, List.length_drop]; omega)))) ?_))))
          rintro _ _ rfl
          refine O.exi (fun r2A => O.exi (fun r2c => O.exi (fun r2 => O.sep (O.pur ?_))))
          rintro ⟨rfl, hr2_1, hr2_2⟩
          refine O.s rfl rfl (Ef.storeAll 5 rfl sz26 rfl rfl rfl rfl (by simp [Value.oneCell']) rfl) ?_
          rintro _ _ rfl
          exact Ze (Xq (Xr (Xr (Xq (Xr (X.retCell rfl ag26 sz26 rfl rfl (Ld.whole 5 rfl) (RetM.map (fun w hw => St.trd_new (hw.sub (Sub.t [7,0,3] 5 rfl))) (fun w hw => St.mkExi r2A (St.mkExi r2c (St.mkExi r2 (St.unsep (St.addPur ⟨rfl, DrS.perm ⟨hv, hgb, by omega⟩ hr2_1⟩ (St.unsep (hw.sub (Sub.t [0,0] 0 rfl)))))))))))))))
 ·refine Zd (O.q rfl (Pu.loadAgg rfl ag26 sz26 rfl rfl (Ld.whole 3 rfl)) (O.s rfl rfl (Ef.storeAll 2 rfl sz26 rfl rfl rfl rfl (by simp [Value.oneCell']) rfl) ?_))
  rintro _ _ rfl
  exact Ze (X.retCell rfl ag26 sz26 rfl rfl (Ld.whole 2 rfl) (fun w hw => St.mkExi A (St.mkExi c (St.mkExi bs (St.unsep (St.addPur ⟨rfl, hD.mono (by omega)⟩ (St.unsep (hw.sub (Sub.t [4,1] 3 rfl)))))))))
set_option maxRecDepth 100000 in
set_option maxHeartbeats 1000000 in
theorem implDifference_ok (v : Int) (bs : List B3) (v2 : Int) (bs2 : List B3) (A : Option Addr) (c : Nat) (A2 : Option Addr) (c2 : Nat) (w : World) (hx : Rd B3C w A bs) (hx2 : Rd B3C w A2 bs2) (lx : bs.length ≤ 4611686018427387904) (lx2 : bs2.length ≤ 4611686018427387904) : Does Tryz.prog 16 [.agg #[.int .i64 v, .slice A bs.length c], .agg #[.int .i64 v2, .slice A2 bs2.length c2]] w [] (fun r => [.exi fun (oA : Option Addr) => .exi fun (oc : Nat) => .exi fun (o : List B3) => .exi fun (iA : Option Addr) => .exi fun (ic : Nat) => .exi fun (i : List B3) => .sep (.pur (r = .tuple #[.agg #[.int .i64 (if dfC v bs v2 bs2 = 0 then v else 0), .slice oA o.length oc, .slice iA i.length ic], .int .i64 (dfC v bs v2 bs2)] ∧ DFR v bs v2 bs2 o i)) (.sep (Own 81 B3C oA oc o) (Own 81 B3C iA ic i))]) := by
 refine Does.enter Tryz.func16 rfl rfl [(0, .agg #[.int .i64 v, .slice A bs.length c]), (1, .agg #[.int .i64 v2, .slice A2 bs2.length c2])] rfl (Za (O.f rfl (Ef.box rfl rfl rfl) ?_))
 rintro _ _ ⟨b1, rfl, rfl⟩
 refine O.f rfl (Ef.box rfl rfl rfl) ?_
 rintro _ _ ⟨b2, rfl, rfl⟩
 refine O.f rfl (Ef.alloc rfl zr35 rfl) ?_
 rintro _ _ ⟨b3, rfl, rfl⟩
 refine O.m rfl (Zf (Vs (Vb (Za (O.q rfl (Pu.loadAgg rfl ag26 sz26 rfl rfl (Ld.whole 2 rfl)) (O.f rfl (Ef.callP call62 rfl rfl (fun w hw => IsSystem_ok _ bs _ _ w ((Ld.old hx) w hw) (by omega))) ?_))))))
 rintro _ _ ⟨rfl, rfl⟩
 refine O.q rfl (Pu.not rfl rfl) (O.m rfl (O.splitN 10 rfl (fun c1 => ?_) (fun c1 => ?_)))
 ·refine O.g rfl (O.g rfl (O.g rfl (O.m rfl (O.m rfl (Zf (V.condT rfl (Za (O.q rfl (Pu.buildS (cs := [.int .i64 (0 : Int), .slice none 0 0, .slice none 0 0]) rfl rfl ut35 zr35 (by kernel_rfl) rfl (by kernel_rfl)) (O.s rfl rfl (Ef.storeAll 0 rfl sz35 rfl rfl rfl rfl (by simp [Value.oneCell']) rfl) ?_)))))))))
  rintro _ _ rfl
  exact O.m rfl (Ze (Xq (Xr (X.retCell2 rfl ag35 sz35 rfl rfl rfl (Ld.whole 0 rfl) (fun w hw => St.mkExi none (St.mkExi 0 (St.mkExi [] (St.mkExi none (St.mkExi 0 (St.mkExi [] (St.unsep (St.addPur ⟨(by rw [dfC_1 (fun h => c1 h.1)]; rfl), ⟨fun h => by rw [dfC_1 (fun h => c1 h.1)] at h; omega, fun _ => ⟨rfl, rfl⟩⟩⟩ (St.unsep (St.addNil (T := 81) (C := B3C) (St.addNil (T := 81) (C := B3C) (hw.sub (Sub.nil _)))))))))))))))))
 ·have hfb := c1.few
  refine O.gq rfl (Pu.loadAgg rfl ag26 sz26 rfl rfl (Ld.whole 1 rfl)) (O.gf rfl (Ef.callP call62 rfl rfl (fun w hw => IsSystem_ok _ bs2 _ _ w ((Ld.old hx2) w hw) (by omega))) ?_)
  rintro _ _ ⟨rfl, rfl⟩
  refine O.gq rfl (Pu.not rfl rfl) (O.m rfl (O.m rfl (Zf (V.condNot rfl (fun c2 => ?_) (fun c2 => ?_)))))
  ·refine Za (O.q rfl (Pu.buildS (cs := [.int .i64 (0 : Int), .slice none 0 0, .slice none 0 0]) rfl rfl ut35 zr35 (by kernel_rfl) rfl (by kernel_rfl)) (O.s rfl rfl (Ef.storeAll 0 rfl sz35 rfl rfl rfl rfl (by simp [Value.oneCell']) rfl) ?_))
   rintro _ _ rfl
   exact O.m rfl (Ze (Xq (Xr (X.retCell2 rfl ag35 sz35 rfl rfl rfl (Ld.whole 0 rfl) (fun w hw => St.mkExi none (St.mkExi 0 (St.mkExi [] (St.mkExi none (St.mkExi 0 (St.mkExi [] (St.unsep (St.addPur ⟨(by rw [dfC_1 (fun h => c2 h.2)]; rfl), ⟨fun h => by rw [dfC_1 (fun h => c2 h.2)] at h; omega, fun _ => ⟨rfl, rfl⟩⟩⟩ (St.unsep (St.addNil (T := 81) (C := B3C) (St.addNil (T := 81) (C := B3C) (hw.sub (Sub.nil _)))))))))))))))))
  ·have hf2 := c2.few
   refine Za (O.q rfl (Pu.fieldAddr 0 rfl ut26 rfl sz2 rfl rfl) (O.q rfl (Pu.load rfl pl2 rfl (Ld.blk 2 rfl rfl)) (O.q rfl (Pu.fieldAddr 0 rfl ut26 rfl sz2 rfl rfl) (O.q rfl (Pu.load rfl pl2 rfl (Ld.blk 1 rfl rfl)) (O.q rfl (Pu.neq rfl rfl rfl) (O.m rfl (O.splitN 22 rfl (fun c3 => ?_) (fun c3 => ?_))))))))
   ·refine O.g rfl (O.g rfl (O.g rfl (O.g rfl (O.g rfl (O.g rfl (O.m rfl (O.m rfl (Zf (V.condT rfl (Vs ?_))))))))))
    refine Vr (O.q rfl (Pu.buildS (cs := [.int .i64 (0 : Int), .slice none 0 0, .slice none 0 0]) rfl rfl ut35 zr35 (by kernel_rfl) rfl (by kernel_rfl)) (O.s rfl rfl (Ef.storeAll 0 rfl sz35 rfl rfl rfl rfl (by simp [Value.oneCell']) rfl) ?_))
    rintro _ _ rfl
    exact O.m rfl (Ze (Xq (Xr (X.retCell2 rfl ag35 sz35 rfl rfl rfl (Ld.whole 0 rfl) (fun w hw => St.mkExi none (St.mkExi 0 (St.mkExi [] (St.mkExi none (St.mkExi 0 (St.mkExi [] (St.unsep (St.addPur ⟨(by rw [dfC_5 c1 c2 (fun h => c3 h.1)]; rfl), ⟨fun h => by rw [dfC_5 c1 c2 (fun h => c3 h.1)] at h; omega, fun _ => ⟨rfl, rfl⟩⟩⟩ (St.unsep (St.addNil (T := 81) (C := B3C) (St.addNil (T := 81) (C := B3C) (hw.sub (Sub.nil _)))))))))))))))))
   ·refine O.gq rfl (Pu.fieldAddr 1 rfl ut26 rfl sz24 rfl rfl) (O.gq rfl (Pu.load rfl pl24 rfl (Ld.blk 2 rfl rfl)) (O.gq rfl (Pu.fieldAddr 1 rfl ut26 rfl sz24 rfl rfl) (O.gq rfl (Pu.load rfl pl24 rfl (Ld.blk 1 rfl rfl)) (O.gf rfl (Ef.callP call86 rfl rfl (fun w hw => haveSamePairs_ok  bs bs2 _ _ _ _ w ((Ld.old hx) w hw) ((Ld.old hx2) w hw) (by omega) (by omega) (by omega) (by omega))) ?_))))
    rintro _ _ ⟨rfl, rfl⟩
    refine O.gq rfl (Pu.not rfl rfl) (O.m rfl (O.m rfl (Zf (V.condNot rfl (fun c4 => ?_) (fun c4 => ?_)))))
    ·refine Za (O.q rfl (Pu.buildS (cs := [.int .i64 (0 : Int), .slice none 0 0, .slice none 0 0]) rfl rfl ut35 zr35 (by kernel_rfl) rfl (by kernel_rfl)) (O.s rfl rfl (Ef.storeAll 0 rfl sz35 rfl rfl rfl rfl (by simp [Value.oneCell']) rfl) ?_))
     rintro _ _ rfl
     exact O.m rfl (Ze (Xq (Xr (X.retCell2 rfl ag35 sz35 rfl rfl rfl (Ld.whole 0 rfl) (fun w hw => St.mkExi none (St.mkExi 0 (St.mkExi [] (St.mkExi none (St.mkExi 0 (St.mkExi [] (St.unsep (St.addPur ⟨(by rw [dfC_5 c1 c2 (fun h => c4 h.2)]; rfl), ⟨fun h => by rw [dfC_5 c1 c2 (fun h => c4 h.2)] at h; omega, fun _ => ⟨rfl, rfl⟩⟩⟩ (St.unsep (St.addNil (T := 81) (C := B3C) (St.addNil (T := 81) (C := B3C) (hw.sub (Sub.nil _)))))))))))))))))
    ·have hc0 := dfC_0 c1 c2 ⟨c3, c4⟩
     refine Vk (Xb (Xn (Vs (V.ent (Ent.cons (t := 2) rfl (Ent.cons (t := 3) rfl (Ent.cons (t := 4) rfl (Ent.nil _)))) (V.drawS mo (by kernel_rfl) (Sub.s [1,1] rfl) (fun hwf => D.q 0 rfl (Pu.fieldAddr 0 rfl ut26 rfl sz2 rfl rfl) (D.q 1 rfl (Pu.load rfl pl2 rfl (Ld.blk 1 rfl rfl)) (D.q 2 rfl (Pu.fieldAddr 1 rfl ut26 rfl sz24 rfl rfl) (D.q 3 rfl (Pu.load rfl pl24 rfl (Ld.blk 1 rfl rfl)) (D.q 4 rfl (Pu.fieldAddr 1 rfl ut26 rfl sz24 rfl rfl) (D.q 5 rfl (Pu.load rfl pl24 rfl (Ld.blk 0 rfl rfl)) ?_)))))))))))
     refine D.q 7 rfl (Pu.fieldAddr 1 rfl ut26 rfl sz24 rfl rfl) (D.q 8 rfl (Pu.load rfl pl24 rfl (Ld.blk 0 rfl rfl)) (D.q 9 rfl (Pu.fieldAddr 1 rfl ut26 rfl sz24 rfl rfl) (D.q 10 rfl (Pu.load rfl pl24 rfl (Ld.blk 1 rfl rfl)) (D.f hwf 6 rfl (Ef.call1 call87 rfl rfl (fun w hw => less_ok  bs bs2 _ _ _ _ w ((Ld.old hx) w hw) ((Ld.old hx2) w hw) (by omega) (by omega) )) ?_))))
     rintro _ _ rfl hs
     refine ⟨fun w hw => hs w hw.tail, (D.exi (fun r1A => D.exi (fun r1c => D.exi (fun r1 => D.sep (D.pur1 ?_)))))⟩
     rintro ⟨rfl, hr1_1⟩
     refine D.f hwf 11 rfl (Ef.call1 call87 rfl rfl (fun w hw => less_ok  bs2 bs _ _ _ _ w ((Ld.old hx2) w hw) ((Ld.old hx) w hw) (by omega) (by omega) )) ?_
     rintro _ _ rfl hs
     refine ⟨fun w hw => hs w hw.tail, (D.exi (fun r2A => D.exi (fun r2c => D.exi (fun r2 => D.sep (D.pur1 ?_)))))⟩
     rintro ⟨rfl, hr2_1⟩
     refine D.q 12 rfl (Pu.buildS (cs := [.int .i64 v, .slice r1A r1.length r1c, .slice r2A r2.length r2c]) rfl rfl ut35 zr35 (by kernel_rfl) rfl (by kernel_rfl)) (D.f hwf 13 rfl (Ef.storeAll 2 rfl sz35 rfl rfl rfl rfl (by simp [Value.oneCell']) rfl) ?_)
     rintro _ _ rfl hs
     exact ⟨fun w hw => hw.sub (Sub.s [3,3] rfl), (D.m 14 rfl (D.done hwf rfl (Xn (Vt (X.retCell2 rfl ag35 sz35 rfl rfl rfl (Ld.whole 2 rfl) (fun w hw => St.mkExi r1A (St.mkExi r1c (St.mkExi r1 (St.mkExi r2A (St.mkExi r2c (St.mkExi r2 (St.unsep (St.addPur ⟨(by rw [hc0]; rfl), ⟨fun _ => ⟨⟨List.Perm.of_eq hr1_1, by rw [hr1_1]; exact srt_lt (lessB_lts c1)⟩, List.Perm.of_eq hr2_1, by rw [hr2_1]; exact srt_lt (lessB_lts c2)⟩, fun h => absurd hc0 h⟩⟩ (St.unsep (hw.sub (Sub.s [1,0] rfl))))))))))))))))⟩
set_option maxRecDepth 100000 in
set_option maxHeartbeats 1000000 in
theorem partner_ok (out : List B3) (ins : List B3) (outA : Option Addr) (outc : Nat) (insA : Option Addr) (insc : Nat) (w : World) (hout : Rd B3C w outA out) (hins : Rd B3C w insA ins) (lout : out.length ≤ 1099511627776) (lins : ins.length ≤ 1099511627776) (hft : fitsAt out out.length) (hg15 : ∀ b ∈ out, good 15 b) (hgi : ∀ b ∈ ins, good 15 b) (li : ins.length ≤ 1000) (lo : out.length ≤ 1000) : Does Tryz.prog 197 [.slice outA out.length outc, .slice insA ins.length insc] w [] (fun rv_ => [.exi fun (rA : Option Addr) => .exi fun (rc : Nat) => .exi fun (r : List B3) => .sep (.pur (rv_ = .tuple #[.slice rA r.length rc, .bool (decide ((r.length : Int) = (out.length : Int)))] ∧ r = parL out ins)) (Own 81 B3C rA rc r)]) := by
 refine Does.enter Tryz.func197 rfl rfl [(0, .slice outA out.length outc), (1, .slice insA ins.length insc)] rfl (Za (O.m rfl (O.m rfl (Zb (O.m rfl (O.f rfl (Ef.call1 call146 rfl rfl (fun w hw => gridOf_ok out _ _ w ((Ld.old hout) w hw) (by omega) hg15)) ?_))))))
 rintro v_ _ rfl; refine O.exi (fun g => ?_); rcases g with _ | g; (· refine O.pur ?_; rintro ⟨rfl, hfit⟩; exact absurd hft hfit)
 ·refine O.sep (O.pur ?_)
  rintro ⟨rfl, hfit⟩
  refine O.m rfl (O.m rfl (O.m rfl (O.m rfl (O.m rfl (Zb (O.m rfl (Zf ?_)))))))
  refine Zj (O.m rfl (O.q rfl (Pu.len rfl ut24 rfl) (O.m rfl (Zi (V.map (fun w hw => St.addNil (T := 81) (C := B3C) hw) (V.loop3 (β := (Option Addr) × Nat × (List B3) × Nat) (fun x => [(8, .slice x.1 x.2.2.1.length x.2.1), (18, .int .i64 (x.2.2.2 : Int))]) _ (fun x => [Own 81 B3C x.1 x.2.1 x.2.2.1]) _ (fun x => x.2.2.2 ≤ ins.length ∧ x.2.2.1 = parL out (ins.take x.2.2.2) ∧ x.2.2.1.length ≤ x.2.2.2) (fun x => ins.length - x.2.2.2) (none, 0, [], 0) (by (try dsimp only); exact ⟨by omega, rfl, by simp⟩) (Ent.cons rfl (Ent.cons rfl (Ent.nil _))) (Ent.cons (t := 0) rfl (Ent.cons (t := 6) rfl (Ent.cons (t := 16) rfl (Ent.cons (t := 17) rfl (Ent.nil _))))) (Sub.s [0,0] rfl) ?_))))))
  rintro ⟨listA, listc, list, i⟩ ⟨hi, ho, hl⟩
  dsimp only at hi ho hl ⊢
  refine Za (O.q rfl (Pu.lss rfl rfl rfl) (Zf (Vs (V.condD rfl (fun c1 => ?_) (fun c1 => ?_)))))
  ·refine Zh (O.q rfl (Pu.indexAddr (i) rfl ut24 sz81 rfl rfl (by omega) (by omega) (hins.some (by omega))) ?_)
   have e1 : i < ins.length := by omega
   refine O.q rfl (Pu.loadAgg' (v := B3.v (ins[i]'e1)) rfl rfl ag81 sz81 rfl rfl (Ld.rds (Ld.old hins) (k := i) e1 rfl)) (O.f rfl (Ef.alloc rfl zr81 rfl) ?_)
   rintro _ _ ⟨b1, rfl, rfl⟩
   refine O.s rfl rfl (Ef.storeAll 0 rfl sz81 rfl rfl rfl rfl (by simp [Value.oneCell']) rfl) ?_
   rintro _ _ rfl
   refine Zf (Vs ?_)
   have hgb := hgi _ (List.getElem_mem e1)
   unfold good at hgb
   have h3 : ∀ b ∈ out, three b := fun b hb => (hg15 b hb).three
   refine V.draw mo (by kernel_rfl) (fun hwf => D.m 0 rfl (D.q 1 rfl (Pu.indexArr 0 0 rfl ut81 sz2 rfl rfl (by decide) (by decide) (by decide)) (D.q 2 rfl (Pu.load rfl pl2 rfl (Ld.blk 0 rfl rfl)) (D.q 3 rfl (Pu.indexArr 1 1 rfl ut81 sz2 rfl rfl (by decide) (by decide) (by decide)) (D.q 4 rfl (Pu.load rfl pl2 rfl (Ld.blk 0 rfl rfl)) (D.m 5 rfl (D.q 6 rfl (Pu.indexArr (((ins[i]'e1).1).toNat) (0 + ((ins[i]'e1).1).toNat * 15) rfl ut198 sz89 rfl rfl (by omega) (by omega) rfl) (D.q 7 rfl (Pu.indexArr (((ins[i]'e1).2.1).toNat) (0 + ((ins[i]'e1).1).toNat * 15 + ((ins[i]'e1).2.1).toNat * 1) rfl ut89 sz2 rfl rfl (by omega) (by omega) rfl) (D.q 8 rfl (Pu.load rfl pl2 rfl (Ld.grid (x := (ins[i]'e1).1) (y := (ins[i]'e1).2.1) 2 rfl (by omega) (by omega) (by omega))) (D.q 9 rfl (Pu.neq rfl rfl rfl) (D.m 10 rfl (D.splitN 32 rfl (fun c2 => ?_) (fun c2 => ?_)))))))))))))
   ·refine D.gm 11 rfl (D.gq 12 rfl (Pu.indexArr 0 0 rfl ut81 sz2 rfl rfl (by decide) (by decide) (by decide)) (D.gq 13 rfl (Pu.load rfl pl2 rfl (Ld.blk 0 rfl rfl)) (D.gq 14 rfl (Pu.indexArr 2 2 rfl ut81 sz2 rfl rfl (by decide) (by decide) (by decide)) (D.gq 15 rfl (Pu.load rfl pl2 rfl (Ld.blk 0 rfl rfl)) (D.gm 16 rfl (D.gq 17 rfl (Pu.indexArr (((ins[i]'e1).1).toNat) (0 + ((ins[i]'e1).1).toNat * 15) rfl ut198 sz89 rfl rfl (by omega) (by omega) rfl) (D.gq 18 rfl (Pu.indexArr (((ins[i]'e1).2.2).toNat) (0 + ((ins[i]'e1).1).toNat * 15 + ((ins[i]'e1).2.2).toNat * 1) rfl ut89 sz2 rfl rfl (by omega) (by omega) rfl) (D.gq 19 rfl (Pu.load rfl pl2 rfl (Ld.grid (x := (ins[i]'e1).1) (y := (ins[i]'e1).2.2) 2 rfl (by omega) (by omega) (by omega))) (D.gq 20 rfl (Pu.neq rfl rfl rfl) (D.m 21 rfl (D.m 22 rfl (D.splitN 44 rfl (fun c3 => ?_) (fun c3 => ?_)))))))))))))
    ·refine D.gm 23 rfl (D.gq 24 rfl (Pu.indexArr 1 1 rfl ut81 sz2 rfl rfl (by decide) (by decide) (by decide)) (D.gq 25 rfl (Pu.load rfl pl2 rfl (Ld.blk 0 rfl rfl)) (D.gq 26 rfl (Pu.indexArr 2 2 rfl ut81 sz2 rfl rfl (by decide) (by decide) (by decide)) (D.gq 27 rfl (Pu.load rfl pl2 rfl (Ld.blk 0 rfl rfl)) (D.gm 28 rfl (D.gq 29 rfl (Pu.indexArr (((ins[i]'e1).2.1).toNat) (0 + ((ins[i]'e1).2.1).toNat * 15) rfl ut198 sz89 rfl rfl (by omega) (by omega) rfl) (D.gq 30 rfl (Pu.indexArr (((ins[i]'e1).2.2).toNat) (0 + ((ins[i]'e1).2.1).toNat * 15 + ((ins[i]'e1).2.2).toNat * 1) rfl ut89 sz2 rfl rfl (by omega) (by omega) rfl) (D.gq 31 rfl (Pu.load rfl pl2 rfl (Ld.grid (x := (ins[i]'e1).2.1) (y := (ins[i]'e1).2.2) 2 rfl (by omega) (by omega) (by omega))) (D.gq 32 rfl (Pu.neq rfl rfl rfl) (D.m 33 rfl (D.done hwf rfl ?_)))))))))))
     refine Xn (V.condNot rfl (fun c4 => ?_) (fun c4 => ?_))
     ·refine Vr (O.m rfl (O.q rfl (Pu.loadAgg' (v := B3.v (ins[i]'e1)) rfl rfl ag81 sz81 rfl rfl (Ld.whole 0 rfl)) (O.f rfl (Ef.build B3C ([(ins[i]'e1)] : List B3) rfl ut24 inf81 rfl rfl rfl (by first | decide | (simp; done)) (by kernel_rfl)) ?_)))
      rintro _ _ ⟨A1, hA1, rfl, rfl⟩
      refine O.f rfl (Ef.append (xs := list) (ys := ([(ins[i]'e1)] : List B3)) 2 rfl ut24 inf81 rfl rfl rfl rfl rfl rfl hA1 (Ld.own 0 (by exact rfl)) (by simp only [List.length_append, List.length_cons, List.length_nil] at *; omega) (by decide)) ?_
      rintro _ _ ⟨A2, k1, rfl, rfl, hA2⟩
      replace hA2 := hA2 (.inr (by simp))
      exact O.m rfl (Zk (O.q rfl (Pu.add64 (r := ((i + 1 : Nat) : Int)) rfl (by omega) rfl rfl rfl) (O.m rfl (On (X.back3 (A2, k1, (list ++ ([(ins[i]'e1)] : List B3)), i + 1) (by (try dsimp only); exact ⟨by omega, by rw [parL_yes e1 ⟨(tab_cvr h3 (by omega)).1 c2, (tab_cvr h3 (by omega)).1 c3, (tab_cvr h3 (by omega)).1 c4⟩, ho], by simp only [List.length_append, List.length_singleton]; omega⟩) (by first | omega | (dsimp only; omega)) (Ent.cons rfl (Ent.cons rfl (Ent.nil _))) (Ent.cons (t := 0) rfl (Ent.cons (t := 6) rfl (Ent.cons (t := 16) rfl (Ent.cons (t := 17) rfl (Ent.nil _))))) (Sub.s [2,2] rfl))))))
     ·exact Zg (O.q rfl (Pu.add64 (r := ((i + 1 : Nat) : Int)) rfl (by omega) rfl rfl rfl) (O.m rfl (On (X.back3 (listA, listc, list, i + 1) (by (try dsimp only); exact ⟨by omega, by rw [parL_no e1 (fun h => absurd c4 ((tab_cvr h3 (by omega)).2 h.2.2)), ho], by omega⟩) (by first | omega | (dsimp only; omega)) (Ent.cons rfl (Ent.cons rfl (Ent.nil _))) (Ent.cons (t := 0) rfl (Ent.cons (t := 6) rfl (Ent.cons (t := 16) rfl (Ent.cons (t := 17) rfl (Ent.nil _))))) (Sub.s [1,1] rfl)))))
    ·refine D.g 23 rfl (D.g 24 rfl (D.g 25 rfl (D.g 26 rfl (D.g 27 rfl (D.g 28 rfl (D.g 29 rfl (D.g 30 rfl (D.g 31 rfl (D.g 32 rfl (D.m 33 rfl (D.done hwf rfl ?_)))))))))))
     exact Xn (V.condF rfl (Zg (O.q rfl (Pu.add64 (r := ((i + 1 : Nat) : Int)) rfl (by omega) rfl rfl rfl) (O.m rfl (On (X.back3 (listA, listc, list, i + 1) (by (try dsimp only); exact ⟨by omega, by rw [parL_no e1 (fun h => absurd c3 ((tab_cvr h3 (by omega)).2 h.2.1)), ho], by omega⟩) (by first | omega | (dsimp only; omega)) (Ent.cons rfl (Ent.cons rfl (Ent.nil _))) (Ent.cons (t := 0) rfl (Ent.cons (t := 6) rfl (Ent.cons (t := 16) rfl (Ent.cons (t := 17) rfl (Ent.nil _))))) (Sub.s [1,1] rfl)))))))
   ·refine D.g 11 rfl (D.g 12 rfl (D.g 13 rfl (D.g 14 rfl (D.g 15 rfl (D.g 16 rfl (D.g 17 rfl (D.g 18 rfl (D.g 19 rfl (D.g 20 rfl (D.m 21 rfl (D.m 22 rfl ?_)))))))))))
    refine D.g 23 rfl (D.g 24 rfl (D.g 25 rfl (D.g 26 rfl (D.g 27 rfl (D.g 28 rfl (D.g 29 rfl (D.g 30 rfl (D.g 31 rfl (D.g 32 rfl (D.m 33 rfl (D.done hwf rfl ?_)))))))))))
    exact Xn (V.condF rfl (Zg (O.q rfl (Pu.add64 (r := ((i + 1 : Nat) : Int)) rfl (by omega) rfl rfl rfl) (O.m rfl (On (X.back3 (listA, listc, list, i + 1) (by (try dsimp only); exact ⟨by omega, by rw [parL_no e1 (fun h => absurd c2 ((tab_cvr h3 (by omega)).2 h.1)), ho], by omega⟩) (by first | omega | (dsimp only; omega)) (Ent.cons rfl (Ent.cons rfl (Ent.nil _))) (Ent.cons (t := 0) rfl (Ent.cons (t := 6) rfl (Ent.cons (t := 16) rfl (Ent.cons (t := 17) rfl (Ent.nil _))))) (Sub.s [1,1] rfl)))))))
  ·refine Zd (O.m rfl (O.m rfl (O.q rfl (Pu.len rfl ut24 rfl) (O.m rfl (O.q rfl (Pu.len rfl ut24 rfl) ?_)))))
   exact O.q rfl (Pu.eql rfl rfl rfl) (O.m rfl (O.m rfl (Ze (X.ret2 rfl rfl rfl (fun w hw => St.mkExi listA (St.mkExi listc (St.mkExi list (St.unsep (St.addPur ⟨rfl, by rw [ho, List.take_of_length_le (by omega)]⟩ (hw.sub (Sub.s [0] rfl)))))))))))
def L_partOf (n : Nat) : Prop := ∀ (v : Int) (os : List B3) (out : List B3) (outn : Nat) (ins : List B3) (now : List B3) (size : Nat) (outA : Option Addr) (outc : Nat) (insA : Option Addr) (insc : Nat) (nowA : Option Addr) (nowc : Nat) (w : World) (hout : Rd B3C w outA out) (hins : Rd B3C w insA ins) (hnow : Rd B3C w nowA now) (lout : out.length ≤ 1099511627776) (lins : ins.length ≤ 1099511627776) (lnow : now.length ≤ 1099511627776) (hS : STS v os) (hgi : ∀ b ∈ ins, good 15 b) (li : ins.length ≤ 100) (hsub : (now ++ out).Sublist os) (hno : ∀ t : List B3, t.Sublist os → 0 < t.length → t.length < os.length → (parL t ins).length ≠ t.length) (hsz : 0 < now.length + n) (hsz2 : now.length + n < os.length) (hsn : size = n) (hcap : out.length ≤ outc) (hnn : outn = out.length), Does Tryz.prog 164 [.slice outA outn outc, .slice insA ins.length insc, .slice nowA now.length nowc, .int .i64 (size : Int)] w [] (fun r => [.exi fun (a : Value) => .exi fun (b : Value) => .pur (r = .tuple #[a, b, .bool (decide (False))])])
set_option maxRecDepth 100000 in
set_option maxHeartbeats 1000000 in
theorem partOf_step (n : Nat) (ih : ∀ n', n' < n → L_partOf n') (v : Int) (os : List B3) (out : List B3) (outn : Nat) (ins : List B3) (now : List B3) (size : Nat) (outA : Option Addr) (outc : Nat) (insA : Option Addr) (insc : Nat) (nowA : Option Addr) (nowc : Nat) (w : World) (hout : Rd B3C w outA out) (hins : Rd B3C w insA ins) (hnow : Rd B3C w nowA now) (lout : out.length ≤ 1099511627776) (lins : ins.length ≤ 1099511627776) (lnow : now.length ≤ 1099511627776) (hS : STS v os) (hgi : ∀ b ∈ ins, good 15 b) (li : ins.length ≤ 100) (hsub : (now ++ out).Sublist os) (hno : ∀ t : List B3, t.Sublist os → 0 < t.length → t.length < os.length → (parL t ins).length ≠ t.length) (hsz : 0 < now.length + n) (hsz2 : now.length + n < os.length) (hsn : size = n) (hcap : out.length ≤ outc) (hnn : outn = out.length) : Does Tryz.prog 164 [.slice outA outn outc, .slice insA ins.length insc, .slice nowA now.length nowc, .int .i64 (size : Int)] w [] (fun r => [.exi fun (a : Value) => .exi fun (b : Value) => .pur (r = .tuple #[a, b, .bool (decide (False))])]) := by
 refine Does.enter Tryz.func164 rfl rfl [(0, .slice outA outn outc), (1, .slice insA ins.length insc), (2, .slice nowA now.length nowc), (3, .int .i64 (size : Int))] rfl ?_
 have hfew := hS.few
 have hnl := hsub.length_le
 rw [List.length_append] at hnl
 refine Za (O.m rfl (O.m rfl (O.m rfl (Zc (O.m rfl (O.q rfl (Pu.eql rfl rfl rfl) ?_))))))
 refine Zf (V.condD rfl (fun c1 => ?_) (fun c1 => ?_))
 ·refine Vs ?_
  have hsN := fits_part hS ((List.sublist_append_left now out).trans hsub)
  refine Vr (O.m rfl (O.m rfl (O.f rfl (Ef.call1 call197 rfl rfl (fun w hw => partner_ok  now ins _ _ _ _ w ((Ld.old hnow) w hw) ((Ld.old hins) w hw) (by first | omega | (simp only [tops_len, conts_len, bl, List.length_append, List.length_cons, List.length_nil] at *; omega)) (by first | omega | (simp only [tops_len, conts_len, bl, List.length_append, List.length_cons, List.length_nil] at *; omega)) hsN.1 hsN.2 hgi (by omega) (by omega))) ?_)))
  rintro _ _ rfl
  refine O.exi (fun r1A => O.exi (fun r1c => O.exi (fun r1 => O.sep (O.pur ?_))))
  rintro ⟨rfl, hr1_1⟩
  refine O.m rfl (O.m rfl (O.m rfl (O.m rfl (O.m rfl (Zb (O.m rfl (O.m rfl (O.m rfl ?_))))))))
  exact O.m rfl (O.m rfl (O.m rfl (Ze (Xr (X.ret3 rfl rfl rfl rfl (fun w hw => St.mkExi (.slice nowA now.length nowc) (St.mkExi (.slice r1A r1.length r1c) (St.addPur (by rw [show decide ((r1.length : Int) = (now.length : Int)) = decide False from decide_eq_decide.2 ⟨fun h => hno now ((List.sublist_append_left now out).trans hsub) (by omega) (by omega) (by rw [← hr1_1]; omega), False.elim⟩]; rfl) (hw.sub (Sub.nil _))))))))))
 ·refine Vk (Xn (Zj (O.m rfl (O.m rfl (O.q rfl (Pu.len rfl ut24 rfl) (O.m rfl (O.q rfl (Pu.sub64 rfl (by omega) rfl rfl rfl) (O.q rfl (Pu.add64 rfl (by omega) rfl rfl rfl) (O.q rfl (Pu.max2 (r := (max (((↑outn : Int) - (↑size : Int)) + (1 : Int)) (0 : Int))) (by omega) rfl rfl rfl) ?_)))))))))
  refine O.q rfl (Pu.sliceH (((max (((↑outn : Int) - (↑size : Int)) + (1 : Int)) (0 : Int))).toNat) rfl ut24 sz81 rfl rfl (by omega) (by omega)) (O.q rfl (Pu.len rfl ut24 rfl) (O.m rfl (Zi (V.loop2 (β := Nat) (fun i => [(37, .int .i64 (i : Int))]) _ (fun i => []) (fun i => i ≤ out.length) (fun i => out.length - i) 0 (by omega) (Ent.cons rfl (Ent.nil _)) (Ent.cons (t := 0) rfl (Ent.cons (t := 1) rfl (Ent.cons (t := 2) rfl (Ent.cons (t := 3) rfl (Ent.cons (t := 36) rfl (Ent.nil _)))))) (Sub.nil _) ?_))))
  rintro i hi
  refine Za (O.q rfl (Pu.lss rfl rfl rfl) (Zf (Vs (V.condD rfl (fun c2 => ?_) (fun c2 => ?_)))))
  ·refine Zh (O.m rfl (O.m rfl (Zf (Vs (V.draw mo (by kernel_rfl) (fun hwf => ?_))))))
   refine D.m 0 rfl (D.m 1 rfl (D.q 2 rfl (Pu.add64 (r := ((i + 1 : Nat) : Int)) rfl (by omega) rfl rfl rfl) (D.q 3 rfl (Pu.sliceL (i + 1) rfl ut24 sz81 rfl rfl (by omega) (by omega)) (D.m 4 rfl (D.m 5 rfl (D.m 7 rfl (D.m 8 rfl (D.q 9 rfl (Pu.indexAddr (i) rfl ut24 sz81 rfl rfl (by omega) (by omega) (hout.some (by omega))) ?_))))))))
   have e1 : i < out.length := by omega
   refine D.q 10 rfl (Pu.loadAgg' (v := B3.v (out[i]'e1)) rfl rfl ag81 sz81 rfl rfl (Ld.rds (Ld.old hout) (k := i) e1 rfl)) (D.m 13 rfl (D.q 14 rfl (Pu.sub64 (r := ((size - 1 : Nat) : Int)) (by omega) (by omega) rfl rfl rfl) (D.twoBC hwf (e1 := 11) (e2 := 6) rfl rfl rfl rfl rfl rfl rfl rfl rfl rfl rfl rfl rfl rfl rfl rfl rfl (fun H hs => Ef.build B3C ([(out[i]'e1)] : List B3) rfl ut24 inf81 rfl rfl rfl (by first | decide | (simp; done)) (by kernel_rfl)) (fun H hs => Ef.call1 call155 rfl rfl (fun w hw => cloneB_ok now _ _ w ((Ld.old hnow) w (hs w hw)) (by first | omega | (simp only [tops_len] at *; omega)))) ?_)))
   rintro A1 _ hA1
   refine D.exi (fun p1 => D.sep (D.pur1 ?_))
   rintro ⟨rfl, hp1⟩
   have hp1l := congrArg List.length hp1
   refine D.f hwf 12 rfl (Ef.append (xs := p1.2) (ys := ([(out[i]'e1)] : List B3)) 0 rfl ut24 inf81 rfl rfl rfl rfl rfl rfl hA1 (Ld.own 1 (by exact rfl)) (by simp only [List.length_append, List.length_cons, List.length_nil] at *; omega) (by decide)) ?_
   rintro _ _ ⟨A2, k1, rfl, rfl, hA2⟩ hs
   replace hA2 := hA2 (.inr (by simp))
   refine ⟨fun w hw => hw.sub (Sub.nil _), (D.f hwf 15 rfl (Ef.call1 call164 rfl rfl (fun w hw => ih (n - 1) (by omega) v os (out.drop (i + 1)) (outn - (i + 1)) ins (p1.2 ++ ([(out[i]'e1)] : List B3)) (size - 1) _ _ _ _ _ _ w ((fun w hw => ((Ld.old hout) w hw).drop rfl hcap) w hw) ((Ld.old hins) w hw) ((Ld.own 0 (by exact rfl)) w hw) (by rw [List.length_drop]; omega) (by first | omega | (simp only [tops_len, conts_len, bl, List.length_append, List.length_cons, List.length_nil] at *; omega)) (by rw [List.length_append, List.length_singleton]; omega) hS hgi li (by rw [hp1]; exact sub_step e1 hsub) hno (by rw [List.length_append, List.length_singleton, hp1]; omega) (by rw [List.length_append, List.length_singleton, hp1]; omega) (by omega) (by rw [List.length_drop]; omega) (by rw [List.length_drop]; omega))) ?_)⟩
   rintro _ _ rfl hs
   refine ⟨fun w hw => hs w hw.tail, (D.exi (fun a1 => D.exi (fun b1 => D.pur1 ?_)))⟩
   rintro rfl
   refine D.m 16 rfl (D.m 17 rfl (D.m 18 rfl (D.m 19 rfl (D.m 20 rfl (D.m 21 rfl (D.m 22 rfl (D.done hwf rfl (Xn (Za (O.m rfl ?_))))))))))
   exact Zf (V.condF rfl (Zg (O.q rfl (Pu.add64 (r := ((i + 1 : Nat) : Int)) rfl (by omega) rfl rfl rfl) (O.m rfl (On (X.back2 (i + 1) (by omega) (by first | omega | (dsimp only; omega)) (Ent.cons rfl (Ent.nil _)) (Ent.cons (t := 0) rfl (Ent.cons (t := 1) rfl (Ent.cons (t := 2) rfl (Ent.cons (t := 3) rfl (Ent.cons (t := 36) rfl (Ent.nil _)))))) (Sub.nil _)))))))
  ·refine Zd (O.m rfl (O.m rfl (O.m rfl (Zf ?_))))
   exact Vt (X.ret3 rfl rfl rfl rfl (fun w hw => St.mkExi (.slice none 0 0) (St.mkExi (.slice none 0 0) (St.addPur rfl (hw.sub (Sub.nil _))))))
theorem partOf_ok (n : Nat) : L_partOf n := by
 induction n using Nat.strongRecOn with
 | _ n ih => exact fun v os out outn ins now size outA outc insA insc nowA nowc w hout hins hnow lout lins lnow hS hgi li hsub hno hsz hsz2 hsn hcap hnn => partOf_step n ih v os out outn ins now size outA outc insA insc nowA nowc w hout hins hnow lout lins lnow hS hgi li hsub hno hsz hsz2 hsn hcap hnn
set_option maxRecDepth 100000 in
set_option maxHeartbeats 1000000 in
theorem firstPart_ok (v : Int) (out : List B3) (ins : List B3) (outA : Option Addr) (outc : Nat) (insA : Option Addr) (insc : Nat) (w : World) (hout : Rd B3C w outA out) (hins : Rd B3C w insA ins) (lout : out.length ≤ 1099511627776) (lins : ins.length ≤ 1099511627776) (hS : STS v out) (hgi : ∀ b ∈ ins, good 15 b) (li : ins.length ≤ 100) (hno : ∀ t : List B3, t.Sublist out → 0 < t.length → t.length < out.length → (parL t ins).length ≠ t.length) (hcap : out.length ≤ outc) : Does Tryz.prog 96 [.slice outA out.length outc, .slice insA ins.length insc] w [] (fun r => [.pur (r = .tuple #[.slice outA out.length outc, .slice insA ins.length insc])]) := by
 refine Does.enter Tryz.func96 rfl rfl [(0, .slice outA out.length outc), (1, .slice insA ins.length insc)] rfl ?_
 have hfew := hS.few
 refine Za (O.m rfl (O.m rfl (Zc (O.m rfl (Zf ?_)))))
 refine Vb (V.loop2 (β := Nat) (fun size => [(6, .int .i64 (size : Int))]) _ (fun size => []) (fun size => 1 ≤ size) (fun size => out.length - size) 1 (by omega) (Ent.cons rfl (Ent.nil _)) (Ent.cons (t := 0) rfl (Ent.cons (t := 1) rfl (Ent.nil _))) (Sub.nil _) ?_)
 rintro size hs1
 refine Zj (O.m rfl (O.m rfl (O.q rfl (Pu.len rfl ut24 rfl) (O.q rfl (Pu.lss rfl rfl rfl) (Zf (V.condD rfl (fun c1 => ?_) (fun c1 => ?_)))))))
 ·refine Zh (O.m rfl (O.m rfl (O.m rfl (O.f rfl (Ef.call1 call164 rfl rfl (fun w hw => partOf_ok size v out out (out.length) ins ([]) size _ _ _ _ _ _ w ((Ld.old hout) w hw) ((Ld.old hins) w hw) ((fun w hw => Rd.nil _ _ _) w hw) (by first | omega | (simp only [tops_len, conts_len, bl, List.length_append, List.length_cons, List.length_nil] at *; omega)) (by first | omega | (simp only [tops_len, conts_len, bl, List.length_append, List.length_cons, List.length_nil] at *; omega)) (by first | omega | (simp only [tops_len, conts_len, bl, List.length_append, List.length_cons, List.length_nil] at *; omega)) hS hgi li (List.Sublist.refl _) hno (by simp only [List.length_nil]; omega) (by simp only [List.length_nil]; omega) rfl hcap rfl)) ?_))))
  rintro _ _ rfl
  refine O.exi (fun a1 => O.exi (fun b1 => O.pur ?_))
  rintro rfl
  refine O.m rfl (O.m rfl (O.m rfl (O.m rfl (O.m rfl (O.m rfl (O.m rfl (Zb (O.m rfl ?_))))))))
  exact Zf (V.condF rfl (Zg (O.m rfl (O.q rfl (Pu.add64 (r := ((size + 1 : Nat) : Int)) rfl (by omega) rfl rfl rfl) (O.m rfl (On (X.back2 (size + 1) (by omega) (by first | omega | (dsimp only; omega)) (Ent.cons rfl (Ent.nil _)) (Ent.cons (t := 0) rfl (Ent.cons (t := 1) rfl (Ent.nil _))) (Sub.nil _))))))))
 ·refine Zd (O.m rfl (O.m rfl (O.m rfl (O.m rfl (On ?_)))))
  exact Xn (Vt (X.ret2 rfl rfl rfl (fun w hw => St.addPur rfl (hw.sub (Sub.nil _)))))
set_option maxRecDepth 100000 in
set_option maxHeartbeats 1000000 in
theorem isMinimal_ok (v : Int) (os ns : List B3) (A1 A2 : Option Addr) (k1 k2 : Nat) (w : World) (ho : Rd B3C w A1 os) (hnt : Rd B3C w A2 ns) (lo : os.length ≤ 4611686018427387904) (ln : ns.length ≤ 4611686018427387904) (hT : TRD v os ns) (h4 : os.length = 4) (hcap : os.length ≤ k1) : Does Tryz.prog 24 [.agg #[.int .i64 v, .slice A1 os.length k1, .slice A2 ns.length k2]] w [] (fun r => [.pur (r = .tuple #[.bool (decide (True)), .int .i64 0])]) := by
 refine Does.enter Tryz.func24 rfl rfl [(0, .agg #[.int .i64 v, .slice A1 os.length k1, .slice A2 ns.length k2])] rfl ?_
 have hfo := hT.1.few
 have hfn := hT.2.1.few
 have hhi := hT.1.hi
 refine Za (O.f rfl (Ef.box rfl rfl rfl) ?_)
 rintro _ _ ⟨b1, rfl, rfl⟩
 refine O.m rfl (O.m rfl (Zf (Vs (Vb (Za (O.q rfl (Pu.loadAgg rfl ag35 sz35 rfl rfl (Ld.whole 0 rfl)) (O.f rfl (Ef.callP call19 rfl rfl (fun w hw => isTrade_ok  v os ns _ _ _ _ w ((Ld.old ho) w hw) ((Ld.old hnt) w hw) (by omega) (by omega) )) ?_)))))))
 rintro _ _ ⟨rfl, rfl⟩
 refine O.q rfl (Pu.not rfl rfl) (O.m rfl (Zf (V.condNot rfl (fun c1 => ?_) (fun c1 => ?_))))
 ·exact absurd hT c1
 ·refine Za (O.q rfl (Pu.fieldAddr 1 rfl ut35 rfl sz24 rfl rfl) (O.q rfl (Pu.load rfl pl24 rfl (Ld.blk 0 rfl rfl)) (O.q rfl (Pu.len rfl ut24 rfl) (O.q rfl (Pu.gtr rfl rfl rfl) (O.m rfl (Zf (V.condD rfl (fun c2 => ?_) (fun c2 => ?_))))))))
  ·exact absurd c2 (by omega)
  ·refine Vk (Xb (Xn (Za (O.q rfl (Pu.fieldAddr 1 rfl ut35 rfl sz24 rfl rfl) (O.q rfl (Pu.load rfl pl24 rfl (Ld.blk 0 rfl rfl)) (O.q rfl (Pu.fieldAddr 2 rfl ut35 rfl sz24 rfl rfl) (O.q rfl (Pu.load rfl pl24 rfl (Ld.blk 0 rfl rfl)) (O.f rfl (Ef.callP call96 rfl rfl (fun w hw => firstPart_ok v os ns _ _ _ _ w ((Ld.old ho) w hw) ((Ld.old hnt) w hw) (by first | omega | (simp only [tops_len, conts_len, bl, List.length_append, List.length_cons, List.length_nil] at *; omega)) (by first | omega | (simp only [tops_len, conts_len, bl, List.length_append, List.length_cons, List.length_nil] at *; omega)) hT.1 (fun b hb => (hT.2.1.good b hb).mono hhi) (by omega) (fun t h1 h2 h3 => no_part hT h4 h1 h2 (by omega)) hcap)) ?_))))))))
   rintro _ _ ⟨rfl, rfl⟩
   refine O.m rfl (O.m rfl (O.m rfl (O.m rfl (O.m rfl (Zb (O.q rfl (Pu.fieldAddr 1 rfl ut35 rfl sz24 rfl rfl) (O.q rfl (Pu.load rfl pl24 rfl (Ld.blk 0 rfl rfl)) (O.q rfl (Pu.len rfl ut24 rfl) ?_))))))))
   refine O.q rfl (Pu.gtr rfl rfl rfl) (O.m rfl (O.splitD 27 rfl (fun c3 => ?_) (fun c3 => ?_)))
   ·refine O.gm rfl (O.gq rfl (Pu.len rfl ut24 rfl) (O.gq rfl (Pu.fieldAddr 1 rfl ut35 rfl sz24 rfl rfl) (O.gq rfl (Pu.load rfl pl24 rfl (Ld.blk 0 rfl rfl)) (O.gq rfl (Pu.len rfl ut24 rfl) (O.gq rfl (Pu.eql rfl rfl rfl) (O.m rfl (O.m rfl (O.m rfl (Ze ?_)))))))))
    exact X.ret2 rfl rfl rfl (fun w hw => St.addPur (by simp) (hw.sub (Sub.nil _)))
   ·exact absurd (by omega) c3
set_option maxRecDepth 100000 in
set_option maxHeartbeats 1000000 in
theorem DrawPaschTrades_ok (code : List UInt8) (codeA : Option Addr) (codec : Nat) (w : World) (hcode : Rd U8C w codeA code) (lcode : code.length ≤ 1099511627776) (lc : code.length ≤ 1048576) : Does Tryz.prog 7 [.slice codeA code.length codec] w [] (fun rv_ => [.exi fun (pv : Int) => .exi fun (rA : Option Addr) => .exi fun (rc : Nat) => .exi fun (r : List B3) => .sep (.pur (rv_ = .agg #[.int .i64 pv, .slice rA r.length rc] ∧ r.length ≤ 4200)) (Own 81 B3C rA rc r)]) := by
 refine Does.enter Tryz.func7 rfl rfl [(0, .slice codeA code.length codec)] rfl (Za (O.f rfl (Ef.alloc rfl zr26 rfl) ?_))
 rintro _ _ ⟨b1, rfl, rfl⟩
 refine Zb (O.m rfl (O.f rfl (Ef.call1 call61 rfl rfl (fun w hw => l01From_ok  code _ _ w ((Ld.old hcode) w hw) (by first | omega | (simp only [tops_len, conts_len, bl, List.length_append, List.length_cons, List.length_nil] at *; omega)) (by first | assumption | omega | (try dsimp only at *; omega)))) ?_))
 rintro _ _ rfl
 refine O.exi (fun s1 => O.sep (O.pur ?_))
 rintro rfl
 refine O.f rfl (Ef.call call60 rfl rfl (Does.pre (fun w hw => hw.sub (Sub.s [0,0] rfl)) (l01Spoil_ok _ _ _ s1 w _   (by first | assumption | omega | (try dsimp only at *; omega)) (by first | assumption | omega | (try dsimp only at *; omega))))) ?_
 rintro _ _ rfl
 refine O.exi (fun pv1 => O.exi (fun r1A => O.exi (fun r1c => O.exi (fun r1 => O.sep (O.pur ?_)))))
 rintro ⟨rfl, hpv1_1, hpv1_2⟩
 refine O.sep (O.s rfl rfl (Ef.storeAll 2 rfl sz26 rfl rfl rfl rfl (by simp [Value.oneCell']) rfl) ?_)
 rintro _ _ rfl
 exact Ze (X.retCell rfl ag26 sz26 rfl rfl (Ld.whole 2 rfl) (fun w hw => St.mkExi pv1 (St.mkExi r1A (St.mkExi r1c (St.mkExi r1 (St.unsep (St.addPur ⟨rfl, hpv1_2⟩ (hw.sub (Sub.s [0] rfl)))))))))
set_option maxRecDepth 100000 in
set_option maxHeartbeats 1000000 in
theorem DrawCycleTrade_ok (code : List UInt8) (codeA : Option Addr) (codec : Nat) (w : World) (hcode : Rd U8C w codeA code) (lcode : code.length ≤ 1099511627776) (lc : code.length ≤ 1048576) : Does Tryz.prog 11 [.slice codeA code.length codec] w [] (fun rv_ => [.exi fun (pv : Int) => .exi fun (rA : Option Addr) => .exi fun (rc : Nat) => .exi fun (r : List B3) => .exi fun (a : Int) => .exi fun (b : Int) => .exi fun (p : Int) => .sep (.pur (rv_ = .tuple #[.agg #[.int .i64 pv, .slice rA r.length rc], .int .i64 a, .int .i64 b, .int .i64 p] ∧ r.length ≤ 4200)) (Own 81 B3C rA rc r)]) := by
 refine Does.enter Tryz.func11 rfl rfl [(0, .slice codeA code.length codec)] rfl (Za (O.f rfl (Ef.alloc rfl zr26 rfl) ?_))
 rintro _ _ ⟨b1, rfl, rfl⟩
 refine O.m rfl (O.m rfl (O.m rfl (Zb (O.m rfl (O.f rfl (Ef.call1 call61 rfl rfl (fun w hw => l01From_ok  code _ _ w ((Ld.old hcode) w hw) (by first | omega | (simp only [tops_len, conts_len, bl, List.length_append, List.length_cons, List.length_nil] at *; omega)) (by first | assumption | omega | (try dsimp only at *; omega)))) ?_)))))
 rintro _ _ rfl
 refine O.exi (fun s1 => O.sep (O.pur ?_))
 rintro rfl
 refine O.m rfl (Zb (O.m rfl (O.f rfl (Ef.call call67 rfl rfl (Does.pre (fun w hw => hw.sub (Sub.s [0,0] rfl)) (l01DrawFull_ok _ _ _ s1 w _   (by first | assumption | omega | (try dsimp only at *; omega)) (by first | assumption | omega | (try dsimp only at *; omega))))) ?_)))
 rintro _ _ rfl
 refine O.exi (fun pv1 => O.exi (fun r1A => O.exi (fun r1c => O.exi (fun r1 => O.sep (O.pur ?_)))))
 rintro ⟨rfl, hpv1_1⟩
 refine O.sep ?_
 have hD0 := hpv1_1
 have hv0 := hD0.1
 have hl0 := hD0.2.2
 refine O.f rfl (Ef.alloc rfl zr26 rfl) ?_
 rintro _ _ ⟨b2, rfl, rfl⟩
 refine O.s rfl rfl (Ef.storeAll 0 rfl sz26 rfl rfl rfl rfl (by simp [Value.oneCell']) rfl) ?_
 rintro _ _ rfl
 refine Zc (O.m rfl (O.f rfl (Ef.call call68 rfl rfl (Does.pre (fun w hw => hw.sub (Sub.s [2,0,0,0] rfl)) (l01Next_ok _ _ _ s1 (12 : Int) w _   (by first | assumption | omega | (try dsimp only at *; omega)) (by first | assumption | omega | (try dsimp only at *; omega))))) ?_))
 rintro _ _ rfl
 refine O.exi (fun r2 => O.sep (O.pur ?_))
 rintro ⟨rfl, hr2_1, hr2_2, hr2_3⟩
 refine O.q rfl (Pu.eql rfl rfl rfl) (Zf (V.condD rfl (fun c1 => ?_) (fun c1 => ?_)))
 ·refine Vr (O.m rfl (O.f rfl (Ef.call call60 rfl rfl (Does.pre (fun w hw => hw.sub (Sub.s [0,0,0,0] rfl)) (l01Spoil_ok _ _ _ s1 w _   (by first | assumption | omega | (try dsimp only at *; omega)) (by first | assumption | omega | (try dsimp only at *; omega))))) ?_))
  rintro _ _ rfl
  refine O.exi (fun pv2 => O.exi (fun r3A => O.exi (fun r3c => O.exi (fun r3 => O.sep (O.pur ?_)))))
  rintro ⟨rfl, hpv2_1, hpv2_2⟩
  refine O.sep ?_
  have hsl := hpv2_2
  refine O.s rfl rfl (Ef.storeAll 2 rfl sz26 rfl rfl rfl rfl (by simp [Value.oneCell']) rfl) ?_
  rintro _ _ rfl
  refine Zb (O.q rfl (Pu.fieldAddr 0 rfl ut26 rfl sz2 rfl rfl) (O.q rfl (Pu.load rfl pl2 rfl (Ld.blk 2 rfl rfl)) (O.q rfl (Pu.max2 (r := (max pv2 (1 : Int))) (by omega) rfl rfl rfl) (O.q rfl (Pu.min2 (r := (min (max pv2 (1 : Int)) (15 : Int))) (by omega) rfl rfl rfl) (O.m rfl (Zf (Vs ?_)))))))
  refine V.ent (Ent.cons (t := 2) rfl (Ent.cons (t := 6) rfl (Ent.cons (t := 7) rfl (Ent.cons (t := 8) rfl (Ent.nil _))))) (V.drawS mo (by kernel_rfl) (Sub.s [0,1,1] rfl) (fun hwf => D.q 0 rfl (Pu.loadAgg rfl ag26 sz26 rfl rfl (Ld.whole 1 rfl)) (D.m 1 rfl (D.m 2 rfl (D.m 4 rfl (D.m 5 rfl (D.m 7 rfl (D.m 8 rfl (D.m 9 rfl (D.f hwf 3 rfl (Ef.call call68 rfl rfl (Does.pre (fun w hw => hw.sub (Sub.s [1,0,0,0,0] rfl)) (l01Next_ok _ _ _ s1 (min (max pv2 (1 : Int)) (15 : Int)) w _   (by first | assumption | omega | (try dsimp only at *; omega)) (by first | assumption | omega | (try dsimp only at *; omega))))) ?_))))))))))
  rintro _ _ rfl hs
  refine ⟨fun w hw => hw.tail.sub (Sub.s [0,0,0] rfl), (D.exi (fun r4 => D.sep (D.pur1 ?_)))⟩
  rintro ⟨rfl, hr4_1, hr4_2, hr4_3⟩
  refine D.f hwf 6 rfl (Ef.call call68 rfl rfl (Does.pre (fun w hw => hw.sub (Sub.s [0,0,0,0,0] rfl)) (l01Next_ok _ _ _ s1 (min (max pv2 (1 : Int)) (15 : Int)) w _   (by first | assumption | omega | (try dsimp only at *; omega)) (by first | assumption | omega | (try dsimp only at *; omega))))) ?_
  rintro _ _ rfl hs
  refine ⟨fun w hw => hw.tail.sub (Sub.s [0,0,0] rfl), (D.exi (fun r5 => D.sep (D.pur1 ?_)))⟩
  rintro ⟨rfl, hr5_1, hr5_2, hr5_3⟩
  refine D.f hwf 10 rfl (Ef.call call68 rfl rfl (Does.pre (fun w hw => hw.sub (Sub.s [0,0,0,0,0] rfl)) (l01Next_ok _ _ _ s1 (24 : Int) w _   (by first | assumption | omega | (try dsimp only at *; omega)) (by first | assumption | omega | (try dsimp only at *; omega))))) ?_
  rintro _ _ rfl hs
  refine ⟨fun w hw => hw.tail.sub (Sub.s [0,0,0] rfl), (D.exi (fun r6 => D.sep (D.pur1 ?_)))⟩
  rintro ⟨rfl, hr6_1, hr6_2, hr6_3⟩
  refine D.q 11 rfl (Pu.quo64 (by omega) (by omega) (by omega) rfl rfl rfl) (D.q 12 rfl (Pu.add64 rfl (by omega) rfl rfl rfl) (D.f hwf 13 rfl (Ef.call call68 rfl rfl (Does.pre (fun w hw => hw.sub (Sub.s [0,0,0,0,0] rfl)) (l01Next_ok _ _ _ s1 ((min (max pv2 (1 : Int)) (15 : Int)) + (r6 / (23 : Int))) w _   (by first | assumption | omega | (try dsimp only at *; omega)) (by first | assumption | omega | (try dsimp only at *; omega))))) ?_))
  rintro _ _ rfl hs
  refine ⟨fun w hw => hw.tail.sub (Sub.s [0,0,0] rfl), (D.exi (fun r7 => D.sep (D.pur1 ?_)))⟩
  rintro ⟨rfl, hr7_1, hr7_2, hr7_3⟩
  refine D.f hwf 14 rfl (Ef.storeAll 4 rfl sz26 rfl rfl rfl rfl (by simp [Value.oneCell']) rfl) ?_
  rintro _ _ rfl hs
  exact ⟨fun w hw => hw.sub (Sub.s [1,1,1] rfl), (D.m 15 rfl (D.m 16 rfl (D.m 17 rfl (D.done hwf rfl (Xn (Vt (X.retCell4 rfl ag26 sz26 rfl rfl rfl rfl rfl (Ld.whole 4 rfl) (fun w hw => St.mkExi pv2 (St.mkExi r3A (St.mkExi r3c (St.mkExi r3 (St.mkExi r4 (St.mkExi r5 (St.mkExi r7 (St.unsep (St.addPur ⟨rfl, (by omega)⟩ (hw.sub (Sub.s [1] rfl))))))))))))))))))⟩
 ·refine Vk (Xn (Za (O.q rfl (Pu.fieldAddr 0 rfl ut26 rfl sz2 rfl rfl) (O.q rfl (Pu.load rfl pl2 rfl (Ld.blk 1 rfl rfl)) (O.q rfl (Pu.max2 (r := (max pv1 (1 : Int))) (by omega) rfl rfl rfl) (O.q rfl (Pu.min2 (r := (min (max pv1 (1 : Int)) (15 : Int))) (by omega) rfl rfl rfl) (O.m rfl (Zf (Vs ?_)))))))))
  refine V.ent (Ent.cons (t := 2) rfl (Ent.cons (t := 6) rfl (Ent.cons (t := 7) rfl (Ent.cons (t := 8) rfl (Ent.nil _))))) (V.drawS mo (by kernel_rfl) (Sub.s [1,1] rfl) (fun hwf => D.q 0 rfl (Pu.loadAgg rfl ag26 sz26 rfl rfl (Ld.whole 0 rfl)) (D.m 1 rfl (D.m 2 rfl (D.m 4 rfl (D.m 5 rfl (D.m 7 rfl (D.m 8 rfl (D.m 9 rfl (D.f hwf 3 rfl (Ef.call call68 rfl rfl (Does.pre (fun w hw => hw.sub (Sub.s [0,0,0,0] rfl)) (l01Next_ok _ _ _ s1 (min (max pv1 (1 : Int)) (15 : Int)) w _   (by first | assumption | omega | (try dsimp only at *; omega)) (by first | assumption | omega | (try dsimp only at *; omega))))) ?_))))))))))
  rintro _ _ rfl hs
  refine ⟨fun w hw => hw.tail.sub (Sub.s [0,0] rfl), (D.exi (fun r8 => D.sep (D.pur1 ?_)))⟩
  rintro ⟨rfl, hr8_1, hr8_2, hr8_3⟩
  refine D.f hwf 6 rfl (Ef.call call68 rfl rfl (Does.pre (fun w hw => hw.sub (Sub.s [0,0,0,0] rfl)) (l01Next_ok _ _ _ s1 (min (max pv1 (1 : Int)) (15 : Int)) w _   (by first | assumption | omega | (try dsimp only at *; omega)) (by first | assumption | omega | (try dsimp only at *; omega))))) ?_
  rintro _ _ rfl hs
  refine ⟨fun w hw => hw.tail.sub (Sub.s [0,0] rfl), (D.exi (fun r9 => D.sep (D.pur1 ?_)))⟩
  rintro ⟨rfl, hr9_1, hr9_2, hr9_3⟩
  refine D.f hwf 10 rfl (Ef.call call68 rfl rfl (Does.pre (fun w hw => hw.sub (Sub.s [0,0,0,0] rfl)) (l01Next_ok _ _ _ s1 (24 : Int) w _   (by first | assumption | omega | (try dsimp only at *; omega)) (by first | assumption | omega | (try dsimp only at *; omega))))) ?_
  rintro _ _ rfl hs
  refine ⟨fun w hw => hw.tail.sub (Sub.s [0,0] rfl), (D.exi (fun r10 => D.sep (D.pur1 ?_)))⟩
  rintro ⟨rfl, hr10_1, hr10_2, hr10_3⟩
  refine D.q 11 rfl (Pu.quo64 (by omega) (by omega) (by omega) rfl rfl rfl) (D.q 12 rfl (Pu.add64 rfl (by omega) rfl rfl rfl) (D.f hwf 13 rfl (Ef.call call68 rfl rfl (Does.pre (fun w hw => hw.sub (Sub.s [0,0,0,0] rfl)) (l01Next_ok _ _ _ s1 ((min (max pv1 (1 : Int)) (15 : Int)) + (r10 / (23 : Int))) w _   (by first | assumption | omega | (try dsimp only at *; omega)) (by first | assumption | omega | (try dsimp only at *; omega))))) ?_))
  rintro _ _ rfl hs
  refine ⟨fun w hw => hw.tail.sub (Sub.s [0,0] rfl), (D.exi (fun r11 => D.sep (D.pur1 ?_)))⟩
  rintro ⟨rfl, hr11_1, hr11_2, hr11_3⟩
  refine D.f hwf 14 rfl (Ef.storeAll 3 rfl sz26 rfl rfl rfl rfl (by simp [Value.oneCell']) rfl) ?_
  rintro _ _ rfl hs
  exact ⟨fun w hw => hw.sub (Sub.s [1,1] rfl), (D.m 15 rfl (D.m 16 rfl (D.m 17 rfl (D.done hwf rfl (Xn (Vt (X.retCell4 rfl ag26 sz26 rfl rfl rfl rfl rfl (Ld.whole 3 rfl) (fun w hw => St.mkExi pv1 (St.mkExi r1A (St.mkExi r1c (St.mkExi r1 (St.mkExi r8 (St.mkExi r9 (St.mkExi r11 (St.unsep (St.addPur ⟨rfl, (by omega)⟩ (hw.sub (Sub.s [2] rfl))))))))))))))))))⟩
set_option maxRecDepth 100000 in
set_option maxHeartbeats 1000000 in
theorem DrawDifferenceTrade_ok (code : List UInt8) (codeA : Option Addr) (codec : Nat) (w : World) (hcode : Rd U8C w codeA code) (lcode : code.length ≤ 1099511627776) (lc : code.length ≤ 1048576) : Does Tryz.prog 15 [.slice codeA code.length codec] w [] (fun rv_ => [.exi fun (pv : Int) => .exi fun (pu : Int) => .exi fun (rA : Option Addr) => .exi fun (rc : Nat) => .exi fun (r : List B3) => .exi fun (qA : Option Addr) => .exi fun (qc : Nat) => .exi fun (q : List B3) => .sep (.pur (rv_ = .tuple #[.agg #[.int .i64 pv, .slice rA r.length rc], .agg #[.int .i64 pu, .slice qA q.length qc]] ∧ r.length ≤ 4200 ∧ q.length ≤ 4200)) (TrdA rA rc r qA qc q)]) := by
 refine Does.enter Tryz.func15 rfl rfl [(0, .slice codeA code.length codec)] rfl (Za (O.f rfl (Ef.alloc rfl zr26 rfl) ?_))
 rintro _ _ ⟨b1, rfl, rfl⟩
 refine O.f rfl (Ef.alloc rfl zr26 rfl) ?_
 rintro _ _ ⟨b2, rfl, rfl⟩
 refine Zb (O.m rfl (O.f rfl (Ef.call1 call61 rfl rfl (fun w hw => l01From_ok  code _ _ w ((Ld.old hcode) w hw) (by first | omega | (simp only [tops_len, conts_len, bl, List.length_append, List.length_cons, List.length_nil] at *; omega)) (by first | assumption | omega | (try dsimp only at *; omega)))) ?_))
 rintro _ _ rfl
 refine O.exi (fun s1 => O.sep (O.pur ?_))
 rintro rfl
 refine O.m rfl (Zb (O.m rfl (O.f rfl (Ef.call call67 rfl rfl (Does.pre (fun w hw => hw.sub (Sub.s [0,0,0] rfl)) (l01DrawFull_ok _ _ _ s1 w _   (by first | assumption | omega | (try dsimp only at *; omega)) (by first | assumption | omega | (try dsimp only at *; omega))))) ?_)))
 rintro _ _ rfl
 refine O.exi (fun pv1 => O.exi (fun r1A => O.exi (fun r1c => O.exi (fun r1 => O.sep (O.pur ?_)))))
 rintro ⟨rfl, hpv1_1⟩
 refine O.sep ?_
 have hD0 := hpv1_1
 have hv0 := hD0.1
 have hl0 := hD0.2.2
 refine O.f rfl (Ef.alloc rfl zr26 rfl) ?_
 rintro _ _ ⟨b3, rfl, rfl⟩
 refine O.s rfl rfl (Ef.storeAll 0 rfl sz26 rfl rfl rfl rfl (by simp [Value.oneCell']) rfl) ?_
 rintro _ _ rfl
 refine Zc (O.m rfl (O.f rfl (Ef.call call68 rfl rfl (Does.pre (fun w hw => hw.sub (Sub.s [2,0,0,0,0] rfl)) (l01Next_ok _ _ _ s1 (6 : Int) w _   (by first | assumption | omega | (try dsimp only at *; omega)) (by first | assumption | omega | (try dsimp only at *; omega))))) ?_))
 rintro _ _ rfl
 refine O.exi (fun r2 => O.sep (O.pur ?_))
 rintro ⟨rfl, hr2_1, hr2_2, hr2_3⟩
 refine Zi (Za (O.q rfl (Pu.eql rfl rfl rfl) (O.m rfl (Zf (V.condD rfl (fun c1 => ?_) (fun c1 => ?_))))))
 ·refine Vs (V.drawS mo (by kernel_rfl) (Sub.s [1,1] rfl) (fun hwf => D.q 0 rfl (Pu.loadAgg rfl ag26 sz26 rfl rfl (Ld.whole 0 rfl)) (D.m 1 rfl (D.f hwf 2 rfl (Ef.call call60 rfl rfl (Does.pre (fun w hw => hw.sub (Sub.s [0,0,0,0,0] rfl)) (l01Spoil_ok _ _ _ s1 w _   (by first | assumption | omega | (try dsimp only at *; omega)) (by first | assumption | omega | (try dsimp only at *; omega))))) ?_))))
  rintro _ _ rfl hs
  refine ⟨fun w hw => hw.tail.sub (Sub.s [0,0] rfl), (D.exi (fun pv2 => D.exi (fun r3A => D.exi (fun r3c => D.exi (fun r3 => D.sep (D.pur1 ?_))))))⟩
  rintro ⟨rfl, hpv2_1, hpv2_2⟩
  refine D.sep ?_
  have hsl := hpv2_2
  refine D.f hwf 3 rfl (Ef.storeAll 5 rfl sz26 rfl rfl rfl rfl (by simp [Value.oneCell']) rfl) ?_
  rintro _ _ rfl hs
  refine ⟨fun w hw => hw.sub (Sub.s [2,2] rfl), (D.f hwf 4 rfl (Ef.storeAll 4 rfl sz26 rfl rfl rfl rfl (by simp [Value.oneCell']) rfl) ?_)⟩
  rintro _ _ rfl hs
  exact ⟨fun w hw => hw.sub (Sub.s [2,2] rfl), (D.done hwf rfl (Xn (Vt (Xq (Xr (X.retCell22 rfl ag26 sz26 rfl ag26 sz26 rfl rfl rfl (Ld.whole 5 rfl) (Ld.whole 4 rfl) (RetM.map (fun w hw => St.trd (hw.sub (Sub.s [3,0] rfl))) (fun w hw => St.mkExi pv1 (St.mkExi pv2 (St.mkExi r1A (St.mkExi r1c (St.mkExi r1 (St.mkExi r3A (St.mkExi r3c (St.mkExi r3 (St.unsep (St.addPur ⟨rfl, (by omega), (by omega)⟩ (hw.sub (Sub.s [0] rfl)))))))))))))))))))⟩
 ·refine Za (O.q rfl (Pu.eql rfl rfl rfl) (O.m rfl (Zf (V.condD rfl (fun c2 => ?_) (fun c2 => ?_)))))
  ·refine Vs (V.drawS mo (by kernel_rfl) (Sub.s [1,1] rfl) (fun hwf => D.q 0 rfl (Pu.loadAgg rfl ag26 sz26 rfl rfl (Ld.whole 0 rfl)) (D.q 1 rfl (Pu.loadAgg rfl ag26 sz26 rfl rfl (Ld.whole 0 rfl)) (D.m 2 rfl (D.q 3 rfl (Pu.fieldAddr 0 rfl ut26 rfl sz2 rfl rfl) (D.q 4 rfl (Pu.load rfl pl2 rfl (Ld.blk 0 rfl rfl)) (D.f hwf 5 rfl (Ef.call call84 rfl rfl (Does.pre (fun w hw => hw.sub (Sub.s [0,0,0,0,0] rfl)) (l01DrawOrder_ok _ _ _ s1 pv1 w _   (by first | assumption | omega | (try dsimp only at *; omega)) (by first | assumption | omega | (try dsimp only at *; omega)) (by omega)))) ?_)))))))
   rintro _ _ rfl hs
   refine ⟨fun w hw => hw.tail.sub (Sub.s [0,0] rfl), (D.exi (fun r4A => D.exi (fun r4c => D.exi (fun r4 => D.sep (D.pur1 ?_)))))⟩
   rintro ⟨rfl, hr4_1⟩
   refine D.sep ?_
   have hol := hr4_1.1
   refine D.f hwf 6 rfl (Ef.call1 call83 rfl rfl (fun w hw => l01RenamedD_ok  pv1 r1 r4 _ _ _ _ w ((Ld.own 3 (by exact rfl)) w hw) ((Ld.own 0 (by exact rfl)) w hw) (by first | omega | (simp only [tops_len, conts_len, bl, List.length_append, List.length_cons, List.length_nil] at *; omega)) (by first | omega | (simp only [tops_len, conts_len, bl, List.length_append, List.length_cons, List.length_nil] at *; omega)) (by rw [hr4_1.1]; exact hD0.2.1) (by omega) (fun q hq => by have := hr4_1.2.2 q hq; omega))) ?_
   rintro _ _ rfl hs
   refine ⟨fun w hw => hs w hw.tail, (D.exi (fun r5A => D.exi (fun r5c => D.exi (fun r5 => D.sep (D.pur1 ?_)))))⟩
   rintro ⟨rfl, hr5_1, hr5_2⟩
   have hrl := hr5_1.length_eq
   rw [List.length_map] at hrl
   refine D.f hwf 7 rfl (Ef.storeAll 6 rfl sz26 rfl rfl rfl rfl (by simp [Value.oneCell']) rfl) ?_
   rintro _ _ rfl hs
   refine ⟨fun w hw => hw.sub (Sub.s [3,3] rfl), (D.f hwf 8 rfl (Ef.storeAll 5 rfl sz26 rfl rfl rfl rfl (by simp [Value.oneCell']) rfl) ?_)⟩
   rintro _ _ rfl hs
   exact ⟨fun w hw => hw.sub (Sub.s [3,3] rfl), (D.done hwf rfl (Xn (Vt (Xq (Xr (X.retCell22 rfl ag26 sz26 rfl ag26 sz26 rfl rfl rfl (Ld.whole 6 rfl) (Ld.whole 5 rfl) (RetM.map (fun w hw => St.trd (hw.sub (Sub.s [4,0] rfl))) (fun w hw => St.mkExi pv1 (St.mkExi pv1 (St.mkExi r1A (St.mkExi r1c (St.mkExi r1 (St.mkExi r5A (St.mkExi r5c (St.mkExi r5 (St.unsep (St.addPur ⟨rfl, (by omega), (by omega)⟩ (hw.sub (Sub.s [0] rfl)))))))))))))))))))⟩
  ·refine Vk (Xb (Xn (Vs (V.map (fun w hw => St.trd_one (hw.sub (Sub.s [2,0,0,0,0] rfl))) (V.drawS mo (by kernel_rfl) (Sub.s [2] rfl) (fun hwf => D.q 0 rfl (Pu.loadAgg rfl ag26 sz26 rfl rfl (Ld.whole 0 rfl)) (D.m 1 rfl (D.m 2 rfl (D.q 3 rfl (Pu.loadAgg rfl ag26 sz26 rfl rfl (Ld.whole 0 rfl)) (D.f hwf 4 rfl (Ef.call call85 rfl rfl (Does.pre (fun w hw => hw.sub (Sub.s [1,0,0,0,0] rfl)) (l01SwitchedR_ok _ _ _ 4100 s1 r1A r1c r1 pv1 r1 _ _ w _   (by first | assumption | omega | (try dsimp only at *; omega)) (by first | assumption | omega | (try dsimp only at *; omega)) hD0 (by omega)))) ?_))))))))))
   rintro _ _ rfl hs
   refine ⟨fun w hw => hw.tail.sub (Sub.s [0] rfl), (D.exi (fun r6A => D.exi (fun r6c => D.exi (fun r6 => D.sep (D.pur1 ?_)))))⟩
   rintro ⟨rfl, hr6_1⟩
   refine D.sep ?_
   have hlsr6 := hr6_1.2.2
   refine D.f hwf 5 rfl (Ef.call call85 rfl rfl (Does.pre (fun w hw => hw.sub (Sub.s [1,0,0,0,0] rfl)) (l01SwitchedR_ok _ _ _ 4104 s1 r1A r1c r1 pv1 r6 _ _ w _   (by first | assumption | omega | (try dsimp only at *; omega)) (by first | assumption | omega | (try dsimp only at *; omega)) hr6_1 (by omega)))) ?_
   rintro _ _ rfl hs
   refine ⟨fun w hw => hw.tail.sub (Sub.s [0] rfl), (D.exi (fun r7A => D.exi (fun r7c => D.exi (fun r7 => D.sep (D.pur1 ?_)))))⟩
   rintro ⟨rfl, hr7_1⟩
   refine D.sep ?_
   have hlsr7 := hr7_1.2.2
   refine D.f hwf 6 rfl (Ef.storeAll 4 rfl sz26 rfl rfl rfl rfl (by simp [Value.oneCell']) rfl) ?_
   rintro _ _ rfl hs
   refine ⟨fun w hw => hw.sub (Sub.s [2] rfl), (D.f hwf 7 rfl (Ef.storeAll 3 rfl sz26 rfl rfl rfl rfl (by simp [Value.oneCell']) rfl) ?_)⟩
   rintro _ _ rfl hs
   exact ⟨fun w hw => hw.sub (Sub.s [2] rfl), (D.done hwf rfl (Xn (Vt (X.retCell22 rfl ag26 sz26 rfl ag26 sz26 rfl rfl rfl (Ld.whole 4 rfl) (Ld.whole 3 rfl) (fun w hw => St.mkExi pv1 (St.mkExi pv1 (St.mkExi r1A (St.mkExi r1c (St.mkExi r1 (St.mkExi r7A (St.mkExi r7c (St.mkExi r7 (St.unsep (St.addPur ⟨rfl, (by omega), (by omega)⟩ (hw.sub (Sub.s [0] rfl))))))))))))))))⟩
theorem cyCode_np {v : Int} {bs : List B3} {a b p : Int} (h : ¬ (if STS v bs then if Pt v a ∧ Pt v b ∧ a ≠ b then (0 : Int) else 2 else 1) = 0) : cyCode v bs a b p = (if STS v bs then if Pt v a ∧ Pt v b ∧ a ≠ b then (0 : Int) else 2 else 1) := by
 by_cases hS : STS v bs
 ·rw [if_pos hS] at h ⊢
  by_cases hP : Pt v a ∧ Pt v b ∧ a ≠ b
  ·rw [if_pos hP] at h; exact absurd rfl h
  ·rw [if_neg hP]
   exact cyCode_2 hS fun hc => hP ⟨hc.1, hc.2.1, hc.2.2.2.1⟩
 ·rw [if_neg hS]; exact cyCode_1 hS
end Go.Proofs.YtgfpljeppfaolaaGreat
