/-
  Contracts, part 7.
-/
import Derived.Test.YtoeldiaidjnibaaGreatKb6
set_option linter.unusedVariables false
set_option linter.unusedSimpArgs false
namespace Go.Proofs.YtoeldiaidjnibaaGreat
open Go Go.RowKit Go.Vc Go.Proofs
set_option maxRecDepth 100000 in
set_option maxHeartbeats 1000000 in
theorem implCarry_ok (v : Int) (bs : List B3) (p : Int) (os ns : List B3) (A : Option Addr) (c : Nat) (A1 A2 : Option Addr) (k1 k2 : Nat) (w : World) (hx : Rd B3C w A bs) (ho : Rd B3C w A1 os) (hnt : Rd B3C w A2 ns) (lx : bs.length ≤ 4611686018427387904) (lo : os.length ≤ 4611686018427387904) (ln : ns.length ≤ 4611686018427387904) (hnn : A2 = none → k2 = 0) : Does Tryz.prog 7 [.agg #[.int .i64 v, .slice A bs.length c], .agg #[.int .i64 p, .slice A1 os.length k1, .slice A2 ns.length k2]] w [] (fun rv_ => [.exi fun (rA : Option Addr) => .exi fun (rc : Nat) => .exi fun (r : List B3) => .sep (.pur (rv_ = .tuple #[.agg #[.int .i64 (if crC v bs p os ns = 0 then v else 0), .slice rA r.length rc], .int .i64 (crC v bs p os ns)] ∧ CRR v bs p os ns r)) (Own 69 B3C rA rc r)]) := by
 refine Does.enter Tryz.func7 rfl rfl [(0, .agg #[.int .i64 v, .slice A bs.length c]), (1, .agg #[.int .i64 p, .slice A1 os.length k1, .slice A2 ns.length k2])] rfl (V.seq (V.region (O.f rfl (Ef.box rfl rfl rfl) ?_)))
 rintro _ _ ⟨b1, rfl, rfl⟩
 refine O.f rfl (Ef.box rfl rfl rfl) ?_
 rintro _ _ ⟨b2, rfl, rfl⟩
 refine O.f rfl (Ef.alloc rfl zr26 rfl) ?_
 rintro _ _ ⟨b3, rfl, rfl⟩
 refine O.m rfl (O.nil (X.next (V.seq (V.block (V.seq (V.region (O.q rfl (Pu.loadAgg rfl ag26 sz26 rfl rfl (Ld.whole 2 rfl)) (O.f rfl (Ef.callP call39 rfl rfl (fun w hw => IsSystem_ok _ bs _ _ w ((Ld.old hx) w hw) (by omega))) ?_))))))))
 rintro _ _ ⟨rfl, rfl⟩
 refine O.q rfl (Pu.not rfl rfl) (O.m rfl (O.splitN 10 rfl (fun c1 => ?_) (fun c1 => ?_)))
 ·refine O.g rfl (O.g rfl (O.g rfl (O.m rfl (O.m rfl (O.nil (X.next (V.condT rfl (V.seq (V.region (O.q rfl (Pu.buildS (cs := [.int .i64 (0 : Int), .slice none 0 0]) rfl rfl Tryz.underlying26 zr26 (by kernel_rfl) rfl (by kernel_rfl)) (O.s rfl rfl (Ef.storeAll 0 rfl sz26 rfl rfl rfl rfl (by simp [Value.oneCell']) rfl) ?_)))))))))))
  rintro _ _ rfl
  exact O.m rfl (O.nil (X.next (V.ret (X.blockRet (X.thenRet (X.retCell2 rfl ag26 sz26 rfl rfl rfl (Ld.whole 0 rfl) (fun w hw => St.mkExi none (St.mkExi 0 (St.mkExi [] (St.unsep (St.addPur ⟨(by rw [crC_1 (fun h => c1 h.1)]; rfl), ⟨fun h => by rw [crC_1 (fun h => c1 h.1)] at h; omega, fun _ => rfl⟩⟩ (St.addNil (T := 69) (C := B3C) (hw.sub (Sub.nil _))))))))))))))
 ·have hfb := c1.few
  refine O.gq rfl (Pu.loadAgg rfl ag28 sz28 rfl rfl (Ld.whole 1 rfl)) (O.gf rfl (Ef.callP call10 rfl rfl (fun w hw => isTrade_ok  p os ns _ _ _ _ w ((Ld.old ho) w hw) ((Ld.old hnt) w hw) (by omega) (by omega) )) ?_)
  rintro _ _ ⟨rfl, rfl⟩
  refine O.gq rfl (Pu.not rfl rfl) (O.m rfl (O.m rfl (O.nil (X.next (V.condNot rfl (fun c2 => ?_) (fun c2 => ?_))))))
  ·refine V.seq (V.region (O.q rfl (Pu.buildS (cs := [.int .i64 (0 : Int), .slice none 0 0]) rfl rfl Tryz.underlying26 zr26 (by kernel_rfl) rfl (by kernel_rfl)) (O.s rfl rfl (Ef.storeAll 0 rfl sz26 rfl rfl rfl rfl (by simp [Value.oneCell']) rfl) ?_)))
   rintro _ _ rfl
   exact O.m rfl (O.nil (X.next (V.ret (X.blockRet (X.thenRet (X.retCell2 rfl ag26 sz26 rfl rfl rfl (Ld.whole 0 rfl) (fun w hw => St.mkExi none (St.mkExi 0 (St.mkExi [] (St.unsep (St.addPur ⟨(by rw [crC_1 (fun h => c2 h.2)]; rfl), ⟨fun h => by rw [crC_1 (fun h => c2 h.2)] at h; omega, fun _ => rfl⟩⟩ (St.addNil (T := 69) (C := B3C) (hw.sub (Sub.nil _))))))))))))))
  ·have hfo := c2.1.few
   have hfn := c2.2.1.few
   refine V.seq (V.region (O.q rfl (Pu.loadAgg rfl ag26 sz26 rfl rfl (Ld.whole 2 rfl)) (O.q rfl (Pu.loadAgg rfl ag28 sz28 rfl rfl (Ld.whole 1 rfl)) (O.f rfl (Ef.callP call40 rfl rfl (fun w hw => fits_ok  v bs p os ns _ _ _ _ _ _ w ((Ld.old hx) w hw) ((Ld.old ho) w hw) ((Ld.old hnt) w hw) (by first | omega | (simp only [tops_len, conts_len, bl, List.length_append, List.length_cons, List.length_nil] at *; omega)) (by omega) (by omega) (by first | assumption | omega | (try dsimp only at *; omega)) (by first | assumption | omega | (try dsimp only at *; omega)))) ?_))))
   rintro _ _ ⟨rfl, rfl⟩
   refine O.q rfl (Pu.not rfl rfl) (O.m rfl (O.nil (X.next (V.condNot rfl (fun c3 => ?_) (fun c3 => ?_)))))
   ·refine V.seq (V.region (O.q rfl (Pu.buildS (cs := [.int .i64 (0 : Int), .slice none 0 0]) rfl rfl Tryz.underlying26 zr26 (by kernel_rfl) rfl (by kernel_rfl)) (O.s rfl rfl (Ef.storeAll 0 rfl sz26 rfl rfl rfl rfl (by simp [Value.oneCell']) rfl) ?_)))
    rintro _ _ rfl
    exact O.m rfl (O.nil (X.next (V.ret (X.blockRet (X.thenRet (X.retCell2 rfl ag26 sz26 rfl rfl rfl (Ld.whole 0 rfl) (fun w hw => St.mkExi none (St.mkExi 0 (St.mkExi [] (St.unsep (St.addPur ⟨(by rw [crC_5 c1 c2 c3]; rfl), ⟨fun h => by rw [crC_5 c1 c2 c3] at h; omega, fun _ => rfl⟩⟩ (St.addNil (T := 69) (C := B3C) (hw.sub (Sub.nil _))))))))))))))
   ·have hc0 := crC_0 c1 c2 c3
    refine V.skip (X.blockNormal (X.next (V.seq (V.region (O.q rfl (Pu.loadAgg rfl ag26 sz26 rfl rfl (Ld.whole 2 rfl)) (O.q rfl (Pu.loadAgg rfl ag28 sz28 rfl rfl (Ld.whole 1 rfl)) (O.f rfl (Ef.call1 call41 rfl rfl (fun w hw => carriedOut_ok  v bs p os ns _ _ _ _ _ _ w ((Ld.old hx) w hw) ((Ld.old ho) w hw) ((Ld.old hnt) w hw) (by first | omega | (simp only [tops_len, conts_len, bl, List.length_append, List.length_cons, List.length_nil] at *; omega)) (by omega) (by omega) (by first | assumption | omega | (try dsimp only at *; omega)) (by first | assumption | omega | (try dsimp only at *; omega)) (by first | assumption | omega | (try dsimp only at *; omega)) (by first | assumption | omega | (try dsimp only at *; omega)))) ?_)))))))
    rintro _ _ rfl
    refine O.exi (fun r1A => O.exi (fun r1c => O.exi (fun r1 => O.sep (O.pur ?_))))
    rintro ⟨rfl, hr1_1, hr1_2⟩
    refine O.s rfl rfl (Ef.storeAll 1 rfl sz26 rfl rfl rfl rfl (by simp [Value.oneCell']) rfl) ?_
    rintro _ _ rfl
    exact O.m rfl (O.nil (X.next (V.ret (X.retCell2 rfl ag26 sz26 rfl rfl rfl (Ld.whole 1 rfl) (fun w hw => St.mkExi r1A (St.mkExi r1c (St.mkExi r1 (St.unsep (St.addPur ⟨(by rw [hc0]; rfl), ⟨fun _ => ⟨hr1_1, hr1_2⟩, fun h => absurd hc0 h⟩⟩ (hw.sub (Sub.k (Sub.nil _))))))))))))
set_option maxRecDepth 100000 in
set_option maxHeartbeats 1000000 in
theorem implFitsSystem_ok (v : Int) (bs : List B3) (p : Int) (os ns : List B3) (A : Option Addr) (c : Nat) (A1 A2 : Option Addr) (k1 k2 : Nat) (w : World) (hx : Rd B3C w A bs) (ho : Rd B3C w A1 os) (hnt : Rd B3C w A2 ns) (lx : bs.length ≤ 4611686018427387904) (lo : os.length ≤ 4611686018427387904) (ln : ns.length ≤ 4611686018427387904) : Does Tryz.prog 12 [.agg #[.int .i64 v, .slice A bs.length c], .agg #[.int .i64 p, .slice A1 os.length k1, .slice A2 ns.length k2]] w [] (fun r => [.pur (r = .tuple #[.bool (decide (STS v bs ∧ TRD p os ns ∧ FIT v bs p os)), .int .i64 (if STS v bs ∧ TRD p os ns then 0 else 1)])]) := by
 refine Does.enter Tryz.func12 rfl rfl [(0, .agg #[.int .i64 v, .slice A bs.length c]), (1, .agg #[.int .i64 p, .slice A1 os.length k1, .slice A2 ns.length k2])] rfl (V.seq (V.region (O.f rfl (Ef.box rfl rfl rfl) ?_)))
 rintro _ _ ⟨b1, rfl, rfl⟩
 refine O.f rfl (Ef.box rfl rfl rfl) ?_
 rintro _ _ ⟨b2, rfl, rfl⟩
 refine O.m rfl (O.m rfl (O.nil (X.next (V.seq (V.seq (V.region (O.q rfl (Pu.loadAgg rfl ag26 sz26 rfl rfl (Ld.whole 1 rfl)) (O.f rfl (Ef.callP call39 rfl rfl (fun w hw => IsSystem_ok _ bs _ _ w ((Ld.old hx) w hw) (by omega))) ?_))))))))
 rintro _ _ ⟨rfl, rfl⟩
 refine O.q rfl (Pu.not rfl rfl) (O.m rfl (O.splitN 9 rfl (fun c1 => ?_) (fun c1 => ?_)))
 ·refine O.g rfl (O.g rfl (O.g rfl (O.m rfl (O.nil (X.next (V.condT rfl (V.seq (V.region (O.m rfl (O.m rfl (O.nil ?_)))))))))))
  exact X.next (V.ret (X.thenRet (X.ret2 rfl rfl rfl (fun w hw => St.addPur (by rw [if_neg (fun h => c1 h.1)]; exact congrArg (fun b => Value.tuple #[.bool b, .int .i64 1]) (decide_eq_false (fun h => c1 h.1)).symm) (hw.sub (Sub.nil _))))))
 ·have hfb := c1.few
  refine O.gq rfl (Pu.loadAgg rfl ag28 sz28 rfl rfl (Ld.whole 0 rfl)) (O.gf rfl (Ef.callP call10 rfl rfl (fun w hw => isTrade_ok  p os ns _ _ _ _ w ((Ld.old ho) w hw) ((Ld.old hnt) w hw) (by omega) (by omega) )) ?_)
  rintro _ _ ⟨rfl, rfl⟩
  refine O.gq rfl (Pu.not rfl rfl) (O.m rfl (O.nil (X.next (V.condNot rfl (fun c2 => ?_) (fun c2 => ?_)))))
  ·exact V.seq (V.region (O.m rfl (O.m rfl (O.nil (X.next (V.ret (X.thenRet (X.ret2 rfl rfl rfl (fun w hw => St.addPur (by rw [if_neg (fun h => c2 h.2)]; exact congrArg (fun b => Value.tuple #[.bool b, .int .i64 1]) (decide_eq_false (fun h => c2 h.2.1)).symm) (hw.sub (Sub.nil _)))))))))))
  ·have hfo := c2.1.few
   refine V.skip (X.next (V.seq (V.region (O.q rfl (Pu.loadAgg rfl ag26 sz26 rfl rfl (Ld.whole 1 rfl)) (O.q rfl (Pu.loadAgg rfl ag28 sz28 rfl rfl (Ld.whole 0 rfl)) (O.f rfl (Ef.callP call40 rfl rfl (fun w hw => fits_ok  v bs p os ns _ _ _ _ _ _ w ((Ld.old hx) w hw) ((Ld.old ho) w hw) ((Ld.old hnt) w hw) (by first | omega | (simp only [tops_len, conts_len, bl, List.length_append, List.length_cons, List.length_nil] at *; omega)) (by omega) (by omega) (by first | assumption | omega | (try dsimp only at *; omega)) (by first | assumption | omega | (try dsimp only at *; omega)))) ?_))))))
   rintro _ _ ⟨rfl, rfl⟩
   exact O.m rfl (O.m rfl (O.nil (X.next (V.ret (X.ret2 rfl rfl rfl (fun w hw => St.addPur (by rw [if_pos ⟨c1, c2⟩]; exact congrArg (fun b => Value.tuple #[.bool b, .int .i64 0]) (decide_eq_decide.2 ⟨fun h => ⟨c1, c2, h⟩, fun h => h.2.2⟩)) (hw.sub (Sub.nil _))))))))
set_option maxRecDepth 100000 in
set_option maxHeartbeats 1000000 in
theorem implInverseTrade_ok (v : Int) (os ns : List B3) (A1 A2 : Option Addr) (k1 k2 : Nat) (w : World) (ho : Rd B3C w A1 os) (hnt : Rd B3C w A2 ns) (lo : os.length ≤ 4611686018427387904) (ln : ns.length ≤ 4611686018427387904) : Does Tryz.prog 15 [.agg #[.int .i64 v, .slice A1 os.length k1, .slice A2 ns.length k2]] w [] (fun r => [.exi fun (oA : Option Addr) => .exi fun (oc : Nat) => .exi fun (o : List B3) => .exi fun (iA : Option Addr) => .exi fun (ic : Nat) => .exi fun (i : List B3) => .sep (.pur (r = .tuple #[.agg #[.int .i64 (if TRD v os ns then v else 0), .slice oA o.length oc, .slice iA i.length ic], .int .i64 (if TRD v os ns then 0 else 1)] ∧ INR v os ns o i)) (.sep (Own 69 B3C oA oc o) (Own 69 B3C iA ic i))]) := by
 refine Does.enter Tryz.func15 rfl rfl [(0, .agg #[.int .i64 v, .slice A1 os.length k1, .slice A2 ns.length k2])] rfl (V.seq (V.region (O.f rfl (Ef.box rfl rfl rfl) ?_)))
 rintro _ _ ⟨b1, rfl, rfl⟩
 refine O.f rfl (Ef.alloc rfl zr28 rfl) ?_
 rintro _ _ ⟨b2, rfl, rfl⟩
 refine O.m rfl (O.nil (X.next (V.seq (V.seq (V.region (O.q rfl (Pu.loadAgg rfl ag28 sz28 rfl rfl (Ld.whole 1 rfl)) (O.f rfl (Ef.callP call10 rfl rfl (fun w hw => isTrade_ok  v os ns _ _ _ _ w ((Ld.old ho) w hw) ((Ld.old hnt) w hw) (by omega) (by omega) )) ?_)))))))
 rintro _ _ ⟨rfl, rfl⟩
 refine O.q rfl (Pu.not rfl rfl) (O.nil (X.next (V.condNot rfl (fun c1 => ?_) (fun c1 => ?_))))
 ·refine V.seq (V.region (O.q rfl (Pu.buildS (cs := [.int .i64 (0 : Int), .slice none 0 0, .slice none 0 0]) rfl rfl Tryz.underlying28 zr28 (by kernel_rfl) rfl (by kernel_rfl)) (O.s rfl rfl (Ef.storeAll 0 rfl sz28 rfl rfl rfl rfl (by simp [Value.oneCell']) rfl) ?_)))
  rintro _ _ rfl
  exact O.m rfl (O.nil (X.next (V.ret (X.thenRet (X.retCell2 rfl ag28 sz28 rfl rfl rfl (Ld.whole 0 rfl) (fun w hw => St.mkExi none (St.mkExi 0 (St.mkExi [] (St.mkExi none (St.mkExi 0 (St.mkExi [] (St.unsep (St.addPur ⟨(by rw [if_neg c1, if_neg c1]; rfl), ⟨fun h => absurd h c1, fun _ => ⟨rfl, rfl⟩⟩⟩ (St.unsep (St.addNil (T := 69) (C := B3C) (St.addNil (T := 69) (C := B3C) (hw.sub (Sub.nil _))))))))))))))))))
 ·have hfo := c1.1.few
  have hfn := c1.2.1.few
  refine V.skip (X.next (V.seq (V.ent (Ent.cons (t := 1) rfl (Ent.cons (t := 2) rfl (Ent.nil _))) (V.drawS mo (by kernel_rfl) (Sub.keep 1 rfl (Sub.nil _)) (fun hwf => D.q 0 rfl (Pu.fieldAddr 0 rfl Tryz.underlying28 rfl sz2 rfl rfl) (D.q 1 rfl (Pu.load rfl pl2 rfl (Ld.blk 0 rfl rfl)) (D.q 2 rfl (Pu.fieldAddr 2 rfl Tryz.underlying28 rfl sz24 rfl rfl) (D.q 3 rfl (Pu.load rfl pl24 rfl (Ld.blk 0 rfl rfl)) (D.q 5 rfl (Pu.fieldAddr 1 rfl Tryz.underlying28 rfl sz24 rfl rfl) (D.q 6 rfl (Pu.load rfl pl24 rfl (Ld.blk 0 rfl rfl)) (D.f hwf 4 rfl (Ef.call1 call53 rfl rfl (fun w hw => cloneB_ok ns _ _ w ((Ld.old hnt) w hw) (by first | omega | (simp only [tops_len] at *; omega)))) ?_)))))))))))
  rintro _ _ rfl hs
  refine ⟨fun w hw => hs w hw.tail, (D.exi (fun p1 => D.sep (D.pur1 ?_)))⟩
  rintro ⟨rfl, hp1⟩
  refine D.f hwf 7 rfl (Ef.call1 call53 rfl rfl (fun w hw => cloneB_ok os _ _ w ((Ld.old ho) w hw) (by first | omega | (simp only [tops_len] at *; omega)))) ?_
  rintro _ _ rfl hs
  refine ⟨fun w hw => hs w hw.tail, (D.exi (fun p2 => D.sep (D.pur1 ?_)))⟩
  rintro ⟨rfl, hp2⟩
  refine D.q 8 rfl (Pu.buildS (cs := [.int .i64 v, .slice p1.1.1 p1.2.length p1.1.2, .slice p2.1.1 p2.2.length p2.1.2]) rfl rfl Tryz.underlying28 zr28 (by kernel_rfl) rfl (by kernel_rfl)) (D.f hwf 9 rfl (Ef.storeAll 2 rfl sz28 rfl rfl rfl rfl (by simp [Value.oneCell']) rfl) ?_)
  rintro _ _ rfl hs
  exact ⟨fun w hw => hw.sub (Sub.keep 3 rfl (Sub.nil _)), (D.m 10 rfl (D.done hwf rfl (X.next (V.ret (X.retCell2 rfl ag28 sz28 rfl rfl rfl (Ld.whole 2 rfl) (fun w hw => St.mkExi (p1.1.1) (St.mkExi (p1.1.2) (St.mkExi (p1.2) (St.mkExi (p2.1.1) (St.mkExi (p2.1.2) (St.mkExi (p2.2) (St.unsep (St.addPur ⟨(by rw [if_pos c1, if_pos c1]), ⟨fun _ => ⟨hp1, hp2⟩, fun h => absurd c1 h⟩⟩ (St.unsep (hw.sub (Sub.keep 1 rfl (Sub.k (Sub.nil _))))))))))))))))))⟩
set_option maxRecDepth 100000 in
set_option maxHeartbeats 1000000 in
theorem l01Has_ok (v : Int) (bs : List B3) (b : B3) (A : Option Addr) (c : Nat) (w : World) (hx : Rd B3C w A bs) (lx : bs.length ≤ 4611686018427387904) : Does Tryz.prog 89 [.agg #[.int .i64 v, .slice A bs.length c], B3.v b] w [] (fun r => [.pur (r = .bool (decide (b ∈ bs)))]) := by
 refine Does.enter Tryz.func89 rfl rfl [(0, .agg #[.int .i64 v, .slice A bs.length c]), (1, B3.v b)] rfl (V.seq (V.region (O.f rfl (Ef.box rfl rfl rfl) ?_)))
 rintro _ _ ⟨b1, rfl, rfl⟩
 refine O.f rfl (Ef.box rfl rfl rfl) ?_
 rintro _ _ ⟨b2, rfl, rfl⟩
 refine O.m rfl (O.nil (X.next (V.seq (V.seq (V.region (O.m rfl (O.nil (X.next (V.block (V.loop3 (β := Nat) (fun i => [(5, .int .i64 (i : Int))]) _ (fun i => []) _ (fun i => i ≤ bs.length ∧ ∀ j (hj : j < bs.length), j < i → ¬ bs[j] = b) (fun i => bs.length - i) 0 ⟨by omega, fun j hj h => by omega⟩ (Ent.cons rfl (Ent.nil _)) (Ent.cons (t := 2) rfl (Ent.cons (t := 3) rfl (Ent.nil _))) (Sub.k (Sub.k (Sub.nil _))) ?_))))))))))
 rintro i ⟨hi, hn⟩
 refine V.seq (V.seq (V.region (O.m rfl (O.q rfl (Pu.fieldAddr 1 rfl Tryz.underlying26 rfl sz24 rfl rfl) (O.q rfl (Pu.load rfl pl24 rfl (Ld.blk 1 rfl rfl)) (O.q rfl (Pu.len rfl Tryz.underlying24 rfl) (O.q rfl (Pu.lss rfl rfl rfl) (O.nil (X.next (V.condD rfl (fun c1 => ?_) (fun c1 => ?_)))))))))))
 ·refine V.skip (X.next (V.seq (V.block (V.seq (V.draw mo (by kernel_rfl) (fun hwf => D.q 0 rfl (Pu.fieldAddr 1 rfl Tryz.underlying26 rfl sz24 rfl rfl) (D.q 1 rfl (Pu.load rfl pl24 rfl (Ld.blk 1 rfl rfl)) (D.m 2 rfl (D.q 3 rfl (Pu.indexAddr (i) rfl Tryz.underlying24 sz69 rfl rfl (by omega) (by omega) (hx.some (by omega))) ?_)))))))))
  have e1 : i < bs.length := by omega
  refine D.q 4 rfl (Pu.loadAgg' (v := B3.v (bs[i]'e1)) rfl rfl ag69 sz69 rfl rfl (Ld.rds (Ld.old hx) (k := i) e1 rfl)) (D.q 5 rfl (Pu.loadAgg' (v := B3.v b) rfl rfl ag69 sz69 rfl rfl (Ld.whole 0 rfl)) (D.q 6 rfl (Pu.eqlB3 Tryz.underlying69 Tryz.underlying2 sz2 (by kernel_rfl) rfl rfl rfl) (D.done hwf rfl (X.next (V.condD rfl (fun c2 => ?_) (fun c2 => ?_))))))
  ·exact V.seq (V.region (O.m rfl (O.nil (X.next (V.ret (X.blockRet (X.thenRet (X.thenRet (X.blockRet (X.thenRet (X.ret1 rfl rfl (fun w hw => St.retP (boolT (c2 ▸ List.getElem_mem e1)) hw))))))))))))
  ·exact V.skip (X.blockNormal (X.next (V.region (O.m rfl (O.q rfl (Pu.add64 (r := ((i + 1 : Nat) : Int)) rfl (by omega) rfl rfl rfl) (O.m rfl (O.nil (X.back3 (i + 1) ⟨by omega, fun j hj h => by by_cases e : j = i; (· subst e; exact c2); (· exact hn j hj (by omega))⟩ (by first | omega | (dsimp only; omega)) (Ent.cons rfl (Ent.nil _)) (Ent.cons (t := 2) rfl (Ent.cons (t := 3) rfl (Ent.nil _))) (Sub.k (Sub.k (Sub.nil _)))))))))))
 ·exact V.exit (X.thenExit (X.thenExit (X.blockHit (X.next (V.seq (V.region (O.m rfl (O.nil (X.next (V.ret (X.ret1 rfl rfl (fun w hw => St.retP (boolF (fun h => by obtain ⟨j, hj, e⟩ := List.getElem_of_mem h; exact hn j hj (by omega) e)) hw))))))))))))
set_option maxRecDepth 100000 in
set_option maxHeartbeats 1000000 in
theorem l04Fits_ok (v : Int) (bs : List B3) (p : Int) (os ns : List B3) (A : Option Addr) (c : Nat) (A1 A2 : Option Addr) (k1 k2 : Nat) (w : World) (hx : Rd B3C w A bs) (ho : Rd B3C w A1 os) (hnt : Rd B3C w A2 ns) (lx : bs.length ≤ 4611686018427387904) (lo : os.length ≤ 4611686018427387904) (ln : ns.length ≤ 4611686018427387904) (lb : bs.length ≤ 1000000) (lb2 : os.length ≤ 1000000) : Does Tryz.prog 44 [.agg #[.int .i64 v, .slice A bs.length c], .agg #[.int .i64 p, .slice A1 os.length k1, .slice A2 ns.length k2]] w [] (fun r => [.pur (r = .bool (decide (FIT v bs p os)))]) := by
 refine Does.enter Tryz.func44 rfl rfl [(0, .agg #[.int .i64 v, .slice A bs.length c]), (1, .agg #[.int .i64 p, .slice A1 os.length k1, .slice A2 ns.length k2])] rfl (V.seq (V.region (O.f rfl (Ef.box rfl rfl rfl) ?_)))
 rintro _ _ ⟨b1, rfl, rfl⟩
 refine O.f rfl (Ef.box rfl rfl rfl) ?_
 rintro _ _ ⟨b2, rfl, rfl⟩
 refine O.m rfl (O.nil (X.next (V.seq (V.seq (V.region (O.q rfl (Pu.fieldAddr 0 rfl Tryz.underlying26 rfl sz2 rfl rfl) (O.q rfl (Pu.load rfl pl2 rfl (Ld.blk 1 rfl rfl)) (O.q rfl (Pu.fieldAddr 0 rfl Tryz.underlying28 rfl sz2 rfl rfl) (O.q rfl (Pu.load rfl pl2 rfl (Ld.blk 0 rfl rfl)) (O.q rfl (Pu.neq rfl rfl rfl) (O.nil ?_)))))))))))
 refine X.next (V.condNot rfl (fun c1 => ?_) (fun c1 => ?_))
 ·exact V.seq (V.region (O.m rfl (O.nil (X.next (V.ret (X.thenRet (X.ret1 rfl rfl (fun w hw => St.retP (boolF (fun h => c1 h.1)) hw))))))))
 ·refine V.skip (X.next (V.seq (V.seq (V.region (O.m rfl (O.nil (X.next (V.block (V.loop3 (β := Nat) (fun i => [(5, .int .i64 (i : Int))]) _ (fun i => []) _ (fun i => i ≤ os.length ∧ ∀ j (hj : j < os.length), j < i → os[j] ∈ bs) (fun i => os.length - i) 0 ⟨by omega, fun j hj h => by omega⟩ (Ent.cons rfl (Ent.nil _)) (Ent.cons (t := 2) rfl (Ent.cons (t := 3) rfl (Ent.nil _))) (Sub.k (Sub.k (Sub.nil _))) ?_)))))))))
  rintro i ⟨hi, hn⟩
  refine V.seq (V.seq (V.region (O.m rfl (O.q rfl (Pu.fieldAddr 1 rfl Tryz.underlying28 rfl sz24 rfl rfl) (O.q rfl (Pu.load rfl pl24 rfl (Ld.blk 0 rfl rfl)) (O.q rfl (Pu.len rfl Tryz.underlying24 rfl) (O.q rfl (Pu.lss rfl rfl rfl) (O.nil (X.next (V.condD rfl (fun c2 => ?_) (fun c2 => ?_)))))))))))
  ·refine V.skip (X.next (V.seq (V.block (V.seq (V.draw mo (by kernel_rfl) (fun hwf => D.q 0 rfl (Pu.loadAgg rfl ag26 sz26 rfl rfl (Ld.whole 1 rfl)) (D.q 1 rfl (Pu.fieldAddr 1 rfl Tryz.underlying28 rfl sz24 rfl rfl) (D.q 2 rfl (Pu.load rfl pl24 rfl (Ld.blk 0 rfl rfl)) (D.m 3 rfl (D.q 4 rfl (Pu.indexAddr (i) rfl Tryz.underlying24 sz69 rfl rfl (by omega) (by omega) (ho.some (by omega))) ?_))))))))))
   have e1 : i < os.length := by omega
   refine D.q 5 rfl (Pu.loadAgg' (v := B3.v (os[i]'e1)) rfl rfl ag69 sz69 rfl rfl (Ld.rds (Ld.old ho) (k := i) e1 rfl)) (D.f hwf 6 rfl (Ef.callP call89 rfl rfl (fun w hw => l01Has_ok  v bs (os[i]'e1) _ _ w ((Ld.old hx) w hw) (by first | omega | (simp only [tops_len, conts_len, bl, List.length_append, List.length_cons, List.length_nil] at *; omega)) )) ?_)
   rintro _ _ ⟨rfl, rfl⟩ hs
   refine ⟨fun w hw => hw, (D.q 7 rfl (Pu.not rfl rfl) (D.done hwf rfl (X.next (V.condNot rfl (fun c3 => ?_) (fun c3 => ?_)))))⟩
   ·exact V.seq (V.region (O.m rfl (O.nil (X.next (V.ret (X.blockRet (X.thenRet (X.thenRet (X.blockRet (X.thenRet (X.ret1 rfl rfl (fun w hw => St.retP (boolF (fun h => c3 (h.2 _ (List.getElem_mem e1)))) hw))))))))))))
   ·exact V.skip (X.blockNormal (X.next (V.region (O.m rfl (O.q rfl (Pu.add64 (r := ((i + 1 : Nat) : Int)) rfl (by omega) rfl rfl rfl) (O.m rfl (O.nil (X.back3 (i + 1) ⟨by omega, fun j hj h => by by_cases e : j = i; (· subst e; exact c3); (· exact hn j hj (by omega))⟩ (by first | omega | (dsimp only; omega)) (Ent.cons rfl (Ent.nil _)) (Ent.cons (t := 2) rfl (Ent.cons (t := 3) rfl (Ent.nil _))) (Sub.k (Sub.k (Sub.nil _)))))))))))
  ·exact V.exit (X.thenExit (X.thenExit (X.blockHit (X.next (V.seq (V.region (O.m rfl (O.nil (X.next (V.ret (X.ret1 rfl rfl (fun w hw => St.retP (boolT (⟨c1, fun b hb => by obtain ⟨j, hj, rfl⟩ := List.getElem_of_mem hb; exact hn j hj (by omega)⟩)) hw))))))))))))
set_option maxRecDepth 100000 in
set_option maxHeartbeats 1000000 in
theorem l04Less_ok (list : List B3) (others : List B3) (listA : Option Addr) (listc : Nat) (othersA : Option Addr) (othersc : Nat) (w : World) (hlist : Rd B3C w listA list) (hothers : Rd B3C w othersA others) (llist : list.length ≤ 1099511627776) (lothers : others.length ≤ 1099511627776) : Does Tryz.prog 46 [.slice listA list.length listc, .slice othersA others.length othersc] w [] (fun rv_ => [.exi fun (rA : Option Addr) => .exi fun (rc : Nat) => .exi fun (r : List B3) => .sep (.pur (rv_ = .slice rA r.length rc ∧ r = lessB list others)) (Own 69 B3C rA rc r)]) := by
 refine Does.enter Tryz.func46 rfl rfl [(0, .slice listA list.length listc), (1, .slice othersA others.length othersc)] rfl (V.seq (V.region (O.m rfl (O.nil (X.next (V.seq (V.region (O.f rfl (Ef.build B3C ([] : List B3) rfl Tryz.underlying24 inf69 rfl rfl rfl (by first | decide | (simp; done)) (by kernel_rfl)) ?_))))))))
 rintro _ _ ⟨A1, hA1, rfl, rfl⟩
 refine O.m rfl (O.nil (X.next (V.seq (V.seq (V.region (O.m rfl (O.nil (X.next (V.block (V.loop2 (β := (Option Addr) × Nat × (List B3) × Nat) (fun x => [(5, .slice x.1 x.2.2.1.length x.2.1), (6, .int .i64 (x.2.2.2 : Int))]) _ (fun x => [Own 69 B3C x.1 x.2.1 x.2.2.1]) (fun x => x.2.2.2 ≤ list.length ∧ x.2.2.1 = lessB (list.take x.2.2.2) others ∧ x.2.2.1.length ≤ x.2.2.2) (fun x => list.length - x.2.2.2) (A1, 0, ([] : List B3), 0) (by (try dsimp only); exact ⟨by omega, rfl, by simp⟩) (Ent.cons rfl (Ent.cons rfl (Ent.nil _))) (Ent.cons (t := 0) rfl (Ent.cons (t := 1) rfl (Ent.nil _))) (Sub.k (Sub.nil _)) ?_))))))))))
 rintro ⟨outA, outc, out, i⟩ ⟨hi, ho, hl⟩
 dsimp only at hi ho hl ⊢
 refine V.seq (V.seq (V.region (O.m rfl (O.m rfl (O.q rfl (Pu.len rfl Tryz.underlying24 rfl) (O.q rfl (Pu.lss rfl rfl rfl) (O.nil (X.next (V.condD rfl (fun c1 => ?_) (fun c1 => ?_))))))))))
 ·refine V.skip (X.next (V.seq (V.block (V.seq (V.region (O.m rfl (O.m rfl (O.m rfl (O.q rfl (Pu.indexAddr (i) rfl Tryz.underlying24 sz69 rfl rfl (by omega) (by omega) (hlist.some (by omega))) ?_)))))))))
  have e1 : i < list.length := by omega
  refine O.q rfl (Pu.loadAgg' (v := B3.v (list[i]'e1)) rfl rfl ag69 sz69 rfl rfl (Ld.rds (Ld.old hlist) (k := i) e1 rfl)) (O.f rfl (Ef.callP call88 rfl rfl (fun w hw => l04Member_ok  others (list[i]'e1) _ _ w ((Ld.old hothers) w hw) (by first | omega | (simp only [tops_len, conts_len, bl, List.length_append, List.length_cons, List.length_nil] at *; omega)) )) ?_)
  rintro _ _ ⟨rfl, rfl⟩
  refine O.q rfl (Pu.not rfl rfl) (O.nil (X.next (V.condNot rfl (fun c2 => ?_) (fun c2 => ?_))))
  ·refine V.region (O.m rfl (O.m rfl (O.m rfl (O.q rfl (Pu.indexAddr (i) rfl Tryz.underlying24 sz69 rfl rfl (by omega) (by omega) (hlist.some (by omega))) (O.q rfl (Pu.loadAgg' (v := B3.v (list[i]'e1)) rfl rfl ag69 sz69 rfl rfl (Ld.rds (Ld.old hlist) (k := i) e1 rfl)) (O.f rfl (Ef.build B3C ([(list[i]'e1)] : List B3) rfl Tryz.underlying24 inf69 rfl rfl rfl (by first | decide | (simp; done)) (by kernel_rfl)) ?_))))))
   rintro _ _ ⟨A2, hA2, rfl, rfl⟩
   refine O.f rfl (Ef.append (xs := out) (ys := ([(list[i]'e1)] : List B3)) 1 rfl Tryz.underlying24 inf69 rfl rfl rfl rfl rfl rfl hA2 (Ld.own 0 (by exact rfl)) (by simp only [List.length_append, List.length_cons, List.length_nil] at *; omega) (by decide)) ?_
   rintro _ _ ⟨A3, k1, rfl, rfl, hA3⟩
   replace hA3 := hA3 (.inr (by simp))
   exact O.m rfl (O.nil (X.blockNormal (X.next (V.region (O.m rfl (O.q rfl (Pu.add64 (r := ((i + 1 : Nat) : Int)) rfl (by omega) rfl rfl rfl) (O.m rfl (O.nil (X.back2 (A3, k1, (out ++ ([(list[i]'e1)] : List B3)), i + 1) (by (try dsimp only); exact ⟨by omega, by rw [flt_less_yes e1 c2, ho], by simp only [List.length_append, List.length_singleton]; omega⟩) (by first | omega | (dsimp only; omega)) (Ent.cons rfl (Ent.cons rfl (Ent.nil _))) (Ent.cons (t := 0) rfl (Ent.cons (t := 1) rfl (Ent.nil _))) (Sub.keep 1 rfl (Sub.nil _)))))))))))
  ·exact V.skip (X.blockNormal (X.next (V.region (O.m rfl (O.q rfl (Pu.add64 (r := ((i + 1 : Nat) : Int)) rfl (by omega) rfl rfl rfl) (O.m rfl (O.nil (X.back2 (outA, outc, out, i + 1) (by (try dsimp only); exact ⟨by omega, by rw [flt_less_no e1 c2, ho], by omega⟩) (by first | omega | (dsimp only; omega)) (Ent.cons rfl (Ent.cons rfl (Ent.nil _))) (Ent.cons (t := 0) rfl (Ent.cons (t := 1) rfl (Ent.nil _))) (Sub.k (Sub.nil _))))))))))
 ·refine V.exit (X.thenExit (X.thenExit (X.blockHit (X.next (V.seq (V.region (O.m rfl (O.m rfl (O.nil (X.next (V.ret ?_)))))))))))
  exact X.ret1 rfl rfl (fun w hw => St.mkExi outA (St.mkExi outc (St.mkExi out (St.unsep (St.addPur ⟨rfl, by rw [ho, List.take_of_length_le (by omega)]⟩ (hw.sub (Sub.k (Sub.nil _))))))))
set_option maxRecDepth 100000 in
set_option maxHeartbeats 1000000 in
theorem specCarry_ok (v : Int) (bs : List B3) (p : Int) (os ns : List B3) (A : Option Addr) (c : Nat) (A1 A2 : Option Addr) (k1 k2 : Nat) (w : World) (hx : Rd B3C w A bs) (ho : Rd B3C w A1 os) (hnt : Rd B3C w A2 ns) (lx : bs.length ≤ 4611686018427387904) (lo : os.length ≤ 4611686018427387904) (ln : ns.length ≤ 4611686018427387904) (hnn : A2 = none → k2 = 0) : Does Tryz.prog 8 [.agg #[.int .i64 v, .slice A bs.length c], .agg #[.int .i64 p, .slice A1 os.length k1, .slice A2 ns.length k2]] w [] (fun rv_ => [.exi fun (rA : Option Addr) => .exi fun (rc : Nat) => .exi fun (r : List B3) => .sep (.pur (rv_ = .tuple #[.agg #[.int .i64 (if crC v bs p os ns = 0 then v else 0), .slice rA r.length rc], .int .i64 (crC v bs p os ns)] ∧ CRR v bs p os ns r)) (Own 69 B3C rA rc r)]) := by
 refine Does.enter Tryz.func8 rfl rfl [(0, .agg #[.int .i64 v, .slice A bs.length c]), (1, .agg #[.int .i64 p, .slice A1 os.length k1, .slice A2 ns.length k2])] rfl (V.seq (V.region (O.f rfl (Ef.box rfl rfl rfl) ?_)))
 rintro _ _ ⟨b1, rfl, rfl⟩
 refine O.f rfl (Ef.box rfl rfl rfl) ?_
 rintro _ _ ⟨b2, rfl, rfl⟩
 refine O.f rfl (Ef.alloc rfl zr26 rfl) ?_
 rintro _ _ ⟨b3, rfl, rfl⟩
 refine O.m rfl (O.nil (X.next (V.seq (V.block (V.seq (V.region (O.q rfl (Pu.loadAgg rfl ag26 sz26 rfl rfl (Ld.whole 2 rfl)) (O.f rfl (Ef.callP call42 rfl rfl (fun w hw => l01Is_ok _ bs _ _ w ((Ld.old hx) w hw) (by omega))) ?_))))))))
 rintro _ _ ⟨rfl, rfl⟩
 refine O.q rfl (Pu.not rfl rfl) (O.m rfl (O.splitN 10 rfl (fun c1 => ?_) (fun c1 => ?_)))
 ·refine O.g rfl (O.g rfl (O.g rfl (O.m rfl (O.m rfl (O.nil (X.next (V.condT rfl (V.seq (V.region (O.q rfl (Pu.buildS (cs := [.int .i64 (0 : Int), .slice none 0 0]) rfl rfl Tryz.underlying26 zr26 (by kernel_rfl) rfl (by kernel_rfl)) (O.s rfl rfl (Ef.storeAll 0 rfl sz26 rfl rfl rfl rfl (by simp [Value.oneCell']) rfl) ?_)))))))))))
  rintro _ _ rfl
  exact O.m rfl (O.nil (X.next (V.ret (X.blockRet (X.thenRet (X.retCell2 rfl ag26 sz26 rfl rfl rfl (Ld.whole 0 rfl) (fun w hw => St.mkExi none (St.mkExi 0 (St.mkExi [] (St.unsep (St.addPur ⟨(by rw [crC_1 (fun h => c1 h.1)]; rfl), ⟨fun h => by rw [crC_1 (fun h => c1 h.1)] at h; omega, fun _ => rfl⟩⟩ (St.addNil (T := 69) (C := B3C) (hw.sub (Sub.nil _))))))))))))))
 ·have hfb := c1.few
  refine O.gq rfl (Pu.loadAgg rfl ag28 sz28 rfl rfl (Ld.whole 1 rfl)) (O.gf rfl (Ef.callP call43 rfl rfl (fun w hw => l04Is_ok  p os ns _ _ _ _ w ((Ld.old ho) w hw) ((Ld.old hnt) w hw) (by omega) (by omega) )) ?_)
  rintro _ _ ⟨rfl, rfl⟩
  refine O.gq rfl (Pu.not rfl rfl) (O.m rfl (O.m rfl (O.nil (X.next (V.condNot rfl (fun c2 => ?_) (fun c2 => ?_))))))
  ·refine V.seq (V.region (O.q rfl (Pu.buildS (cs := [.int .i64 (0 : Int), .slice none 0 0]) rfl rfl Tryz.underlying26 zr26 (by kernel_rfl) rfl (by kernel_rfl)) (O.s rfl rfl (Ef.storeAll 0 rfl sz26 rfl rfl rfl rfl (by simp [Value.oneCell']) rfl) ?_)))
   rintro _ _ rfl
   exact O.m rfl (O.nil (X.next (V.ret (X.blockRet (X.thenRet (X.retCell2 rfl ag26 sz26 rfl rfl rfl (Ld.whole 0 rfl) (fun w hw => St.mkExi none (St.mkExi 0 (St.mkExi [] (St.unsep (St.addPur ⟨(by rw [crC_1 (fun h => c2 h.2)]; rfl), ⟨fun h => by rw [crC_1 (fun h => c2 h.2)] at h; omega, fun _ => rfl⟩⟩ (St.addNil (T := 69) (C := B3C) (hw.sub (Sub.nil _))))))))))))))
  ·have hfo := c2.1.few
   have hfn := c2.2.1.few
   refine V.seq (V.region (O.q rfl (Pu.loadAgg rfl ag26 sz26 rfl rfl (Ld.whole 2 rfl)) (O.q rfl (Pu.loadAgg rfl ag28 sz28 rfl rfl (Ld.whole 1 rfl)) (O.f rfl (Ef.callP call44 rfl rfl (fun w hw => l04Fits_ok  v bs p os ns _ _ _ _ _ _ w ((Ld.old hx) w hw) ((Ld.old ho) w hw) ((Ld.old hnt) w hw) (by first | omega | (simp only [tops_len, conts_len, bl, List.length_append, List.length_cons, List.length_nil] at *; omega)) (by omega) (by omega) (by first | assumption | omega | (try dsimp only at *; omega)) (by first | assumption | omega | (try dsimp only at *; omega)))) ?_))))
   rintro _ _ ⟨rfl, rfl⟩
   refine O.q rfl (Pu.not rfl rfl) (O.m rfl (O.nil (X.next (V.condNot rfl (fun c3 => ?_) (fun c3 => ?_)))))
   ·refine V.seq (V.region (O.q rfl (Pu.buildS (cs := [.int .i64 (0 : Int), .slice none 0 0]) rfl rfl Tryz.underlying26 zr26 (by kernel_rfl) rfl (by kernel_rfl)) (O.s rfl rfl (Ef.storeAll 0 rfl sz26 rfl rfl rfl rfl (by simp [Value.oneCell']) rfl) ?_)))
    rintro _ _ rfl
    exact O.m rfl (O.nil (X.next (V.ret (X.blockRet (X.thenRet (X.retCell2 rfl ag26 sz26 rfl rfl rfl (Ld.whole 0 rfl) (fun w hw => St.mkExi none (St.mkExi 0 (St.mkExi [] (St.unsep (St.addPur ⟨(by rw [crC_5 c1 c2 c3]; rfl), ⟨fun h => by rw [crC_5 c1 c2 c3] at h; omega, fun _ => rfl⟩⟩ (St.addNil (T := 69) (C := B3C) (hw.sub (Sub.nil _))))))))))))))
   ·have hc0 := crC_0 c1 c2 c3
    refine V.skip (X.blockNormal (X.next (V.seq (V.ent (Ent.cons (t := 2) rfl (Ent.cons (t := 3) rfl (Ent.cons (t := 4) rfl (Ent.nil _)))) (V.drawS mo (by kernel_rfl) (Sub.keep 1 rfl (Sub.keep 1 rfl (Sub.nil _))) (fun hwf => D.q 0 rfl (Pu.fieldAddr 0 rfl Tryz.underlying26 rfl sz2 rfl rfl) (D.q 1 rfl (Pu.load rfl pl2 rfl (Ld.blk 1 rfl rfl)) (D.q 2 rfl (Pu.fieldAddr 1 rfl Tryz.underlying26 rfl sz24 rfl rfl) (D.q 3 rfl (Pu.load rfl pl24 rfl (Ld.blk 1 rfl rfl)) (D.q 4 rfl (Pu.fieldAddr 1 rfl Tryz.underlying28 rfl sz24 rfl rfl) (D.q 5 rfl (Pu.load rfl pl24 rfl (Ld.blk 0 rfl rfl)) ?_)))))))))))
    refine D.q 7 rfl (Pu.fieldAddr 2 rfl Tryz.underlying28 rfl sz24 rfl rfl) (D.q 8 rfl (Pu.load rfl pl24 rfl (Ld.blk 0 rfl rfl)) (D.f hwf 6 rfl (Ef.call1 call46 rfl rfl (fun w hw => l04Less_ok  bs os _ _ _ _ w ((Ld.old hx) w hw) ((Ld.old ho) w hw) (by omega) (by omega) )) ?_))
    rintro _ _ rfl hs
    refine ⟨fun w hw => hs w hw.tail, (D.exi (fun r1A => D.exi (fun r1c => D.exi (fun r1 => D.sep (D.pur1 ?_)))))⟩
    rintro ⟨rfl, hr1_1⟩
    have hll : r1.length ≤ bs.length := by rw [hr1_1]; exact lessB_len
    refine D.f hwf 9 rfl (Ef.appendN (xs := r1) (ys := ns) 0 rfl Tryz.underlying24 inf69 rfl rfl rfl rfl rfl rfl (fun w hw h => ⟨by rw [Rd.none ((Ld.old hnt) w hw) h]; rfl, hnn h⟩) (Ld.old hnt) (by omega) (by decide)) ?_
    rintro _ _ ⟨D1, e1, rfl, rfl, hD1⟩ hs
    refine ⟨fun w hw => hw.sub (Sub.keep 2 rfl (Sub.keep 2 rfl (Sub.nil _))), (D.f hwf 10 rfl (Ef.call1 call45 rfl rfl (fun w hw => l01Made_ok  v (r1 ++ ns) _ _ w ((Ld.own 0 (by exact rfl)) w hw) (by rw [List.length_append]; omega) (by rw [List.length_append]; omega))) ?_)⟩
    rintro _ _ rfl hs
    refine ⟨fun w hw => hs w hw.tail, (D.exi (fun r2A => D.exi (fun r2c => D.exi (fun r2 => D.sep (D.pur1 ?_)))))⟩
    rintro ⟨rfl, hr2_1, hr2_2⟩
    refine D.f hwf 11 rfl (Ef.storeAll 2 rfl sz26 rfl rfl rfl rfl (by simp [Value.oneCell']) rfl) ?_
    rintro _ _ rfl hs
    exact ⟨fun w hw => hw.sub (Sub.keep 3 rfl (Sub.keep 3 rfl (Sub.nil _))), (D.m 12 rfl (D.done hwf rfl (X.next (V.ret (X.retCell2 rfl ag26 sz26 rfl rfl rfl (Ld.whole 2 rfl) (fun w hw => St.mkExi r2A (St.mkExi r2c (St.mkExi r2 (St.unsep (St.addPur ⟨(by rw [hc0]; rfl), ⟨fun _ => by rw [hr1_1] at hr2_1; exact ⟨hr2_1, hr2_2⟩, fun h => absurd hc0 h⟩⟩ (hw.sub (Sub.k (Sub.nil _)))))))))))))⟩
set_option maxRecDepth 100000 in
set_option maxHeartbeats 1000000 in
theorem specFitsSystem_ok (v : Int) (bs : List B3) (p : Int) (os ns : List B3) (A : Option Addr) (c : Nat) (A1 A2 : Option Addr) (k1 k2 : Nat) (w : World) (hx : Rd B3C w A bs) (ho : Rd B3C w A1 os) (hnt : Rd B3C w A2 ns) (lx : bs.length ≤ 4611686018427387904) (lo : os.length ≤ 4611686018427387904) (ln : ns.length ≤ 4611686018427387904) : Does Tryz.prog 13 [.agg #[.int .i64 v, .slice A bs.length c], .agg #[.int .i64 p, .slice A1 os.length k1, .slice A2 ns.length k2]] w [] (fun r => [.pur (r = .tuple #[.bool (decide (STS v bs ∧ TRD p os ns ∧ FIT v bs p os)), .int .i64 (if STS v bs ∧ TRD p os ns then 0 else 1)])]) := by
 refine Does.enter Tryz.func13 rfl rfl [(0, .agg #[.int .i64 v, .slice A bs.length c]), (1, .agg #[.int .i64 p, .slice A1 os.length k1, .slice A2 ns.length k2])] rfl (V.seq (V.region (O.f rfl (Ef.box rfl rfl rfl) ?_)))
 rintro _ _ ⟨b1, rfl, rfl⟩
 refine O.f rfl (Ef.box rfl rfl rfl) ?_
 rintro _ _ ⟨b2, rfl, rfl⟩
 refine O.m rfl (O.m rfl (O.nil (X.next (V.seq (V.seq (V.region (O.q rfl (Pu.loadAgg rfl ag26 sz26 rfl rfl (Ld.whole 1 rfl)) (O.f rfl (Ef.callP call42 rfl rfl (fun w hw => l01Is_ok _ bs _ _ w ((Ld.old hx) w hw) (by omega))) ?_))))))))
 rintro _ _ ⟨rfl, rfl⟩
 refine O.q rfl (Pu.not rfl rfl) (O.m rfl (O.splitN 9 rfl (fun c1 => ?_) (fun c1 => ?_)))
 ·refine O.g rfl (O.g rfl (O.g rfl (O.m rfl (O.nil (X.next (V.condT rfl (V.seq (V.region (O.m rfl (O.m rfl (O.nil ?_)))))))))))
  exact X.next (V.ret (X.thenRet (X.ret2 rfl rfl rfl (fun w hw => St.addPur (by rw [if_neg (fun h => c1 h.1)]; exact congrArg (fun b => Value.tuple #[.bool b, .int .i64 1]) (decide_eq_false (fun h => c1 h.1)).symm) (hw.sub (Sub.nil _))))))
 ·have hfb := c1.few
  refine O.gq rfl (Pu.loadAgg rfl ag28 sz28 rfl rfl (Ld.whole 0 rfl)) (O.gf rfl (Ef.callP call43 rfl rfl (fun w hw => l04Is_ok  p os ns _ _ _ _ w ((Ld.old ho) w hw) ((Ld.old hnt) w hw) (by omega) (by omega) )) ?_)
  rintro _ _ ⟨rfl, rfl⟩
  refine O.gq rfl (Pu.not rfl rfl) (O.m rfl (O.nil (X.next (V.condNot rfl (fun c2 => ?_) (fun c2 => ?_)))))
  ·exact V.seq (V.region (O.m rfl (O.m rfl (O.nil (X.next (V.ret (X.thenRet (X.ret2 rfl rfl rfl (fun w hw => St.addPur (by rw [if_neg (fun h => c2 h.2)]; exact congrArg (fun b => Value.tuple #[.bool b, .int .i64 1]) (decide_eq_false (fun h => c2 h.2.1)).symm) (hw.sub (Sub.nil _)))))))))))
  ·have hfo := c2.1.few
   refine V.skip (X.next (V.seq (V.region (O.q rfl (Pu.loadAgg rfl ag26 sz26 rfl rfl (Ld.whole 1 rfl)) (O.q rfl (Pu.loadAgg rfl ag28 sz28 rfl rfl (Ld.whole 0 rfl)) (O.f rfl (Ef.callP call44 rfl rfl (fun w hw => l04Fits_ok  v bs p os ns _ _ _ _ _ _ w ((Ld.old hx) w hw) ((Ld.old ho) w hw) ((Ld.old hnt) w hw) (by first | omega | (simp only [tops_len, conts_len, bl, List.length_append, List.length_cons, List.length_nil] at *; omega)) (by omega) (by omega) (by first | assumption | omega | (try dsimp only at *; omega)) (by first | assumption | omega | (try dsimp only at *; omega)))) ?_))))))
   rintro _ _ ⟨rfl, rfl⟩
   exact O.m rfl (O.m rfl (O.nil (X.next (V.ret (X.ret2 rfl rfl rfl (fun w hw => St.addPur (by rw [if_pos ⟨c1, c2⟩]; exact congrArg (fun b => Value.tuple #[.bool b, .int .i64 0]) (decide_eq_decide.2 ⟨fun h => ⟨c1, c2, h⟩, fun h => h.2.2⟩)) (hw.sub (Sub.nil _))))))))
set_option maxRecDepth 100000 in
set_option maxHeartbeats 1000000 in
theorem specInverseTrade_ok (v : Int) (os ns : List B3) (A1 A2 : Option Addr) (k1 k2 : Nat) (w : World) (ho : Rd B3C w A1 os) (hnt : Rd B3C w A2 ns) (lo : os.length ≤ 4611686018427387904) (ln : ns.length ≤ 4611686018427387904) : Does Tryz.prog 16 [.agg #[.int .i64 v, .slice A1 os.length k1, .slice A2 ns.length k2]] w [] (fun r => [.exi fun (oA : Option Addr) => .exi fun (oc : Nat) => .exi fun (o : List B3) => .exi fun (iA : Option Addr) => .exi fun (ic : Nat) => .exi fun (i : List B3) => .sep (.pur (r = .tuple #[.agg #[.int .i64 (if TRD v os ns then v else 0), .slice oA o.length oc, .slice iA i.length ic], .int .i64 (if TRD v os ns then 0 else 1)] ∧ INR v os ns o i)) (.sep (Own 69 B3C oA oc o) (Own 69 B3C iA ic i))]) := by
 refine Does.enter Tryz.func16 rfl rfl [(0, .agg #[.int .i64 v, .slice A1 os.length k1, .slice A2 ns.length k2])] rfl (V.seq (V.region (O.f rfl (Ef.box rfl rfl rfl) ?_)))
 rintro _ _ ⟨b1, rfl, rfl⟩
 refine O.f rfl (Ef.alloc rfl zr28 rfl) ?_
 rintro _ _ ⟨b2, rfl, rfl⟩
 refine O.m rfl (O.nil (X.next (V.seq (V.seq (V.region (O.q rfl (Pu.loadAgg rfl ag28 sz28 rfl rfl (Ld.whole 1 rfl)) (O.f rfl (Ef.callP call43 rfl rfl (fun w hw => l04Is_ok  v os ns _ _ _ _ w ((Ld.old ho) w hw) ((Ld.old hnt) w hw) (by omega) (by omega) )) ?_)))))))
 rintro _ _ ⟨rfl, rfl⟩
 refine O.q rfl (Pu.not rfl rfl) (O.nil (X.next (V.condNot rfl (fun c1 => ?_) (fun c1 => ?_))))
 ·refine V.seq (V.region (O.q rfl (Pu.buildS (cs := [.int .i64 (0 : Int), .slice none 0 0, .slice none 0 0]) rfl rfl Tryz.underlying28 zr28 (by kernel_rfl) rfl (by kernel_rfl)) (O.s rfl rfl (Ef.storeAll 0 rfl sz28 rfl rfl rfl rfl (by simp [Value.oneCell']) rfl) ?_)))
  rintro _ _ rfl
  exact O.m rfl (O.nil (X.next (V.ret (X.thenRet (X.retCell2 rfl ag28 sz28 rfl rfl rfl (Ld.whole 0 rfl) (fun w hw => St.mkExi none (St.mkExi 0 (St.mkExi [] (St.mkExi none (St.mkExi 0 (St.mkExi [] (St.unsep (St.addPur ⟨(by rw [if_neg c1, if_neg c1]; rfl), ⟨fun h => absurd h c1, fun _ => ⟨rfl, rfl⟩⟩⟩ (St.unsep (St.addNil (T := 69) (C := B3C) (St.addNil (T := 69) (C := B3C) (hw.sub (Sub.nil _))))))))))))))))))
 ·have hfo := c1.1.few
  have hfn := c1.2.1.few
  refine V.skip (X.next (V.seq (V.region (O.q rfl (Pu.fieldAddr 0 rfl Tryz.underlying28 rfl sz2 rfl rfl) (O.q rfl (Pu.load rfl pl2 rfl (Ld.blk 1 rfl rfl)) (O.q rfl (Pu.fieldAddr 2 rfl Tryz.underlying28 rfl sz24 rfl rfl) (O.q rfl (Pu.load rfl pl24 rfl (Ld.blk 1 rfl rfl)) (O.q rfl (Pu.fieldAddr 1 rfl Tryz.underlying28 rfl sz24 rfl rfl) (O.q rfl (Pu.load rfl pl24 rfl (Ld.blk 1 rfl rfl)) (O.f rfl (Ef.call1 call54 rfl rfl (fun w hw => l04Made_ok  v ns os _ _ _ _ w ((Ld.old hnt) w hw) ((Ld.old ho) w hw) (by omega) (by omega) (by omega) (by omega))) ?_))))))))))
  rintro _ _ rfl
  refine O.exi (fun o1A => O.exi (fun o1c => O.exi (fun o1 => O.exi (fun i1A => O.exi (fun i1c => O.exi (fun i1 => O.sep (O.pur ?_)))))))
  rintro ⟨rfl, ho1_1, ho1_2⟩
  refine O.sep (O.s rfl rfl (Ef.storeAll 2 rfl sz28 rfl rfl rfl rfl (by simp [Value.oneCell']) rfl) ?_)
  rintro _ _ rfl
  exact O.m rfl (O.nil (X.next (V.ret (X.retCell2 rfl ag28 sz28 rfl rfl rfl (Ld.whole 2 rfl) (fun w hw => St.mkExi o1A (St.mkExi o1c (St.mkExi o1 (St.mkExi i1A (St.mkExi i1c (St.mkExi i1 (St.unsep (St.addPur ⟨(by rw [if_pos c1, if_pos c1]), ⟨fun _ => ⟨srtB_unique ho1_1.2 (sts_srt c1.2.1) ho1_1.1, srtB_unique ho1_2.2 (sts_srt c1.1) ho1_2.1⟩, fun h => absurd c1 h⟩⟩ (St.unsep (hw.sub (Sub.k (Sub.k (Sub.nil _)))))))))))))))))
set_option maxRecDepth 100000 in
set_option maxHeartbeats 1000000 in
theorem specDifference_ok (v : Int) (bs : List B3) (v2 : Int) (bs2 : List B3) (A : Option Addr) (c : Nat) (A2 : Option Addr) (c2 : Nat) (w : World) (hx : Rd B3C w A bs) (hx2 : Rd B3C w A2 bs2) (lx : bs.length ≤ 4611686018427387904) (lx2 : bs2.length ≤ 4611686018427387904) : Does Tryz.prog 130 [.agg #[.int .i64 v, .slice A bs.length c], .agg #[.int .i64 v2, .slice A2 bs2.length c2]] w [] (fun r => [.exi fun (oA : Option Addr) => .exi fun (oc : Nat) => .exi fun (o : List B3) => .exi fun (iA : Option Addr) => .exi fun (ic : Nat) => .exi fun (i : List B3) => .sep (.pur (r = .tuple #[.agg #[.int .i64 (if dfC v bs v2 bs2 = 0 then v else 0), .slice oA o.length oc, .slice iA i.length ic], .int .i64 (dfC v bs v2 bs2)] ∧ DFR v bs v2 bs2 o i)) (.sep (Own 69 B3C oA oc o) (Own 69 B3C iA ic i))]) := by
 refine Does.enter Tryz.func130 rfl rfl [(0, .agg #[.int .i64 v, .slice A bs.length c]), (1, .agg #[.int .i64 v2, .slice A2 bs2.length c2])] rfl (V.seq (V.region (O.f rfl (Ef.box rfl rfl rfl) ?_)))
 rintro _ _ ⟨b1, rfl, rfl⟩
 refine O.f rfl (Ef.box rfl rfl rfl) ?_
 rintro _ _ ⟨b2, rfl, rfl⟩
 refine O.f rfl (Ef.alloc rfl zr28 rfl) ?_
 rintro _ _ ⟨b3, rfl, rfl⟩
 refine O.m rfl (O.nil (X.next (V.seq (V.block (V.seq (V.region (O.q rfl (Pu.loadAgg rfl ag26 sz26 rfl rfl (Ld.whole 2 rfl)) (O.f rfl (Ef.callP call42 rfl rfl (fun w hw => l01Is_ok _ bs _ _ w ((Ld.old hx) w hw) (by omega))) ?_))))))))
 rintro _ _ ⟨rfl, rfl⟩
 refine O.q rfl (Pu.not rfl rfl) (O.m rfl (O.splitN 10 rfl (fun c1 => ?_) (fun c1 => ?_)))
 ·refine O.g rfl (O.g rfl (O.g rfl (O.m rfl (O.m rfl (O.nil (X.next (V.condT rfl (V.seq (V.region (O.q rfl (Pu.buildS (cs := [.int .i64 (0 : Int), .slice none 0 0, .slice none 0 0]) rfl rfl Tryz.underlying28 zr28 (by kernel_rfl) rfl (by kernel_rfl)) (O.s rfl rfl (Ef.storeAll 0 rfl sz28 rfl rfl rfl rfl (by simp [Value.oneCell']) rfl) ?_)))))))))))
  rintro _ _ rfl
  exact O.m rfl (O.nil (X.next (V.ret (X.blockRet (X.thenRet (X.retCell2 rfl ag28 sz28 rfl rfl rfl (Ld.whole 0 rfl) (fun w hw => St.mkExi none (St.mkExi 0 (St.mkExi [] (St.mkExi none (St.mkExi 0 (St.mkExi [] (St.unsep (St.addPur ⟨(by rw [dfC_1 (fun h => c1 h.1)]; rfl), ⟨fun h => by rw [dfC_1 (fun h => c1 h.1)] at h; omega, fun _ => ⟨rfl, rfl⟩⟩⟩ (St.unsep (St.addNil (T := 69) (C := B3C) (St.addNil (T := 69) (C := B3C) (hw.sub (Sub.nil _)))))))))))))))))))
 ·have hlo := c1.lo
  have hhi := c1.hi
  have hfb := c1.few
  have hos : STS (v.toNat : Int) bs := by rw [show (v.toNat : Int) = v by omega]; exact c1
  refine O.gq rfl (Pu.loadAgg rfl ag26 sz26 rfl rfl (Ld.whole 1 rfl)) (O.gf rfl (Ef.callP call42 rfl rfl (fun w hw => l01Is_ok _ bs2 _ _ w ((Ld.old hx2) w hw) (by omega))) ?_)
  rintro _ _ ⟨rfl, rfl⟩
  refine O.gq rfl (Pu.not rfl rfl) (O.m rfl (O.m rfl (O.nil (X.next (V.condNot rfl (fun c2 => ?_) (fun c2 => ?_))))))
  ·refine V.seq (V.region (O.q rfl (Pu.buildS (cs := [.int .i64 (0 : Int), .slice none 0 0, .slice none 0 0]) rfl rfl Tryz.underlying28 zr28 (by kernel_rfl) rfl (by kernel_rfl)) (O.s rfl rfl (Ef.storeAll 0 rfl sz28 rfl rfl rfl rfl (by simp [Value.oneCell']) rfl) ?_)))
   rintro _ _ rfl
   exact O.m rfl (O.nil (X.next (V.ret (X.blockRet (X.thenRet (X.retCell2 rfl ag28 sz28 rfl rfl rfl (Ld.whole 0 rfl) (fun w hw => St.mkExi none (St.mkExi 0 (St.mkExi [] (St.mkExi none (St.mkExi 0 (St.mkExi [] (St.unsep (St.addPur ⟨(by rw [dfC_1 (fun h => c2 h.2)]; rfl), ⟨fun h => by rw [dfC_1 (fun h => c2 h.2)] at h; omega, fun _ => ⟨rfl, rfl⟩⟩⟩ (St.unsep (St.addNil (T := 69) (C := B3C) (St.addNil (T := 69) (C := B3C) (hw.sub (Sub.nil _)))))))))))))))))))
  ·have hf2 := c2.few
   refine V.seq (V.region (O.q rfl (Pu.fieldAddr 0 rfl Tryz.underlying26 rfl sz2 rfl rfl) (O.q rfl (Pu.load rfl pl2 rfl (Ld.blk 2 rfl rfl)) (O.q rfl (Pu.fieldAddr 0 rfl Tryz.underlying26 rfl sz2 rfl rfl) (O.q rfl (Pu.load rfl pl2 rfl (Ld.blk 1 rfl rfl)) (O.q rfl (Pu.neq rfl rfl rfl) (O.m rfl (O.splitN 22 rfl (fun c3 => ?_) (fun c3 => ?_)))))))))
   ·refine O.g rfl (O.g rfl (O.g rfl (O.g rfl (O.g rfl (O.g rfl (O.m rfl (O.m rfl (O.nil (X.next (V.condT rfl (V.seq ?_)))))))))))
    refine V.region (O.q rfl (Pu.buildS (cs := [.int .i64 (0 : Int), .slice none 0 0, .slice none 0 0]) rfl rfl Tryz.underlying28 zr28 (by kernel_rfl) rfl (by kernel_rfl)) (O.s rfl rfl (Ef.storeAll 0 rfl sz28 rfl rfl rfl rfl (by simp [Value.oneCell']) rfl) ?_))
    rintro _ _ rfl
    exact O.m rfl (O.nil (X.next (V.ret (X.blockRet (X.thenRet (X.retCell2 rfl ag28 sz28 rfl rfl rfl (Ld.whole 0 rfl) (fun w hw => St.mkExi none (St.mkExi 0 (St.mkExi [] (St.mkExi none (St.mkExi 0 (St.mkExi [] (St.unsep (St.addPur ⟨(by rw [dfC_5 c1 c2 (fun h => c3 h.1)]; rfl), ⟨fun h => by rw [dfC_5 c1 c2 (fun h => c3 h.1)] at h; omega, fun _ => ⟨rfl, rfl⟩⟩⟩ (St.unsep (St.addNil (T := 69) (C := B3C) (St.addNil (T := 69) (C := B3C) (hw.sub (Sub.nil _)))))))))))))))))))
   ·have hns : STS (v.toNat : Int) bs2 := by rw [show (v.toNat : Int) = v2 by omega]; exact c2
    have hui := usedL_iff (v := v.toNat) (by omega) hos hns
    refine O.gq rfl (Pu.fieldAddr 1 rfl Tryz.underlying26 rfl sz24 rfl rfl) (O.gq rfl (Pu.load rfl pl24 rfl (Ld.blk 2 rfl rfl)) (O.gq rfl (Pu.fieldAddr 1 rfl Tryz.underlying26 rfl sz24 rfl rfl) (O.gq rfl (Pu.load rfl pl24 rfl (Ld.blk 1 rfl rfl)) (O.gf rfl (Ef.callP call87 rfl rfl (fun w hw => l04Same_ok v.toNat bs bs2 _ _ _ _ w ((Ld.old hx) w hw) ((Ld.old hx2) w hw) (by omega) (by omega) (by omega) (fun d hd => (sts_rest hos).ok d hd) (fun d hd => (sts_rest hns).ok d hd))) ?_))))
    rintro _ _ ⟨rfl, rfl⟩
    refine O.gq rfl (Pu.not rfl rfl) (O.m rfl (O.m rfl (O.nil (X.next (V.condNot rfl (fun c4 => ?_) (fun c4 => ?_))))))
    ·refine V.seq (V.region (O.q rfl (Pu.buildS (cs := [.int .i64 (0 : Int), .slice none 0 0, .slice none 0 0]) rfl rfl Tryz.underlying28 zr28 (by kernel_rfl) rfl (by kernel_rfl)) (O.s rfl rfl (Ef.storeAll 0 rfl sz28 rfl rfl rfl rfl (by simp [Value.oneCell']) rfl) ?_)))
     rintro _ _ rfl
     exact O.m rfl (O.nil (X.next (V.ret (X.blockRet (X.thenRet (X.retCell2 rfl ag28 sz28 rfl rfl rfl (Ld.whole 0 rfl) (fun w hw => St.mkExi none (St.mkExi 0 (St.mkExi [] (St.mkExi none (St.mkExi 0 (St.mkExi [] (St.unsep (St.addPur ⟨(by rw [dfC_5 c1 c2 (fun h => c4 (hui.2 h.2))]; rfl), ⟨fun h => by rw [dfC_5 c1 c2 (fun h => c4 (hui.2 h.2))] at h; omega, fun _ => ⟨rfl, rfl⟩⟩⟩ (St.unsep (St.addNil (T := 69) (C := B3C) (St.addNil (T := 69) (C := B3C) (hw.sub (Sub.nil _)))))))))))))))))))
    ·have hc0 := dfC_0 c1 c2 ⟨c3, hui.1 c4⟩
     refine V.skip (X.blockNormal (X.next (V.seq (V.ent (Ent.cons (t := 2) rfl (Ent.cons (t := 3) rfl (Ent.cons (t := 4) rfl (Ent.nil _)))) (V.drawS mo (by kernel_rfl) (Sub.keep 1 rfl (Sub.keep 1 rfl (Sub.nil _))) (fun hwf => D.q 0 rfl (Pu.fieldAddr 0 rfl Tryz.underlying26 rfl sz2 rfl rfl) (D.q 1 rfl (Pu.load rfl pl2 rfl (Ld.blk 1 rfl rfl)) (D.q 2 rfl (Pu.fieldAddr 1 rfl Tryz.underlying26 rfl sz24 rfl rfl) (D.q 3 rfl (Pu.load rfl pl24 rfl (Ld.blk 1 rfl rfl)) (D.q 4 rfl (Pu.fieldAddr 1 rfl Tryz.underlying26 rfl sz24 rfl rfl) (D.q 5 rfl (Pu.load rfl pl24 rfl (Ld.blk 0 rfl rfl)) ?_)))))))))))
     refine D.q 7 rfl (Pu.fieldAddr 1 rfl Tryz.underlying26 rfl sz24 rfl rfl) (D.q 8 rfl (Pu.load rfl pl24 rfl (Ld.blk 0 rfl rfl)) (D.q 9 rfl (Pu.fieldAddr 1 rfl Tryz.underlying26 rfl sz24 rfl rfl) (D.q 10 rfl (Pu.load rfl pl24 rfl (Ld.blk 1 rfl rfl)) (D.f hwf 6 rfl (Ef.call1 call46 rfl rfl (fun w hw => l04Less_ok  bs bs2 _ _ _ _ w ((Ld.old hx) w hw) ((Ld.old hx2) w hw) (by omega) (by omega) )) ?_))))
     rintro _ _ rfl hs
     refine ⟨fun w hw => hs w hw.tail, (D.exi (fun r1A => D.exi (fun r1c => D.exi (fun r1 => D.sep (D.pur1 ?_)))))⟩
     rintro ⟨rfl, hr1_1⟩
     have hll1 : r1.length ≤ bs.length := by rw [hr1_1]; exact lessB_len
     refine D.f hwf 11 rfl (Ef.call1 call46 rfl rfl (fun w hw => l04Less_ok  bs2 bs _ _ _ _ w ((Ld.old hx2) w hw) ((Ld.old hx) w hw) (by omega) (by omega) )) ?_
     rintro _ _ rfl hs
     refine ⟨fun w hw => hs w hw.tail, (D.exi (fun r2A => D.exi (fun r2c => D.exi (fun r2 => D.sep (D.pur1 ?_)))))⟩
     rintro ⟨rfl, hr2_1⟩
     have hll2 : r2.length ≤ bs2.length := by rw [hr2_1]; exact lessB_len
     refine D.f hwf 12 rfl (Ef.call1 call54 rfl rfl (fun w hw => l04Made_ok  v r1 r2 _ _ _ _ w ((Ld.own 1 (by exact rfl)) w hw) ((Ld.own 0 (by exact rfl)) w hw) (by omega) (by omega) (by omega) (by omega))) ?_
     rintro _ _ rfl hs
     refine ⟨fun w hw => hs w hw.tail, (D.exi (fun o1A => D.exi (fun o1c => D.exi (fun o1 => D.exi (fun i1A => D.exi (fun i1c => D.exi (fun i1 => D.sep (D.pur1 ?_))))))))⟩
     rintro ⟨rfl, ho1_1, ho1_2⟩
     refine D.sep (D.f hwf 13 rfl (Ef.storeAll 4 rfl sz28 rfl rfl rfl rfl (by simp [Value.oneCell']) rfl) ?_)
     rintro _ _ rfl hs
     exact ⟨fun w hw => hw.sub (Sub.keep 5 rfl (Sub.keep 5 rfl (Sub.nil _))), (D.m 14 rfl (D.done hwf rfl (X.next (V.ret (X.retCell2 rfl ag28 sz28 rfl rfl rfl (Ld.whole 4 rfl) (fun w hw => St.mkExi o1A (St.mkExi o1c (St.mkExi o1 (St.mkExi i1A (St.mkExi i1c (St.mkExi i1 (St.unsep (St.addPur ⟨(by rw [hc0]; rfl), ⟨fun _ => by rw [hr1_1] at ho1_1; rw [hr2_1] at ho1_2; exact ⟨ho1_1, ho1_2⟩, fun h => absurd hc0 h⟩⟩ (St.unsep (hw.sub (Sub.k (Sub.k (Sub.nil _))))))))))))))))))⟩
set_option maxRecDepth 100000 in
set_option maxHeartbeats 1000000 in
theorem l01SwitchedR_ok (cA : Option Addr) (cc : Nat) (code : List UInt8) (n : Nat) (s : Nat) (bA : Option Addr) (bc : Nat) (xs : List B3) (v : Int) (bs : List B3) (A : Option Addr) (c : Nat) (w0 : World) (H : List Assn) (hc : Rd U8C w0 cA code) (lc : code.length ≤ 1048576) (hD : DrS n v bs) (hn : n ≤ 5000) : Does Tryz.prog 129 [.pointer (some ⟨s, 0, none⟩), .agg #[.int .i64 v, .slice A bs.length c]] w0 (SrcK 118 cA cc code s :: TrdA bA bc xs A c bs :: H) (fun rv_ => [.exi fun (rA : Option Addr) => .exi fun (rc : Nat) => .exi fun (r : List B3) => .sep (.pur (rv_ = .agg #[.int .i64 v, .slice rA r.length rc] ∧ DrS (n + 4) v r)) (.sep (TrdA bA bc xs rA rc r) (SrcK 118 cA cc code s))] ++ H) := by
 refine Does.enter Tryz.func129 rfl rfl [(0, .pointer (some ⟨s, 0, none⟩)), (1, .agg #[.int .i64 v, .slice A bs.length c])] rfl ?_
 have hv := hD.1
 have hg := hD.2.1
 have hl := hD.2.2
 have hg15 := hD.g15
 refine V.seq (V.region (O.f rfl (Ef.box rfl rfl rfl) ?_))
 rintro _ _ ⟨b1, rfl, rfl⟩
 refine O.f rfl (Ef.alloc rfl zr26 rfl) ?_
 rintro _ _ ⟨b2, rfl, rfl⟩
 refine O.nil (X.next (V.seq (V.region (O.m rfl (O.q rfl (Pu.fieldAddr 0 rfl Tryz.underlying26 rfl sz2 rfl rfl) (O.q rfl (Pu.load rfl pl2 rfl (Ld.blk 1 rfl rfl)) (O.f rfl (Ef.call call76 rfl rfl (Does.pre (fun w hw => hw.sub (Sub.keep 2 rfl (Sub.k (Sub.k (Sub.k (Sub.refl _)))))) (l01DrawOrder_ok _ _ _ s v w0 _   (by first | assumption | omega | (try dsimp only at *; omega)) (by first | assumption | omega | (try dsimp only at *; omega)) (by omega)))) ?_)))))))
 rintro _ _ rfl
 refine O.exi (fun r1A => O.exi (fun r1c => O.exi (fun r1 => O.sep (O.pur ?_))))
 rintro ⟨rfl, hr1_1⟩
 refine O.sep ?_
 have hol := hr1_1.1
 refine O.m rfl (O.nil (X.next (V.seq (V.draw mo (by kernel_rfl) (fun hwf => D.m 0 rfl (D.q 1 rfl (Pu.indexAddrS (0) rfl Tryz.underlying41 sz2 rfl rfl (by omega) (by omega) (fun w hw => Own.some hw (i := 0) (by exact rfl) (by omega))) ?_))))))
 have e1 : 0 < r1.length := by omega
 refine D.q 2 rfl (Pu.load rfl pl2 rfl (Ld.rd (Ld.own 0 (by exact rfl)) (k := 0) e1 rfl rfl)) (D.m 3 rfl (D.q 4 rfl (Pu.indexAddrS (1) rfl Tryz.underlying41 sz2 rfl rfl (by omega) (by omega) (fun w hw => Own.some hw (i := 0) (by exact rfl) (by omega))) ?_))
 have e2 : 1 < r1.length := by omega
 refine D.q 5 rfl (Pu.load rfl pl2 rfl (Ld.rd (Ld.own 0 (by exact rfl)) (k := 1) e2 rfl rfl)) (D.m 6 rfl (D.m 7 rfl (D.done hwf rfl (X.next (V.seq (V.seq (V.region (O.m rfl (O.nil (X.next (V.block ?_)))))))))))
 refine V.loop3 (β := Nat) (fun i => [(8, .int .i64 (i : Int))]) _ (fun i => []) _ (fun i => 2 ≤ i ∧ i ≤ r1.length) (fun i => r1.length - i) 2 ⟨by omega, by omega⟩ (Ent.cons rfl (Ent.nil _)) (Ent.cons (t := 3) rfl (Ent.cons (t := 4) rfl (Ent.cons (t := 5) rfl (Ent.cons (t := 6) rfl (Ent.cons (t := 7) rfl (Ent.nil _)))))) (Sub.k (Sub.k (Sub.k (Sub.k (Sub.k (Sub.refl _)))))) ?_
 rintro i ⟨hi2, hi⟩
 refine V.seq (V.seq (V.region (O.m rfl (O.m rfl (O.q rfl (Pu.len rfl Tryz.underlying41 rfl) (O.q rfl (Pu.lss rfl rfl rfl) (O.nil (X.next (V.condD rfl (fun c1 => ?_) (fun c1 => ?_))))))))))
 ·refine V.skip (X.next (V.seq (V.block (V.seq (V.region (O.m rfl (O.m rfl (O.q rfl (Pu.indexAddrS (i) rfl Tryz.underlying41 sz2 rfl rfl (by omega) (by omega) (fun w hw => Own.some hw (i := 0) (by exact rfl) (by omega))) ?_))))))))
  have e3 : i < r1.length := by omega
  refine O.q rfl (Pu.load rfl pl2 rfl (Ld.rd (Ld.own 0 (by exact rfl)) (k := i) e3 rfl rfl)) (O.m rfl (O.nil (X.next (V.seq ?_))))
  have g0 := ord_at hr1_1 (i := 0) (by omega)
  have g1 := ord_at hr1_1 (i := 1) (by omega)
  have gi := ord_at hr1_1 (i := i) (by omega)
  have n01 := ord_ne hr1_1 (i := 0) (j := 1) (by omega) (by omega) (by decide)
  have n0i := ord_ne hr1_1 (i := 0) (j := i) (by omega) (by omega) (by omega)
  have n1i := ord_ne hr1_1 (i := 1) (j := i) (by omega) (by omega) (by omega)
  refine V.region (O.q rfl (Pu.loadAgg rfl ag26 sz26 rfl rfl (Ld.whole 3 rfl)) (O.m rfl (O.m rfl (O.f rfl (Ef.callP call154 rfl rfl (fun w hw => l01Third_ok  v bs (r1[0]'e1) (r1[i]'e3) _ _ w ((Ld.trI 4 (by exact rfl)) w hw) (by first | omega | (simp only [tops_len, conts_len, bl, List.length_append, List.length_cons, List.length_nil] at *; omega)) hg15 (by omega) (by omega))) ?_))))
  rintro _ _ ⟨rfl, rfl⟩
  refine O.m rfl (O.nil (X.next (V.seq (V.region (O.q rfl (Pu.loadAgg rfl ag26 sz26 rfl rfl (Ld.whole 3 rfl)) (O.m rfl (O.m rfl (O.f rfl (Ef.callP call154 rfl rfl (fun w hw => l01Third_ok  v bs (r1[1]'e2) (r1[i]'e3) _ _ w ((Ld.trI 4 (by exact rfl)) w hw) (by first | omega | (simp only [tops_len, conts_len, bl, List.length_append, List.length_cons, List.length_nil] at *; omega)) hg15 (by omega) (by omega))) ?_))))))))
  rintro _ _ ⟨rfl, rfl⟩
  refine O.m rfl (O.nil (X.next (V.seq (V.seq (V.region (O.m rfl (O.q rfl (Pu.lss rfl rfl rfl) (O.m rfl (O.splitD 46 rfl (fun c2 => ?_) (fun c2 => ?_))))))))))
  ·refine O.g rfl (O.g rfl (O.m rfl (O.m rfl (O.g rfl (O.g rfl (O.g rfl (O.m rfl (O.m rfl (O.g rfl (O.g rfl (O.g rfl ?_)))))))))))
   refine O.m rfl (O.nil (X.next (V.condT rfl (V.exit (X.thenExit (X.blockHit (X.next (V.region (O.m rfl (O.q rfl (Pu.add64 (r := ((i + 1 : Nat) : Int)) rfl (by omega) rfl rfl rfl) (O.m rfl ?_)))))))))))
   exact O.nil (X.back3 (i + 1) ⟨by omega, by omega⟩ (by first | omega | (dsimp only; omega)) (Ent.cons rfl (Ent.nil _)) (Ent.cons (t := 3) rfl (Ent.cons (t := 4) rfl (Ent.cons (t := 5) rfl (Ent.cons (t := 6) rfl (Ent.cons (t := 7) rfl (Ent.nil _)))))) (Sub.k (Sub.k (Sub.k (Sub.k (Sub.k (Sub.refl _)))))))
  ·refine O.gm rfl (O.gq rfl (Pu.lss rfl rfl rfl) (O.m rfl (O.m rfl (O.splitD 50 rfl (fun c3 => ?_) (fun c3 => ?_)))))
   ·refine O.g rfl (O.g rfl (O.g rfl (O.m rfl (O.m rfl (O.g rfl (O.g rfl (O.g rfl (O.m rfl (O.nil (X.next (V.condT rfl ?_)))))))))))
    exact V.exit (X.thenExit (X.blockHit (X.next (V.region (O.m rfl (O.q rfl (Pu.add64 (r := ((i + 1 : Nat) : Int)) rfl (by omega) rfl rfl rfl) (O.m rfl (O.nil (X.back3 (i + 1) ⟨by omega, by omega⟩ (by first | omega | (dsimp only; omega)) (Ent.cons rfl (Ent.nil _)) (Ent.cons (t := 3) rfl (Ent.cons (t := 4) rfl (Ent.cons (t := 5) rfl (Ent.cons (t := 6) rfl (Ent.cons (t := 7) rfl (Ent.nil _)))))) (Sub.k (Sub.k (Sub.k (Sub.k (Sub.k (Sub.refl _)))))))))))))))
   ·refine O.gm rfl (O.gm rfl (O.gq rfl (Pu.eql rfl rfl rfl) (O.m rfl (O.m rfl (O.splitD 55 rfl (fun c4 => ?_) (fun c4 => ?_))))))
    ·refine O.g rfl (O.g rfl (O.g rfl (O.m rfl (O.nil (X.next (V.condT rfl (V.exit (X.thenExit (X.blockHit (X.next (V.region ?_)))))))))))
     exact O.m rfl (O.q rfl (Pu.add64 (r := ((i + 1 : Nat) : Int)) rfl (by omega) rfl rfl rfl) (O.m rfl (O.nil (X.back3 (i + 1) ⟨by omega, by omega⟩ (by first | omega | (dsimp only; omega)) (Ent.cons rfl (Ent.nil _)) (Ent.cons (t := 3) rfl (Ent.cons (t := 4) rfl (Ent.cons (t := 5) rfl (Ent.cons (t := 6) rfl (Ent.cons (t := 7) rfl (Ent.nil _)))))) (Sub.k (Sub.k (Sub.k (Sub.k (Sub.k (Sub.refl _))))))))))
    ·refine O.gm rfl (O.gm rfl (O.gq rfl (Pu.eql rfl rfl rfl) (O.m rfl (O.nil (X.next (V.condD rfl (fun c5 => ?_) (fun c5 => ?_)))))))
     ·exact V.exit (X.thenExit (X.blockHit (X.next (V.region (O.m rfl (O.q rfl (Pu.add64 (r := ((i + 1 : Nat) : Int)) rfl (by omega) rfl rfl rfl) (O.m rfl (O.nil (X.back3 (i + 1) ⟨by omega, by omega⟩ (by first | omega | (dsimp only; omega)) (Ent.cons rfl (Ent.nil _)) (Ent.cons (t := 3) rfl (Ent.cons (t := 4) rfl (Ent.cons (t := 5) rfl (Ent.cons (t := 6) rfl (Ent.cons (t := 7) rfl (Ent.nil _)))))) (Sub.k (Sub.k (Sub.k (Sub.k (Sub.k (Sub.refl _)))))))))))))))
     ·refine V.skip (X.next (V.seq ?_))
      have te : (0 ≤ (third bs (r1[0]'e1) (r1[i]'e3)) ∧ (third bs (r1[0]'e1) (r1[i]'e3)) < v) ∧ (third bs (r1[0]'e1) (r1[i]'e3)) ≠ (r1[0]'e1) ∧ (third bs (r1[0]'e1) (r1[i]'e3)) ≠ (r1[i]'e3) := third_good hg n0i (by omega)
      have tf : (0 ≤ (third bs (r1[1]'e2) (r1[i]'e3)) ∧ (third bs (r1[1]'e2) (r1[i]'e3)) < v) ∧ (third bs (r1[1]'e2) (r1[i]'e3)) ≠ (r1[1]'e2) ∧ (third bs (r1[1]'e2) (r1[i]'e3)) ≠ (r1[i]'e3) := third_good hg n1i (by omega)
      refine V.region (O.q rfl (Pu.loadAgg rfl ag26 sz26 rfl rfl (Ld.whole 3 rfl)) (O.m rfl (O.m rfl (O.f rfl (Ef.callP call154 rfl rfl (fun w hw => l01Third_ok  v bs (r1[0]'e1) (third bs (r1[1]'e2) (r1[i]'e3)) _ _ w ((Ld.trI 4 (by exact rfl)) w hw) (by first | omega | (simp only [tops_len, conts_len, bl, List.length_append, List.length_cons, List.length_nil] at *; omega)) hg15 (by omega) (by omega))) ?_))))
      rintro _ _ ⟨rfl, rfl⟩
      refine O.m rfl (O.nil (X.next (V.seq (V.seq (V.region (O.m rfl (O.q rfl (Pu.lss rfl rfl rfl) (O.m rfl (O.splitD 66 rfl (fun c6 => ?_) (fun c6 => ?_))))))))))
      ·refine O.g rfl (O.g rfl (O.g rfl (O.m rfl (O.m rfl (O.g rfl (O.g rfl (O.g rfl (O.g rfl (O.g rfl (O.g rfl (O.m rfl ?_)))))))))))
       exact O.nil (X.next (V.condT rfl (V.exit (X.thenExit (X.blockHit (X.next (V.region (O.m rfl (O.q rfl (Pu.add64 (r := ((i + 1 : Nat) : Int)) rfl (by omega) rfl rfl rfl) (O.m rfl (O.nil (X.back3 (i + 1) ⟨by omega, by omega⟩ (by first | omega | (dsimp only; omega)) (Ent.cons rfl (Ent.nil _)) (Ent.cons (t := 3) rfl (Ent.cons (t := 4) rfl (Ent.cons (t := 5) rfl (Ent.cons (t := 6) rfl (Ent.cons (t := 7) rfl (Ent.nil _)))))) (Sub.k (Sub.k (Sub.k (Sub.k (Sub.k (Sub.refl _))))))))))))))))))
      ·refine O.gm rfl (O.gm rfl (O.gq rfl (Pu.eql rfl rfl rfl) (O.m rfl (O.m rfl (O.splitD 71 rfl (fun c7 => ?_) (fun c7 => ?_))))))
       ·refine O.g rfl (O.g rfl (O.g rfl (O.g rfl (O.g rfl (O.g rfl (O.m rfl (O.nil (X.next (V.condT rfl (V.exit (X.thenExit ?_)))))))))))
        exact X.blockHit (X.next (V.region (O.m rfl (O.q rfl (Pu.add64 (r := ((i + 1 : Nat) : Int)) rfl (by omega) rfl rfl rfl) (O.m rfl (O.nil (X.back3 (i + 1) ⟨by omega, by omega⟩ (by first | omega | (dsimp only; omega)) (Ent.cons rfl (Ent.nil _)) (Ent.cons (t := 3) rfl (Ent.cons (t := 4) rfl (Ent.cons (t := 5) rfl (Ent.cons (t := 6) rfl (Ent.cons (t := 7) rfl (Ent.nil _)))))) (Sub.k (Sub.k (Sub.k (Sub.k (Sub.k (Sub.refl _)))))))))))))
       ·refine O.gq rfl (Pu.loadAgg rfl ag26 sz26 rfl rfl (Ld.whole 3 rfl)) (O.gm rfl (O.gm rfl (O.gf rfl (Ef.callP call154 rfl rfl (fun w hw => l01Third_ok  v bs (r1[1]'e2) (third bs (r1[0]'e1) (r1[i]'e3)) _ _ w ((Ld.trI 4 (by exact rfl)) w hw) (by first | omega | (simp only [tops_len, conts_len, bl, List.length_append, List.length_cons, List.length_nil] at *; omega)) hg15 (by omega) (by omega))) ?_)))
        rintro _ _ ⟨rfl, rfl⟩
        refine O.gm rfl (O.gq rfl (Pu.neq rfl rfl rfl) (O.m rfl (O.nil (X.next (V.condNot rfl (fun c8 => ?_) (fun c8 => ?_))))))
        ·exact V.exit (X.thenExit (X.blockHit (X.next (V.region (O.m rfl (O.q rfl (Pu.add64 (r := ((i + 1 : Nat) : Int)) rfl (by omega) rfl rfl rfl) (O.m rfl (O.nil (X.back3 (i + 1) ⟨by omega, by omega⟩ (by first | omega | (dsimp only; omega)) (Ent.cons rfl (Ent.nil _)) (Ent.cons (t := 3) rfl (Ent.cons (t := 4) rfl (Ent.cons (t := 5) rfl (Ent.cons (t := 6) rfl (Ent.cons (t := 7) rfl (Ent.nil _)))))) (Sub.k (Sub.k (Sub.k (Sub.k (Sub.k (Sub.refl _)))))))))))))))
        ·refine V.skip (X.next (V.seq ?_))
         have td : (0 ≤ (third bs (r1[0]'e1) (third bs (r1[1]'e2) (r1[i]'e3))) ∧ (third bs (r1[0]'e1) (third bs (r1[1]'e2) (r1[i]'e3))) < v) ∧ (third bs (r1[0]'e1) (third bs (r1[1]'e2) (r1[i]'e3))) ≠ (r1[0]'e1) ∧ (third bs (r1[0]'e1) (third bs (r1[1]'e2) (r1[i]'e3))) ≠ (third bs (r1[1]'e2) (r1[i]'e3)) := third_good hg (by omega) (by omega)
         have tg := third_good hg (a := (r1[1]'e2)) (b := (third bs (r1[0]'e1) (r1[i]'e3))) (by omega) (by omega)
         have q1 : good v (bk3 (r1[1]'e2) (r1[i]'e3) (third bs (r1[0]'e1) (r1[i]'e3))) := good_bk3 (by omega) (by omega) (by omega) (by omega) (by omega) (by omega)
         have q2 : good v (bk3 (r1[1]'e2) (third bs (r1[0]'e1) (third bs (r1[1]'e2) (r1[i]'e3))) (third bs (r1[1]'e2) (r1[i]'e3))) := good_bk3 (by omega) (by omega) (by omega) (by omega) (by omega) (by omega)
         have q3 : good v (bk3 (r1[0]'e1) (r1[i]'e3) (third bs (r1[1]'e2) (r1[i]'e3))) := good_bk3 (by omega) (by omega) (by omega) (by omega) (by omega) (by omega)
         have q4 : good v (bk3 (r1[0]'e1) (third bs (r1[0]'e1) (third bs (r1[1]'e2) (r1[i]'e3))) (third bs (r1[0]'e1) (r1[i]'e3))) := good_bk3 (by omega) (by omega) (by omega) (by omega) (by omega) (by omega)
         refine V.region (O.m rfl (O.m rfl (O.m rfl (O.f rfl (Ef.callP call112 rfl rfl (fun w hw => l01BlockD_ok  (r1[1]'e2) (r1[i]'e3) (third bs (r1[0]'e1) (r1[i]'e3)) w   (by first | assumption | omega | (try dsimp only at *; omega)) (by first | assumption | omega | (try dsimp only at *; omega)) (by first | assumption | omega | (try dsimp only at *; omega)))) ?_))))
         rintro _ _ ⟨rfl, rfl⟩
         refine O.m rfl (O.m rfl (O.m rfl (O.f rfl (Ef.callP call112 rfl rfl (fun w hw => l01BlockD_ok  (r1[1]'e2) (third bs (r1[0]'e1) (third bs (r1[1]'e2) (r1[i]'e3))) (third bs (r1[1]'e2) (r1[i]'e3)) w   (by first | assumption | omega | (try dsimp only at *; omega)) (by first | assumption | omega | (try dsimp only at *; omega)) (by first | assumption | omega | (try dsimp only at *; omega)))) ?_)))
         rintro _ _ ⟨rfl, rfl⟩
         refine O.m rfl (O.m rfl (O.m rfl (O.f rfl (Ef.callP call112 rfl rfl (fun w hw => l01BlockD_ok  (r1[0]'e1) (r1[i]'e3) (third bs (r1[1]'e2) (r1[i]'e3)) w   (by first | assumption | omega | (try dsimp only at *; omega)) (by first | assumption | omega | (try dsimp only at *; omega)) (by first | assumption | omega | (try dsimp only at *; omega)))) ?_)))
         rintro _ _ ⟨rfl, rfl⟩
         refine O.m rfl (O.m rfl (O.m rfl (O.f rfl (Ef.callP call112 rfl rfl (fun w hw => l01BlockD_ok  (r1[0]'e1) (third bs (r1[0]'e1) (third bs (r1[1]'e2) (r1[i]'e3))) (third bs (r1[0]'e1) (r1[i]'e3)) w   (by first | assumption | omega | (try dsimp only at *; omega)) (by first | assumption | omega | (try dsimp only at *; omega)) (by first | assumption | omega | (try dsimp only at *; omega)))) ?_)))
         rintro _ _ ⟨rfl, rfl⟩
         refine O.f rfl (Ef.build B3C ([(bk3 (r1[1]'e2) (r1[i]'e3) (third bs (r1[0]'e1) (r1[i]'e3))), (bk3 (r1[1]'e2) (third bs (r1[0]'e1) (third bs (r1[1]'e2) (r1[i]'e3))) (third bs (r1[1]'e2) (r1[i]'e3))), (bk3 (r1[0]'e1) (r1[i]'e3) (third bs (r1[1]'e2) (r1[i]'e3))), (bk3 (r1[0]'e1) (third bs (r1[0]'e1) (third bs (r1[1]'e2) (r1[i]'e3))) (third bs (r1[0]'e1) (r1[i]'e3)))] : List B3) rfl Tryz.underlying24 inf69 rfl rfl rfl (by first | decide | (simp; done)) (by kernel_rfl)) ?_
         rintro _ _ ⟨A1, hA1, rfl, rfl⟩
         refine O.m rfl (O.nil (X.next (V.seq (V.region (O.m rfl (O.m rfl (O.m rfl (O.f rfl (Ef.callP call112 rfl rfl (fun w hw => l01BlockD_ok  (r1[0]'e1) (r1[i]'e3) (third bs (r1[0]'e1) (r1[i]'e3)) w   (by first | assumption | omega | (try dsimp only at *; omega)) (by first | assumption | omega | (try dsimp only at *; omega)) (by first | assumption | omega | (try dsimp only at *; omega)))) ?_))))))))
         rintro _ _ ⟨rfl, rfl⟩
         refine O.m rfl (O.m rfl (O.m rfl (O.f rfl (Ef.callP call112 rfl rfl (fun w hw => l01BlockD_ok  (r1[0]'e1) (third bs (r1[0]'e1) (third bs (r1[1]'e2) (r1[i]'e3))) (third bs (r1[1]'e2) (r1[i]'e3)) w   (by first | assumption | omega | (try dsimp only at *; omega)) (by first | assumption | omega | (try dsimp only at *; omega)) (by first | assumption | omega | (try dsimp only at *; omega)))) ?_)))
         rintro _ _ ⟨rfl, rfl⟩
         refine O.m rfl (O.m rfl (O.m rfl (O.f rfl (Ef.callP call112 rfl rfl (fun w hw => l01BlockD_ok  (r1[1]'e2) (r1[i]'e3) (third bs (r1[1]'e2) (r1[i]'e3)) w   (by first | assumption | omega | (try dsimp only at *; omega)) (by first | assumption | omega | (try dsimp only at *; omega)) (by first | assumption | omega | (try dsimp only at *; omega)))) ?_)))
         rintro _ _ ⟨rfl, rfl⟩
         refine O.m rfl (O.m rfl (O.m rfl (O.f rfl (Ef.callP call112 rfl rfl (fun w hw => l01BlockD_ok  (r1[1]'e2) (third bs (r1[0]'e1) (third bs (r1[1]'e2) (r1[i]'e3))) (third bs (r1[0]'e1) (r1[i]'e3)) w   (by first | assumption | omega | (try dsimp only at *; omega)) (by first | assumption | omega | (try dsimp only at *; omega)) (by first | assumption | omega | (try dsimp only at *; omega)))) ?_)))
         rintro _ _ ⟨rfl, rfl⟩
         refine O.f rfl (Ef.build B3C ([(bk3 (r1[0]'e1) (r1[i]'e3) (third bs (r1[0]'e1) (r1[i]'e3))), (bk3 (r1[0]'e1) (third bs (r1[0]'e1) (third bs (r1[1]'e2) (r1[i]'e3))) (third bs (r1[1]'e2) (r1[i]'e3))), (bk3 (r1[1]'e2) (r1[i]'e3) (third bs (r1[1]'e2) (r1[i]'e3))), (bk3 (r1[1]'e2) (third bs (r1[0]'e1) (third bs (r1[1]'e2) (r1[i]'e3))) (third bs (r1[0]'e1) (r1[i]'e3)))] : List B3) rfl Tryz.underlying24 inf69 rfl rfl rfl (by first | decide | (simp; done)) (by kernel_rfl)) ?_
         rintro _ _ ⟨A2, hA2, rfl, rfl⟩
         refine O.m rfl (O.nil (X.next (V.seq (V.seq (V.region (O.m rfl (O.nil (X.next (V.block (V.loop3 (β := (Option Addr) × Nat × (List B3) × Nat) (fun x => [(13, .slice x.1 x.2.2.1.length x.2.1), (15, .int .i64 (x.2.2.2 : Int))]) _ (fun x => [Own 69 B3C x.1 x.2.1 x.2.2.1]) _ (fun x => x.2.2.2 ≤ bs.length ∧ (∀ d ∈ x.2.2.1, good v d) ∧ x.2.2.1.length ≤ 4 + x.2.2.2) (fun x => bs.length - x.2.2.2) (A1, 4, ([(bk3 (r1[1]'e2) (r1[i]'e3) (third bs (r1[0]'e1) (r1[i]'e3))), (bk3 (r1[1]'e2) (third bs (r1[0]'e1) (third bs (r1[1]'e2) (r1[i]'e3))) (third bs (r1[1]'e2) (r1[i]'e3))), (bk3 (r1[0]'e1) (r1[i]'e3) (third bs (r1[1]'e2) (r1[i]'e3))), (bk3 (r1[0]'e1) (third bs (r1[0]'e1) (third bs (r1[1]'e2) (r1[i]'e3))) (third bs (r1[0]'e1) (r1[i]'e3)))] : List B3), 0) (by (try dsimp only); exact ⟨by omega, (by intro d hd; simp only [List.mem_cons, List.not_mem_nil, or_false] at hd; rcases hd with rfl | rfl | rfl | rfl; (· exact q1); (· exact q2); (· exact q3); (· exact q4)), by simp⟩) (Ent.cons rfl (Ent.cons rfl (Ent.nil _))) (Ent.cons (t := 3) rfl (Ent.cons (t := 4) rfl (Ent.cons (t := 5) rfl (Ent.cons (t := 6) rfl (Ent.cons (t := 7) rfl (Ent.cons (t := 8) rfl (Ent.cons (t := 14) rfl (Ent.nil _)))))))) (Sub.keep 1 rfl (Sub.k (Sub.k (Sub.k (Sub.k (Sub.k (Sub.k (Sub.refl _)))))))) ?_))))))))))
         rintro ⟨blocksA, blocksc, blocks, k⟩ ⟨hk, hgb, hlb⟩
         dsimp only at hk hgb hlb ⊢
         refine V.seq (V.seq (V.region (O.m rfl (O.q rfl (Pu.fieldAddr 1 rfl Tryz.underlying26 rfl sz24 rfl rfl) (O.q rfl (Pu.load rfl pl24 rfl (Ld.blk 5 rfl rfl)) (O.q rfl (Pu.len rfl Tryz.underlying24 rfl) (O.q rfl (Pu.lss rfl rfl rfl) (O.nil (X.next (V.condD rfl (fun c9 => ?_) (fun c9 => ?_)))))))))))
         ·refine V.skip (X.next (V.seq (V.block (V.seq (V.draw mo (by kernel_rfl) (fun hwf => D.q 0 rfl (Pu.fieldAddr 1 rfl Tryz.underlying26 rfl sz24 rfl rfl) (D.q 1 rfl (Pu.load rfl pl24 rfl (Ld.blk 5 rfl rfl)) (D.m 2 rfl (D.q 3 rfl (Pu.indexAddrS (k) rfl Tryz.underlying24 sz69 rfl rfl (by omega) (by omega) (fun w hw => ((Ld.trI 6 (by exact rfl)) w hw).some (by omega))) ?_)))))))))
          have e4 : k < bs.length := by omega
          refine D.q 4 rfl (Pu.loadAgg' (v := B3.v (bs[k]'e4)) rfl rfl ag69 sz69 rfl rfl (Ld.rds (C := B3C) (Ld.trI 6 (by exact rfl)) (k := k) e4 rfl)) (D.m 5 rfl (D.q 6 rfl (Pu.indexAddr (0) rfl Tryz.underlying24 sz69 rfl rfl (by omega) (by simp) hA2) ?_))
          have e5 : 0 < ([(bk3 (r1[0]'e1) (r1[i]'e3) (third bs (r1[0]'e1) (r1[i]'e3))), (bk3 (r1[0]'e1) (third bs (r1[0]'e1) (third bs (r1[1]'e2) (r1[i]'e3))) (third bs (r1[1]'e2) (r1[i]'e3))), (bk3 (r1[1]'e2) (r1[i]'e3) (third bs (r1[1]'e2) (r1[i]'e3))), (bk3 (r1[1]'e2) (third bs (r1[0]'e1) (third bs (r1[1]'e2) (r1[i]'e3))) (third bs (r1[0]'e1) (r1[i]'e3)))] : List B3).length := by simp
          refine D.q 7 rfl (Pu.loadAgg' (v := B3.v (([(bk3 (r1[0]'e1) (r1[i]'e3) (third bs (r1[0]'e1) (r1[i]'e3))), (bk3 (r1[0]'e1) (third bs (r1[0]'e1) (third bs (r1[1]'e2) (r1[i]'e3))) (third bs (r1[1]'e2) (r1[i]'e3))), (bk3 (r1[1]'e2) (r1[i]'e3) (third bs (r1[1]'e2) (r1[i]'e3))), (bk3 (r1[1]'e2) (third bs (r1[0]'e1) (third bs (r1[1]'e2) (r1[i]'e3))) (third bs (r1[0]'e1) (r1[i]'e3)))] : List B3)[0]'e5)) rfl rfl ag69 sz69 rfl rfl (Ld.rds (C := B3C) (Ld.own 1 (by exact rfl)) (k := 0) e5 rfl)) (D.q 8 rfl (Pu.neqB3 Tryz.underlying69 Tryz.underlying2 sz2 (by kernel_rfl) rfl rfl rfl) (D.m 9 rfl (D.splitN 129 rfl (fun c10 => ?_) (fun c10 => ?_))))
          ·refine D.gq 10 rfl (Pu.fieldAddr 1 rfl Tryz.underlying26 rfl sz24 rfl rfl) (D.gq 11 rfl (Pu.load rfl pl24 rfl (Ld.blk 5 rfl rfl)) (D.gm 12 rfl (D.gq 13 rfl (Pu.indexAddrS (k) rfl Tryz.underlying24 sz69 rfl rfl (by omega) (by omega) (fun w hw => ((Ld.trI 6 (by exact rfl)) w hw).some (by omega))) (D.gq 14 rfl (Pu.loadAgg' (v := B3.v (bs[k]'e4)) rfl rfl ag69 sz69 rfl rfl (Ld.rds (C := B3C) (Ld.trI 6 (by exact rfl)) (k := k) e4 rfl)) (D.gm 15 rfl (D.gq 16 rfl (Pu.indexAddr (1) rfl Tryz.underlying24 sz69 rfl rfl (by omega) (by simp) hA2) ?_))))))
           have e6 : 1 < ([(bk3 (r1[0]'e1) (r1[i]'e3) (third bs (r1[0]'e1) (r1[i]'e3))), (bk3 (r1[0]'e1) (third bs (r1[0]'e1) (third bs (r1[1]'e2) (r1[i]'e3))) (third bs (r1[1]'e2) (r1[i]'e3))), (bk3 (r1[1]'e2) (r1[i]'e3) (third bs (r1[1]'e2) (r1[i]'e3))), (bk3 (r1[1]'e2) (third bs (r1[0]'e1) (third bs (r1[1]'e2) (r1[i]'e3))) (third bs (r1[0]'e1) (r1[i]'e3)))] : List B3).length := by simp
           refine D.gq 17 rfl (Pu.loadAgg' (v := B3.v (([(bk3 (r1[0]'e1) (r1[i]'e3) (third bs (r1[0]'e1) (r1[i]'e3))), (bk3 (r1[0]'e1) (third bs (r1[0]'e1) (third bs (r1[1]'e2) (r1[i]'e3))) (third bs (r1[1]'e2) (r1[i]'e3))), (bk3 (r1[1]'e2) (r1[i]'e3) (third bs (r1[1]'e2) (r1[i]'e3))), (bk3 (r1[1]'e2) (third bs (r1[0]'e1) (third bs (r1[1]'e2) (r1[i]'e3))) (third bs (r1[0]'e1) (r1[i]'e3)))] : List B3)[1]'e6)) rfl rfl ag69 sz69 rfl rfl (Ld.rds (C := B3C) (Ld.own 1 (by exact rfl)) (k := 1) e6 rfl)) (D.gq 18 rfl (Pu.neqB3 Tryz.underlying69 Tryz.underlying2 sz2 (by kernel_rfl) rfl rfl rfl) (D.m 19 rfl (D.m 20 rfl (D.splitN 140 rfl (fun c11 => ?_) (fun c11 => ?_)))))
           ·refine D.gq 21 rfl (Pu.fieldAddr 1 rfl Tryz.underlying26 rfl sz24 rfl rfl) (D.gq 22 rfl (Pu.load rfl pl24 rfl (Ld.blk 5 rfl rfl)) (D.gm 23 rfl (D.gq 24 rfl (Pu.indexAddrS (k) rfl Tryz.underlying24 sz69 rfl rfl (by omega) (by omega) (fun w hw => ((Ld.trI 6 (by exact rfl)) w hw).some (by omega))) (D.gq 25 rfl (Pu.loadAgg' (v := B3.v (bs[k]'e4)) rfl rfl ag69 sz69 rfl rfl (Ld.rds (C := B3C) (Ld.trI 6 (by exact rfl)) (k := k) e4 rfl)) (D.gm 26 rfl (D.gq 27 rfl (Pu.indexAddr (2) rfl Tryz.underlying24 sz69 rfl rfl (by omega) (by simp) hA2) ?_))))))
            have e7 : 2 < ([(bk3 (r1[0]'e1) (r1[i]'e3) (third bs (r1[0]'e1) (r1[i]'e3))), (bk3 (r1[0]'e1) (third bs (r1[0]'e1) (third bs (r1[1]'e2) (r1[i]'e3))) (third bs (r1[1]'e2) (r1[i]'e3))), (bk3 (r1[1]'e2) (r1[i]'e3) (third bs (r1[1]'e2) (r1[i]'e3))), (bk3 (r1[1]'e2) (third bs (r1[0]'e1) (third bs (r1[1]'e2) (r1[i]'e3))) (third bs (r1[0]'e1) (r1[i]'e3)))] : List B3).length := by simp
            refine D.gq 28 rfl (Pu.loadAgg' (v := B3.v (([(bk3 (r1[0]'e1) (r1[i]'e3) (third bs (r1[0]'e1) (r1[i]'e3))), (bk3 (r1[0]'e1) (third bs (r1[0]'e1) (third bs (r1[1]'e2) (r1[i]'e3))) (third bs (r1[1]'e2) (r1[i]'e3))), (bk3 (r1[1]'e2) (r1[i]'e3) (third bs (r1[1]'e2) (r1[i]'e3))), (bk3 (r1[1]'e2) (third bs (r1[0]'e1) (third bs (r1[1]'e2) (r1[i]'e3))) (third bs (r1[0]'e1) (r1[i]'e3)))] : List B3)[2]'e7)) rfl rfl ag69 sz69 rfl rfl (Ld.rds (C := B3C) (Ld.own 1 (by exact rfl)) (k := 2) e7 rfl)) (D.gq 29 rfl (Pu.neqB3 Tryz.underlying69 Tryz.underlying2 sz2 (by kernel_rfl) rfl rfl rfl) (D.m 30 rfl (D.m 31 rfl (D.splitN 151 rfl (fun c12 => ?_) (fun c12 => ?_)))))
            ·refine D.gq 32 rfl (Pu.fieldAddr 1 rfl Tryz.underlying26 rfl sz24 rfl rfl) (D.gq 33 rfl (Pu.load rfl pl24 rfl (Ld.blk 5 rfl rfl)) (D.gm 34 rfl (D.gq 35 rfl (Pu.indexAddrS (k) rfl Tryz.underlying24 sz69 rfl rfl (by omega) (by omega) (fun w hw => ((Ld.trI 6 (by exact rfl)) w hw).some (by omega))) (D.gq 36 rfl (Pu.loadAgg' (v := B3.v (bs[k]'e4)) rfl rfl ag69 sz69 rfl rfl (Ld.rds (C := B3C) (Ld.trI 6 (by exact rfl)) (k := k) e4 rfl)) (D.gm 37 rfl (D.gq 38 rfl (Pu.indexAddr (3) rfl Tryz.underlying24 sz69 rfl rfl (by omega) (by simp) hA2) ?_))))))
             have e8 : 3 < ([(bk3 (r1[0]'e1) (r1[i]'e3) (third bs (r1[0]'e1) (r1[i]'e3))), (bk3 (r1[0]'e1) (third bs (r1[0]'e1) (third bs (r1[1]'e2) (r1[i]'e3))) (third bs (r1[1]'e2) (r1[i]'e3))), (bk3 (r1[1]'e2) (r1[i]'e3) (third bs (r1[1]'e2) (r1[i]'e3))), (bk3 (r1[1]'e2) (third bs (r1[0]'e1) (third bs (r1[1]'e2) (r1[i]'e3))) (third bs (r1[0]'e1) (r1[i]'e3)))] : List B3).length := by simp
             refine D.gq 39 rfl (Pu.loadAgg' (v := B3.v (([(bk3 (r1[0]'e1) (r1[i]'e3) (third bs (r1[0]'e1) (r1[i]'e3))), (bk3 (r1[0]'e1) (third bs (r1[0]'e1) (third bs (r1[1]'e2) (r1[i]'e3))) (third bs (r1[1]'e2) (r1[i]'e3))), (bk3 (r1[1]'e2) (r1[i]'e3) (third bs (r1[1]'e2) (r1[i]'e3))), (bk3 (r1[1]'e2) (third bs (r1[0]'e1) (third bs (r1[1]'e2) (r1[i]'e3))) (third bs (r1[0]'e1) (r1[i]'e3)))] : List B3)[3]'e8)) rfl rfl ag69 sz69 rfl rfl (Ld.rds (C := B3C) (Ld.own 1 (by exact rfl)) (k := 3) e8 rfl)) (D.gq 40 rfl (Pu.neqB3 Tryz.underlying69 Tryz.underlying2 sz2 (by kernel_rfl) rfl rfl rfl) (D.m 41 rfl (D.done hwf rfl (X.next (V.condNot rfl (fun c13 => ?_) (fun c13 => ?_))))))
             ·refine V.region (O.m rfl (O.q rfl (Pu.fieldAddr 1 rfl Tryz.underlying26 rfl sz24 rfl rfl) (O.q rfl (Pu.load rfl pl24 rfl (Ld.blk 5 rfl rfl)) (O.m rfl (O.q rfl (Pu.indexAddrS (k) rfl Tryz.underlying24 sz69 rfl rfl (by omega) (by omega) (fun w hw => ((Ld.trI 6 (by exact rfl)) w hw).some (by omega))) (O.q rfl (Pu.loadAgg' (v := B3.v (bs[k]'e4)) rfl rfl ag69 sz69 rfl rfl (Ld.rds (C := B3C) (Ld.trI 6 (by exact rfl)) (k := k) e4 rfl)) (O.f rfl (Ef.build B3C ([(bs[k]'e4)] : List B3) rfl Tryz.underlying24 inf69 rfl rfl rfl (by first | decide | (simp; done)) (by kernel_rfl)) ?_)))))))
              rintro _ _ ⟨A3, hA3, rfl, rfl⟩
              refine O.f rfl (Ef.append (xs := blocks) (ys := ([(bs[k]'e4)] : List B3)) 1 rfl Tryz.underlying24 inf69 rfl rfl rfl rfl rfl rfl hA3 (Ld.own 0 (by exact rfl)) (by simp only [List.length_append, List.length_cons, List.length_nil] at *; omega) (by decide)) ?_
              rintro _ _ ⟨A4, k1, rfl, rfl, hA4⟩
              replace hA4 := hA4 (.inr (by simp))
              exact O.m rfl (O.nil (X.blockNormal (X.next (V.region (O.m rfl (O.q rfl (Pu.add64 (r := ((k + 1 : Nat) : Int)) rfl (by omega) rfl rfl rfl) (O.m rfl (O.nil (X.back3 (A4, k1, (blocks ++ ([(bs[k]'e4)] : List B3)), k + 1) (by (try dsimp only); exact ⟨by omega, (by first | exact hgb | exact good_snoc hgb (hg _ (List.getElem_mem _))), (by first | omega | (simp only [List.length_append, List.length_singleton]; omega))⟩) (by first | omega | (dsimp only; omega)) (Ent.cons rfl (Ent.cons rfl (Ent.nil _))) (Ent.cons (t := 3) rfl (Ent.cons (t := 4) rfl (Ent.cons (t := 5) rfl (Ent.cons (t := 6) rfl (Ent.cons (t := 7) rfl (Ent.cons (t := 8) rfl (Ent.cons (t := 14) rfl (Ent.nil _)))))))) (Sub.keep 1 rfl (Sub.keep 1 rfl (Sub.keep 1 rfl (Sub.keep 1 rfl (Sub.keep 1 rfl (Sub.keep 1 rfl (Sub.keep 1 rfl (Sub.drop (Sub.refl _))))))))))))))))))
             ·exact V.skip (X.blockNormal (X.next (V.region (O.m rfl (O.q rfl (Pu.add64 (r := ((k + 1 : Nat) : Int)) rfl (by omega) rfl rfl rfl) (O.m rfl (O.nil (X.back3 (blocksA, blocksc, blocks, k + 1) (by (try dsimp only); exact ⟨by omega, (by first | exact hgb | exact good_snoc hgb (hg _ (List.getElem_mem _))), (by first | omega | (simp only [List.length_append, List.length_singleton]; omega))⟩) (by first | omega | (dsimp only; omega)) (Ent.cons rfl (Ent.cons rfl (Ent.nil _))) (Ent.cons (t := 3) rfl (Ent.cons (t := 4) rfl (Ent.cons (t := 5) rfl (Ent.cons (t := 6) rfl (Ent.cons (t := 7) rfl (Ent.cons (t := 8) rfl (Ent.cons (t := 14) rfl (Ent.nil _)))))))) (Sub.k (Sub.k (Sub.k (Sub.k (Sub.k (Sub.k (Sub.k (Sub.refl _))))))))))))))))
            ·refine D.g 32 rfl (D.g 33 rfl (D.g 34 rfl (D.g 35 rfl (D.g 36 rfl (D.g 37 rfl (D.g 38 rfl (D.g 39 rfl (D.g 40 rfl (D.m 41 rfl (D.done hwf rfl (X.next ?_)))))))))))
             exact V.condF rfl (V.skip (X.blockNormal (X.next (V.region (O.m rfl (O.q rfl (Pu.add64 (r := ((k + 1 : Nat) : Int)) rfl (by omega) rfl rfl rfl) (O.m rfl (O.nil (X.back3 (blocksA, blocksc, blocks, k + 1) (by (try dsimp only); exact ⟨by omega, (by first | exact hgb | exact good_snoc hgb (hg _ (List.getElem_mem _))), (by first | omega | (simp only [List.length_append, List.length_singleton]; omega))⟩) (by first | omega | (dsimp only; omega)) (Ent.cons rfl (Ent.cons rfl (Ent.nil _))) (Ent.cons (t := 3) rfl (Ent.cons (t := 4) rfl (Ent.cons (t := 5) rfl (Ent.cons (t := 6) rfl (Ent.cons (t := 7) rfl (Ent.cons (t := 8) rfl (Ent.cons (t := 14) rfl (Ent.nil _)))))))) (Sub.k (Sub.k (Sub.k (Sub.k (Sub.k (Sub.k (Sub.k (Sub.refl _)))))))))))))))))
           ·refine D.g 21 rfl (D.g 22 rfl (D.g 23 rfl (D.g 24 rfl (D.g 25 rfl (D.g 26 rfl (D.g 27 rfl (D.g 28 rfl (D.g 29 rfl (D.m 30 rfl (D.m 31 rfl (D.g 32 rfl ?_)))))))))))
            refine D.g 33 rfl (D.g 34 rfl (D.g 35 rfl (D.g 36 rfl (D.g 37 rfl (D.g 38 rfl (D.g 39 rfl (D.g 40 rfl (D.m 41 rfl (D.done hwf rfl (X.next (V.condF rfl ?_)))))))))))
            exact V.skip (X.blockNormal (X.next (V.region (O.m rfl (O.q rfl (Pu.add64 (r := ((k + 1 : Nat) : Int)) rfl (by omega) rfl rfl rfl) (O.m rfl (O.nil (X.back3 (blocksA, blocksc, blocks, k + 1) (by (try dsimp only); exact ⟨by omega, (by first | exact hgb | exact good_snoc hgb (hg _ (List.getElem_mem _))), (by first | omega | (simp only [List.length_append, List.length_singleton]; omega))⟩) (by first | omega | (dsimp only; omega)) (Ent.cons rfl (Ent.cons rfl (Ent.nil _))) (Ent.cons (t := 3) rfl (Ent.cons (t := 4) rfl (Ent.cons (t := 5) rfl (Ent.cons (t := 6) rfl (Ent.cons (t := 7) rfl (Ent.cons (t := 8) rfl (Ent.cons (t := 14) rfl (Ent.nil _)))))))) (Sub.k (Sub.k (Sub.k (Sub.k (Sub.k (Sub.k (Sub.k (Sub.refl _))))))))))))))))
          ·refine D.g 10 rfl (D.g 11 rfl (D.g 12 rfl (D.g 13 rfl (D.g 14 rfl (D.g 15 rfl (D.g 16 rfl (D.g 17 rfl (D.g 18 rfl (D.m 19 rfl (D.m 20 rfl (D.g 21 rfl ?_)))))))))))
           refine D.g 22 rfl (D.g 23 rfl (D.g 24 rfl (D.g 25 rfl (D.g 26 rfl (D.g 27 rfl (D.g 28 rfl (D.g 29 rfl (D.m 30 rfl (D.m 31 rfl (D.g 32 rfl (D.g 33 rfl ?_)))))))))))
           refine D.g 34 rfl (D.g 35 rfl (D.g 36 rfl (D.g 37 rfl (D.g 38 rfl (D.g 39 rfl (D.g 40 rfl (D.m 41 rfl (D.done hwf rfl (X.next (V.condF rfl (V.skip ?_)))))))))))
           exact X.blockNormal (X.next (V.region (O.m rfl (O.q rfl (Pu.add64 (r := ((k + 1 : Nat) : Int)) rfl (by omega) rfl rfl rfl) (O.m rfl (O.nil (X.back3 (blocksA, blocksc, blocks, k + 1) (by (try dsimp only); exact ⟨by omega, (by first | exact hgb | exact good_snoc hgb (hg _ (List.getElem_mem _))), (by first | omega | (simp only [List.length_append, List.length_singleton]; omega))⟩) (by first | omega | (dsimp only; omega)) (Ent.cons rfl (Ent.cons rfl (Ent.nil _))) (Ent.cons (t := 3) rfl (Ent.cons (t := 4) rfl (Ent.cons (t := 5) rfl (Ent.cons (t := 6) rfl (Ent.cons (t := 7) rfl (Ent.cons (t := 8) rfl (Ent.cons (t := 14) rfl (Ent.nil _)))))))) (Sub.k (Sub.k (Sub.k (Sub.k (Sub.k (Sub.k (Sub.k (Sub.refl _)))))))))))))))
         ·refine V.exit (X.thenExit (X.thenExit (X.blockHit (X.next (V.seq (V.region (O.q rfl (Pu.fieldAddr 0 rfl Tryz.underlying26 rfl sz2 rfl rfl) (O.q rfl (Pu.load rfl pl2 rfl (Ld.blk 5 rfl rfl)) (O.m rfl (O.f rfl (Ef.call1 call45 rfl rfl (fun w hw => l01Made_ok  v blocks _ _ w ((Ld.own 0 (by exact rfl)) w hw) (by first | omega | (simp only [List.length_append, List.length_cons, List.length_nil, List.length_take, List.length_drop]; omega)) (by first | omega | (simp only [List.length_append, List.length_cons, List.length_nil, List.length_take, List.length_drop]; omega)))) ?_))))))))))
          rintro _ _ rfl
          refine O.exi (fun r2A => O.exi (fun r2c => O.exi (fun r2 => O.sep (O.pur ?_))))
          rintro ⟨rfl, hr2_1, hr2_2⟩
          refine O.s rfl rfl (Ef.storeAll 5 rfl sz26 rfl rfl rfl rfl (by simp [Value.oneCell']) rfl) ?_
          rintro _ _ rfl
          exact O.nil (X.next (V.ret (X.blockRet (X.thenRet (X.thenRet (X.blockRet (X.thenRet (X.retCell rfl ag26 sz26 rfl rfl (Ld.whole 5 rfl) (RetM.map (fun w hw => St.trd_new (hw.sub (Sub.keep 7 rfl (Sub.k (Sub.keep 3 rfl (Sub.drop (Sub.drop (Sub.drop (Sub.drop (Sub.drop (Sub.refl _))))))))))) (fun w hw => St.mkExi r2A (St.mkExi r2c (St.mkExi r2 (St.unsep (St.addPur ⟨rfl, DrS.perm ⟨hv, hgb, by omega⟩ hr2_1⟩ (St.unsep (hw.sub (Sub.k (Sub.k (Sub.refl _)))))))))))))))))))
 ·refine V.exit (X.thenExit (X.thenExit (X.blockHit (X.next (V.seq (V.region (O.q rfl (Pu.loadAgg rfl ag26 sz26 rfl rfl (Ld.whole 3 rfl)) (O.s rfl rfl (Ef.storeAll 2 rfl sz26 rfl rfl rfl rfl (by simp [Value.oneCell']) rfl) ?_))))))))
  rintro _ _ rfl
  exact O.nil (X.next (V.ret (X.retCell rfl ag26 sz26 rfl rfl (Ld.whole 2 rfl) (fun w hw => St.mkExi A (St.mkExi c (St.mkExi bs (St.unsep (St.addPur ⟨rfl, hD.mono (by omega)⟩ (St.unsep (hw.sub (Sub.keep 4 rfl (Sub.keep 1 rfl (Sub.drop (Sub.drop (Sub.drop (Sub.refl _))))))))))))))))
end Go.Proofs.YtoeldiaidjnibaaGreat
