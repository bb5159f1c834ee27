/-
  Contracts, part 10.
-/
import Derived.Test.YtgjfcepnkllklaaGreatKb9
set_option linter.unusedVariables false
set_option linter.unusedSimpArgs false
namespace Go.Proofs.YtgjfcepnkllklaaGreat
open Go Go.RowKit Go.Vc Go.Proofs
set_option maxRecDepth 100000 in
set_option maxHeartbeats 1000000 in
theorem firstCompletion_ok (v : Int) (bs : List B3) (A : Option Addr) (c : Nat) (w : World) (hx : Rd B3C w A bs) (lx : bs.length ≤ 4611686018427387904) : Does Tryz.prog 52 [.agg #[.int .i64 v, .slice A bs.length c]] w [] (fun rv_ => [.exi fun (rA : Option Addr) => .exi fun (rc : Nat) => .exi fun (r : List B3) => .sep (.pur (rv_ = .tuple #[.agg #[.int .i64 (if fcC v bs = 0 then v else 0), .slice rA r.length rc], .int .i64 (fcC v bs)] ∧ (fcC v bs = 0 → FstC v bs r))) (Own 51 B3C rA rc r)]) := by
  refine Does.enter Tryz.func52 rfl rfl [(0, .agg #[.int .i64 v, .slice A bs.length c])] rfl ?_
  refine V.seq ?_
  refine V.region ?_
  refine O.e rfl rfl rfl (Ef.box rfl rfl rfl) ?_
  rintro _ _ ⟨b1, rfl, rfl⟩
  refine O.e rfl rfl rfl (Ef.alloc rfl zr26 rfl) ?_
  rintro _ _ ⟨b2, rfl, rfl⟩
  refine O.p rfl rfl rfl (Pu.assign rfl rfl) ?_
  refine O.nil ?_
  refine X.next ?_
  refine V.seq ?_
  refine V.region ?_
  refine O.p rfl rfl rfl (Pu.loadAgg rfl ag26 sz26 rfl rfl (Ld.whole 1 rfl)) ?_
  refine O.e rfl rfl rfl (Ef.call1 call120 rfl rfl (fun w hw => completions_ok  v bs 1 _ _ w ((Ld.old hx) w hw) (by first | omega | (simp only [tops_len, conts_len, bl, List.length_append, List.length_cons, List.length_nil] at *; omega)) (by first | assumption | omega | (try dsimp only at *; omega)) (by first | assumption | omega | (try dsimp only at *; omega)))) ?_
  rintro _ _ rfl
  refine O.exi (fun r1A => ?_)
  refine O.exi (fun r1c => ?_)
  refine O.exi (fun r1 => ?_)
  refine O.sep ?_
  refine O.pur ?_
  rintro ⟨rfl, hr1_1, hr1_2⟩
  refine O.sep ?_
  refine O.fact (RowsA.len 1 rfl) (fun hn_r1 => ?_)
  have htl_r1 := tops_len r1
  have hclr1 := conts_len r1
  have hln := comps_len (by decide) hr1_1 hr1_2 hclr1
  have htlr1 := tops_len r1
  have hcb := cp_bd v bs
  refine O.p rfl rfl rfl (Pu.move rfl rfl) ?_
  refine O.p rfl rfl rfl (Pu.extract rfl rfl rfl) ?_
  refine O.p rfl rfl rfl (Pu.extract rfl rfl rfl) ?_
  refine O.p rfl rfl rfl (Pu.assign rfl rfl) ?_
  refine O.p rfl rfl rfl (Pu.assign rfl rfl) ?_
  refine O.nil ?_
  refine X.next ?_
  refine V.seq ?_
  refine V.block ?_
  refine V.seq ?_
  refine V.region ?_
  refine O.p rfl rfl rfl (Pu.move rfl rfl) ?_
  refine O.p rfl rfl rfl (Pu.neq rfl rfl rfl) ?_
  refine O.p rfl rfl rfl (Pu.assign rfl rfl) ?_
  refine O.nil ?_
  refine X.next ?_
  refine V.condNot rfl (fun c1 => ?_) (fun c1 => ?_)
  · skip
    refine V.seq ?_
    refine V.region ?_
    refine O.p rfl rfl rfl (Pu.buildS (cs := [.int .i64 (0 : Int), .slice none 0 0]) rfl rfl Tryz.underlying26 zr26 (by kernel_rfl) rfl (by kernel_rfl)) ?_
    refine O.p rfl rfl rfl (Pu.move rfl rfl) ?_
    refine O.s rfl rfl (Ef.storeAll 2 rfl sz26 rfl rfl rfl rfl (by simp [Value.oneCell']) rfl) ?_
    rintro _ _ rfl
    refine O.p rfl rfl rfl (Pu.assign rfl rfl) ?_
    refine O.nil ?_
    refine X.next ?_
    refine V.ret ?_
    refine X.blockRet ?_
    refine X.thenRet ?_
    refine X.retCell2 rfl ag26 sz26 rfl rfl rfl (Ld.whole 2 rfl) ?_
    exact fun w hw => St.mkExi none (St.mkExi 0 (St.mkExi [] (St.unsep (St.addPur ⟨(by rw [fc_bad c1, if_neg c1]; try rfl), fun h => absurd ((fc_bad c1) ▸ h) c1⟩ (St.addNil (T := 51) (C := B3C) (hw.sub (Sub.nil _)))))))
  · skip
    have hc0 : cpC v bs = 0 := by omega
    rw [if_pos hc0] at hln
    refine V.seq ?_
    refine V.region ?_
    refine O.p rfl rfl rfl (Pu.move rfl rfl) ?_
    refine O.p rfl rfl rfl (Pu.len rfl Tryz.underlying95 rfl) ?_
    refine O.p rfl rfl rfl (Pu.eql rfl rfl rfl) ?_
    refine O.p rfl rfl rfl (Pu.assign rfl rfl) ?_
    refine O.nil ?_
    refine X.next ?_
    refine V.condD rfl (fun c2 => ?_) (fun c2 => ?_)
    · skip
      refine V.seq ?_
      refine V.region ?_
      refine O.p rfl rfl rfl (Pu.buildS (cs := [.int .i64 (0 : Int), .slice none 0 0]) rfl rfl Tryz.underlying26 zr26 (by kernel_rfl) rfl (by kernel_rfl)) ?_
      refine O.s rfl rfl (Ef.storeAll 2 rfl sz26 rfl rfl rfl rfl (by simp [Value.oneCell']) rfl) ?_
      rintro _ _ rfl
      refine O.p rfl rfl rfl (Pu.assign rfl rfl) ?_
      refine O.nil ?_
      refine X.next ?_
      refine V.ret ?_
      refine X.blockRet ?_
      refine X.thenRet ?_
      refine X.retCell2 rfl ag26 sz26 rfl rfl rfl (Ld.whole 2 rfl) ?_
      exact fun w hw => St.mkExi none (St.mkExi 0 (St.mkExi [] (St.unsep (St.addPur ⟨(by rw [fc_4 hc0 (by omega)]; try rfl), fun h => by rw [fc_4 hc0 (by omega)] at h; exact absurd h (by decide)⟩ (St.addNil (T := 51) (C := B3C) (hw.sub (Sub.nil _)))))))
    · skip
      refine V.skip ?_
      refine X.blockNormal ?_
      refine X.next ?_
      refine V.seq ?_
      refine V.region ?_
      refine O.p rfl rfl rfl (Pu.move rfl rfl) ?_
      refine O.p rfl rfl rfl (Pu.indexAddrS (0) rfl Tryz.underlying95 sz26 rfl rfl (by omega) (by omega) (fun w hw => Own.some hw (i := 0) (by exact rfl) (by omega))) ?_
      have e1 : 0 < r1.length := by have := tops_len r1; omega
      refine O.p rfl rfl rfl (Pu.loadAgg' (v := .agg #[.int .i64 v, .slice (r1[0]'e1).1.A (r1[0]'e1).2.length (r1[0]'e1).1.c]) rfl rfl ag26 sz26 rfl rfl (Ld.rowY (Ld.own 0 (by exact rfl)) hn_r1 e1 rfl)) ?_
      refine O.s rfl rfl (Ef.storeAll 2 rfl sz26 rfl rfl rfl rfl (by simp [Value.oneCell']) rfl) ?_
      rintro _ _ rfl
      refine O.p rfl rfl rfl (Pu.assign rfl rfl) ?_
      refine O.nil ?_
      refine X.next ?_
      refine V.ret ?_
      refine X.retCell2 rfl ag26 sz26 rfl rfl rfl (Ld.whole 2 rfl) ?_
      refine St.mapR (fun w hw => RowsA.out (T := 51) (C := B3C) (ps := r1) (k := 0) (by omega) (hw.perm (pull_perm (i := 1) rfl))) ?_
      exact fun w hw => St.mkExi ((r1[0]).1.A) (St.mkExi ((r1[0]).1.c) (St.mkExi ((r1[0]).2) (St.unsep (St.addPur ⟨(by rw [fc_0 hc0 (by omega), if_pos rfl]), fun _ => by have hf := fst_of (hr1_1 hc0) (by omega); rwa [conts_get] at hf⟩ (hw.sub (Sub.keep 0 rfl (Sub.nil _)))))))
set_option maxRecDepth 100000 in
set_option maxHeartbeats 1000000 in
theorem countCompletions_ok (v : Int) (bs : List B3) (A : Option Addr) (c : Nat) (w : World) (hx : Rd B3C w A bs) (lx : bs.length ≤ 4611686018427387904) : Does Tryz.prog 54 [.agg #[.int .i64 v, .slice A bs.length c]] w [] (fun r => [.exi fun (n : Nat) => .pur (r = .tuple #[.int .i64 (n : Int), .int .i64 (cpC v bs)] ∧ (cpC v bs = 0 → n = min 1073741824 (cmpl v bs).length))]) := by
  refine Does.enter Tryz.func54 rfl rfl [(0, .agg #[.int .i64 v, .slice A bs.length c])] rfl ?_
  refine V.seq ?_
  refine V.region ?_
  refine O.e rfl rfl rfl (Ef.box rfl rfl rfl) ?_
  rintro _ _ ⟨b1, rfl, rfl⟩
  refine O.p rfl rfl rfl (Pu.assign rfl rfl) ?_
  refine O.p rfl rfl rfl (Pu.assign rfl rfl) ?_
  refine O.nil ?_
  refine X.next ?_
  refine V.seq ?_
  refine V.region ?_
  refine O.p rfl rfl rfl (Pu.loadAgg rfl ag26 sz26 rfl rfl (Ld.whole 0 rfl)) ?_
  refine O.e rfl rfl rfl (Ef.call1 call120 rfl rfl (fun w hw => completions_ok  v bs 1073741824 _ _ w ((Ld.old hx) w hw) (by first | omega | (simp only [tops_len, conts_len, bl, List.length_append, List.length_cons, List.length_nil] at *; omega)) (by first | assumption | omega | (try dsimp only at *; omega)) (by first | assumption | omega | (try dsimp only at *; omega)))) ?_
  rintro _ _ rfl
  refine O.exi (fun r1A => ?_)
  refine O.exi (fun r1c => ?_)
  refine O.exi (fun r1 => ?_)
  refine O.sep ?_
  refine O.pur ?_
  rintro ⟨rfl, hr1_1, hr1_2⟩
  refine O.sep ?_
  refine O.fact (RowsA.len 1 rfl) (fun hn_r1 => ?_)
  have htl_r1 := tops_len r1
  have hclr1 := conts_len r1
  have hln := comps_len (by decide) hr1_1 hr1_2 hclr1
  have htlr1 := tops_len r1
  have hcb := cp_bd v bs
  refine O.p rfl rfl rfl (Pu.move rfl rfl) ?_
  refine O.p rfl rfl rfl (Pu.extract rfl rfl rfl) ?_
  refine O.p rfl rfl rfl (Pu.extract rfl rfl rfl) ?_
  refine O.p rfl rfl rfl (Pu.assign rfl rfl) ?_
  refine O.p rfl rfl rfl (Pu.assign rfl rfl) ?_
  refine O.nil ?_
  refine X.next ?_
  refine V.seq ?_
  refine V.region ?_
  refine O.p rfl rfl rfl (Pu.move rfl rfl) ?_
  refine O.p rfl rfl rfl (Pu.len rfl Tryz.underlying95 rfl) ?_
  refine O.p rfl rfl rfl (Pu.move rfl rfl) ?_
  refine O.p rfl rfl rfl (Pu.assign rfl rfl) ?_
  refine O.p rfl rfl rfl (Pu.assign rfl rfl) ?_
  refine O.nil ?_
  refine X.next ?_
  refine V.ret ?_
  refine X.ret2 rfl rfl rfl ?_
  exact fun w hw => St.mkExi ((tops r1).length) (St.addPur ⟨rfl, fun h => by rw [if_pos h] at hln; omega⟩ (hw.sub (Sub.nil _)))
set_option maxRecDepth 100000 in
set_option maxHeartbeats 1000000 in
theorem implMissing_ok (v : Int) (bs : List B3) (A : Option Addr) (c : Nat) (w : World) (hx : Rd B3C w A bs) (lx : bs.length ≤ 4611686018427387904) : Does Tryz.prog 43 [.agg #[.int .i64 v, .slice A bs.length c]] w [] (fun r => [.pur (r = .tuple #[.int .i64 (if mnC v bs = 0 then missN v bs else 0), .int .i64 (mnC v bs)])]) := by
  refine Does.enter Tryz.func43 rfl rfl [(0, .agg #[.int .i64 v, .slice A bs.length c])] rfl ?_
  refine V.seq ?_
  refine V.region ?_
  refine O.e rfl rfl rfl (Ef.box rfl rfl rfl) ?_
  rintro _ _ ⟨b1, rfl, rfl⟩
  refine O.p rfl rfl rfl (Pu.assign rfl rfl) ?_
  refine O.p rfl rfl rfl (Pu.assign rfl rfl) ?_
  refine O.nil ?_
  refine X.next ?_
  refine V.seq ?_
  refine V.seq ?_
  refine V.region ?_
  refine O.p rfl rfl rfl (Pu.loadAgg rfl ag26 sz26 rfl rfl (Ld.whole 0 rfl)) ?_
  refine O.e rfl rfl rfl (Ef.callP call77 rfl rfl (fun w hw => IsSystem_ok _ bs _ _ w ((Ld.old hx) w hw) (by omega))) ?_
  rintro _ _ ⟨rfl, rfl⟩
  refine O.p rfl rfl rfl (Pu.not rfl rfl) ?_
  refine O.nil ?_
  refine X.next ?_
  refine V.condNot rfl (fun c1 => ?_) (fun c1 => ?_)
  · skip
    refine V.seq ?_
    refine V.region ?_
    refine O.p rfl rfl rfl (Pu.assign rfl rfl) ?_
    refine O.p rfl rfl rfl (Pu.assign rfl rfl) ?_
    refine O.nil ?_
    refine X.next ?_
    refine V.ret ?_
    refine X.thenRet ?_
    refine X.ret2 rfl rfl rfl ?_
    exact fun w hw => St.addPur (by rw [mn_1 c1]; rfl) (hw.sub (Sub.nil _))
  · skip
    have hlo := c1.lo
    have hhi := c1.hi
    have hfw := c1.few
    refine V.skip ?_
    refine X.next ?_
    refine V.seq ?_
    refine V.region ?_
    refine O.p rfl rfl rfl (Pu.loadAgg rfl ag26 sz26 rfl rfl (Ld.whole 0 rfl)) ?_
    refine O.e rfl rfl rfl (Ef.callP call123 rfl rfl (fun w hw => missing_ok  v bs _ _ w ((Ld.old hx) w hw) (by first | omega | (simp only [tops_len, conts_len, bl, List.length_append, List.length_cons, List.length_nil] at *; omega)) (by first | assumption | omega | (try dsimp only at *; omega)))) ?_
    rintro _ _ ⟨rfl, rfl⟩
    refine O.p rfl rfl rfl (Pu.extract rfl rfl rfl) ?_
    refine O.p rfl rfl rfl (Pu.extract rfl rfl rfl) ?_
    refine O.p rfl rfl rfl (Pu.assign rfl rfl) ?_
    refine O.p rfl rfl rfl (Pu.assign rfl rfl) ?_
    refine O.nil ?_
    refine X.next ?_
    refine V.ret ?_
    refine X.ret2 rfl rfl rfl ?_
    exact fun w hw => St.addPur (by by_cases h : told v; (· rw [mn_0 c1 h, if_pos h, if_pos h]; rfl); (· rw [mn_5 c1 h, if_neg h, if_neg h]; rfl)) (hw.sub (Sub.nil _))
set_option maxRecDepth 100000 in
set_option maxHeartbeats 1000000 in
theorem triples_ok (v_ : Int) (p : B3 → Prop) [DecidablePred p] (gf : Nat) (recv : Value) (w : World) (hv : 0 ≤ v_ ∧ v_ ≤ 15) (hok : CallOk Tryz.prog gf) (hf : ∀ (q : B3) w', good v_ q → Bel w.heap.size w w' → Does Tryz.prog gf [recv, B3.v q] w' [] (fun v => [.pur (v = .bool (decide (p q)))])) : Does Tryz.prog 214 [.int .i64 v_, .func (.func gf) #[recv] #[]] w [] (fun rv_ => [.exi fun (rA : Option Addr) => .exi fun (rc : Nat) => .exi fun (r : List B3) => .sep (.pur (rv_ = .slice rA r.length rc ∧ r = triA p v_.toNat v_.toNat ∧ r.length ≤ 3375)) (Own 51 B3C rA rc r)]) := by
  refine Does.enter Tryz.func214 rfl rfl [(0, .int .i64 v_), (1, .func (.func gf) #[recv] #[])] rfl ?_
  refine V.seq ?_
  refine V.region ?_
  refine O.p rfl rfl rfl (Pu.assign rfl rfl) ?_
  refine O.nil ?_
  refine X.next ?_
  refine V.seq ?_
  refine V.region ?_
  refine O.p rfl rfl rfl (Pu.assign rfl rfl) ?_
  refine O.nil ?_
  refine X.next ?_
  refine V.seq ?_
  refine V.seq ?_
  refine V.region ?_
  refine O.p rfl rfl rfl (Pu.move rfl rfl) ?_
  refine O.p rfl rfl rfl (Pu.move rfl rfl) ?_
  refine O.nil ?_
  refine X.next ?_
  refine V.block ?_
  refine V.map (fun w hw => St.addNil (T := 51) (C := B3C) hw) ?_
  refine V.loop2 (β := (Option Addr) × Nat × (List B3) × Nat) (fun x => [(5, .slice x.1 x.2.2.1.length x.2.1), (10, .int .i64 (x.2.2.2 : Int))]) _ (fun x => [Own 51 B3C x.1 x.2.1 x.2.2.1]) (fun x => x.2.2.2 ≤ v_.toNat ∧ x.2.2.1 = triA p v_.toNat x.2.2.2 ∧ x.2.2.1.length ≤ 225 * x.2.2.2) (fun x => v_.toNat - x.2.2.2) (none, 0, [], 0) (by (try dsimp only); exact ⟨by omega, rfl, by simp⟩) (Ent.cons rfl (Ent.cons rfl (Ent.nil _))) (Ent.cons (t := 0) rfl (Ent.cons (t := 1) rfl (Ent.cons (t := 9) rfl (Ent.nil _)))) (Sub.keep 0 rfl (Sub.nil _)) ?_
  rintro ⟨z0A, z0c, z0, a⟩ ⟨ha, ho, hl⟩
  dsimp only at ha ho hl ⊢
  refine V.seq ?_
  refine V.region ?_
  refine O.p rfl rfl rfl (Pu.lss rfl rfl rfl) ?_
  refine O.nil ?_
  refine X.next ?_
  refine V.seq ?_
  refine V.condD rfl (fun c1 => ?_) (fun c1 => ?_)
  · skip
    refine V.skip ?_
    refine X.next ?_
    refine V.seq ?_
    refine V.block ?_
    refine V.seq ?_
    refine V.region ?_
    refine O.p rfl rfl rfl (Pu.move rfl rfl) ?_
    refine O.p rfl rfl rfl (Pu.assign rfl rfl) ?_
    refine O.nil ?_
    refine X.next ?_
    refine V.seq ?_
    refine V.region ?_
    refine O.p rfl rfl rfl (Pu.move rfl rfl) ?_
    refine O.p rfl rfl rfl (Pu.add64 (r := ((a + 1 : Nat) : Int)) rfl (by omega) rfl rfl rfl) ?_
    refine O.p rfl rfl rfl (Pu.assign rfl rfl) ?_
    refine O.nil ?_
    refine X.next ?_
    refine V.block ?_
    refine V.loop2 (β := (Option Addr) × Nat × (List B3) × Nat) (fun x => [(5, .slice x.1 x.2.2.1.length x.2.1), (7, .int .i64 (x.2.2.2 : Int))]) _ (fun x => [Own 51 B3C x.1 x.2.1 x.2.2.1]) (fun x => a < x.2.2.2 ∧ (x.2.2.2 ≤ v_.toNat ∨ x.2.2.2 = a + 1) ∧ x.2.2.1 = z0 ++ triB p v_.toNat a x.2.2.2 ∧ x.2.2.1.length ≤ 225 * a + 15 * (x.2.2.2 - a - 1)) (fun x => v_.toNat - x.2.2.2) (z0A, z0c, z0, a + 1) (by (try dsimp only); exact ⟨by omega, .inr rfl, by rw [triB_low _ (by omega), List.append_nil], by omega⟩) (Ent.cons rfl (Ent.cons rfl (Ent.nil _))) (Ent.cons (t := 0) rfl (Ent.cons (t := 1) rfl (Ent.cons (t := 6) rfl (Ent.cons (t := 9) rfl (Ent.cons (t := 10) rfl (Ent.nil _)))))) (Sub.keep 0 rfl (Sub.nil _)) ?_
    rintro ⟨z1A, z1c, z1, b⟩ ⟨hab, hb, ho2, hl2⟩
    dsimp only at hab hb ho2 hl2 ⊢
    refine V.seq ?_
    refine V.seq ?_
    refine V.region ?_
    refine O.p rfl rfl rfl (Pu.move rfl rfl) ?_
    refine O.p rfl rfl rfl (Pu.move rfl rfl) ?_
    refine O.p rfl rfl rfl (Pu.lss rfl rfl rfl) ?_
    refine O.nil ?_
    refine X.next ?_
    refine V.condD rfl (fun c2 => ?_) (fun c2 => ?_)
    · skip
      refine V.skip ?_
      refine X.next ?_
      refine V.seq ?_
      refine V.block ?_
      refine V.seq ?_
      refine V.region ?_
      refine O.p rfl rfl rfl (Pu.move rfl rfl) ?_
      refine O.p rfl rfl rfl (Pu.add64 (r := ((b + 1 : Nat) : Int)) rfl (by omega) rfl rfl rfl) ?_
      refine O.p rfl rfl rfl (Pu.assign rfl rfl) ?_
      refine O.nil ?_
      refine X.next ?_
      refine V.block ?_
      refine V.loop2 (β := (Option Addr) × Nat × (List B3) × Nat) (fun x => [(5, .slice x.1 x.2.2.1.length x.2.1), (8, .int .i64 (x.2.2.2 : Int))]) _ (fun x => [Own 51 B3C x.1 x.2.1 x.2.2.1]) (fun x => b < x.2.2.2 ∧ (x.2.2.2 ≤ v_.toNat ∨ x.2.2.2 = b + 1) ∧ x.2.2.1 = z1 ++ triC p a b x.2.2.2 ∧ x.2.2.1.length ≤ 225 * a + 15 * (b - a - 1) + (x.2.2.2 - b - 1)) (fun x => v_.toNat - x.2.2.2) (z1A, z1c, z1, b + 1) (by (try dsimp only); exact ⟨by omega, .inr rfl, by rw [triC_low _ (by omega), List.append_nil], by omega⟩) (Ent.cons rfl (Ent.cons rfl (Ent.nil _))) (Ent.cons (t := 0) rfl (Ent.cons (t := 1) rfl (Ent.cons (t := 6) rfl (Ent.cons (t := 7) rfl (Ent.cons (t := 9) rfl (Ent.cons (t := 10) rfl (Ent.nil _))))))) (Sub.keep 0 rfl (Sub.nil _)) ?_
      rintro ⟨z2A, z2c, z2, e⟩ ⟨hbe, he, ho3, hl3⟩
      dsimp only at hbe he ho3 hl3 ⊢
      refine V.seq ?_
      refine V.seq ?_
      refine V.region ?_
      refine O.p rfl rfl rfl (Pu.move rfl rfl) ?_
      refine O.p rfl rfl rfl (Pu.move rfl rfl) ?_
      refine O.p rfl rfl rfl (Pu.lss rfl rfl rfl) ?_
      refine O.nil ?_
      refine X.next ?_
      refine V.condD rfl (fun c3 => ?_) (fun c3 => ?_)
      · skip
        refine V.skip ?_
        refine X.next ?_
        refine V.seq ?_
        refine V.block ?_
        refine V.seq ?_
        refine V.region ?_
        refine O.p rfl rfl rfl (Pu.move rfl rfl) ?_
        refine O.p rfl rfl rfl (Pu.move rfl rfl) ?_
        refine O.p rfl rfl rfl (Pu.move rfl rfl) ?_
        refine O.p rfl rfl rfl (Pu.move rfl rfl) ?_
        refine O.p rfl rfl rfl (Pu.buildA (cs := [.int .i64 (↑a : Int), .int .i64 (↑b : Int), .int .i64 (↑e : Int)]) (v := B3.v ((↑a : Int), (↑b : Int), (↑e : Int))) rfl rfl Tryz.underlying51 zr51 sz2 rfl (by kernel_rfl)) ?_
        refine O.e rfl rfl rfl (Ef.callPB hok rfl rfl rfl (fun w' hw => hf (b3N a b e) w' (by unfold good b3N; simp only; omega) hw.below)) ?_
        rintro _ _ ⟨rfl, rfl⟩
        refine O.nil ?_
        refine X.next ?_
        refine V.condD rfl (fun c4 => ?_) (fun c4 => ?_)
        · skip
          refine V.region ?_
          refine O.p rfl rfl rfl (Pu.move rfl rfl) ?_
          refine O.p rfl rfl rfl (Pu.move rfl rfl) ?_
          refine O.p rfl rfl rfl (Pu.move rfl rfl) ?_
          refine O.p rfl rfl rfl (Pu.move rfl rfl) ?_
          refine O.p rfl rfl rfl (Pu.buildA (cs := [.int .i64 (↑a : Int), .int .i64 (↑b : Int), .int .i64 (↑e : Int)]) (v := B3.v ((↑a : Int), (↑b : Int), (↑e : Int))) rfl rfl Tryz.underlying51 zr51 sz2 rfl (by kernel_rfl)) ?_
          refine O.e rfl rfl rfl (Ef.build B3C ([((↑a : Int), (↑b : Int), (↑e : Int))] : List B3) rfl Tryz.underlying24 inf51 rfl rfl rfl (by first | decide | (simp; done)) (by kernel_rfl)) ?_
          rintro _ _ ⟨A1, hA1, rfl, rfl⟩
          refine O.e rfl rfl rfl (Ef.append (xs := z2) (ys := ([((↑a : Int), (↑b : Int), (↑e : Int))] : List B3)) 1 rfl Tryz.underlying24 inf51 rfl rfl rfl rfl rfl rfl hA1 (Ld.own 0 (by exact rfl)) (by simp only [List.length_append, List.length_cons, List.length_nil] at *; omega) (by decide)) ?_
          rintro _ _ ⟨A2, k1, rfl, rfl, hA2⟩
          replace hA2 := hA2 (.inr (by simp))
          refine O.p rfl rfl rfl (Pu.assign rfl rfl) ?_
          refine O.nil ?_
          refine X.blockNormal ?_
          refine X.next ?_
          refine V.region ?_
          refine O.p rfl rfl rfl (Pu.move rfl rfl) ?_
          refine O.p rfl rfl rfl (Pu.add64 (r := ((e + 1 : Nat) : Int)) rfl (by omega) rfl rfl rfl) ?_
          refine O.p rfl rfl rfl (Pu.assign rfl rfl) ?_
          refine O.nil ?_
          exact X.back2 (A2, k1, (z2 ++ ([((↑a : Int), (↑b : Int), (↑e : Int))] : List B3)), e + 1) (by (try dsimp only); exact ⟨by omega, .inl (by omega), by rw [triC_yes hbe c4, ho3, List.append_assoc]; rfl, by simp only [List.length_append, List.length_cons, List.length_nil]; omega⟩) (by first | omega | (dsimp only; omega)) (Ent.cons rfl (Ent.cons rfl (Ent.nil _))) (Ent.cons (t := 0) rfl (Ent.cons (t := 1) rfl (Ent.cons (t := 6) rfl (Ent.cons (t := 7) rfl (Ent.cons (t := 9) rfl (Ent.cons (t := 10) rfl (Ent.nil _))))))) (Sub.keep 1 rfl (Sub.nil _))
        · skip
          refine V.skip ?_
          refine X.blockNormal ?_
          refine X.next ?_
          refine V.region ?_
          refine O.p rfl rfl rfl (Pu.move rfl rfl) ?_
          refine O.p rfl rfl rfl (Pu.add64 (r := ((e + 1 : Nat) : Int)) rfl (by omega) rfl rfl rfl) ?_
          refine O.p rfl rfl rfl (Pu.assign rfl rfl) ?_
          refine O.nil ?_
          exact X.back2 (z2A, z2c, z2, e + 1) (by (try dsimp only); exact ⟨by omega, .inl (by omega), by rw [triC_no c4, ho3], by omega⟩) (by first | omega | (dsimp only; omega)) (Ent.cons rfl (Ent.cons rfl (Ent.nil _))) (Ent.cons (t := 0) rfl (Ent.cons (t := 1) rfl (Ent.cons (t := 6) rfl (Ent.cons (t := 7) rfl (Ent.cons (t := 9) rfl (Ent.cons (t := 10) rfl (Ent.nil _))))))) (Sub.keep 0 rfl (Sub.nil _))
      · skip
        refine V.exit ?_
        refine X.thenExit ?_
        refine X.thenExit ?_
        refine X.blockHit ?_
        refine X.blockNormal ?_
        refine X.next ?_
        refine V.region ?_
        refine O.p rfl rfl rfl (Pu.move rfl rfl) ?_
        refine O.p rfl rfl rfl (Pu.add64 (r := ((b + 1 : Nat) : Int)) rfl (by omega) rfl rfl rfl) ?_
        refine O.p rfl rfl rfl (Pu.assign rfl rfl) ?_
        refine O.nil ?_
        exact X.back2 (z2A, z2c, z2, b + 1) (by (try dsimp only); exact ⟨by omega, .inl (by omega), by rw [triB_succ hab, ho3, ho2, List.append_assoc, triC_end (by omega) he], by omega⟩) (by first | omega | (dsimp only; omega)) (Ent.cons rfl (Ent.cons rfl (Ent.nil _))) (Ent.cons (t := 0) rfl (Ent.cons (t := 1) rfl (Ent.cons (t := 6) rfl (Ent.cons (t := 9) rfl (Ent.cons (t := 10) rfl (Ent.nil _)))))) (Sub.keep 0 rfl (Sub.nil _))
    · skip
      refine V.exit ?_
      refine X.thenExit ?_
      refine X.thenExit ?_
      refine X.blockHit ?_
      refine X.blockNormal ?_
      refine X.next ?_
      refine V.region ?_
      refine O.p rfl rfl rfl (Pu.add64 (r := ((a + 1 : Nat) : Int)) rfl (by omega) rfl rfl rfl) ?_
      refine O.p rfl rfl rfl (Pu.move rfl rfl) ?_
      refine O.nil ?_
      exact X.back2 (z1A, z1c, z1, a + 1) (by (try dsimp only); exact ⟨by omega, by rw [triA_succ, ho2, ho, triB_end (by omega) hb]; try rfl, by omega⟩) (by first | omega | (dsimp only; omega)) (Ent.cons rfl (Ent.cons rfl (Ent.nil _))) (Ent.cons (t := 0) rfl (Ent.cons (t := 1) rfl (Ent.cons (t := 9) rfl (Ent.nil _)))) (Sub.keep 0 rfl (Sub.nil _))
  · skip
    refine V.exit ?_
    refine X.thenExit ?_
    refine X.thenExit ?_
    refine X.blockHit ?_
    refine X.next ?_
    refine V.seq ?_
    refine V.region ?_
    refine O.p rfl rfl rfl (Pu.move rfl rfl) ?_
    refine O.p rfl rfl rfl (Pu.assign rfl rfl) ?_
    refine O.nil ?_
    refine X.next ?_
    refine V.ret ?_
    refine X.ret1 rfl rfl ?_
    exact fun w hw => St.mkExi z0A (St.mkExi z0c (St.mkExi z0 (St.unsep (St.addPur ⟨rfl, by rw [ho]; congr 1; omega, by omega⟩ (hw.sub (Sub.keep 0 rfl (Sub.nil _)))))))
set_option maxRecDepth 100000 in
set_option maxHeartbeats 1000000 in
theorem free_ok (v : Int) (bs : List B3) (A : Option Addr) (c : Nat) (w : World) (hx : Rd B3C w A bs) (lx : bs.length ≤ 4611686018427387904) (hS : STS v bs) : Does Tryz.prog 134 [.agg #[.int .i64 v, .slice A bs.length c]] w [] (fun rv_ => [.exi fun (rA : Option Addr) => .exi fun (rc : Nat) => .exi fun (r : List B3) => .sep (.pur (rv_ = .slice rA r.length rc ∧ r = freeL v bs ∧ r.length ≤ 3375)) (Own 51 B3C rA rc r)]) := by
  refine Does.enter Tryz.func134 rfl rfl [(0, .agg #[.int .i64 v, .slice A bs.length c])] rfl ?_
  have hlo := hS.lo
  have hhi := hS.hi
  have hfw := hS.few
  have hg : ∀ b ∈ bs, good 15 b := fun b h => (hS.good b h).mono hS.hi
  refine V.seq ?_
  refine V.region ?_
  refine O.e rfl rfl rfl (Ef.box rfl rfl rfl) ?_
  rintro _ _ ⟨b1, rfl, rfl⟩
  refine O.p rfl rfl rfl (Pu.assign rfl rfl) ?_
  refine O.nil ?_
  refine X.next ?_
  refine V.seq ?_
  refine V.ent (Ent.cons (t := 1) rfl (Ent.nil _)) ?_
  refine V.draw mo (by kernel_rfl) (fun hwf => ?_)
  refine D.p 0 rfl rfl rfl rfl rfl rfl (Pu.fieldAddr 0 rfl Tryz.underlying26 rfl sz2 rfl rfl) ?_
  refine D.p 1 rfl rfl rfl rfl rfl rfl (Pu.load rfl pl2 rfl (Ld.blk 0 rfl rfl)) ?_
  refine D.p 2 rfl rfl rfl rfl rfl rfl (Pu.loadAgg rfl ag26 sz26 rfl rfl (Ld.whole 0 rfl)) ?_
  refine D.eff hwf (e := 3) rfl rfl rfl rfl (Ef.call1 call96 rfl rfl (fun w hw => sysGrid_ok  v bs _ _ w ((Ld.old hx) w hw) (by first | omega | (simp only [tops_len, conts_len, bl, List.length_append, List.length_cons, List.length_nil] at *; omega)) hg hS.fits)) rfl rfl rfl ?_
  rintro _ _ rfl hs
  refine ⟨fun w hw => hs w hw.tail, ?_⟩
  refine D.exi (fun g1 => ?_)
  refine D.sep ?_
  refine D.pur1 ?_
  rintro rfl
  refine D.p 4 rfl rfl rfl rfl rfl rfl (Pu.makeBound rfl rfl rfl) ?_
  refine D.eff hwf (e := 5) rfl rfl rfl rfl (Ef.call1 call214 rfl rfl (fun w hw => triples_ok  v (isLeft (tab bs)) (215) _ w   (by omega) (call215) (fun q w' hq hb => isLeft_ok _ _ q w' ((GridAt.of (i := 0) hw (by exact rfl)).below hb) (by unfold good at hq; omega)))) rfl rfl rfl ?_
  rintro _ _ rfl hs
  refine ⟨fun w hw => hs w hw.tail, ?_⟩
  refine D.exi (fun r1A => ?_)
  refine D.exi (fun r1c => ?_)
  refine D.exi (fun r1 => ?_)
  refine D.sep ?_
  refine D.pur1 ?_
  rintro ⟨rfl, hr1_1, hr1_2⟩
  refine D.p 6 rfl rfl rfl rfl rfl rfl (Pu.assign rfl rfl) ?_
  refine D.done hwf rfl ?_
  refine X.next ?_
  refine V.ret ?_
  refine X.ret1 rfl rfl ?_
  exact fun w hw => St.mkExi r1A (St.mkExi r1c (St.mkExi r1 (St.unsep (St.addPur ⟨rfl, by rw [hr1_1]; exact free_left hhi hS, hr1_2⟩ (hw.sub (Sub.keep 0 rfl (Sub.nil _)))))))
set_option maxRecDepth 100000 in
set_option maxHeartbeats 1000000 in
theorem implStuck_ok (v : Int) (bs : List B3) (A : Option Addr) (c : Nat) (w : World) (hx : Rd B3C w A bs) (lx : bs.length ≤ 4611686018427387904) : Does Tryz.prog 49 [.agg #[.int .i64 v, .slice A bs.length c]] w [] (fun r => [.pur (r = .tuple #[.bool (decide (STS v bs ∧ freeL v bs = [])), .int .i64 (if STS v bs then 0 else 1)])]) := by
  refine Does.enter Tryz.func49 rfl rfl [(0, .agg #[.int .i64 v, .slice A bs.length c])] rfl ?_
  refine V.seq ?_
  refine V.region ?_
  refine O.e rfl rfl rfl (Ef.box rfl rfl rfl) ?_
  rintro _ _ ⟨b1, rfl, rfl⟩
  refine O.p rfl rfl rfl (Pu.assign rfl rfl) ?_
  refine O.p rfl rfl rfl (Pu.assign rfl rfl) ?_
  refine O.nil ?_
  refine X.next ?_
  refine V.seq ?_
  refine V.seq ?_
  refine V.region ?_
  refine O.p rfl rfl rfl (Pu.loadAgg rfl ag26 sz26 rfl rfl (Ld.whole 0 rfl)) ?_
  refine O.e rfl rfl rfl (Ef.callP call77 rfl rfl (fun w hw => IsSystem_ok _ bs _ _ w ((Ld.old hx) w hw) (by omega))) ?_
  rintro _ _ ⟨rfl, rfl⟩
  refine O.p rfl rfl rfl (Pu.not rfl rfl) ?_
  refine O.nil ?_
  refine X.next ?_
  refine V.condNot rfl (fun c1 => ?_) (fun c1 => ?_)
  · skip
    refine V.seq ?_
    refine V.region ?_
    refine O.p rfl rfl rfl (Pu.assign rfl rfl) ?_
    refine O.p rfl rfl rfl (Pu.assign rfl rfl) ?_
    refine O.nil ?_
    refine X.next ?_
    refine V.ret ?_
    refine X.thenRet ?_
    refine X.ret2 rfl rfl rfl ?_
    exact fun w hw => St.addPur (by rw [if_neg c1]; simp [c1]) (hw.sub (Sub.nil _))
  · skip
    refine V.skip ?_
    refine X.next ?_
    refine V.seq ?_
    refine V.region ?_
    refine O.p rfl rfl rfl (Pu.loadAgg rfl ag26 sz26 rfl rfl (Ld.whole 0 rfl)) ?_
    refine O.e rfl rfl rfl (Ef.call1 call134 rfl rfl (fun w hw => free_ok  v bs _ _ w ((Ld.old hx) w hw) (by first | omega | (simp only [tops_len, conts_len, bl, List.length_append, List.length_cons, List.length_nil] at *; omega)) (by first | assumption | omega | (try dsimp only at *; omega)))) ?_
    rintro _ _ rfl
    refine O.exi (fun r1A => ?_)
    refine O.exi (fun r1c => ?_)
    refine O.exi (fun r1 => ?_)
    refine O.sep ?_
    refine O.pur ?_
    rintro ⟨rfl, hr1_1, hr1_2⟩
    refine O.p rfl rfl rfl (Pu.len rfl Tryz.underlying24 rfl) ?_
    refine O.p rfl rfl rfl (Pu.eql rfl rfl rfl) ?_
    refine O.p rfl rfl rfl (Pu.assign rfl rfl) ?_
    refine O.p rfl rfl rfl (Pu.assign rfl rfl) ?_
    refine O.nil ?_
    refine X.next ?_
    refine V.ret ?_
    refine X.ret2 rfl rfl rfl ?_
    exact fun w hw => St.addPur (by rw [if_pos c1, hr1_1]; simp [c1]) (hw.sub (Sub.nil _))
set_option maxRecDepth 100000 in
set_option maxHeartbeats 1000000 in
theorem freeBlocks_ok (v : Int) (bs : List B3) (A : Option Addr) (c : Nat) (w : World) (hx : Rd B3C w A bs) (lx : bs.length ≤ 4611686018427387904) : Does Tryz.prog 51 [.agg #[.int .i64 v, .slice A bs.length c]] w [] (fun rv_ => [.exi fun (rA : Option Addr) => .exi fun (rc : Nat) => .exi fun (r : List B3) => .sep (.pur (rv_ = .tuple #[.slice rA r.length rc, .int .i64 (if STS v bs then 0 else 1)] ∧ (STS v bs → r = freeL v bs) ∧ r.length ≤ 3375)) (Own 51 B3C rA rc r)]) := by
  refine Does.enter Tryz.func51 rfl rfl [(0, .agg #[.int .i64 v, .slice A bs.length c])] rfl ?_
  refine V.seq ?_
  refine V.region ?_
  refine O.e rfl rfl rfl (Ef.box rfl rfl rfl) ?_
  rintro _ _ ⟨b1, rfl, rfl⟩
  refine O.p rfl rfl rfl (Pu.assign rfl rfl) ?_
  refine O.p rfl rfl rfl (Pu.assign rfl rfl) ?_
  refine O.nil ?_
  refine X.next ?_
  refine V.seq ?_
  refine V.seq ?_
  refine V.region ?_
  refine O.p rfl rfl rfl (Pu.loadAgg rfl ag26 sz26 rfl rfl (Ld.whole 0 rfl)) ?_
  refine O.e rfl rfl rfl (Ef.callP call77 rfl rfl (fun w hw => IsSystem_ok _ bs _ _ w ((Ld.old hx) w hw) (by omega))) ?_
  rintro _ _ ⟨rfl, rfl⟩
  refine O.p rfl rfl rfl (Pu.not rfl rfl) ?_
  refine O.nil ?_
  refine X.next ?_
  refine V.condNot rfl (fun c1 => ?_) (fun c1 => ?_)
  · skip
    refine V.seq ?_
    refine V.region ?_
    refine O.p rfl rfl rfl (Pu.assign rfl rfl) ?_
    refine O.p rfl rfl rfl (Pu.assign rfl rfl) ?_
    refine O.nil ?_
    refine X.next ?_
    refine V.ret ?_
    refine X.thenRet ?_
    refine X.ret2 rfl rfl rfl ?_
    exact fun w hw => St.mkExi none (St.mkExi 0 (St.mkExi [] (St.unsep (St.addPur ⟨(by rw [if_neg c1]; rfl), fun h => absurd h c1, by simp⟩ (St.addNil (T := 51) (C := B3C) (hw.sub (Sub.nil _)))))))
  · skip
    refine V.skip ?_
    refine X.next ?_
    refine V.seq ?_
    refine V.region ?_
    refine O.p rfl rfl rfl (Pu.loadAgg rfl ag26 sz26 rfl rfl (Ld.whole 0 rfl)) ?_
    refine O.e rfl rfl rfl (Ef.call1 call134 rfl rfl (fun w hw => free_ok  v bs _ _ w ((Ld.old hx) w hw) (by first | omega | (simp only [tops_len, conts_len, bl, List.length_append, List.length_cons, List.length_nil] at *; omega)) (by first | assumption | omega | (try dsimp only at *; omega)))) ?_
    rintro _ _ rfl
    refine O.exi (fun r1A => ?_)
    refine O.exi (fun r1c => ?_)
    refine O.exi (fun r1 => ?_)
    refine O.sep ?_
    refine O.pur ?_
    rintro ⟨rfl, hr1_1, hr1_2⟩
    refine O.p rfl rfl rfl (Pu.assign rfl rfl) ?_
    refine O.p rfl rfl rfl (Pu.assign rfl rfl) ?_
    refine O.nil ?_
    refine X.next ?_
    refine V.ret ?_
    refine X.ret2 rfl rfl rfl ?_
    exact fun w hw => St.mkExi r1A (St.mkExi r1c (St.mkExi r1 (St.unsep (St.addPur ⟨(by rw [if_pos c1]), fun _ => hr1_1, hr1_2⟩ (hw.sub (Sub.keep 0 rfl (Sub.nil _)))))))
set_option maxRecDepth 100000 in
set_option maxHeartbeats 1000000 in
theorem l08Missing_ok (v : Int) (bs : List B3) (A : Option Addr) (c : Nat) (w : World) (hx : Rd B3C w A bs) (lx : bs.length ≤ 4611686018427387904) (hS : STS v bs) : Does Tryz.prog 124 [.agg #[.int .i64 v, .slice A bs.length c]] w [] (fun r => [.pur (r = .tuple #[.int .i64 (missN v bs), .bool (decide (told v))])]) := by
  refine Does.enter Tryz.func124 rfl rfl [(0, .agg #[.int .i64 v, .slice A bs.length c])] rfl ?_
  have hlo := hS.lo
  have hhi := hS.hi
  have hfw := hS.few
  have hmul := sts_mul hS
  refine V.seq ?_
  refine V.region ?_
  refine O.e rfl rfl rfl (Ef.box rfl rfl rfl) ?_
  rintro _ _ ⟨b1, rfl, rfl⟩
  refine O.p rfl rfl rfl (Pu.assign rfl rfl) ?_
  refine O.p rfl rfl rfl (Pu.assign rfl rfl) ?_
  refine O.nil ?_
  refine X.next ?_
  refine V.seq ?_
  refine V.region ?_
  refine O.p rfl rfl rfl (Pu.fieldAddr 0 rfl Tryz.underlying26 rfl sz2 rfl rfl) ?_
  refine O.p rfl rfl rfl (Pu.load rfl pl2 rfl (Ld.blk 0 rfl rfl)) ?_
  refine O.p rfl rfl rfl (Pu.assign rfl rfl) ?_
  refine O.nil ?_
  refine X.next ?_
  refine V.seq ?_
  refine V.region ?_
  refine O.p rfl rfl rfl (Pu.move rfl rfl) ?_
  refine O.p rfl rfl rfl (Pu.move rfl rfl) ?_
  refine O.p rfl rfl rfl (Pu.sub64 rfl (by omega) rfl rfl rfl) ?_
  refine O.p rfl rfl rfl (Pu.mul64 rfl (by omega) rfl rfl rfl) ?_
  refine O.p rfl rfl rfl (Pu.quo64 (by omega) (by omega) (by omega) rfl rfl rfl) ?_
  refine O.p rfl rfl rfl (Pu.fieldAddr 1 rfl Tryz.underlying26 rfl sz24 rfl rfl) ?_
  refine O.p rfl rfl rfl (Pu.load rfl pl24 rfl (Ld.blk 0 rfl rfl)) ?_
  refine O.p rfl rfl rfl (Pu.len rfl Tryz.underlying24 rfl) ?_
  refine O.p rfl rfl rfl (Pu.sub64 rfl (by omega) rfl rfl rfl) ?_
  refine O.p rfl rfl rfl (Pu.move rfl rfl) ?_
  refine O.p rfl rfl rfl (Pu.eql rfl rfl rfl) ?_
  refine O.p rfl rfl rfl (Pu.move rfl rfl) ?_
  refine O.splitD 18 rfl (fun c1 => ?_) (fun c1 => ?_)
  · skip
    refine O.gs rfl rfl rfl rfl rfl rfl ?_
    refine O.gs rfl rfl rfl rfl rfl rfl ?_
    refine O.p rfl rfl rfl (Pu.pickT rfl rfl rfl) ?_
    refine O.p rfl rfl rfl (Pu.move rfl rfl) ?_
    refine O.gs rfl rfl rfl rfl rfl rfl ?_
    refine O.gs rfl rfl rfl rfl rfl rfl ?_
    refine O.p rfl rfl rfl (Pu.pickT rfl rfl rfl) ?_
    refine O.p rfl rfl rfl (Pu.move rfl rfl) ?_
    refine O.gs rfl rfl rfl rfl rfl rfl ?_
    refine O.gs rfl rfl rfl rfl rfl rfl ?_
    refine O.p rfl rfl rfl (Pu.pickT rfl rfl rfl) ?_
    refine O.p rfl rfl rfl (Pu.move rfl rfl) ?_
    refine O.gs rfl rfl rfl rfl rfl rfl ?_
    refine O.gs rfl rfl rfl rfl rfl rfl ?_
    refine O.p rfl rfl rfl (Pu.pickT rfl rfl rfl) ?_
    refine O.p rfl rfl rfl (Pu.assign rfl rfl) ?_
    refine O.p rfl rfl rfl (Pu.assign rfl rfl) ?_
    refine O.nil ?_
    refine X.next ?_
    refine V.ret ?_
    refine X.ret2 rfl rfl rfl ?_
    exact fun w hw => St.addPur (by unfold missN told; first | rfl | (simp; done) | simp_all) (hw.sub (Sub.nil _))
  · skip
    refine O.gp rfl rfl rfl rfl rfl (Pu.move rfl rfl) ?_
    refine O.gp rfl rfl rfl rfl rfl (Pu.eql rfl rfl rfl) ?_
    refine O.p rfl rfl rfl (Pu.pickF rfl rfl rfl) ?_
    refine O.p rfl rfl rfl (Pu.move rfl rfl) ?_
    refine O.splitD 22 rfl (fun c2 => ?_) (fun c2 => ?_)
    · skip
      refine O.gs rfl rfl rfl rfl rfl rfl ?_
      refine O.gs rfl rfl rfl rfl rfl rfl ?_
      refine O.p rfl rfl rfl (Pu.pickT rfl rfl rfl) ?_
      refine O.p rfl rfl rfl (Pu.move rfl rfl) ?_
      refine O.gs rfl rfl rfl rfl rfl rfl ?_
      refine O.gs rfl rfl rfl rfl rfl rfl ?_
      refine O.p rfl rfl rfl (Pu.pickT rfl rfl rfl) ?_
      refine O.p rfl rfl rfl (Pu.move rfl rfl) ?_
      refine O.gs rfl rfl rfl rfl rfl rfl ?_
      refine O.gs rfl rfl rfl rfl rfl rfl ?_
      refine O.p rfl rfl rfl (Pu.pickT rfl rfl rfl) ?_
      refine O.p rfl rfl rfl (Pu.assign rfl rfl) ?_
      refine O.p rfl rfl rfl (Pu.assign rfl rfl) ?_
      refine O.nil ?_
      refine X.next ?_
      refine V.ret ?_
      refine X.ret2 rfl rfl rfl ?_
      exact fun w hw => St.addPur (by unfold missN told; first | rfl | (simp; done) | simp_all) (hw.sub (Sub.nil _))
    · skip
      refine O.gp rfl rfl rfl rfl rfl (Pu.move rfl rfl) ?_
      refine O.gp rfl rfl rfl rfl rfl (Pu.eql rfl rfl rfl) ?_
      refine O.p rfl rfl rfl (Pu.pickF rfl rfl rfl) ?_
      refine O.p rfl rfl rfl (Pu.move rfl rfl) ?_
      refine O.splitD 26 rfl (fun c3 => ?_) (fun c3 => ?_)
      · skip
        refine O.gs rfl rfl rfl rfl rfl rfl ?_
        refine O.gs rfl rfl rfl rfl rfl rfl ?_
        refine O.p rfl rfl rfl (Pu.pickT rfl rfl rfl) ?_
        refine O.p rfl rfl rfl (Pu.move rfl rfl) ?_
        refine O.gs rfl rfl rfl rfl rfl rfl ?_
        refine O.gs rfl rfl rfl rfl rfl rfl ?_
        refine O.p rfl rfl rfl (Pu.pickT rfl rfl rfl) ?_
        refine O.p rfl rfl rfl (Pu.assign rfl rfl) ?_
        refine O.p rfl rfl rfl (Pu.assign rfl rfl) ?_
        refine O.nil ?_
        refine X.next ?_
        refine V.ret ?_
        refine X.ret2 rfl rfl rfl ?_
        exact fun w hw => St.addPur (by unfold missN told; first | rfl | (simp; done) | simp_all) (hw.sub (Sub.nil _))
      · skip
        refine O.gp rfl rfl rfl rfl rfl (Pu.move rfl rfl) ?_
        refine O.gp rfl rfl rfl rfl rfl (Pu.eql rfl rfl rfl) ?_
        refine O.p rfl rfl rfl (Pu.pickF rfl rfl rfl) ?_
        refine O.p rfl rfl rfl (Pu.move rfl rfl) ?_
        refine O.splitD 30 rfl (fun c4 => ?_) (fun c4 => ?_)
        · skip
          refine O.gs rfl rfl rfl rfl rfl rfl ?_
          refine O.gs rfl rfl rfl rfl rfl rfl ?_
          refine O.p rfl rfl rfl (Pu.pickT rfl rfl rfl) ?_
          refine O.p rfl rfl rfl (Pu.assign rfl rfl) ?_
          refine O.p rfl rfl rfl (Pu.assign rfl rfl) ?_
          refine O.nil ?_
          refine X.next ?_
          refine V.ret ?_
          refine X.ret2 rfl rfl rfl ?_
          exact fun w hw => St.addPur (by unfold missN told; first | rfl | (simp; done) | simp_all) (hw.sub (Sub.nil _))
        · skip
          refine O.gp rfl rfl rfl rfl rfl (Pu.move rfl rfl) ?_
          refine O.gp rfl rfl rfl rfl rfl (Pu.eql rfl rfl rfl) ?_
          refine O.p rfl rfl rfl (Pu.pickF rfl rfl rfl) ?_
          refine O.p rfl rfl rfl (Pu.assign rfl rfl) ?_
          refine O.p rfl rfl rfl (Pu.assign rfl rfl) ?_
          refine O.nil ?_
          refine X.next ?_
          refine V.ret ?_
          refine X.ret2 rfl rfl rfl ?_
          exact fun w hw => St.addPur (by unfold missN told; first | rfl | (simp; done) | simp_all) (hw.sub (Sub.nil _))
set_option maxRecDepth 100000 in
set_option maxHeartbeats 1000000 in
theorem l08Code_ok (v : Int) (bs : List B3) (A : Option Addr) (c : Nat) (w : World) (hx : Rd B3C w A bs) (lx : bs.length ≤ 4611686018427387904) : Does Tryz.prog 121 [.agg #[.int .i64 v, .slice A bs.length c]] w [] (fun r => [.pur (r = .int .i64 (cpC v bs))]) := by
  refine Does.enter Tryz.func121 rfl rfl [(0, .agg #[.int .i64 v, .slice A bs.length c])] rfl ?_
  refine V.seq ?_
  refine V.region ?_
  refine O.e rfl rfl rfl (Ef.box rfl rfl rfl) ?_
  rintro _ _ ⟨b1, rfl, rfl⟩
  refine O.p rfl rfl rfl (Pu.assign rfl rfl) ?_
  refine O.nil ?_
  refine X.next ?_
  refine V.seq ?_
  refine V.seq ?_
  refine V.region ?_
  refine O.p rfl rfl rfl (Pu.loadAgg rfl ag26 sz26 rfl rfl (Ld.whole 0 rfl)) ?_
  refine O.e rfl rfl rfl (Ef.callP call79 rfl rfl (fun w hw => l01Is_ok _ bs _ _ w ((Ld.old hx) w hw) (by omega))) ?_
  rintro _ _ ⟨rfl, rfl⟩
  refine O.p rfl rfl rfl (Pu.not rfl rfl) ?_
  refine O.nil ?_
  refine X.next ?_
  refine V.condNot rfl (fun c1 => ?_) (fun c1 => ?_)
  · skip
    refine V.seq ?_
    refine V.region ?_
    refine O.p rfl rfl rfl (Pu.assign rfl rfl) ?_
    refine O.nil ?_
    refine X.next ?_
    refine V.ret ?_
    refine X.thenRet ?_
    refine X.ret1 rfl rfl ?_
    exact fun w hw => St.retP (iv (by rw [cp_1 c1])) hw
  · skip
    have hS := c1
    have hlo := c1.lo
    have hhi := c1.hi
    have hfw := c1.few
    refine V.skip ?_
    refine X.next ?_
    refine V.seq ?_
    refine V.region ?_
    refine O.p rfl rfl rfl (Pu.loadAgg rfl ag26 sz26 rfl rfl (Ld.whole 0 rfl)) ?_
    refine O.e rfl rfl rfl (Ef.callP call124 rfl rfl (fun w hw => l08Missing_ok  v bs _ _ w ((Ld.old hx) w hw) (by first | omega | (simp only [tops_len, conts_len, bl, List.length_append, List.length_cons, List.length_nil] at *; omega)) (by first | assumption | omega | (try dsimp only at *; omega)))) ?_
    rintro _ _ ⟨rfl, rfl⟩
    refine O.p rfl rfl rfl (Pu.move rfl rfl) ?_
    refine O.p rfl rfl rfl (Pu.extract rfl rfl rfl) ?_
    refine O.p rfl rfl rfl (Pu.extract rfl rfl rfl) ?_
    refine O.p rfl rfl rfl (Pu.assign rfl rfl) ?_
    refine O.p rfl rfl rfl (Pu.assign rfl rfl) ?_
    refine O.nil ?_
    refine X.next ?_
    refine V.seq ?_
    refine V.block ?_
    refine V.seq ?_
    refine V.region ?_
    refine O.p rfl rfl rfl (Pu.move rfl rfl) ?_
    refine O.p rfl rfl rfl (Pu.not rfl rfl) ?_
    refine O.p rfl rfl rfl (Pu.assign rfl rfl) ?_
    refine O.nil ?_
    refine X.next ?_
    refine V.condNot rfl (fun c2 => ?_) (fun c2 => ?_)
    · skip
      refine V.seq ?_
      refine V.region ?_
      refine O.p rfl rfl rfl (Pu.assign rfl rfl) ?_
      refine O.nil ?_
      refine X.next ?_
      refine V.ret ?_
      refine X.blockRet ?_
      refine X.thenRet ?_
      refine X.ret1 rfl rfl ?_
      exact fun w hw => St.retP (iv (by rw [cp_5 hS c2])) hw
    · skip
      refine V.seq ?_
      refine V.region ?_
      refine O.p rfl rfl rfl (Pu.move rfl rfl) ?_
      refine O.p rfl rfl rfl (Pu.gtr rfl rfl rfl) ?_
      refine O.p rfl rfl rfl (Pu.assign rfl rfl) ?_
      refine O.nil ?_
      refine X.next ?_
      refine V.condD rfl (fun c3 => ?_) (fun c3 => ?_)
      · skip
        refine V.seq ?_
        refine V.region ?_
        refine O.p rfl rfl rfl (Pu.assign rfl rfl) ?_
        refine O.nil ?_
        refine X.next ?_
        refine V.ret ?_
        refine X.blockRet ?_
        refine X.thenRet ?_
        refine X.ret1 rfl rfl ?_
        exact fun w hw => St.retP (iv (by rw [cp_3 hS c2 c3])) hw
      · skip
        refine V.skip ?_
        refine X.blockNormal ?_
        refine X.next ?_
        refine V.seq ?_
        refine V.region ?_
        refine O.p rfl rfl rfl (Pu.assign rfl rfl) ?_
        refine O.nil ?_
        refine X.next ?_
        refine V.ret ?_
        refine X.ret1 rfl rfl ?_
        exact fun w hw => St.retP (iv (by rw [cp_0 hS c2 c3])) hw
set_option maxRecDepth 100000 in
set_option maxHeartbeats 1000000 in
theorem specMissing_ok (v : Int) (bs : List B3) (A : Option Addr) (c : Nat) (w : World) (hx : Rd B3C w A bs) (lx : bs.length ≤ 4611686018427387904) : Does Tryz.prog 44 [.agg #[.int .i64 v, .slice A bs.length c]] w [] (fun r => [.pur (r = .tuple #[.int .i64 (if mnC v bs = 0 then missN v bs else 0), .int .i64 (mnC v bs)])]) := by
  refine Does.enter Tryz.func44 rfl rfl [(0, .agg #[.int .i64 v, .slice A bs.length c])] rfl ?_
  refine V.seq ?_
  refine V.region ?_
  refine O.e rfl rfl rfl (Ef.box rfl rfl rfl) ?_
  rintro _ _ ⟨b1, rfl, rfl⟩
  refine O.p rfl rfl rfl (Pu.assign rfl rfl) ?_
  refine O.p rfl rfl rfl (Pu.assign rfl rfl) ?_
  refine O.nil ?_
  refine X.next ?_
  refine V.seq ?_
  refine V.seq ?_
  refine V.region ?_
  refine O.p rfl rfl rfl (Pu.loadAgg rfl ag26 sz26 rfl rfl (Ld.whole 0 rfl)) ?_
  refine O.e rfl rfl rfl (Ef.callP call79 rfl rfl (fun w hw => l01Is_ok _ bs _ _ w ((Ld.old hx) w hw) (by omega))) ?_
  rintro _ _ ⟨rfl, rfl⟩
  refine O.p rfl rfl rfl (Pu.not rfl rfl) ?_
  refine O.nil ?_
  refine X.next ?_
  refine V.condNot rfl (fun c1 => ?_) (fun c1 => ?_)
  · skip
    refine V.seq ?_
    refine V.region ?_
    refine O.p rfl rfl rfl (Pu.assign rfl rfl) ?_
    refine O.p rfl rfl rfl (Pu.assign rfl rfl) ?_
    refine O.nil ?_
    refine X.next ?_
    refine V.ret ?_
    refine X.thenRet ?_
    refine X.ret2 rfl rfl rfl ?_
    exact fun w hw => St.addPur (by rw [mn_1 c1]; rfl) (hw.sub (Sub.nil _))
  · skip
    have hS := c1
    have hlo := c1.lo
    have hhi := c1.hi
    have hfw := c1.few
    refine V.skip ?_
    refine X.next ?_
    refine V.seq ?_
    refine V.region ?_
    refine O.p rfl rfl rfl (Pu.loadAgg rfl ag26 sz26 rfl rfl (Ld.whole 0 rfl)) ?_
    refine O.e rfl rfl rfl (Ef.callP call124 rfl rfl (fun w hw => l08Missing_ok  v bs _ _ w ((Ld.old hx) w hw) (by first | omega | (simp only [tops_len, conts_len, bl, List.length_append, List.length_cons, List.length_nil] at *; omega)) (by first | assumption | omega | (try dsimp only at *; omega)))) ?_
    rintro _ _ ⟨rfl, rfl⟩
    refine O.p rfl rfl rfl (Pu.move rfl rfl) ?_
    refine O.p rfl rfl rfl (Pu.extract rfl rfl rfl) ?_
    refine O.p rfl rfl rfl (Pu.extract rfl rfl rfl) ?_
    refine O.p rfl rfl rfl (Pu.assign rfl rfl) ?_
    refine O.p rfl rfl rfl (Pu.assign rfl rfl) ?_
    refine O.nil ?_
    refine X.next ?_
    refine V.seq ?_
    refine V.seq ?_
    refine V.region ?_
    refine O.p rfl rfl rfl (Pu.move rfl rfl) ?_
    refine O.p rfl rfl rfl (Pu.not rfl rfl) ?_
    refine O.nil ?_
    refine X.next ?_
    refine V.condNot rfl (fun c2 => ?_) (fun c2 => ?_)
    · skip
      refine V.seq ?_
      refine V.region ?_
      refine O.p rfl rfl rfl (Pu.assign rfl rfl) ?_
      refine O.p rfl rfl rfl (Pu.assign rfl rfl) ?_
      refine O.nil ?_
      refine X.next ?_
      refine V.ret ?_
      refine X.thenRet ?_
      refine X.ret2 rfl rfl rfl ?_
      exact fun w hw => St.addPur (by rw [mn_5 hS c2]; rfl) (hw.sub (Sub.nil _))
    · skip
      refine V.skip ?_
      refine X.next ?_
      refine V.seq ?_
      refine V.region ?_
      refine O.p rfl rfl rfl (Pu.move rfl rfl) ?_
      refine O.p rfl rfl rfl (Pu.assign rfl rfl) ?_
      refine O.p rfl rfl rfl (Pu.assign rfl rfl) ?_
      refine O.nil ?_
      refine X.next ?_
      refine V.ret ?_
      refine X.ret2 rfl rfl rfl ?_
      exact fun w hw => St.addPur (by rw [mn_0 hS c2]; rfl) (hw.sub (Sub.nil _))
set_option maxRecDepth 100000 in
set_option maxHeartbeats 1000000 in
theorem specFixes_ok (v : Int) (bs : List B3) (A : Option Addr) (c : Nat) (w : World) (hx : Rd B3C w A bs) (lx : bs.length ≤ 4611686018427387904) : Does Tryz.prog 42 [.agg #[.int .i64 v, .slice A bs.length c]] w [] (fun r => [.pur (r = .tuple #[.bool (decide (cpC v bs = 0 ∧ (cmpl v bs).length = 1)), .int .i64 (cpC v bs)])]) := by
  refine Does.enter Tryz.func42 rfl rfl [(0, .agg #[.int .i64 v, .slice A bs.length c])] rfl ?_
  refine V.seq ?_
  refine V.region ?_
  refine O.e rfl rfl rfl (Ef.box rfl rfl rfl) ?_
  rintro _ _ ⟨b1, rfl, rfl⟩
  refine O.p rfl rfl rfl (Pu.assign rfl rfl) ?_
  refine O.p rfl rfl rfl (Pu.assign rfl rfl) ?_
  refine O.nil ?_
  refine X.next ?_
  refine V.seq ?_
  refine V.seq ?_
  refine V.region ?_
  refine O.p rfl rfl rfl (Pu.loadAgg rfl ag26 sz26 rfl rfl (Ld.whole 0 rfl)) ?_
  refine O.e rfl rfl rfl (Ef.callP call121 rfl rfl (fun w hw => l08Code_ok  v bs _ _ w ((Ld.old hx) w hw) (by first | omega | (simp only [tops_len, conts_len, bl, List.length_append, List.length_cons, List.length_nil] at *; omega)) )) ?_
  rintro _ _ ⟨rfl, rfl⟩
  refine O.p rfl rfl rfl (Pu.assign rfl rfl) ?_
  refine O.nil ?_
  refine X.next ?_
  refine V.seq ?_
  refine V.region ?_
  refine O.p rfl rfl rfl (Pu.move rfl rfl) ?_
  refine O.p rfl rfl rfl (Pu.neq rfl rfl rfl) ?_
  refine O.nil ?_
  refine X.next ?_
  refine V.condNot rfl (fun c1 => ?_) (fun c1 => ?_)
  · skip
    refine V.seq ?_
    refine V.region ?_
    refine O.p rfl rfl rfl (Pu.move rfl rfl) ?_
    refine O.p rfl rfl rfl (Pu.assign rfl rfl) ?_
    refine O.p rfl rfl rfl (Pu.assign rfl rfl) ?_
    refine O.nil ?_
    refine X.next ?_
    refine V.ret ?_
    refine X.thenRet ?_
    refine X.ret2 rfl rfl rfl ?_
    exact fun w hw => St.addPur (by simp [c1]) (hw.sub (Sub.nil _))
  · skip
    have hc0 : cpC v bs = 0 := by omega
    have hS := (cp_ok hc0).1
    have hlo := hS.lo
    have hhi := hS.hi
    have hfw := hS.few
    have hin : ∀ d ∈ bs, inB v.toNat d := fun d hd => good.inB (by rw [Int.toNat_of_nonneg (by omega)]; exact hS.good d hd)
    have hlf := cmpl_left hc0
    have hrt := run_two (l := (leaf [] (compM 40 v.toNat (maskB 0 bs))))
    refine V.skip ?_
    refine X.next ?_
    refine V.seq ?_
    refine V.region ?_
    refine O.p rfl rfl rfl (Pu.loadAgg rfl ag26 sz26 rfl rfl (Ld.whole 0 rfl)) ?_
    refine O.e rfl rfl rfl (Ef.call1 call122 rfl rfl (fun w hw => l08RunI_ok 40 v bs 2 false _ _ w ((Ld.old hx) w hw) (by first | omega | (simp only [tops_len, conts_len, bl, List.length_append, List.length_cons, List.length_nil] at *; omega)) (by omega) (by omega) hin (by omega) (by decide) (by decide) (by omega) (by decide) (by omega))) ?_
    rintro _ _ rfl
    refine O.exi (fun sb1 => ?_)
    refine O.sep ?_
    refine O.pur ?_
    rintro rfl
    refine O.srchK (fun uA1 uk1 U1 fA1 fk1 ps1 hrel1 hcon1 hsom1 => ?_)
    refine O.fact (RowsA.len 3 rfl) (fun hn_ps1 => ?_)
    have htl_ps1 := tops_len ps1
    have hul_U1 := hrel1.1
    refine O.p rfl rfl rfl (Pu.nilCheck rfl rfl) ?_
    refine O.p rfl rfl rfl (Pu.fieldAddr 2 rfl Tryz.underlying102 rfl sz2 rfl rfl) ?_
    refine O.p rfl rfl rfl (Pu.load rfl pl2 rfl (Ld.blk 0 rfl rfl)) ?_
    refine O.p rfl rfl rfl (Pu.eql rfl rfl rfl) ?_
    refine O.p rfl rfl rfl (Pu.assign rfl rfl) ?_
    refine O.p rfl rfl rfl (Pu.assign rfl rfl) ?_
    refine O.nil ?_
    refine X.next ?_
    refine V.ret ?_
    refine X.ret2 rfl rfl rfl ?_
    exact fun w hw => St.addPur (by have e : (((runC (fun j => decide (j < 2)) 0 (leaf [] (compM 40 v.toNat (maskB 0 bs)))).length : Nat) : Int) = 1 ↔ cpC v bs = 0 ∧ (cmpl v bs).length = 1 := (by rw [leaf_len] at hrt; exact ⟨fun h => ⟨hc0, hrt.2.1 (by omega)⟩, fun h => by have := hrt.2.2 h.2; omega⟩); rw [← decide_eq_decide.2 e, hc0]) (hw.sub (Sub.nil _))
set_option maxRecDepth 100000 in
set_option maxHeartbeats 1000000 in
theorem l01Rest_ok (v : Int) (bs : List B3) (A : Option Addr) (c : Nat) (w : World) (hx : Rd B3C w A bs) (lx : bs.length ≤ 4611686018427387904) (hv : 0 ≤ v ∧ v ≤ 15) : Does Tryz.prog 135 [.agg #[.int .i64 v, .slice A bs.length c]] w [] (fun rv_ => [.exi fun (rA : Option Addr) => .exi fun (rc : Nat) => .exi fun (r : List B3) => .sep (.pur (rv_ = .slice rA r.length rc ∧ r = freeL v bs ∧ r.length ≤ 3375)) (Own 51 B3C rA rc r)]) := by
  refine Does.enter Tryz.func135 rfl rfl [(0, .agg #[.int .i64 v, .slice A bs.length c])] rfl ?_
  refine V.seq ?_
  refine V.region ?_
  refine O.e rfl rfl rfl (Ef.box rfl rfl rfl) ?_
  rintro _ _ ⟨b1, rfl, rfl⟩
  refine O.p rfl rfl rfl (Pu.assign rfl rfl) ?_
  refine O.nil ?_
  refine X.next ?_
  refine V.seq ?_
  refine V.region ?_
  refine O.e rfl rfl rfl (Ef.build B3C ([] : List B3) rfl Tryz.underlying24 inf51 rfl rfl rfl (by first | decide | (simp; done)) (by kernel_rfl)) ?_
  rintro _ _ ⟨A1, hA1, rfl, rfl⟩
  refine O.p rfl rfl rfl (Pu.assign rfl rfl) ?_
  refine O.nil ?_
  refine X.next ?_
  refine V.seq ?_
  refine V.seq ?_
  refine V.region ?_
  refine O.p rfl rfl rfl (Pu.assign rfl rfl) ?_
  refine O.nil ?_
  refine X.next ?_
  refine V.block ?_
  refine V.loop3 (β := (Option Addr) × Nat × (List B3) × Nat) (fun x => [(3, .slice x.1 x.2.2.1.length x.2.1), (4, .int .i64 (x.2.2.2 : Int))]) _ (fun x => [Own 51 B3C x.1 x.2.1 x.2.2.1]) _ (fun x => x.2.2.2 ≤ v.toNat ∧ x.2.2.1 = triA (FreeB bs) v.toNat x.2.2.2 ∧ x.2.2.1.length ≤ 225 * x.2.2.2) (fun x => v.toNat - x.2.2.2) (A1, 0, ([] : List B3), 0) (by (try dsimp only); exact ⟨by omega, rfl, by simp⟩) (Ent.cons rfl (Ent.cons rfl (Ent.nil _))) (Ent.cons (t := 1) rfl (Ent.nil _)) (Sub.keep 0 rfl (Sub.keep 0 rfl (Sub.nil _))) ?_
  rintro ⟨z0A, z0c, z0, a⟩ ⟨ha, ho, hl⟩
  dsimp only at ha ho hl ⊢
  refine V.seq ?_
  refine V.seq ?_
  refine V.region ?_
  refine O.p rfl rfl rfl (Pu.move rfl rfl) ?_
  refine O.p rfl rfl rfl (Pu.fieldAddr 0 rfl Tryz.underlying26 rfl sz2 rfl rfl) ?_
  refine O.p rfl rfl rfl (Pu.load rfl pl2 rfl (Ld.blk 1 rfl rfl)) ?_
  refine O.p rfl rfl rfl (Pu.lss rfl rfl rfl) ?_
  refine O.nil ?_
  refine X.next ?_
  refine V.condD rfl (fun c1 => ?_) (fun c1 => ?_)
  · skip
    refine V.skip ?_
    refine X.next ?_
    refine V.seq ?_
    refine V.block ?_
    refine V.seq ?_
    refine V.region ?_
    refine O.p rfl rfl rfl (Pu.move rfl rfl) ?_
    refine O.p rfl rfl rfl (Pu.add64 (r := ((a + 1 : Nat) : Int)) rfl (by omega) rfl rfl rfl) ?_
    refine O.p rfl rfl rfl (Pu.assign rfl rfl) ?_
    refine O.nil ?_
    refine X.next ?_
    refine V.block ?_
    refine V.loop3 (β := (Option Addr) × Nat × (List B3) × Nat) (fun x => [(3, .slice x.1 x.2.2.1.length x.2.1), (5, .int .i64 (x.2.2.2 : Int))]) _ (fun x => [Own 51 B3C x.1 x.2.1 x.2.2.1]) _ (fun x => a < x.2.2.2 ∧ (x.2.2.2 ≤ v.toNat ∨ x.2.2.2 = a + 1) ∧ x.2.2.1 = z0 ++ triB (FreeB bs) v.toNat a x.2.2.2 ∧ x.2.2.1.length ≤ 225 * a + 15 * (x.2.2.2 - a - 1)) (fun x => v.toNat - x.2.2.2) (z0A, z0c, z0, a + 1) (by (try dsimp only); exact ⟨by omega, .inr rfl, by rw [triB_low _ (by omega), List.append_nil], by omega⟩) (Ent.cons rfl (Ent.cons rfl (Ent.nil _))) (Ent.cons (t := 1) rfl (Ent.cons (t := 4) rfl (Ent.nil _))) (Sub.keep 0 rfl (Sub.keep 0 rfl (Sub.nil _))) ?_
    rintro ⟨z1A, z1c, z1, b⟩ ⟨hab, hb, ho2, hl2⟩
    dsimp only at hab hb ho2 hl2 ⊢
    refine V.seq ?_
    refine V.seq ?_
    refine V.region ?_
    refine O.p rfl rfl rfl (Pu.move rfl rfl) ?_
    refine O.p rfl rfl rfl (Pu.fieldAddr 0 rfl Tryz.underlying26 rfl sz2 rfl rfl) ?_
    refine O.p rfl rfl rfl (Pu.load rfl pl2 rfl (Ld.blk 1 rfl rfl)) ?_
    refine O.p rfl rfl rfl (Pu.lss rfl rfl rfl) ?_
    refine O.nil ?_
    refine X.next ?_
    refine V.condD rfl (fun c2 => ?_) (fun c2 => ?_)
    · skip
      refine V.skip ?_
      refine X.next ?_
      refine V.seq ?_
      refine V.block ?_
      refine V.seq ?_
      refine V.region ?_
      refine O.p rfl rfl rfl (Pu.move rfl rfl) ?_
      refine O.p rfl rfl rfl (Pu.add64 (r := ((b + 1 : Nat) : Int)) rfl (by omega) rfl rfl rfl) ?_
      refine O.p rfl rfl rfl (Pu.assign rfl rfl) ?_
      refine O.nil ?_
      refine X.next ?_
      refine V.block ?_
      refine V.loop3 (β := (Option Addr) × Nat × (List B3) × Nat) (fun x => [(3, .slice x.1 x.2.2.1.length x.2.1), (6, .int .i64 (x.2.2.2 : Int))]) _ (fun x => [Own 51 B3C x.1 x.2.1 x.2.2.1]) _ (fun x => b < x.2.2.2 ∧ (x.2.2.2 ≤ v.toNat ∨ x.2.2.2 = b + 1) ∧ x.2.2.1 = z1 ++ triC (FreeB bs) a b x.2.2.2 ∧ x.2.2.1.length ≤ 225 * a + 15 * (b - a - 1) + (x.2.2.2 - b - 1)) (fun x => v.toNat - x.2.2.2) (z1A, z1c, z1, b + 1) (by (try dsimp only); exact ⟨by omega, .inr rfl, by rw [triC_low _ (by omega), List.append_nil], by omega⟩) (Ent.cons rfl (Ent.cons rfl (Ent.nil _))) (Ent.cons (t := 1) rfl (Ent.cons (t := 4) rfl (Ent.cons (t := 5) rfl (Ent.nil _)))) (Sub.keep 0 rfl (Sub.keep 0 rfl (Sub.nil _))) ?_
      rintro ⟨z2A, z2c, z2, e⟩ ⟨hbe, he, ho3, hl3⟩
      dsimp only at hbe he ho3 hl3 ⊢
      refine V.seq ?_
      refine V.seq ?_
      refine V.region ?_
      refine O.p rfl rfl rfl (Pu.move rfl rfl) ?_
      refine O.p rfl rfl rfl (Pu.fieldAddr 0 rfl Tryz.underlying26 rfl sz2 rfl rfl) ?_
      refine O.p rfl rfl rfl (Pu.load rfl pl2 rfl (Ld.blk 1 rfl rfl)) ?_
      refine O.p rfl rfl rfl (Pu.lss rfl rfl rfl) ?_
      refine O.nil ?_
      refine X.next ?_
      refine V.condD rfl (fun c3 => ?_) (fun c3 => ?_)
      · skip
        refine V.skip ?_
        refine X.next ?_
        refine V.seq ?_
        refine V.block ?_
        refine V.seq ?_
        refine V.region ?_
        refine O.p rfl rfl rfl (Pu.loadAgg rfl ag26 sz26 rfl rfl (Ld.whole 1 rfl)) ?_
        refine O.p rfl rfl rfl (Pu.move rfl rfl) ?_
        refine O.p rfl rfl rfl (Pu.move rfl rfl) ?_
        refine O.p rfl rfl rfl (Pu.move rfl rfl) ?_
        refine O.p rfl rfl rfl (Pu.buildA (cs := [.int .i64 (↑a : Int), .int .i64 (↑b : Int), .int .i64 (↑e : Int)]) (v := B3.v ((↑a : Int), (↑b : Int), (↑e : Int))) rfl rfl Tryz.underlying51 zr51 sz2 rfl (by kernel_rfl)) ?_
        refine O.e rfl rfl rfl (Ef.callP call213 rfl rfl (fun w hw => l01Free_ok  v bs ((↑a : Int), (↑b : Int), (↑e : Int)) _ _ w ((Ld.old hx) w hw) (by first | omega | (simp only [tops_len, conts_len, bl, List.length_append, List.length_cons, List.length_nil] at *; omega)) )) ?_
        rintro _ _ ⟨rfl, rfl⟩
        refine O.nil ?_
        refine X.next ?_
        refine V.condD rfl (fun c4 => ?_) (fun c4 => ?_)
        · skip
          refine V.region ?_
          refine O.p rfl rfl rfl (Pu.move rfl rfl) ?_
          refine O.p rfl rfl rfl (Pu.move rfl rfl) ?_
          refine O.p rfl rfl rfl (Pu.move rfl rfl) ?_
          refine O.p rfl rfl rfl (Pu.move rfl rfl) ?_
          refine O.p rfl rfl rfl (Pu.buildA (cs := [.int .i64 (↑a : Int), .int .i64 (↑b : Int), .int .i64 (↑e : Int)]) (v := B3.v ((↑a : Int), (↑b : Int), (↑e : Int))) rfl rfl Tryz.underlying51 zr51 sz2 rfl (by kernel_rfl)) ?_
          refine O.e rfl rfl rfl (Ef.build B3C ([((↑a : Int), (↑b : Int), (↑e : Int))] : List B3) rfl Tryz.underlying24 inf51 rfl rfl rfl (by first | decide | (simp; done)) (by kernel_rfl)) ?_
          rintro _ _ ⟨A2, hA2, rfl, rfl⟩
          refine O.e rfl rfl rfl (Ef.append (xs := z2) (ys := ([((↑a : Int), (↑b : Int), (↑e : Int))] : List B3)) 1 rfl Tryz.underlying24 inf51 rfl rfl rfl rfl rfl rfl hA2 (Ld.own 0 (by exact rfl)) (by simp only [List.length_append, List.length_cons, List.length_nil] at *; omega) (by decide)) ?_
          rintro _ _ ⟨A3, k1, rfl, rfl, hA3⟩
          replace hA3 := hA3 (.inr (by simp))
          refine O.p rfl rfl rfl (Pu.assign rfl rfl) ?_
          refine O.nil ?_
          refine X.blockNormal ?_
          refine X.next ?_
          refine V.region ?_
          refine O.p rfl rfl rfl (Pu.move rfl rfl) ?_
          refine O.p rfl rfl rfl (Pu.add64 (r := ((e + 1 : Nat) : Int)) rfl (by omega) rfl rfl rfl) ?_
          refine O.p rfl rfl rfl (Pu.assign rfl rfl) ?_
          refine O.nil ?_
          exact X.back3 (A3, k1, (z2 ++ ([((↑a : Int), (↑b : Int), (↑e : Int))] : List B3)), e + 1) (by (try dsimp only); exact ⟨by omega, .inl (by omega), by rw [triC_yes hbe c4, ho3, List.append_assoc]; rfl, by simp only [List.length_append, List.length_cons, List.length_nil]; omega⟩) (by first | omega | (dsimp only; omega)) (Ent.cons rfl (Ent.cons rfl (Ent.nil _))) (Ent.cons (t := 1) rfl (Ent.cons (t := 4) rfl (Ent.cons (t := 5) rfl (Ent.nil _)))) (Sub.keep 1 rfl (Sub.keep 1 rfl (Sub.nil _)))
        · skip
          refine V.skip ?_
          refine X.blockNormal ?_
          refine X.next ?_
          refine V.region ?_
          refine O.p rfl rfl rfl (Pu.move rfl rfl) ?_
          refine O.p rfl rfl rfl (Pu.add64 (r := ((e + 1 : Nat) : Int)) rfl (by omega) rfl rfl rfl) ?_
          refine O.p rfl rfl rfl (Pu.assign rfl rfl) ?_
          refine O.nil ?_
          exact X.back3 (z2A, z2c, z2, e + 1) (by (try dsimp only); exact ⟨by omega, .inl (by omega), by rw [triC_no c4, ho3], by omega⟩) (by first | omega | (dsimp only; omega)) (Ent.cons rfl (Ent.cons rfl (Ent.nil _))) (Ent.cons (t := 1) rfl (Ent.cons (t := 4) rfl (Ent.cons (t := 5) rfl (Ent.nil _)))) (Sub.keep 0 rfl (Sub.keep 0 rfl (Sub.nil _)))
      · skip
        refine V.exit ?_
        refine X.thenExit ?_
        refine X.thenExit ?_
        refine X.blockHit ?_
        refine X.blockNormal ?_
        refine X.next ?_
        refine V.region ?_
        refine O.p rfl rfl rfl (Pu.move rfl rfl) ?_
        refine O.p rfl rfl rfl (Pu.add64 (r := ((b + 1 : Nat) : Int)) rfl (by omega) rfl rfl rfl) ?_
        refine O.p rfl rfl rfl (Pu.assign rfl rfl) ?_
        refine O.nil ?_
        exact X.back3 (z2A, z2c, z2, b + 1) (by (try dsimp only); exact ⟨by omega, .inl (by omega), by rw [triB_succ hab, ho3, ho2, List.append_assoc, triC_end (by omega) he], by omega⟩) (by first | omega | (dsimp only; omega)) (Ent.cons rfl (Ent.cons rfl (Ent.nil _))) (Ent.cons (t := 1) rfl (Ent.cons (t := 4) rfl (Ent.nil _))) (Sub.keep 0 rfl (Sub.keep 0 rfl (Sub.nil _)))
    · skip
      refine V.exit ?_
      refine X.thenExit ?_
      refine X.thenExit ?_
      refine X.blockHit ?_
      refine X.blockNormal ?_
      refine X.next ?_
      refine V.region ?_
      refine O.p rfl rfl rfl (Pu.move rfl rfl) ?_
      refine O.p rfl rfl rfl (Pu.add64 (r := ((a + 1 : Nat) : Int)) rfl (by omega) rfl rfl rfl) ?_
      refine O.p rfl rfl rfl (Pu.assign rfl rfl) ?_
      refine O.nil ?_
      exact X.back3 (z1A, z1c, z1, a + 1) (by (try dsimp only); exact ⟨by omega, by rw [triA_succ, ho2, ho, triB_end (by omega) hb]; try rfl, by omega⟩) (by first | omega | (dsimp only; omega)) (Ent.cons rfl (Ent.cons rfl (Ent.nil _))) (Ent.cons (t := 1) rfl (Ent.nil _)) (Sub.keep 0 rfl (Sub.keep 0 rfl (Sub.nil _)))
  · skip
    refine V.exit ?_
    refine X.thenExit ?_
    refine X.thenExit ?_
    refine X.blockHit ?_
    refine X.next ?_
    refine V.seq ?_
    refine V.region ?_
    refine O.p rfl rfl rfl (Pu.move rfl rfl) ?_
    refine O.p rfl rfl rfl (Pu.assign rfl rfl) ?_
    refine O.nil ?_
    refine X.next ?_
    refine V.ret ?_
    refine X.ret1 rfl rfl ?_
    exact fun w hw => St.mkExi z0A (St.mkExi z0c (St.mkExi z0 (St.unsep (St.addPur ⟨rfl, by rw [ho]; unfold freeL; congr 1; omega, by omega⟩ (hw.sub (Sub.keep 0 rfl (Sub.nil _)))))))
set_option maxRecDepth 100000 in
set_option maxHeartbeats 1000000 in
theorem specStuck_ok (v : Int) (bs : List B3) (A : Option Addr) (c : Nat) (w : World) (hx : Rd B3C w A bs) (lx : bs.length ≤ 4611686018427387904) : Does Tryz.prog 50 [.agg #[.int .i64 v, .slice A bs.length c]] w [] (fun r => [.pur (r = .tuple #[.bool (decide (STS v bs ∧ freeL v bs = [])), .int .i64 (if STS v bs then 0 else 1)])]) := by
  refine Does.enter Tryz.func50 rfl rfl [(0, .agg #[.int .i64 v, .slice A bs.length c])] rfl ?_
  refine V.seq ?_
  refine V.region ?_
  refine O.e rfl rfl rfl (Ef.box rfl rfl rfl) ?_
  rintro _ _ ⟨b1, rfl, rfl⟩
  refine O.p rfl rfl rfl (Pu.assign rfl rfl) ?_
  refine O.p rfl rfl rfl (Pu.assign rfl rfl) ?_
  refine O.nil ?_
  refine X.next ?_
  refine V.seq ?_
  refine V.seq ?_
  refine V.region ?_
  refine O.p rfl rfl rfl (Pu.loadAgg rfl ag26 sz26 rfl rfl (Ld.whole 0 rfl)) ?_
  refine O.e rfl rfl rfl (Ef.callP call79 rfl rfl (fun w hw => l01Is_ok _ bs _ _ w ((Ld.old hx) w hw) (by omega))) ?_
  rintro _ _ ⟨rfl, rfl⟩
  refine O.p rfl rfl rfl (Pu.not rfl rfl) ?_
  refine O.nil ?_
  refine X.next ?_
  refine V.condNot rfl (fun c1 => ?_) (fun c1 => ?_)
  · skip
    refine V.seq ?_
    refine V.region ?_
    refine O.p rfl rfl rfl (Pu.assign rfl rfl) ?_
    refine O.p rfl rfl rfl (Pu.assign rfl rfl) ?_
    refine O.nil ?_
    refine X.next ?_
    refine V.ret ?_
    refine X.thenRet ?_
    refine X.ret2 rfl rfl rfl ?_
    exact fun w hw => St.addPur (by rw [if_neg c1]; simp [c1]) (hw.sub (Sub.nil _))
  · skip
    have hS := c1
    have hlo := c1.lo
    have hhi := c1.hi
    have hfw := c1.few
    refine V.skip ?_
    refine X.next ?_
    refine V.seq ?_
    refine V.region ?_
    refine O.p rfl rfl rfl (Pu.loadAgg rfl ag26 sz26 rfl rfl (Ld.whole 0 rfl)) ?_
    refine O.e rfl rfl rfl (Ef.call1 call135 rfl rfl (fun w hw => l01Rest_ok  v bs _ _ w ((Ld.old hx) w hw) (by first | omega | (simp only [tops_len, conts_len, bl, List.length_append, List.length_cons, List.length_nil] at *; omega)) (by omega))) ?_
    rintro _ _ rfl
    refine O.exi (fun r1A => ?_)
    refine O.exi (fun r1c => ?_)
    refine O.exi (fun r1 => ?_)
    refine O.sep ?_
    refine O.pur ?_
    rintro ⟨rfl, hr1_1, hr1_2⟩
    refine O.p rfl rfl rfl (Pu.len rfl Tryz.underlying24 rfl) ?_
    refine O.p rfl rfl rfl (Pu.eql rfl rfl rfl) ?_
    refine O.p rfl rfl rfl (Pu.assign rfl rfl) ?_
    refine O.p rfl rfl rfl (Pu.assign rfl rfl) ?_
    refine O.nil ?_
    refine X.next ?_
    refine V.ret ?_
    refine X.ret2 rfl rfl rfl ?_
    exact fun w hw => St.addPur (by rw [if_pos c1, hr1_1]; simp [c1]) (hw.sub (Sub.nil _))
set_option maxRecDepth 100000 in
set_option maxHeartbeats 1000000 in
theorem l01Copy_ok (v : Int) (bs : List B3) (A : Option Addr) (c : Nat) (w0 : World) (H : List Assn) (lb : bs.length ≤ 100000) : Does Tryz.prog 212 [.agg #[.int .i64 v, .slice A bs.length c]] w0 (Own 51 B3C A c bs :: H) (fun rv_ => [.exi fun (rA : Option Addr) => .exi fun (rc : Nat) => .exi fun (r : List B3) => .sep (.pur (rv_ = .agg #[.int .i64 v, .slice rA r.length rc] ∧ r = bs)) (.sep (Own 51 B3C rA rc r) (Own 51 B3C A c bs))] ++ H) := by
  refine Does.enter Tryz.func212 rfl rfl [(0, .agg #[.int .i64 v, .slice A bs.length c])] rfl ?_
  refine V.seq ?_
  refine V.region ?_
  refine O.e rfl rfl rfl (Ef.box rfl rfl rfl) ?_
  rintro _ _ ⟨b1, rfl, rfl⟩
  refine O.e rfl rfl rfl (Ef.alloc rfl zr26 rfl) ?_
  rintro _ _ ⟨b2, rfl, rfl⟩
  refine O.nil ?_
  refine X.next ?_
  refine V.seq ?_
  refine V.draw mo (by kernel_rfl) (fun hwf => ?_)
  refine D.p 0 rfl rfl rfl rfl rfl rfl (Pu.fieldAddr 0 rfl Tryz.underlying26 rfl sz2 rfl rfl) ?_
  refine D.p 1 rfl rfl rfl rfl rfl rfl (Pu.load rfl pl2 rfl (Ld.blk 1 rfl rfl)) ?_
  refine D.p 3 rfl rfl rfl rfl rfl rfl (Pu.fieldAddr 1 rfl Tryz.underlying26 rfl sz24 rfl rfl) ?_
  refine D.p 4 rfl rfl rfl rfl rfl rfl (Pu.load rfl pl24 rfl (Ld.blk 1 rfl rfl)) ?_
  refine D.eff hwf (e := 2) rfl rfl rfl rfl (Ef.build B3C ([] : List B3) rfl Tryz.underlying24 inf51 rfl rfl rfl (by first | decide | (simp; done)) (by kernel_rfl)) rfl rfl rfl ?_
  rintro _ _ ⟨A1, hA1, rfl, rfl⟩ hs
  refine ⟨fun w hw => hw.sub (Sub.keep 1 rfl (Sub.keep 1 rfl (Sub.keep 1 rfl (Sub.drop (Sub.refl _))))), ?_⟩
  refine D.eff hwf (e := 5) rfl rfl rfl rfl (Ef.appendN (xs := ([] : List B3)) (ys := bs) 0 rfl Tryz.underlying24 inf51 rfl rfl rfl rfl rfl rfl (fun w hw h => Own.nilc hw (i := 3) (by exact rfl) h) (Ld.own 3 (by exact rfl)) (by simp only [List.length_append, List.length_cons, List.length_nil] at *; omega) (by decide)) rfl rfl rfl ?_
  rintro _ _ ⟨A2, k1, rfl, rfl, hA2⟩ hs
  replace hA2 := hA2 (.inl hA1)
  refine ⟨fun w hw => hw.sub (Sub.keep 1 rfl (Sub.keep 1 rfl (Sub.keep 1 rfl (Sub.drop (Sub.refl _))))), ?_⟩
  refine D.p 6 rfl rfl rfl rfl rfl rfl (Pu.buildS (cs := [.int .i64 v, .slice A2 ((([] : List B3) ++ bs).length) k1]) rfl rfl Tryz.underlying26 zr26 (by kernel_rfl) rfl (by kernel_rfl)) ?_
  refine D.effX (Hs' := []) hwf (e := 7) rfl rfl rfl rfl (Ef.storeAll 1 rfl sz26 rfl rfl rfl rfl (by simp [Value.oneCell']) rfl) rfl [] rfl (List.forall_mem_nil _) ?_
  rintro _ _ rfl
  refine ⟨fun w hw => hw.sub (Sub.nil _), ?_⟩
  refine D.done hwf rfl ?_
  refine X.next ?_
  refine V.ret ?_
  refine X.retCell rfl ag26 sz26 rfl rfl (Ld.whole 1 rfl) ?_
  exact fun w hw => St.mkExi A2 (St.mkExi k1 (St.mkExi (([] : List B3) ++ bs) (St.unsep (St.addPur ⟨rfl, rfl⟩ (St.unsep (hw.sub (Sub.keep 0 rfl (Sub.keep 2 rfl (Sub.drop (Sub.drop (Sub.refl _)))))))))))
end Go.Proofs.YtgjfcepnkllklaaGreat
