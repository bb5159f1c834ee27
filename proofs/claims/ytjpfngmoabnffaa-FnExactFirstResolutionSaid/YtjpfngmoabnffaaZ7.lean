/-
  The first resolution.
-/
import Derived.Test.YtjpfngmoabnffaaK
import Derived.Test.YtjpfngmoabnffaaZ5
set_option linter.unusedVariables false
set_option linter.unusedSimpArgs false
namespace Go.Proofs.Ytjpfngmoabnffaa
open Go Go.RowKit Go.Vc Go.Proofs
set_option maxRecDepth 100000 in
set_option maxHeartbeats 1000000 in
theorem copyLists_ok (lists : List (Sl × List Int)) (listsA : Option Addr) (listsc : Nat) (w : World) (hlists : RdL I64 w listsA lists) (llists : lists.length ≤ 1099511627776) (hsm : ∀ q ∈ conts lists, q.length ≤ 1000) : Does Try.prog 93 [.slice listsA (tops lists).length listsc] w [] (fun rv_ => [.exi fun (rA : Option Addr) => .exi fun (rc : Nat) => .exi fun (r : List (Sl × List Int)) => .sep (.pur (rv_ = .slice rA (tops r).length rc ∧ conts r = conts lists ∧ r.length = lists.length)) (.sep (Own 43 SlC rA rc (tops r)) (RowsA 2 I64 r))]) := by
  refine Does.enter Try.func93 rfl rfl [(0, .slice listsA (tops lists).length listsc)] rfl ?_
  have htl := tops_len lists
  have hcl := conts_len lists
  refine V.seq ?_
  refine V.region ?_
  refine O.p rfl rfl rfl (Pu.assign rfl rfl) ?_
  refine O.nil ?_
  refine X.next ?_
  refine V.seq ?_
  refine V.region ?_
  refine O.p rfl rfl rfl (Pu.assign rfl rfl) ?_
  refine O.nil ?_
  refine X.next ?_
  refine V.seq ?_
  refine V.seq ?_
  refine V.region ?_
  refine O.p rfl rfl rfl (Pu.move rfl rfl) ?_
  refine O.p rfl rfl rfl (Pu.len rfl Try.underlying34 rfl) ?_
  refine O.p rfl rfl rfl (Pu.move rfl rfl) ?_
  refine O.nil ?_
  refine X.next ?_
  refine V.block ?_
  refine V.map (fun w hw => St.addNil (T := 43) (C := SlC) (RowsA.nil (T := 2) (C := I64) hw)) ?_
  refine V.loop2 (β := (Option Addr) × Nat × (List (Sl × List Int)) × Nat) (fun x => [(3, .slice x.1 (tops x.2.2.1).length x.2.1), (8, .int .i64 (x.2.2.2 : Int))]) _ (fun x => [Own 43 SlC x.1 x.2.1 (tops x.2.2.1), RowsA 2 I64 x.2.2.1]) (fun x => x.2.2.2 ≤ lists.length ∧ conts x.2.2.1 = (conts lists).take x.2.2.2) (fun x => lists.length - x.2.2.2) (none, 0, [], 0) (by (try dsimp only); exact ⟨by omega, by simp [conts]⟩) (Ent.cons rfl (Ent.cons rfl (Ent.nil _))) (Ent.cons (t := 6) rfl (Ent.cons (t := 7) rfl (Ent.nil _))) (Sub.keep 0 rfl (Sub.keep 0 rfl (Sub.nil _))) ?_
  rintro ⟨outA, outc, out, i⟩ ⟨hi, ho⟩
  dsimp only at hi ho ⊢
  have hco := conts_len out
  have hol : out.length = i := by rw [← hco, ho, List.length_take]; omega
  refine V.fact (RowsA.len 1 rfl) (fun hn_out => ?_)
  have htl_out := tops_len out
  refine V.seq ?_
  refine V.region ?_
  refine O.p rfl rfl rfl (Pu.lss rfl rfl rfl) ?_
  refine O.nil ?_
  refine X.next ?_
  refine V.seq ?_
  refine V.condD rfl (fun c1 => ?_) (fun c1 => ?_)
  · skip
    refine V.skip ?_
    refine X.next ?_
    refine V.seq ?_
    refine V.block ?_
    refine V.seq ?_
    have hsi := hsm _ (List.getElem_mem (l := conts lists) (n := i) (by omega))
    rw [conts_get] at hsi
    refine V.region ?_
    refine O.p rfl rfl rfl (Pu.indexAddr (i) rfl Try.underlying34 sz43 rfl rfl (by omega) (by omega) (hlists.top.some (by omega))) ?_
    have e1 : i < lists.length := by have := tops_len lists; omega
    refine O.p rfl rfl rfl (Pu.load rfl pl43 rfl (Ld.row (Ld.old hlists.top) hlists.len e1 rfl)) ?_
    refine O.p rfl rfl rfl (Pu.assign rfl rfl) ?_
    refine O.nil ?_
    refine X.next ?_
    refine V.region ?_
    refine O.p rfl rfl rfl (Pu.move rfl rfl) ?_
    refine O.p rfl rfl rfl (Pu.move rfl rfl) ?_
    refine O.e rfl rfl rfl (Ef.call1 call159 rfl rfl (fun w hw => cloneI_ok (lists[i]'e1).2 _ _ w ((Ld.old (hlists.row i e1)) w hw) (by omega))) ?_
    rintro _ _ rfl
    refine O.exi (fun p1 => ?_)
    refine O.sep ?_
    refine O.pur ?_
    rintro ⟨rfl, hp1⟩
    refine O.e rfl rfl rfl (Ef.build SlC ([⟨p1.1.1, p1.2.length, p1.1.2⟩] : List Sl) rfl Try.underlying34 inf43 rfl rfl rfl (by first | decide | (simp; done)) (by kernel_rfl)) ?_
    rintro _ _ ⟨A1, hA1, rfl, rfl⟩
    refine O.e rfl rfl rfl (Ef.append (xs := (tops out)) (ys := ([⟨p1.1.1, p1.2.length, p1.1.2⟩] : List Sl)) 2 rfl Try.underlying34 inf43 rfl rfl rfl rfl rfl rfl hA1 (Ld.own 0 (by exact rfl)) (by simp only [List.length_append, List.length_cons, List.length_nil] at *; omega) (by decide)) ?_
    rintro _ _ ⟨A2, k1, rfl, rfl, hA2⟩
    replace hA2 := hA2 (.inr (by simp))
    refine O.map (fun w hw => snoc_heap (ps := out) (xs := p1.2) (hw.sub (Sub.keep 2 rfl (Sub.keep 2 rfl (Sub.keep 1 rfl (Sub.keep 0 rfl (Sub.nil _))))))) ?_
    refine O.p rfl rfl rfl (Pu.assign rfl rfl) ?_
    refine O.nil ?_
    refine X.blockNormal ?_
    refine X.next ?_
    refine V.region ?_
    refine O.p rfl rfl rfl (Pu.add64 (r := ((i + 1 : Nat) : Int)) rfl (by omega) rfl rfl rfl) ?_
    refine O.p rfl rfl rfl (Pu.move rfl rfl) ?_
    refine O.nil ?_
    exact X.back2 (A2, k1, (out ++ [((⟨p1.1.1, p1.2.length, p1.1.2⟩ : Sl), p1.2)]), i + 1) (by (try dsimp only); exact ⟨by omega, by rw [conts_append, ho, take_snoc (by omega), conts_get]; simp [conts, hp1]⟩) (by first | omega | (dsimp only; omega)) (Ent.cons' rfl (by first | rfl | (simp only [tops_append]; done) | (simp only [tops_append]; rfl)) (Ent.cons rfl (Ent.nil _))) (Ent.cons (t := 6) rfl (Ent.cons (t := 7) rfl (Ent.nil _))) (Sub.keep 0 rfl (Sub.keep 0 rfl (Sub.nil _)))
  · skip
    refine V.exit ?_
    refine X.thenExit ?_
    refine X.thenExit ?_
    refine X.blockHit ?_
    refine X.next ?_
    refine V.seq ?_
    refine V.region ?_
    refine O.p rfl rfl rfl (Pu.move rfl rfl) ?_
    refine O.p rfl rfl rfl (Pu.assign rfl rfl) ?_
    refine O.nil ?_
    refine X.next ?_
    refine V.ret ?_
    refine X.ret1 rfl rfl ?_
    exact fun w hw => St.mkExi outA (St.mkExi outc (St.mkExi out (St.unsep (St.addPur ⟨(by first | rfl | (simp only [tops_append]; done) | (simp only [tops_append]; rfl)), by rw [ho, List.take_of_length_le (by omega)], by omega⟩ (St.unsep (hw.sub (Sub.keep 0 rfl (Sub.keep 0 rfl (Sub.nil _)))))))))

set_option maxRecDepth 100000 in
set_option maxHeartbeats 1000000 in
theorem implFirstResolution_ok (v : Int) (bs : List B3) (A : Option Addr) (c : Nat) (w : World) (hx : Rd B3C w A bs) (lx : bs.length ≤ 4611686018427387904) : Does Try.prog 39 [.agg #[.int .i64 v, .slice A bs.length c]] w [] (fun rv_ => [.exi fun (rA : Option Addr) => .exi fun (rc : Nat) => .exi fun (r : List (Sl × List Int)) => .exi fun (code : Int) => .sep (.pur (rv_ = .tuple #[.slice rA (tops r).length rc, .int .i64 code] ∧ FRes v bs (conts r) code ∧ r.length ≤ 35)) (.sep (Own 43 SlC rA rc (tops r)) (RowsA 2 I64 r))]) := by
  refine Does.enter Try.func39 rfl rfl [(0, .agg #[.int .i64 v, .slice A bs.length c])] rfl ?_
  refine V.seq ?_
  refine V.region ?_
  refine O.e rfl rfl rfl (Ef.box rfl rfl rfl) ?_
  rintro _ _ ⟨b1, rfl, rfl⟩
  refine O.p rfl rfl rfl (Pu.assign rfl rfl) ?_
  refine O.p rfl rfl rfl (Pu.assign rfl rfl) ?_
  refine O.nil ?_
  refine X.next ?_
  refine V.seq ?_
  refine V.region ?_
  refine O.p rfl rfl rfl (Pu.loadAgg rfl ag30 sz30 rfl rfl (Ld.whole 0 rfl)) ?_
  refine O.e rfl rfl rfl (Ef.call1 call59 rfl rfl (fun w hw => resolutions_ok  v bs 1 _ _ w ((Ld.old hx) w hw) (by first | omega | (simp only [tops_len, conts_len, bl, List.length_append, List.length_cons, List.length_nil] at *; omega)) (by decide) (by decide))) ?_
  rintro _ _ rfl
  refine O.exi (fun r1A => ?_)
  refine O.exi (fun r1c => ?_)
  refine O.exi (fun r1 => ?_)
  refine O.exi (fun code1 => ?_)
  refine O.exi (fun cl1 => ?_)
  refine O.sep ?_
  refine O.pur ?_
  rintro ⟨rfl, hr1_1, hr1_2⟩
  refine O.sep ?_
  refine O.sep ?_
  refine O.fact (RowsA.len 1 rfl) (fun hn_r1 => ?_)
  have htl_r1 := tops_len r1
  refine O.fact (RowsA.len 2 rfl) (fun hn_cl1 => ?_)
  have htl_cl1 := tops_len cl1
  refine O.p rfl rfl rfl (Pu.move rfl rfl) ?_
  refine O.p rfl rfl rfl (Pu.extract rfl rfl rfl) ?_
  refine O.p rfl rfl rfl (Pu.extract rfl rfl rfl) ?_
  refine O.p rfl rfl rfl (Pu.assign rfl rfl) ?_
  refine O.p rfl rfl rfl (Pu.assign rfl rfl) ?_
  refine O.nil ?_
  refine X.next ?_
  refine V.seq ?_
  refine V.block ?_
  refine V.seq ?_
  refine V.region ?_
  refine O.p rfl rfl rfl (Pu.move rfl rfl) ?_
  refine O.p rfl rfl rfl (Pu.neq rfl rfl rfl) ?_
  refine O.p rfl rfl rfl (Pu.assign rfl rfl) ?_
  refine O.nil ?_
  refine X.next ?_
  refine V.condNot rfl (fun c1 => ?_) (fun c1 => ?_)
  · skip
    refine V.seq ?_
    refine V.region ?_
    refine O.p rfl rfl rfl (Pu.move rfl rfl) ?_
    refine O.p rfl rfl rfl (Pu.assign rfl rfl) ?_
    refine O.p rfl rfl rfl (Pu.assign rfl rfl) ?_
    refine O.nil ?_
    refine X.next ?_
    refine V.ret ?_
    refine X.blockRet ?_
    refine X.thenRet ?_
    refine X.ret2 rfl rfl rfl ?_
    exact fun w hw => St.mkExi none (St.mkExi 0 (St.mkExi [] (St.mkExi code1 (St.unsep (St.addPur ⟨(by first | rfl | (simp only [tops_append]; done) | (simp only [tops_append]; rfl)), (rsol_codes hr1_1 (by decide)).1 c1, by simp⟩ (St.unsep (St.addNil (T := 43) (C := SlC) (RowsA.nil (T := 2) (C := I64) (hw.sub (Sub.nil _))))))))))
  · skip
    refine V.seq ?_
    refine V.region ?_
    refine O.p rfl rfl rfl (Pu.move rfl rfl) ?_
    refine O.p rfl rfl rfl (Pu.len rfl Try.underlying64 rfl) ?_
    refine O.p rfl rfl rfl (Pu.eql rfl rfl rfl) ?_
    refine O.p rfl rfl rfl (Pu.assign rfl rfl) ?_
    refine O.nil ?_
    refine X.next ?_
    refine V.condD rfl (fun c2 => ?_) (fun c2 => ?_)
    · skip
      refine V.seq ?_
      refine V.region ?_
      refine O.p rfl rfl rfl (Pu.assign rfl rfl) ?_
      refine O.p rfl rfl rfl (Pu.assign rfl rfl) ?_
      refine O.nil ?_
      refine X.next ?_
      refine V.ret ?_
      refine X.blockRet ?_
      refine X.thenRet ?_
      refine X.ret2 rfl rfl rfl ?_
      exact fun w hw => St.mkExi none (St.mkExi 0 (St.mkExi [] (St.mkExi (4 : Int) (St.unsep (St.addPur ⟨(by first | rfl | (simp only [tops_append]; done) | (simp only [tops_append]; rfl)), (rsol_codes hr1_1 (by decide)).2 (by omega) (List.eq_nil_of_length_eq_zero (by rw [conts_len]; omega)), by simp⟩ (St.unsep (St.addNil (T := 43) (C := SlC) (RowsA.nil (T := 2) (C := I64) (hw.sub (Sub.nil _))))))))))
    · skip
      obtain ⟨hS, hIL, h80, q, rr, hres, hq0, hqix⟩ := rsol_first hr1_1 (by decide) (by omega) (by rw [conts_len]; omega)
      have e0 : 0 < r1.length := by omega
      have hr0 : (r1[0]'e0).2 = tops (psJ cl1 q) := by rw [psJ_tops, ← hq0, conts_get]
      have hql := resN_len (cl := conts cl1) (n := bs.length) (left := leftM 0 bs.length) (q := q) (by rw [hres]; simp)
      have hfew := hS.few
      have hpl := psJ_len cl1 q
      have htp := tops_len (psJ cl1 q)
      have hcp := psJ_conts cl1 q
      have hcq : ∀ c ∈ conts (psJ cl1 q), 0 < c.length ∧ c.length ≤ 5 := fun c hc => cls_len5 hS ((hIL.2 _).1 (by obtain ⟨p, hp, rfl⟩ := List.mem_map.1 hc; exact List.mem_map.2 ⟨p, psJ_mem hqix p hp, rfl⟩))
      refine V.skip ?_
      refine X.blockNormal ?_
      refine X.next ?_
      refine V.seq ?_
      refine V.region ?_
      refine O.p rfl rfl rfl (Pu.move rfl rfl) ?_
      refine O.p rfl rfl rfl (Pu.indexAddrS (0) rfl Try.underlying64 sz34 rfl rfl (by omega) (by omega) (fun w hw => Own.some hw (i := 0) (by exact rfl) (by omega))) ?_
      refine O.p rfl rfl rfl (Pu.cast (v := .slice (r1[0]'e0).1.A (tops (psJ cl1 q)).length (r1[0]'e0).1.c) (by rw [hr0]) (Pu.load rfl pl34 rfl (Ld.row (Ld.own 0 (by exact rfl)) hn_r1 e0 rfl))) ?_
      refine O.e rfl rfl rfl (Ef.call1 call93 rfl rfl (fun w hw => copyLists_ok  (psJ cl1 q) _ _ w ((Ld.psJ 1 2 (by exact rfl) (by exact rfl) e0 hr0 hn_cl1 hqix) w hw) (by first | omega | (simp only [tops_len, conts_len, bl, List.length_append, List.length_cons, List.length_nil] at *; omega)) (fun c hc => by have := hcq c hc; omega))) ?_
      rintro _ _ rfl
      refine O.exi (fun r2A => ?_)
      refine O.exi (fun r2c => ?_)
      refine O.exi (fun r2 => ?_)
      refine O.sep ?_
      refine O.pur ?_
      rintro ⟨rfl, hr2_1, hr2_2⟩
      refine O.sep ?_
      refine O.fact (RowsA.len 1 rfl) (fun hn_r2 => ?_)
      have htl_r2 := tops_len r2
      refine O.p rfl rfl rfl (Pu.assign rfl rfl) ?_
      refine O.p rfl rfl rfl (Pu.assign rfl rfl) ?_
      refine O.nil ?_
      refine X.next ?_
      refine V.ret ?_
      refine X.ret2 rfl rfl rfl ?_
      exact fun w hw => St.mkExi r2A (St.mkExi r2c (St.mkExi r2 (St.mkExi (0 : Int) (St.unsep (St.addPur ⟨(by first | rfl | (simp only [tops_append]; done) | (simp only [tops_append]; rfl)), ⟨fun h => absurd hS h, fun _ => ⟨conts cl1, hIL, by rw [fres_some (by rw [conts_len]; omega) hres, hr2_1, hcp]⟩⟩, by omega⟩ (St.unsep (hw.sub (Sub.keep 0 rfl (Sub.keep 0 rfl (Sub.nil _))))))))))

set_option maxRecDepth 100000 in
set_option maxHeartbeats 1000000 in
theorem specFirstResolution_ok (v : Int) (bs : List B3) (A : Option Addr) (c : Nat) (w : World) (hx : Rd B3C w A bs) (lx : bs.length ≤ 4611686018427387904) : Does Try.prog 38 [.agg #[.int .i64 v, .slice A bs.length c]] w [] (fun rv_ => [.exi fun (rA : Option Addr) => .exi fun (rc : Nat) => .exi fun (r : List (Sl × List Int)) => .exi fun (code : Int) => .sep (.pur (rv_ = .tuple #[.slice rA (tops r).length rc, .int .i64 code] ∧ FRes v bs (conts r) code ∧ r.length ≤ 35)) (.sep (Own 43 SlC rA rc (tops r)) (RowsA 2 I64 r))]) := by
  refine Does.enter Try.func38 rfl rfl [(0, .agg #[.int .i64 v, .slice A bs.length c])] rfl ?_
  refine V.seq ?_
  refine V.region ?_
  refine O.e rfl rfl rfl (Ef.box rfl rfl rfl) ?_
  rintro _ _ ⟨b1, rfl, rfl⟩
  refine O.p rfl rfl rfl (Pu.assign rfl rfl) ?_
  refine O.p rfl rfl rfl (Pu.assign rfl rfl) ?_
  refine O.nil ?_
  refine X.next ?_
  refine V.seq ?_
  refine V.region ?_
  refine O.p rfl rfl rfl (Pu.loadAgg rfl ag30 sz30 rfl rfl (Ld.whole 0 rfl)) ?_
  refine O.e rfl rfl rfl (Ef.call1 call57 rfl rfl (fun w hw => l05Resolutions_ok  v bs 1 _ _ w ((Ld.old hx) w hw) (by first | omega | (simp only [tops_len, conts_len, bl, List.length_append, List.length_cons, List.length_nil] at *; omega)) (by decide) (by decide))) ?_
  rintro _ _ rfl
  refine O.exi (fun r1A => ?_)
  refine O.exi (fun r1c => ?_)
  refine O.exi (fun r1 => ?_)
  refine O.exi (fun code1 => ?_)
  refine O.exi (fun cl1 => ?_)
  refine O.sep ?_
  refine O.pur ?_
  rintro ⟨rfl, hr1_1, hr1_2⟩
  refine O.sep ?_
  refine O.sep ?_
  refine O.fact (RowsA.len 1 rfl) (fun hn_r1 => ?_)
  have htl_r1 := tops_len r1
  refine O.fact (RowsA.len 2 rfl) (fun hn_cl1 => ?_)
  have htl_cl1 := tops_len cl1
  refine O.p rfl rfl rfl (Pu.move rfl rfl) ?_
  refine O.p rfl rfl rfl (Pu.extract rfl rfl rfl) ?_
  refine O.p rfl rfl rfl (Pu.extract rfl rfl rfl) ?_
  refine O.p rfl rfl rfl (Pu.assign rfl rfl) ?_
  refine O.p rfl rfl rfl (Pu.assign rfl rfl) ?_
  refine O.nil ?_
  refine X.next ?_
  refine V.seq ?_
  refine V.block ?_
  refine V.seq ?_
  refine V.region ?_
  refine O.p rfl rfl rfl (Pu.move rfl rfl) ?_
  refine O.p rfl rfl rfl (Pu.neq rfl rfl rfl) ?_
  refine O.p rfl rfl rfl (Pu.assign rfl rfl) ?_
  refine O.nil ?_
  refine X.next ?_
  refine V.condNot rfl (fun c1 => ?_) (fun c1 => ?_)
  · skip
    refine V.seq ?_
    refine V.region ?_
    refine O.p rfl rfl rfl (Pu.move rfl rfl) ?_
    refine O.p rfl rfl rfl (Pu.assign rfl rfl) ?_
    refine O.p rfl rfl rfl (Pu.assign rfl rfl) ?_
    refine O.nil ?_
    refine X.next ?_
    refine V.ret ?_
    refine X.blockRet ?_
    refine X.thenRet ?_
    refine X.ret2 rfl rfl rfl ?_
    exact fun w hw => St.mkExi none (St.mkExi 0 (St.mkExi [] (St.mkExi code1 (St.unsep (St.addPur ⟨(by first | rfl | (simp only [tops_append]; done) | (simp only [tops_append]; rfl)), (rsol_codes hr1_1 (by decide)).1 c1, by simp⟩ (St.unsep (St.addNil (T := 43) (C := SlC) (RowsA.nil (T := 2) (C := I64) (hw.sub (Sub.nil _))))))))))
  · skip
    refine V.seq ?_
    refine V.region ?_
    refine O.p rfl rfl rfl (Pu.move rfl rfl) ?_
    refine O.p rfl rfl rfl (Pu.len rfl Try.underlying64 rfl) ?_
    refine O.p rfl rfl rfl (Pu.eql rfl rfl rfl) ?_
    refine O.p rfl rfl rfl (Pu.assign rfl rfl) ?_
    refine O.nil ?_
    refine X.next ?_
    refine V.condD rfl (fun c2 => ?_) (fun c2 => ?_)
    · skip
      refine V.seq ?_
      refine V.region ?_
      refine O.p rfl rfl rfl (Pu.assign rfl rfl) ?_
      refine O.p rfl rfl rfl (Pu.assign rfl rfl) ?_
      refine O.nil ?_
      refine X.next ?_
      refine V.ret ?_
      refine X.blockRet ?_
      refine X.thenRet ?_
      refine X.ret2 rfl rfl rfl ?_
      exact fun w hw => St.mkExi none (St.mkExi 0 (St.mkExi [] (St.mkExi (4 : Int) (St.unsep (St.addPur ⟨(by first | rfl | (simp only [tops_append]; done) | (simp only [tops_append]; rfl)), (rsol_codes hr1_1 (by decide)).2 (by omega) (List.eq_nil_of_length_eq_zero (by rw [conts_len]; omega)), by simp⟩ (St.unsep (St.addNil (T := 43) (C := SlC) (RowsA.nil (T := 2) (C := I64) (hw.sub (Sub.nil _))))))))))
    · skip
      obtain ⟨hS, hIL, h80, q, rr, hres, hq0, hqix⟩ := rsol_first hr1_1 (by decide) (by omega) (by rw [conts_len]; omega)
      have e0 : 0 < r1.length := by omega
      have hr0 : (r1[0]'e0).2 = tops (psJ cl1 q) := by rw [psJ_tops, ← hq0, conts_get]
      have hql := resN_len (cl := conts cl1) (n := bs.length) (left := leftM 0 bs.length) (q := q) (by rw [hres]; simp)
      have hfew := hS.few
      have hpl := psJ_len cl1 q
      have htp := tops_len (psJ cl1 q)
      have hcp := psJ_conts cl1 q
      have hcq : ∀ c ∈ conts (psJ cl1 q), 0 < c.length ∧ c.length ≤ 5 := fun c hc => cls_len5 hS ((hIL.2 _).1 (by obtain ⟨p, hp, rfl⟩ := List.mem_map.1 hc; exact List.mem_map.2 ⟨p, psJ_mem hqix p hp, rfl⟩))
      refine V.skip ?_
      refine X.blockNormal ?_
      refine X.next ?_
      refine V.seq ?_
      refine V.region ?_
      refine O.e rfl rfl rfl (Ef.build SlC ([] : List Sl) rfl Try.underlying34 inf43 rfl rfl rfl (by first | decide | (simp; done)) (by kernel_rfl)) ?_
      rintro _ _ ⟨A1, hA1, rfl, rfl⟩
      refine O.p rfl rfl rfl (Pu.assign rfl rfl) ?_
      refine O.nil ?_
      refine X.next ?_
      refine V.seq ?_
      refine V.seq ?_
      refine V.region ?_
      refine O.p rfl rfl rfl (Pu.assign rfl rfl) ?_
      refine O.nil ?_
      refine X.next ?_
      refine V.block ?_
      refine V.map (fun w hw => RowsA.nil (T := 2) (C := I64) hw) ?_
      refine V.loop3 (β := (Option Addr) × Nat × (List (Sl × List Int)) × Nat) (fun x => [(6, .slice x.1 (tops x.2.2.1).length x.2.1), (7, .int .i64 (x.2.2.2 : Int))]) _ (fun x => [Own 43 SlC x.1 x.2.1 (tops x.2.2.1), RowsA 2 I64 x.2.2.1]) _ (fun x => x.2.2.2 ≤ (psJ cl1 q).length ∧ conts x.2.2.1 = (conts (psJ cl1 q)).take x.2.2.2) (fun x => (psJ cl1 q).length - x.2.2.2) (A1, 0, [], 0) (by (try dsimp only); exact ⟨by omega, by simp [conts]⟩) (Ent.cons rfl (Ent.cons rfl (Ent.nil _))) (Ent.cons (t := 4) rfl (Ent.nil _)) (Sub.keep 1 rfl (Sub.keep 0 rfl (Sub.keep 0 rfl (Sub.keep 0 rfl (Sub.keep 0 rfl (Sub.keep 0 rfl (Sub.nil _))))))) ?_
      rintro ⟨outA, outc, out, i⟩ ⟨hi, ho⟩
      dsimp only at hi ho ⊢
      have hco := conts_len out
      have hcc := conts_len (psJ cl1 q)
      have hol : out.length = i := by rw [← hco, ho, List.length_take]; omega
      refine V.fact (RowsA.len 1 rfl) (fun hn_out => ?_)
      have htl_out := tops_len out
      refine V.seq ?_
      refine V.seq ?_
      refine V.region ?_
      refine O.p rfl rfl rfl (Pu.move rfl rfl) ?_
      refine O.p rfl rfl rfl (Pu.move rfl rfl) ?_
      refine O.p rfl rfl rfl (Pu.indexAddrS (0) rfl Try.underlying64 sz34 rfl rfl (by omega) (by omega) (fun w hw => Own.some hw (i := 2) (by exact rfl) (by omega))) ?_
      refine O.p rfl rfl rfl (Pu.cast (v := .slice (r1[0]'e0).1.A (tops (psJ cl1 q)).length (r1[0]'e0).1.c) (by rw [hr0]) (Pu.load rfl pl34 rfl (Ld.row (Ld.own 2 (by exact rfl)) hn_r1 e0 rfl))) ?_
      refine O.p rfl rfl rfl (Pu.len rfl Try.underlying34 rfl) ?_
      refine O.p rfl rfl rfl (Pu.lss rfl rfl rfl) ?_
      refine O.nil ?_
      refine X.next ?_
      refine V.condD rfl (fun c3 => ?_) (fun c3 => ?_)
      · skip
        refine V.skip ?_
        refine X.next ?_
        refine V.seq ?_
        refine V.block ?_
        have ei : i < (psJ cl1 q).length := by omega
        have hci := hcq _ (List.getElem_mem (l := conts (psJ cl1 q)) (n := i) (by omega))
        rw [conts_get] at hci
        refine V.fact (fun w hw => ((Ld.psJ 3 4 (by exact rfl) (by exact rfl) e0 hr0 hn_cl1 hqix w hw).row i ei).some (by omega)) (fun hsm => ?_)
        refine V.region ?_
        refine O.p rfl rfl rfl (Pu.move rfl rfl) ?_
        refine O.p rfl rfl rfl (Pu.move rfl rfl) ?_
        refine O.p rfl rfl rfl (Pu.indexAddrS (0) rfl Try.underlying64 sz34 rfl rfl (by omega) (by omega) (fun w hw => Own.some hw (i := 2) (by exact rfl) (by omega))) ?_
        refine O.p rfl rfl rfl (Pu.cast (v := .slice (r1[0]'e0).1.A (tops (psJ cl1 q)).length (r1[0]'e0).1.c) (by rw [hr0]) (Pu.load rfl pl34 rfl (Ld.row (Ld.own 2 (by exact rfl)) hn_r1 e0 rfl))) ?_
        refine O.p rfl rfl rfl (Pu.move rfl rfl) ?_
        refine O.p rfl rfl rfl (Pu.indexAddrS (i) rfl Try.underlying34 sz43 rfl rfl (by omega) (by omega) (fun w hw => ((fun w hw => ((Ld.psJ 3 4 (by exact rfl) (by exact rfl) e0 hr0 hn_cl1 hqix) w hw).top) w hw).some (by omega))) ?_
        have e1 : i < (psJ cl1 q).length := by have := tops_len (psJ cl1 q); omega
        refine O.p rfl rfl rfl (Pu.load rfl pl43 rfl (Ld.row (fun w hw => ((Ld.psJ 3 4 (by exact rfl) (by exact rfl) e0 hr0 hn_cl1 hqix) w hw).top) (fun p hp => hn_cl1 _ (psJ_mem hqix p hp)) e1 rfl)) ?_
        refine O.e rfl rfl rfl (Ef.call1 call92 rfl rfl (fun w hw => l01Own_ok ((psJ cl1 q)[i]'e1).2 _ _ w ((fun w hw => ((Ld.psJ 3 4 (by exact rfl) (by exact rfl) e0 hr0 hn_cl1 hqix) w hw).row i e1) w hw) hsm (by omega))) ?_
        rintro _ _ rfl
        refine O.exi (fun p1 => ?_)
        refine O.sep ?_
        refine O.pur ?_
        rintro ⟨rfl, hp1⟩
        refine O.e rfl rfl rfl (Ef.build SlC ([⟨p1.1.1, p1.2.length, p1.1.2⟩] : List Sl) rfl Try.underlying34 inf43 rfl rfl rfl (by first | decide | (simp; done)) (by kernel_rfl)) ?_
        rintro _ _ ⟨A2, hA2, rfl, rfl⟩
        refine O.e rfl rfl rfl (Ef.append (xs := (tops out)) (ys := ([⟨p1.1.1, p1.2.length, p1.1.2⟩] : List Sl)) 2 rfl Try.underlying34 inf43 rfl rfl rfl rfl rfl rfl hA2 (Ld.own 0 (by exact rfl)) (by simp only [List.length_append, List.length_cons, List.length_nil] at *; omega) (by decide)) ?_
        rintro _ _ ⟨A3, k1, rfl, rfl, hA3⟩
        replace hA3 := hA3 (.inr (by simp))
        refine O.map (fun w hw => snoc_heap (ps := out) (xs := p1.2) (hw.sub (Sub.keep 2 rfl (Sub.keep 2 rfl (Sub.keep 1 rfl (Sub.keep 0 rfl (Sub.keep 0 rfl (Sub.keep 0 rfl (Sub.keep 0 rfl (Sub.keep 0 rfl (Sub.nil _))))))))))) ?_
        refine O.p rfl rfl rfl (Pu.assign rfl rfl) ?_
        refine O.nil ?_
        refine X.blockNormal ?_
        refine X.next ?_
        refine V.region ?_
        refine O.p rfl rfl rfl (Pu.move rfl rfl) ?_
        refine O.p rfl rfl rfl (Pu.add64 (r := ((i + 1 : Nat) : Int)) rfl (by omega) rfl rfl rfl) ?_
        refine O.p rfl rfl rfl (Pu.assign rfl rfl) ?_
        refine O.nil ?_
        exact X.back3 (A3, k1, (out ++ [((⟨p1.1.1, p1.2.length, p1.1.2⟩ : Sl), p1.2)]), i + 1) (by (try dsimp only); exact ⟨by omega, by rw [conts_append, ho, take_snoc (by rw [conts_len]; omega), conts_get]; simp [conts, hp1]⟩) (by first | omega | (dsimp only; omega)) (Ent.cons' rfl (by first | rfl | (simp only [tops_append]; done) | (simp only [tops_append]; rfl)) (Ent.cons rfl (Ent.nil _))) (Ent.cons (t := 4) rfl (Ent.nil _)) (Sub.keep 0 rfl (Sub.keep 0 rfl (Sub.keep 1 rfl (Sub.keep 1 rfl (Sub.keep 1 rfl (Sub.keep 1 rfl (Sub.nil _)))))))
      · skip
        refine V.exit ?_
        refine X.thenExit ?_
        refine X.thenExit ?_
        refine X.blockHit ?_
        refine X.next ?_
        refine V.seq ?_
        refine V.region ?_
        refine O.p rfl rfl rfl (Pu.move rfl rfl) ?_
        refine O.p rfl rfl rfl (Pu.assign rfl rfl) ?_
        refine O.p rfl rfl rfl (Pu.assign rfl rfl) ?_
        refine O.nil ?_
        refine X.next ?_
        refine V.ret ?_
        refine X.ret2 rfl rfl rfl ?_
        exact fun w hw => St.mkExi outA (St.mkExi outc (St.mkExi out (St.mkExi (0 : Int) (St.unsep (St.addPur ⟨(by first | rfl | (simp only [tops_append]; done) | (simp only [tops_append]; rfl)), ⟨fun h => absurd hS h, fun _ => ⟨conts cl1, hIL, by rw [fres_some (by rw [conts_len]; omega) hres, ho, List.take_of_length_le (by rw [conts_len]; omega), hcp]⟩⟩, by omega⟩ (St.unsep (hw.sub (Sub.keep 0 rfl (Sub.keep 0 rfl (Sub.nil _))))))))))
end Go.Proofs.Ytjpfngmoabnffaa
