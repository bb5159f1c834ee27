/-
  Resolutions.
-/
import Derived.Test.YtjpfngmoabnffaaK
import Derived.Test.YtjpfngmoabnffaaZ1
import Derived.Test.YtjpfngmoabnffaaPureRes
set_option linter.unusedVariables false
set_option linter.unusedSimpArgs false
namespace Go.Proofs.Ytjpfngmoabnffaa
open Go Go.RowKit Go.Vc Go.Proofs
set_option maxRecDepth 100000 in
set_option maxHeartbeats 1000000 in
theorem numbersOf_ok (v : Int) (bs : List B3) (p : B3 → Prop) [DecidablePred p] (gf : Nat) (caps : Array Value) (A : Option Addr) (c : Nat) (w : World) (hx : Rd B3C w A bs) (lx : bs.length ≤ 4611686018427387904) (hok : CallOk Try.prog gf) (lf : bs.length ≤ 1099511627776) (hf : ∀ (k : Nat) (hk : k < bs.length) w', Below w.heap.size w w' → Does Try.prog gf ([B3.v bs[k]] ++ caps.toList) w' [] (fun v => [.pur (v = .bool (decide (p bs[k])))])) : Does Try.prog 128 [.agg #[.int .i64 v, .slice A bs.length c], .func (.func gf) #[] caps] w [] (fun rv_ => [.exi fun (rA : Option Addr) => .exi fun (rc : Nat) => .exi fun (r : List Int) => .sep (.pur (rv_ = .slice rA r.length rc ∧ r = numsAt p bs bs.length)) (Own 2 I64 rA rc r)]) := by
  refine Does.enter Try.func128 rfl rfl [(0, .agg #[.int .i64 v, .slice A bs.length c]), (1, .func (.func gf) #[] caps)] rfl ?_
  refine V.seq ?_
  refine V.region ?_
  refine O.e rfl rfl rfl (Ef.box rfl rfl rfl) ?_
  rintro _ _ ⟨b1, rfl, rfl⟩
  refine O.p rfl rfl rfl (Pu.assign rfl rfl) ?_
  refine O.nil ?_
  refine X.next ?_
  refine V.seq ?_
  refine V.region ?_
  refine O.p rfl rfl rfl (Pu.assign rfl rfl) ?_
  refine O.nil ?_
  refine X.next ?_
  refine V.seq ?_
  refine V.seq ?_
  refine V.region ?_
  refine O.p rfl rfl rfl (Pu.fieldAddr 1 rfl Try.underlying30 rfl sz28 rfl rfl) ?_
  refine O.p rfl rfl rfl (Pu.load rfl pl28 rfl (Ld.blk 0 rfl rfl)) ?_
  refine O.p rfl rfl rfl (Pu.len rfl Try.underlying28 rfl) ?_
  refine O.p rfl rfl rfl (Pu.move rfl rfl) ?_
  refine O.nil ?_
  refine X.next ?_
  refine V.block ?_
  refine V.map (fun w hw => St.addNil (T := 2) (C := I64) hw) ?_
  refine V.loop3 (β := (Option Addr) × Nat × (List Int) × Nat) (fun x => [(5, .slice x.1 x.2.2.1.length x.2.1), (11, .int .i64 (x.2.2.2 : Int))]) _ (fun x => [Own 2 I64 x.1 x.2.1 x.2.2.1]) _ (fun x => x.2.2.2 ≤ bs.length ∧ x.2.2.1 = numsAt p bs x.2.2.2 ∧ x.2.2.1.length ≤ x.2.2.2) (fun x => bs.length - x.2.2.2) (none, 0, [], 0) (by (try dsimp only); exact ⟨by omega, rfl, by simp⟩) (Ent.cons rfl (Ent.cons rfl (Ent.nil _))) (Ent.cons (t := 1) rfl (Ent.cons (t := 9) rfl (Ent.cons (t := 10) rfl (Ent.nil _)))) (Sub.keep 0 rfl (Sub.keep 0 rfl (Sub.nil _))) ?_
  rintro ⟨outA, outc, out, i⟩ ⟨hi, ho, hl⟩
  dsimp only at hi ho hl ⊢
  refine V.seq ?_
  refine V.region ?_
  refine O.p rfl rfl rfl (Pu.lss rfl rfl rfl) ?_
  refine O.nil ?_
  refine X.next ?_
  refine V.seq ?_
  refine V.condD rfl (fun c1 => ?_) (fun c1 => ?_)
  · skip
    refine V.skip ?_
    refine X.next ?_
    refine V.seq ?_
    refine V.block ?_
    refine V.seq ?_
    refine V.region ?_
    refine O.p rfl rfl rfl (Pu.move rfl rfl) ?_
    refine O.p rfl rfl rfl (Pu.indexAddr (i) rfl Try.underlying28 sz75 rfl rfl (by omega) (by omega) (hx.some (by omega))) ?_
    have e1 : i < bs.length := by omega
    refine O.p rfl rfl rfl (Pu.loadAgg' (v := B3.v (bs[i]'e1)) rfl rfl ag75 sz75 rfl rfl (Ld.rds (Ld.old hx) (k := i) e1 rfl)) ?_
    refine O.e rfl rfl rfl (Ef.alloc rfl zr75 rfl) ?_
    rintro _ _ ⟨b2, rfl, rfl⟩
    refine O.p rfl rfl rfl (Pu.assign rfl rfl) ?_
    refine O.s rfl rfl (Ef.storeAll 0 rfl sz75 rfl rfl rfl rfl (by simp [Value.oneCell']) rfl) ?_
    rintro _ _ rfl
    refine O.nil ?_
    refine X.next ?_
    refine V.seq ?_
    refine V.region ?_
    refine O.p rfl rfl rfl (Pu.move rfl rfl) ?_
    refine O.p rfl rfl rfl (Pu.loadAgg' (v := B3.v (bs[i]'e1)) rfl rfl ag75 sz75 rfl rfl (Ld.whole 0 rfl)) ?_
    refine O.e rfl rfl rfl (Ef.callPV hok rfl rfl rfl (fun w' hw => hf i e1 w' hw.below)) ?_
    rintro _ _ ⟨rfl, rfl⟩
    refine O.nil ?_
    refine X.next ?_
    refine V.condD rfl (fun c2 => ?_) (fun c2 => ?_)
    · skip
      refine V.region ?_
      refine O.p rfl rfl rfl (Pu.move rfl rfl) ?_
      refine O.p rfl rfl rfl (Pu.move rfl rfl) ?_
      refine O.e rfl rfl rfl (Ef.build I64 ([(↑i : Int)] : List Int) rfl Try.underlying43 inf2 rfl rfl rfl (by first | decide | (simp; done)) (by kernel_rfl)) ?_
      rintro _ _ ⟨A1, hA1, rfl, rfl⟩
      refine O.e rfl rfl rfl (Ef.append (xs := out) (ys := ([(↑i : Int)] : List Int)) 2 rfl Try.underlying43 inf2 rfl rfl rfl rfl rfl rfl hA1 (Ld.own 0 (by exact rfl)) (by simp only [List.length_append, List.length_cons, List.length_nil] at *; omega) (by decide)) ?_
      rintro _ _ ⟨A2, k1, rfl, rfl, hA2⟩
      replace hA2 := hA2 (.inr (by simp))
      refine O.p rfl rfl rfl (Pu.assign rfl rfl) ?_
      refine O.nil ?_
      refine X.blockNormal ?_
      refine X.next ?_
      refine V.region ?_
      refine O.p rfl rfl rfl (Pu.add64 (r := ((i + 1 : Nat) : Int)) rfl (by omega) rfl rfl rfl) ?_
      refine O.p rfl rfl rfl (Pu.move rfl rfl) ?_
      refine O.nil ?_
      exact X.back3 (A2, k1, (out ++ ([(↑i : Int)] : List Int)), i + 1) (by (try dsimp only); exact ⟨by omega, by rw [ho, numsAt_yes e1 c2], by simp only [List.length_append, List.length_singleton]; omega⟩) (by first | omega | (dsimp only; omega)) (Ent.cons rfl (Ent.cons rfl (Ent.nil _))) (Ent.cons (t := 1) rfl (Ent.cons (t := 9) rfl (Ent.cons (t := 10) rfl (Ent.nil _)))) (Sub.keep 2 rfl (Sub.keep 2 rfl (Sub.nil _)))
    · skip
      refine V.skip ?_
      refine X.blockNormal ?_
      refine X.next ?_
      refine V.region ?_
      refine O.p rfl rfl rfl (Pu.add64 (r := ((i + 1 : Nat) : Int)) rfl (by omega) rfl rfl rfl) ?_
      refine O.p rfl rfl rfl (Pu.move rfl rfl) ?_
      refine O.nil ?_
      exact X.back3 (outA, outc, out, i + 1) (by (try dsimp only); exact ⟨by omega, by rw [ho, numsAt_no e1 c2], by omega⟩) (by first | omega | (dsimp only; omega)) (Ent.cons rfl (Ent.cons rfl (Ent.nil _))) (Ent.cons (t := 1) rfl (Ent.cons (t := 9) rfl (Ent.cons (t := 10) rfl (Ent.nil _)))) (Sub.keep 1 rfl (Sub.keep 1 rfl (Sub.nil _)))
  · skip
    refine V.exit ?_
    refine X.thenExit ?_
    refine X.thenExit ?_
    refine X.blockHit ?_
    refine X.next ?_
    refine V.seq ?_
    refine V.region ?_
    refine O.p rfl rfl rfl (Pu.move rfl rfl) ?_
    refine O.p rfl rfl rfl (Pu.assign rfl rfl) ?_
    refine O.nil ?_
    refine X.next ?_
    refine V.ret ?_
    refine X.ret1 rfl rfl ?_
    exact fun w hw => St.mkExi outA (St.mkExi outc (St.mkExi out (St.unsep (St.addPur ⟨rfl, by rw [ho, show i = bs.length by omega]⟩ (hw.sub (Sub.keep 0 rfl (Sub.nil _)))))))

set_option maxRecDepth 100000 in
set_option maxHeartbeats 1000000 in
theorem resolve1_ok (i : Int) (left : List Int) (b_0 : Nat) (leftA : Option Addr) (leftc : Nat) (w : World) (hleft : Rd I64 w leftA left) (hb_0 : RdB w b_0 [.slice leftA left.length leftc]) (lleft : left.length ≤ 1099511627776) : Does Try.prog 191 [.int .i64 i, .pointer (some ⟨b_0, 0, none⟩)] w [] (fun r => [.pur (r = .bool (decide (¬ i ∈ left)))]) := by
  refine Does.enter Try.func191 rfl rfl [(0, .int .i64 i), (1, .pointer (some ⟨b_0, 0, none⟩))] rfl ?_
  refine V.seq ?_
  refine V.region ?_
  refine O.p rfl rfl rfl (Pu.assign rfl rfl) ?_
  refine O.nil ?_
  refine X.next ?_
  refine V.seq ?_
  refine V.region ?_
  refine O.p rfl rfl rfl (Pu.load rfl pl43 rfl (Ld.rdb hb_0 rfl)) ?_
  refine O.p rfl rfl rfl (Pu.move rfl rfl) ?_
  refine O.e rfl rfl rfl (Ef.callP call77 rfl rfl (fun w hw => containsI_ok  left i _ _ w ((Ld.old hleft) w hw) (by first | omega | (simp only [tops_len, conts_len, bl, List.length_append, List.length_cons, List.length_nil] at *; omega)) )) ?_
  rintro _ _ ⟨rfl, rfl⟩
  refine O.p rfl rfl rfl (Pu.not rfl rfl) ?_
  refine O.p rfl rfl rfl (Pu.assign rfl rfl) ?_
  refine O.nil ?_
  refine X.next ?_
  refine V.ret ?_
  refine X.ret1 rfl rfl ?_
  exact fun w hw => St.retP ((by rw [← decide_not]; try exact boolD (Iff.rfl))) hw

set_option maxRecDepth 100000 in
set_option maxHeartbeats 1000000 in
theorem resolve2_ok (i : Int) (cls : List Int) (b_0 : Nat) (clsA : Option Addr) (clsc : Nat) (w : World) (hcls : Rd I64 w clsA cls) (hb_0 : RdB w b_0 [.slice clsA cls.length clsc]) (lcls : cls.length ≤ 1099511627776) : Does Try.prog 193 [.int .i64 i, .pointer (some ⟨b_0, 0, none⟩)] w [] (fun r => [.pur (r = .bool (decide (i ∈ cls)))]) := by
  refine Does.enter Try.func193 rfl rfl [(0, .int .i64 i), (1, .pointer (some ⟨b_0, 0, none⟩))] rfl ?_
  refine V.seq ?_
  refine V.region ?_
  refine O.p rfl rfl rfl (Pu.assign rfl rfl) ?_
  refine O.nil ?_
  refine X.next ?_
  refine V.seq ?_
  refine V.region ?_
  refine O.p rfl rfl rfl (Pu.load rfl pl43 rfl (Ld.rdb hb_0 rfl)) ?_
  refine O.p rfl rfl rfl (Pu.move rfl rfl) ?_
  refine O.e rfl rfl rfl (Ef.callP call77 rfl rfl (fun w hw => containsI_ok  cls i _ _ w ((Ld.old hcls) w hw) (by first | omega | (simp only [tops_len, conts_len, bl, List.length_append, List.length_cons, List.length_nil] at *; omega)) )) ?_
  rintro _ _ ⟨rfl, rfl⟩
  refine O.p rfl rfl rfl (Pu.assign rfl rfl) ?_
  refine O.nil ?_
  refine X.next ?_
  refine V.ret ?_
  refine X.ret1 rfl rfl ?_
  exact fun w hw => St.retP (boolD (Iff.rfl)) hw

def L_resolve (n : Nat) : Prop := ∀ (v : Int) (bs : List B3) (out : List (Sl × List Sl)) (classes : List (Sl × List Int)) (now : List Sl) (left : List Int) (most : Nat) (A : Option Addr) (c : Nat) (outA : Option Addr) (outc : Nat) (classesA : Option Addr) (classesc : Nat) (nowA : Option Addr) (nowc : Nat) (leftA : Option Addr) (leftc : Nat) (w0 : World) (H : List Assn) (hx : ∀ w, St w0 H w → Rd B3C w A bs) (hclasses : ∀ w, St w0 H w → RdL I64 w classesA classes) (hn_classes : LenOk classes) (hnow : ∀ w, St w0 H w → Rd SlC w nowA now) (hleft : ∀ w, St w0 H w → Rd I64 w leftA left) (lx : bs.length ≤ 4611686018427387904) (lclasses : classes.length ≤ 1099511627776) (lnow : now.length ≤ 1099511627776) (lleft : left.length ≤ 1099511627776) (hcl : ∀ q ∈ conts classes, 0 < q.length ∧ q.length ≤ 1000) (hln : left.length ≤ n) (hm : out.length < most) (hmm : most ≤ 1000000) (hnw : now.length + n ≤ 1000) (lcl : classes.length ≤ 1000000), Does Try.prog 130 [.agg #[.int .i64 v, .slice A bs.length c], .slice outA (tops out).length outc, .slice classesA (tops classes).length classesc, .slice nowA now.length nowc, .slice leftA left.length leftc, .int .i64 (most : Int)] w0 (Own 34 SlC outA outc (tops out) :: RowsA 43 SlC out :: H) (fun rv_ => [.exi fun (rA : Option Addr) => .exi fun (rc : Nat) => .exi fun (r : List (Sl × List Sl)) => .sep (.pur (rv_ = .slice rA (tops r).length rc ∧ conts r = conts out ++ ((resN (conts classes) n left).take (most - out.length)).map (fun q => now ++ topJ (tops classes) q) ∧ r.length ≤ most)) (.sep (Own 34 SlC rA rc (tops r)) (RowsA 43 SlC r))] ++ H)
set_option maxRecDepth 100000 in
set_option maxHeartbeats 1000000 in
theorem resolve_step (n : Nat) (ih : ∀ n', n' < n → L_resolve n') (v : Int) (bs : List B3) (out : List (Sl × List Sl)) (classes : List (Sl × List Int)) (now : List Sl) (left : List Int) (most : Nat) (A : Option Addr) (c : Nat) (outA : Option Addr) (outc : Nat) (classesA : Option Addr) (classesc : Nat) (nowA : Option Addr) (nowc : Nat) (leftA : Option Addr) (leftc : Nat) (w0 : World) (H : List Assn) (hx : ∀ w, St w0 H w → Rd B3C w A bs) (hclasses : ∀ w, St w0 H w → RdL I64 w classesA classes) (hn_classes : LenOk classes) (hnow : ∀ w, St w0 H w → Rd SlC w nowA now) (hleft : ∀ w, St w0 H w → Rd I64 w leftA left) (lx : bs.length ≤ 4611686018427387904) (lclasses : classes.length ≤ 1099511627776) (lnow : now.length ≤ 1099511627776) (lleft : left.length ≤ 1099511627776) (hcl : ∀ q ∈ conts classes, 0 < q.length ∧ q.length ≤ 1000) (hln : left.length ≤ n) (hm : out.length < most) (hmm : most ≤ 1000000) (hnw : now.length + n ≤ 1000) (lcl : classes.length ≤ 1000000) : Does Try.prog 130 [.agg #[.int .i64 v, .slice A bs.length c], .slice outA (tops out).length outc, .slice classesA (tops classes).length classesc, .slice nowA now.length nowc, .slice leftA left.length leftc, .int .i64 (most : Int)] w0 (Own 34 SlC outA outc (tops out) :: RowsA 43 SlC out :: H) (fun rv_ => [.exi fun (rA : Option Addr) => .exi fun (rc : Nat) => .exi fun (r : List (Sl × List Sl)) => .sep (.pur (rv_ = .slice rA (tops r).length rc ∧ conts r = conts out ++ ((resN (conts classes) n left).take (most - out.length)).map (fun q => now ++ topJ (tops classes) q) ∧ r.length ≤ most)) (.sep (Own 34 SlC rA rc (tops r)) (RowsA 43 SlC r))] ++ H) := by
  refine Does.enter Try.func130 rfl rfl [(0, .agg #[.int .i64 v, .slice A bs.length c]), (1, .slice outA (tops out).length outc), (2, .slice classesA (tops classes).length classesc), (3, .slice nowA now.length nowc), (4, .slice leftA left.length leftc), (5, .int .i64 (most : Int))] rfl ?_
  refine V.fact (RowsA.len 1 rfl) (fun hn_out => ?_)
  have htl_out := tops_len out
  have htc := tops_len classes
  have hcc := conts_len classes
  have hco := conts_len out
  refine V.seq ?_
  refine V.region ?_
  refine O.e rfl rfl rfl (Ef.box rfl rfl rfl) ?_
  rintro _ _ ⟨b1, rfl, rfl⟩
  refine O.e rfl rfl rfl (Ef.box rfl rfl rfl) ?_
  rintro _ _ ⟨b2, rfl, rfl⟩
  refine O.p rfl rfl rfl (Pu.assign rfl rfl) ?_
  refine O.nil ?_
  refine X.next ?_
  refine V.seq ?_
  refine V.seq ?_
  refine V.region ?_
  refine O.p rfl rfl rfl (Pu.load rfl pl43 rfl (Ld.blk 0 rfl rfl)) ?_
  refine O.p rfl rfl rfl (Pu.len rfl Try.underlying43 rfl) ?_
  refine O.p rfl rfl rfl (Pu.eql rfl rfl rfl) ?_
  refine O.nil ?_
  refine X.next ?_
  refine V.condD rfl (fun c1 => ?_) (fun c1 => ?_)
  · skip
    refine V.seq ?_
    refine V.region ?_
    refine O.p rfl rfl rfl (Pu.move rfl rfl) ?_
    refine O.p rfl rfl rfl (Pu.move rfl rfl) ?_
    refine O.e rfl rfl rfl (Ef.call1 call189 rfl rfl (fun w hw => cloneS_ok now _ _ w ((fun w hw => hnow w (hw.sub (Sub.drop (Sub.drop (Sub.drop (Sub.drop (Sub.refl _))))))) w hw) (by first | omega | (simp only [tops_len] at *; omega)))) ?_
    rintro _ _ rfl
    refine O.exi (fun p1 => ?_)
    refine O.sep ?_
    refine O.pur ?_
    rintro ⟨rfl, hp1⟩
    refine O.e rfl rfl rfl (Ef.build SlC ([⟨p1.1.1, p1.2.length, p1.1.2⟩] : List Sl) rfl Try.underlying64 inf34 rfl rfl rfl (by first | decide | (simp; done)) (by kernel_rfl)) ?_
    rintro _ _ ⟨A1, hA1, rfl, rfl⟩
    refine O.e rfl rfl rfl (Ef.append (xs := (tops out)) (ys := ([⟨p1.1.1, p1.2.length, p1.1.2⟩] : List Sl)) 4 rfl Try.underlying64 inf34 rfl rfl rfl rfl rfl rfl hA1 (Ld.own 0 (by exact rfl)) (by simp only [List.length_append, List.length_cons, List.length_nil] at *; omega) (by decide)) ?_
    rintro _ _ ⟨A2, k1, rfl, rfl, hA2⟩
    replace hA2 := hA2 (.inr (by simp))
    refine O.map (fun w hw => snoc_heap (ps := out) (xs := p1.2) (hw.sub (Sub.keep 4 rfl (Sub.keep 4 rfl (Sub.keep 1 rfl (Sub.keep 0 rfl (Sub.keep 0 rfl (Sub.keep 0 rfl (Sub.refl _))))))))) ?_
    refine O.p rfl rfl rfl (Pu.assign rfl rfl) ?_
    refine O.nil ?_
    refine X.next ?_
    refine V.ret ?_
    refine X.thenRet ?_
    refine X.ret1 rfl rfl ?_
    exact fun w hw => St.mkExi A2 (St.mkExi k1 (St.mkExi (out ++ [((⟨p1.1.1, p1.2.length, p1.1.2⟩ : Sl), p1.2)]) (St.unsep (St.addPur ⟨(by first | rfl | (simp only [tops_append]; done) | (simp only [tops_append]; rfl)), by have e : left = [] := List.eq_nil_of_length_eq_zero (by omega); subst e; rw [conts_append, resN_nil, List.take_of_length_le (by simp only [List.length_singleton]; omega)]; simp [conts, topJ, hp1], by simp only [List.length_append, List.length_singleton]; omega⟩ (St.unsep (hw.sub (Sub.keep 0 rfl (Sub.keep 0 rfl (Sub.drop (Sub.drop (Sub.drop (Sub.refl _))))))))))))
  · skip
    refine V.skip ?_
    refine X.next ?_
    refine V.seq ?_
    refine V.seq ?_
    refine V.region ?_
    refine O.p rfl rfl rfl (Pu.move rfl rfl) ?_
    refine O.p rfl rfl rfl (Pu.len rfl Try.underlying34 rfl) ?_
    refine O.p rfl rfl rfl (Pu.move rfl rfl) ?_
    refine O.nil ?_
    refine X.next ?_
    refine V.block ?_
    refine V.loop3 (β := (Option Addr) × Nat × (List (Sl × List Sl)) × Nat) (fun x => [(1, .slice x.1 (tops x.2.2.1).length x.2.1), (26, .int .i64 (x.2.2.2 : Int))]) _ (fun x => [Own 34 SlC x.1 x.2.1 (tops x.2.2.1), RowsA 43 SlC x.2.2.1]) _ (fun x => x.2.2.2 ≤ classes.length ∧ conts x.2.2.1 = conts out ++ ((resJ (conts classes) (n - 1) left x.2.2.2).take (most - out.length)).map (fun q => now ++ topJ (tops classes) q) ∧ x.2.2.1.length ≤ most) (fun x => classes.length - x.2.2.2) (outA, outc, out, 0) (by (try dsimp only); exact ⟨by omega, by rw [resJ_zero]; simp, by omega⟩) (Ent.cons rfl (Ent.cons rfl (Ent.nil _))) (Ent.cons (t := 2) rfl (Ent.cons (t := 3) rfl (Ent.cons (t := 5) rfl (Ent.cons (t := 6) rfl (Ent.cons (t := 10) rfl (Ent.cons (t := 24) rfl (Ent.cons (t := 25) rfl (Ent.nil _)))))))) (Sub.keep 2 rfl (Sub.keep 2 rfl (Sub.keep 0 rfl (Sub.keep 0 rfl (Sub.refl _))))) ?_
    rintro ⟨oA, oc, o, j⟩ ⟨hj, ho, hl⟩
    dsimp only at hj ho hl ⊢
    have hclo := conts_len o
    refine V.fact (RowsA.len 1 rfl) (fun hn_o => ?_)
    have htl_o := tops_len o
    refine V.seq ?_
    refine V.region ?_
    refine O.p rfl rfl rfl (Pu.lss rfl rfl rfl) ?_
    refine O.nil ?_
    refine X.next ?_
    refine V.seq ?_
    refine V.condD rfl (fun c2 => ?_) (fun c2 => ?_)
    · skip
      refine V.skip ?_
      refine X.next ?_
      refine V.seq ?_
      refine V.block ?_
      refine V.seq ?_
      have ei : j < classes.length := by omega
      have hget : (conts classes).getD j [] = (classes[j]'ei).2 := by rw [List.getD_eq_getElem?_getD, List.getElem?_eq_getElem (by omega), Option.getD_some, conts_get]
      have hc0 := hcl (classes[j]'ei).2 (conts_get classes (k := j) (by omega) ▸ List.getElem_mem _)
      refine V.region ?_
      refine O.p rfl rfl rfl (Pu.indexAddrS (j) rfl Try.underlying34 sz43 rfl rfl (by omega) (by omega) (fun w hw => ((fun w hw => (hclasses w (hw.sub (Sub.drop (Sub.drop (Sub.drop (Sub.drop (Sub.refl _))))))).top) w hw).some (by omega))) ?_
      refine O.p rfl rfl rfl (Pu.load rfl pl43 rfl (Ld.row (fun w hw => (hclasses w (hw.sub (Sub.drop (Sub.drop (Sub.drop (Sub.drop (Sub.refl _))))))).top) hn_classes ei rfl)) ?_
      refine O.e rfl rfl rfl (Ef.alloc rfl zr43 rfl) ?_
      rintro _ _ ⟨b3, rfl, rfl⟩
      refine O.s rfl rfl (Ef.store1 (cs' := [_]) 0 rfl sz43 rfl rfl rfl rfl rfl (ltb rfl) rfl) ?_
      rintro _ _ rfl
      refine O.nil ?_
      refine X.next ?_
      refine V.seq ?_
      refine V.seq ?_
      refine V.region ?_
      refine O.p rfl rfl rfl (Pu.move rfl rfl) ?_
      refine O.p rfl rfl rfl (Pu.len rfl Try.underlying64 rfl) ?_
      refine O.p rfl rfl rfl (Pu.move rfl rfl) ?_
      refine O.p rfl rfl rfl (Pu.geq rfl rfl rfl) ?_
      refine O.nil ?_
      refine X.next ?_
      refine V.condD rfl (fun c3 => ?_) (fun c3 => ?_)
      · skip
        refine V.seq ?_
        refine V.region ?_
        refine O.p rfl rfl rfl (Pu.move rfl rfl) ?_
        refine O.p rfl rfl rfl (Pu.assign rfl rfl) ?_
        refine O.nil ?_
        refine X.next ?_
        refine V.ret ?_
        refine X.thenRet ?_
        refine X.blockRet ?_
        refine X.thenRet ?_
        refine X.thenRet ?_
        refine X.blockRet ?_
        refine X.thenRet ?_
        refine X.ret1 rfl rfl ?_
        exact fun w hw => St.mkExi oA (St.mkExi oc (St.mkExi o (St.unsep (St.addPur ⟨(by first | rfl | (simp only [tops_append]; done) | (simp only [tops_append]; rfl)), by rw [resN_pos (by omega) hln]; exact resJ_stop ho (by omega) (by omega), hl⟩ (St.unsep (hw.sub (Sub.keep 1 rfl (Sub.keep 1 rfl (Sub.drop (Sub.drop (Sub.drop (Sub.refl _))))))))))))
      · skip
        refine V.skip ?_
        refine X.next ?_
        refine V.seq ?_
        refine V.seq ?_
        refine V.draw mo (by kernel_rfl) (fun hwf => ?_)
        refine D.p 0 rfl rfl rfl rfl rfl rfl (Pu.load rfl pl43 rfl (Ld.blk 0 rfl rfl)) ?_
        refine D.p 1 rfl rfl rfl rfl rfl rfl (Pu.indexAddrS (0) rfl Try.underlying43 sz2 rfl rfl (by omega) (by omega) (fun w hw => ((fun w hw => (hclasses w (hw.sub (Sub.drop (Sub.drop (Sub.drop (Sub.drop (Sub.drop (Sub.refl _)))))))).row j ei) w hw).some (by omega))) ?_
        have e1 : 0 < (classes[j]'ei).2.length := by omega
        refine D.p 2 rfl rfl rfl rfl rfl rfl (Pu.load rfl pl2 rfl (Ld.rd (fun w hw => (hclasses w (hw.sub (Sub.drop (Sub.drop (Sub.drop (Sub.drop (Sub.drop (Sub.refl _)))))))).row j ei) (k := 0) e1 rfl rfl)) ?_
        refine D.p 3 rfl rfl rfl rfl rfl rfl (Pu.load rfl pl43 rfl (Ld.blk 3 rfl rfl)) ?_
        refine D.p 4 rfl rfl rfl rfl rfl rfl (Pu.indexAddrS (0) rfl Try.underlying43 sz2 rfl rfl (by omega) (by omega) (fun w hw => ((fun w hw => hleft w (hw.sub (Sub.drop (Sub.drop (Sub.drop (Sub.drop (Sub.drop (Sub.refl _)))))))) w hw).some (by omega))) ?_
        have e2 : 0 < left.length := by omega
        refine D.p 5 rfl rfl rfl rfl rfl rfl (Pu.load rfl pl2 rfl (Ld.rd (fun w hw => hleft w (hw.sub (Sub.drop (Sub.drop (Sub.drop (Sub.drop (Sub.drop (Sub.refl _)))))))) (k := 0) e2 rfl rfl)) ?_
        refine D.p 6 rfl rfl rfl rfl rfl rfl (Pu.neq rfl rfl rfl) ?_
        refine D.p 7 rfl rfl rfl rfl rfl rfl (Pu.move rfl rfl) ?_
        refine D.splitN 42 rfl (fun c4 => ?_) (fun c4 => ?_)
        · skip
          refine D.gs 8 rfl rfl rfl rfl rfl rfl rfl rfl rfl ?_
          refine D.gs 9 rfl rfl rfl rfl rfl rfl rfl rfl rfl ?_
          refine D.gs 10 rfl rfl rfl rfl rfl rfl rfl rfl rfl ?_
          refine D.p 11 rfl rfl rfl rfl rfl rfl (Pu.pickT rfl rfl rfl) ?_
          refine D.done hwf rfl ?_
          refine X.next ?_
          refine V.condT rfl ?_
          refine V.exit ?_
          refine X.thenExit ?_
          refine X.blockHit ?_
          refine X.next ?_
          refine V.region ?_
          refine O.p rfl rfl rfl (Pu.add64 (r := ((j + 1 : Nat) : Int)) rfl (by omega) rfl rfl rfl) ?_
          refine O.p rfl rfl rfl (Pu.move rfl rfl) ?_
          refine O.nil ?_
          exact X.back3 (oA, oc, o, j + 1) (by (try dsimp only); exact ⟨by omega, by rw [resJ_no (okC_not1 hget hc0.1 (by omega) c4)]; exact ho, hl⟩) (by first | omega | (dsimp only; omega)) (Ent.cons' rfl (by first | rfl | (simp only [tops_append]; done) | (simp only [tops_append]; rfl)) (Ent.cons rfl (Ent.nil _))) (Ent.cons (t := 2) rfl (Ent.cons (t := 3) rfl (Ent.cons (t := 5) rfl (Ent.cons (t := 6) rfl (Ent.cons (t := 10) rfl (Ent.cons (t := 24) rfl (Ent.cons (t := 25) rfl (Ent.nil _)))))))) (Sub.keep 1 rfl (Sub.keep 1 rfl (Sub.keep 1 rfl (Sub.keep 1 rfl (Sub.drop (Sub.refl _))))))
        · skip
          refine D.gp 8 rfl rfl rfl rfl rfl rfl rfl rfl (Pu.load rfl pl43 rfl (Ld.blk 0 rfl rfl)) ?_
          refine D.gp 9 rfl rfl rfl rfl rfl rfl rfl rfl (Pu.makeFunc rfl rfl) ?_
          refine D.geff hwf (e := 10) rfl rfl rfl rfl rfl rfl (Ef.callP call190 rfl rfl (fun w hw => containsFunc_ok (fun i => ¬ i ∈ left) 191 _ (classes[j]'ei).2 _ _ w call191 ((fun w hw => (hclasses w (hw.sub (Sub.drop (Sub.drop (Sub.drop (Sub.drop (Sub.drop (Sub.refl _)))))))).row j ei) w hw) (hn_classes.le ei) (fun k hk w' hb => resolve1_ok _ left _ _ _ w' (Rd.below ((fun w hw => hleft w (hw.sub (Sub.drop (Sub.drop (Sub.drop (Sub.drop (Sub.drop (Sub.refl _)))))))) w hw) hb) ((Blk.rdb hw (i := 3) rfl).below hb) (by omega)))) rfl rfl rfl ?_
          rintro _ _ ⟨rfl, rfl⟩ hs
          refine ⟨fun w hw => hw, ?_⟩
          refine D.p 11 rfl rfl rfl rfl rfl rfl (Pu.pickF rfl rfl rfl) ?_
          refine D.done hwf rfl ?_
          refine X.next ?_
          refine V.condD rfl (fun c5 => ?_) (fun c5 => ?_)
          · skip
            refine V.exit ?_
            refine X.thenExit ?_
            refine X.blockHit ?_
            refine X.next ?_
            refine V.region ?_
            refine O.p rfl rfl rfl (Pu.add64 (r := ((j + 1 : Nat) : Int)) rfl (by omega) rfl rfl rfl) ?_
            refine O.p rfl rfl rfl (Pu.move rfl rfl) ?_
            refine O.nil ?_
            exact X.back3 (oA, oc, o, j + 1) (by (try dsimp only); exact ⟨by omega, by rw [resJ_no (okC_not2 hget c5)]; exact ho, hl⟩) (by first | omega | (dsimp only; omega)) (Ent.cons' rfl (by first | rfl | (simp only [tops_append]; done) | (simp only [tops_append]; rfl)) (Ent.cons rfl (Ent.nil _))) (Ent.cons (t := 2) rfl (Ent.cons (t := 3) rfl (Ent.cons (t := 5) rfl (Ent.cons (t := 6) rfl (Ent.cons (t := 10) rfl (Ent.cons (t := 24) rfl (Ent.cons (t := 25) rfl (Ent.nil _)))))))) (Sub.keep 1 rfl (Sub.keep 1 rfl (Sub.keep 1 rfl (Sub.keep 1 rfl (Sub.drop (Sub.refl _))))))
          · skip
            refine V.skip ?_
            refine X.next ?_
            refine V.seq ?_
            have hok := okC_of (left := left) hget hc0.1 (by omega) (by omega) c5
            refine V.region ?_
            refine O.p rfl rfl rfl (Pu.load rfl pl43 rfl (Ld.blk 3 rfl rfl)) ?_
            refine O.e rfl rfl rfl (Ef.call1 call159 rfl rfl (fun w hw => cloneI_ok left _ _ w ((fun w hw => hleft w (hw.sub (Sub.drop (Sub.drop (Sub.drop (Sub.drop (Sub.drop (Sub.refl _)))))))) w hw) (by omega))) ?_
            rintro _ _ rfl
            refine O.exi (fun p2 => ?_)
            refine O.sep ?_
            refine O.pur ?_
            rintro ⟨rfl, hp2⟩
            refine O.p rfl rfl rfl (Pu.makeFunc rfl rfl) ?_
            refine O.e rfl rfl rfl (Ef.call call192 rfl rfl (Does.pre (fun w hw => hw.sub (Sub.keep 0 rfl (Sub.keep 0 rfl (Sub.keep 0 rfl (Sub.keep 0 rfl (Sub.keep 0 rfl (Sub.keep 0 rfl (Sub.refl _)))))))) (deleteI_ok  (p2.2) (fun x => x ∈ (classes[j]'ei).2) (193) _ _ _ w0 _   (call193) (by rw [hp2]; omega) (fun k hk zs w' hw' => resolve2_ok _ (classes[j]'ei).2 _ _ _ w' ((hclasses w' (hw'.sub (Sub.drop (Sub.drop (Sub.drop (Sub.drop (Sub.drop (Sub.drop (Sub.refl _))))))))).row j ei) (Blk.rdb hw' (i := 1) (by exact rfl)) (by omega))))) ?_
            rintro _ _ rfl
            refine O.exi (fun r1A => ?_)
            refine O.exi (fun r1c => ?_)
            refine O.exi (fun r1 => ?_)
            refine O.sep ?_
            refine O.pur ?_
            rintro ⟨rfl, hr1_1⟩
            have hr1l : r1.length < left.length := by rw [hr1_1, hp2, ← hget]; exact lessL_len (left := left) (by intro e; rw [e] at c1; exact c1 rfl) hok.1
            refine O.p rfl rfl rfl (Pu.assign rfl rfl) ?_
            refine O.nil ?_
            refine X.next ?_
            refine V.drawS mo (by kernel_rfl) (Sub.keep 5 rfl (Sub.keep 1 rfl (Sub.drop (Sub.drop (Sub.drop (Sub.drop (Sub.refl _))))))) (fun hwf => ?_)
            refine D.p 0 rfl rfl rfl rfl rfl rfl (Pu.loadAgg rfl ag30 sz30 rfl rfl (Ld.whole 0 rfl)) ?_
            refine D.p 1 rfl rfl rfl rfl rfl rfl (Pu.move rfl rfl) ?_
            refine D.p 2 rfl rfl rfl rfl rfl rfl (Pu.move rfl rfl) ?_
            refine D.p 3 rfl rfl rfl rfl rfl rfl (Pu.move rfl rfl) ?_
            refine D.p 5 rfl rfl rfl rfl rfl rfl (Pu.load rfl pl43 rfl (Ld.blk 1 rfl rfl)) ?_
            refine D.p 8 rfl rfl rfl rfl rfl rfl (Pu.move rfl rfl) ?_
            refine D.p 9 rfl rfl rfl rfl rfl rfl (Pu.move rfl rfl) ?_
            refine D.twoBC hwf (e1 := 6) (e2 := 4) rfl rfl rfl rfl rfl rfl rfl rfl rfl rfl rfl rfl rfl rfl rfl rfl rfl (fun H hs => Ef.build SlC ([⟨(classes[j]'ei).1.A, (classes[j]'ei).2.length, (classes[j]'ei).1.c⟩] : List Sl) rfl Try.underlying34 inf43 rfl rfl rfl (by first | decide | (simp; done)) (by kernel_rfl)) (fun H hs => Ef.call1 call189 rfl rfl (fun w hw => cloneS_ok now _ _ w ((fun w hw => hnow w (hw.sub (Sub.drop (Sub.drop (Sub.refl _))))) w (hs w hw)) (by first | omega | (simp only [tops_len] at *; omega)))) ?_
            rintro A3 _ hA3
            refine D.exi (fun p3 => ?_)
            refine D.sep ?_
            refine D.pur1 ?_
            rintro ⟨rfl, hp3⟩
            have hp3l := congrArg List.length hp3
            refine D.eff hwf (e := 7) rfl rfl rfl rfl (Ef.append (xs := p3.2) (ys := ([⟨(classes[j]'ei).1.A, (classes[j]'ei).2.length, (classes[j]'ei).1.c⟩] : List Sl)) 0 rfl Try.underlying34 inf43 rfl rfl rfl rfl rfl rfl hA3 (Ld.own 1 (by exact rfl)) (by rw [hp3]; simp only [List.length_append, List.length_cons, List.length_nil]; omega) (by decide)) rfl rfl rfl ?_
            rintro _ _ ⟨A4, k2, rfl, rfl, hA4⟩ hs
            replace hA4 := hA4 (.inr (by simp))
            refine ⟨fun w hw => hw.sub (Sub.keep 7 rfl (Sub.keep 3 rfl (Sub.drop (Sub.drop (Sub.drop (Sub.drop (Sub.drop (Sub.drop (Sub.refl _))))))))), ?_⟩
            refine D.eff hwf (e := 10) rfl rfl rfl rfl (Ef.call call130 rfl rfl (Does.pre (fun w hw => hw.sub (Sub.keep 4 rfl (Sub.keep 4 rfl (Sub.keep 0 rfl (Sub.keep 0 rfl (Sub.keep 0 rfl (Sub.keep 0 rfl (Sub.keep 0 rfl (Sub.keep 0 rfl (Sub.refl _)))))))))) (ih (n - 1) (by omega)  v bs o classes (p3.2 ++ ([⟨(classes[j]'ei).1.A, (classes[j]'ei).2.length, (classes[j]'ei).1.c⟩] : List Sl)) r1 most _ _ _ _ _ _ _ _ _ _ w0 _ (fun w hw => hx w (hw.sub (Sub.drop (Sub.drop (Sub.drop (Sub.drop (Sub.drop (Sub.drop (Sub.refl _))))))))) (fun w hw => hclasses w (hw.sub (Sub.drop (Sub.drop (Sub.drop (Sub.drop (Sub.drop (Sub.drop (Sub.refl _))))))))) hn_classes (Ld.own 0 (by exact rfl)) (Ld.own 2 (by exact rfl)) (by first | omega | (simp only [tops_len, conts_len, bl, List.length_append, List.length_cons, List.length_nil] at *; omega)) (by first | omega | (simp only [tops_len, conts_len, bl, List.length_append, List.length_cons, List.length_nil] at *; omega)) (by first | omega | (simp only [tops_len, conts_len, bl, List.length_append, List.length_cons, List.length_nil] at *; omega)) (by first | omega | (simp only [tops_len, conts_len, bl, List.length_append, List.length_cons, List.length_nil] at *; omega)) hcl (by omega) (by omega) hmm (by simp only [List.length_append, List.length_singleton]; omega) lcl))) rfl rfl rfl ?_
            rintro _ _ rfl hs
            refine ⟨fun w hw => hw.tail.sub (Sub.keep 5 rfl (Sub.keep 3 rfl (Sub.drop (Sub.drop (Sub.drop (Sub.drop (Sub.refl _))))))), ?_⟩
            refine D.exi (fun r2A => ?_)
            refine D.exi (fun r2c => ?_)
            refine D.exi (fun r2 => ?_)
            refine D.sep ?_
            refine D.pur1 ?_
            rintro ⟨rfl, hr2_1, hr2_2⟩
            refine D.sep ?_
            refine D.pur (RowsA.len 1 rfl) (fun hn_r2 => ?_)
            have htl_r2 := tops_len r2
            refine D.last hwf (e := 11) rfl rfl rfl rfl rfl rfl (Pu.assign rfl rfl) ?_
            refine X.blockNormal ?_
            refine X.next ?_
            refine V.region ?_
            refine O.p rfl rfl rfl (Pu.add64 (r := ((j + 1 : Nat) : Int)) rfl (by omega) rfl rfl rfl) ?_
            refine O.p rfl rfl rfl (Pu.move rfl rfl) ?_
            refine O.nil ?_
            exact X.back3 (r2A, r2c, r2, j + 1) (by (try dsimp only); exact ⟨by omega, res_step hok ho (by omega) (by omega) (by rw [hr1_1, hp2, hget]; rfl) (by rw [hp3]) (topJ_get ei hn_classes) hr2_1, by omega⟩) (by first | omega | (dsimp only; omega)) (Ent.cons' rfl (by first | rfl | (simp only [tops_append]; done) | (simp only [tops_append]; rfl)) (Ent.cons rfl (Ent.nil _))) (Ent.cons (t := 2) rfl (Ent.cons (t := 3) rfl (Ent.cons (t := 5) rfl (Ent.cons (t := 6) rfl (Ent.cons (t := 10) rfl (Ent.cons (t := 24) rfl (Ent.cons (t := 25) rfl (Ent.nil _)))))))) (Sub.keep 0 rfl (Sub.keep 0 rfl (Sub.keep 4 rfl (Sub.keep 4 rfl (Sub.drop (Sub.drop (Sub.drop (Sub.drop (Sub.refl _)))))))))
    · skip
      refine V.exit ?_
      refine X.thenExit ?_
      refine X.thenExit ?_
      refine X.blockHit ?_
      refine X.next ?_
      refine V.seq ?_
      refine V.region ?_
      refine O.p rfl rfl rfl (Pu.move rfl rfl) ?_
      refine O.p rfl rfl rfl (Pu.assign rfl rfl) ?_
      refine O.nil ?_
      refine X.next ?_
      refine V.ret ?_
      refine X.ret1 rfl rfl ?_
      exact fun w hw => St.mkExi oA (St.mkExi oc (St.mkExi o (St.unsep (St.addPur ⟨(by first | rfl | (simp only [tops_append]; done) | (simp only [tops_append]; rfl)), by rw [resN_pos (by omega) hln, ← show j = (conts classes).length by omega]; exact ho, hl⟩ (St.unsep (hw.sub (Sub.keep 0 rfl (Sub.keep 0 rfl (Sub.drop (Sub.drop (Sub.refl _)))))))))))

theorem resolve_ok (n : Nat) : L_resolve n := by
  induction n using Nat.strongRecOn with
  | _ n ih => exact fun v bs out classes now left most A c outA outc classesA classesc nowA nowc leftA leftc w0 H hx hclasses hn_classes hnow hleft lx lclasses lnow lleft hcl hln hm hmm hnw lcl => resolve_step n ih v bs out classes now left most A c outA outc classesA classesc nowA nowc leftA leftc w0 H hx hclasses hn_classes hnow hleft lx lclasses lnow lleft hcl hln hm hmm hnw lcl
end Go.Proofs.Ytjpfngmoabnffaa
