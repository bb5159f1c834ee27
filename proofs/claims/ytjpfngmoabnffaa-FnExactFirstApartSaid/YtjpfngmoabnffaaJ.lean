/-
  Classes of the program.
-/
import Derived.Test.YtjpfngmoabnffaaG
import Derived.Test.YtjpfngmoabnffaaPureCls
import Derived.Test.YtjpfngmoabnffaaI
set_option linter.unusedVariables false
set_option linter.unusedSimpArgs false
namespace Go.Proofs.Ytjpfngmoabnffaa
open Go Go.RowKit Go.Vc Go.Proofs
set_option maxRecDepth 100000 in
theorem has_ok (b : B3) (p : Int) (w : World) : Does Try.prog 99 [B3.v b, .int .i64 p] w [] (fun v => [.pur (v = .bool (decide (has b p)))]) := by
  refine Does.enter Try.func99 rfl rfl [(0, B3.v b), (1, .int .i64 p)] rfl ?_
  refine V.seq ?_
  refine V.region ?_
  refine O.e rfl rfl rfl (Ef.box rfl rfl rfl) ?_
  rintro _ _ ⟨b1, rfl, rfl⟩
  refine O.p rfl rfl rfl (Pu.assign rfl rfl) ?_
  refine O.nil ?_
  refine X.next ?_
  refine V.seq ?_
  refine V.region ?_
  refine O.p rfl rfl rfl (Pu.indexArr 0 0 rfl Try.underlying75 sz2 rfl rfl (by decide) (by decide) (by decide)) ?_
  refine O.p rfl rfl rfl (Pu.load rfl pl2 rfl (Ld.blk 0 rfl rfl)) ?_
  refine O.p rfl rfl rfl (Pu.move rfl rfl) ?_
  refine O.p rfl rfl rfl (Pu.eql rfl rfl rfl) ?_
  refine O.p rfl rfl rfl (Pu.move rfl rfl) ?_
  refine O.splitD 9 rfl (fun c1 => ?_) (fun c1 => ?_)
  · skip
    refine O.gs rfl rfl rfl rfl rfl rfl ?_
    refine O.gs rfl rfl rfl rfl rfl rfl ?_
    refine O.gs rfl rfl rfl rfl rfl rfl ?_
    refine O.gs rfl rfl rfl rfl rfl rfl ?_
    refine O.p rfl rfl rfl (Pu.pickT rfl rfl rfl) ?_
    refine O.p rfl rfl rfl (Pu.move rfl rfl) ?_
    refine O.gs rfl rfl rfl rfl rfl rfl ?_
    refine O.gs rfl rfl rfl rfl rfl rfl ?_
    refine O.gs rfl rfl rfl rfl rfl rfl ?_
    refine O.gs rfl rfl rfl rfl rfl rfl ?_
    refine O.p rfl rfl rfl (Pu.pickT rfl rfl rfl) ?_
    refine O.p rfl rfl rfl (Pu.assign rfl rfl) ?_
    refine O.nil ?_
    refine X.next ?_
    refine V.ret ?_
    refine X.ret1 rfl rfl ?_
    exact fun w hw => St.retP (by first | exact boolT (.inl c1) | exact boolT (.inr (.inl c2)) | exact boolT (.inr (.inl c3)) | exact boolD (by unfold has; simp only [c1, c2, false_or])) hw
  · skip
    refine O.gp rfl rfl rfl rfl rfl (Pu.indexArr 1 1 rfl Try.underlying75 sz2 rfl rfl (by decide) (by decide) (by decide)) ?_
    refine O.gp rfl rfl rfl rfl rfl (Pu.load rfl pl2 rfl (Ld.blk 0 rfl rfl)) ?_
    refine O.gp rfl rfl rfl rfl rfl (Pu.move rfl rfl) ?_
    refine O.gp rfl rfl rfl rfl rfl (Pu.eql rfl rfl rfl) ?_
    refine O.p rfl rfl rfl (Pu.pickF rfl rfl rfl) ?_
    refine O.p rfl rfl rfl (Pu.move rfl rfl) ?_
    refine O.splitD 15 rfl (fun c2 => ?_) (fun c2 => ?_)
    · skip
      refine O.gs rfl rfl rfl rfl rfl rfl ?_
      refine O.gs rfl rfl rfl rfl rfl rfl ?_
      refine O.gs rfl rfl rfl rfl rfl rfl ?_
      refine O.gs rfl rfl rfl rfl rfl rfl ?_
      refine O.p rfl rfl rfl (Pu.pickT rfl rfl rfl) ?_
      refine O.p rfl rfl rfl (Pu.assign rfl rfl) ?_
      refine O.nil ?_
      refine X.next ?_
      refine V.ret ?_
      refine X.ret1 rfl rfl ?_
      exact fun w hw => St.retP (by first | exact boolT (.inl c1) | exact boolT (.inr (.inl c2)) | exact boolT (.inr (.inl c3)) | exact boolD (by unfold has; simp only [c1, c2, false_or])) hw
    · skip
      refine O.gp rfl rfl rfl rfl rfl (Pu.indexArr 2 2 rfl Try.underlying75 sz2 rfl rfl (by decide) (by decide) (by decide)) ?_
      refine O.gp rfl rfl rfl rfl rfl (Pu.load rfl pl2 rfl (Ld.blk 0 rfl rfl)) ?_
      refine O.gp rfl rfl rfl rfl rfl (Pu.move rfl rfl) ?_
      refine O.gp rfl rfl rfl rfl rfl (Pu.eql rfl rfl rfl) ?_
      refine O.p rfl rfl rfl (Pu.pickF rfl rfl rfl) ?_
      refine O.p rfl rfl rfl (Pu.assign rfl rfl) ?_
      refine O.nil ?_
      refine X.next ?_
      refine V.ret ?_
      refine X.ret1 rfl rfl ?_
      exact fun w hw => St.retP (by first | exact boolT (.inl c1) | exact boolT (.inr (.inl c2)) | exact boolT (.inr (.inl c3)) | exact boolD (by unfold has; simp only [c1, c2, false_or])) hw

set_option maxRecDepth 100000 in
theorem meets_ok (b d : B3) (w : World) : Does Try.prog 202 [B3.v b, B3.v d] w [] (fun v => [.pur (v = .bool (decide (meets b d)))]) := by
  refine Does.enter Try.func202 rfl rfl [(0, B3.v b), (1, B3.v d)] rfl ?_
  refine V.seq ?_
  refine V.region ?_
  refine O.e rfl rfl rfl (Ef.box rfl rfl rfl) ?_
  rintro _ _ ⟨b1, rfl, rfl⟩
  refine O.e rfl rfl rfl (Ef.box rfl rfl rfl) ?_
  rintro _ _ ⟨b2, rfl, rfl⟩
  refine O.p rfl rfl rfl (Pu.assign rfl rfl) ?_
  refine O.nil ?_
  refine X.next ?_
  refine V.seq ?_
  refine V.region ?_
  refine O.p rfl rfl rfl (Pu.loadAgg rfl ag75 sz75 rfl rfl (Ld.whole 0 rfl)) ?_
  refine O.p rfl rfl rfl (Pu.indexArr 0 0 rfl Try.underlying75 sz2 rfl rfl (by decide) (by decide) (by decide)) ?_
  refine O.p rfl rfl rfl (Pu.load rfl pl2 rfl (Ld.blk 1 rfl rfl)) ?_
  refine O.e rfl rfl rfl (Ef.callP call99 rfl rfl (fun w hw => has_ok d _ w)) ?_
  rintro _ _ ⟨rfl, rfl⟩
  refine O.p rfl rfl rfl (Pu.move rfl rfl) ?_
  refine O.splitD 9 rfl (fun c1 => ?_) (fun c1 => ?_)
  · skip
    refine O.gs rfl rfl rfl rfl rfl rfl ?_
    refine O.gs rfl rfl rfl rfl rfl rfl ?_
    refine O.gs rfl rfl rfl rfl rfl rfl ?_
    refine O.gs rfl rfl rfl rfl rfl rfl ?_
    refine O.p rfl rfl rfl (Pu.pickT rfl rfl rfl) ?_
    refine O.p rfl rfl rfl (Pu.move rfl rfl) ?_
    refine O.gs rfl rfl rfl rfl rfl rfl ?_
    refine O.gs rfl rfl rfl rfl rfl rfl ?_
    refine O.gs rfl rfl rfl rfl rfl rfl ?_
    refine O.gs rfl rfl rfl rfl rfl rfl ?_
    refine O.p rfl rfl rfl (Pu.pickT rfl rfl rfl) ?_
    refine O.p rfl rfl rfl (Pu.assign rfl rfl) ?_
    refine O.nil ?_
    refine X.next ?_
    refine V.ret ?_
    refine X.ret1 rfl rfl ?_
    exact fun w hw => St.retP (by first | exact boolT (.inl c1) | exact boolT (.inr (.inl c2)) | exact boolT (.inr (.inl c3)) | exact boolD (by unfold meets; simp only [c1, c2, false_or])) hw
  · skip
    refine O.gp rfl rfl rfl rfl rfl (Pu.loadAgg rfl ag75 sz75 rfl rfl (Ld.whole 0 rfl)) ?_
    refine O.gp rfl rfl rfl rfl rfl (Pu.indexArr 1 1 rfl Try.underlying75 sz2 rfl rfl (by decide) (by decide) (by decide)) ?_
    refine O.gp rfl rfl rfl rfl rfl (Pu.load rfl pl2 rfl (Ld.blk 1 rfl rfl)) ?_
    refine O.ge rfl rfl rfl rfl rfl (Ef.callP call99 rfl rfl (fun w hw => has_ok d _ w)) ?_
    rintro _ _ ⟨rfl, rfl⟩
    refine O.p rfl rfl rfl (Pu.pickF rfl rfl rfl) ?_
    refine O.p rfl rfl rfl (Pu.move rfl rfl) ?_
    refine O.splitD 15 rfl (fun c2 => ?_) (fun c2 => ?_)
    · skip
      refine O.gs rfl rfl rfl rfl rfl rfl ?_
      refine O.gs rfl rfl rfl rfl rfl rfl ?_
      refine O.gs rfl rfl rfl rfl rfl rfl ?_
      refine O.gs rfl rfl rfl rfl rfl rfl ?_
      refine O.p rfl rfl rfl (Pu.pickT rfl rfl rfl) ?_
      refine O.p rfl rfl rfl (Pu.assign rfl rfl) ?_
      refine O.nil ?_
      refine X.next ?_
      refine V.ret ?_
      refine X.ret1 rfl rfl ?_
      exact fun w hw => St.retP (by first | exact boolT (.inl c1) | exact boolT (.inr (.inl c2)) | exact boolT (.inr (.inl c3)) | exact boolD (by unfold meets; simp only [c1, c2, false_or])) hw
    · skip
      refine O.gp rfl rfl rfl rfl rfl (Pu.loadAgg rfl ag75 sz75 rfl rfl (Ld.whole 0 rfl)) ?_
      refine O.gp rfl rfl rfl rfl rfl (Pu.indexArr 2 2 rfl Try.underlying75 sz2 rfl rfl (by decide) (by decide) (by decide)) ?_
      refine O.gp rfl rfl rfl rfl rfl (Pu.load rfl pl2 rfl (Ld.blk 1 rfl rfl)) ?_
      refine O.ge rfl rfl rfl rfl rfl (Ef.callP call99 rfl rfl (fun w hw => has_ok d _ w)) ?_
      rintro _ _ ⟨rfl, rfl⟩
      refine O.p rfl rfl rfl (Pu.pickF rfl rfl rfl) ?_
      refine O.p rfl rfl rfl (Pu.assign rfl rfl) ?_
      refine O.nil ?_
      refine X.next ?_
      refine V.ret ?_
      refine X.ret1 rfl rfl ?_
      exact fun w hw => St.retP (by first | exact boolT (.inl c1) | exact boolT (.inr (.inl c2)) | exact boolT (.inr (.inl c3)) | exact boolD (by unfold meets; simp only [c1, c2, false_or])) hw

set_option maxRecDepth 100000 in
theorem disjoint1_ok (v : Int) (bs : List B3) (b : B3) (k : Int) (b4 b11 : Nat) (A : Option Addr) (c : Nat) (w : World) (hk : okIx bs k) (hx : Rd B3C w A bs) (h4 : RdB w b4 [.int .i64 v, .slice A bs.length c]) (h11 : RdB w b11 [.int .i64 b.1, .int .i64 b.2.1, .int .i64 b.2.2]) : Does Try.prog 201 [.int .i64 k, .pointer (some ⟨b4, 0, none⟩), .pointer (some ⟨b11, 0, none⟩)] w [] (fun r => [.pur (r = .bool (decide (meets (blk bs k) b)))]) := by
  refine Does.enter Try.func201 rfl rfl [(0, .int .i64 k), (1, .pointer (some ⟨b4, 0, none⟩)), (2, .pointer (some ⟨b11, 0, none⟩))] rfl ?_
  refine V.seq ?_
  have hk' := hk
  unfold okIx at hk'
  refine V.region ?_
  refine O.p rfl rfl rfl (Pu.assign rfl rfl) ?_
  refine O.nil ?_
  refine X.next ?_
  refine V.seq ?_
  refine V.ent (Ent.cons (t := 0) rfl (Ent.cons (t := 1) rfl (Ent.cons (t := 2) rfl (Ent.nil _)))) ?_
  refine V.draw mo (by kernel_rfl) (fun hwf => ?_)
  refine D.p 0 rfl rfl rfl rfl rfl rfl (Pu.fieldAddr 1 rfl Try.underlying30 rfl sz28 rfl rfl) ?_
  refine D.p 1 rfl rfl rfl rfl rfl rfl (Pu.load rfl pl28 rfl (Ld.rdb h4 rfl)) ?_
  refine D.p 2 rfl rfl rfl rfl rfl rfl (Pu.move rfl rfl) ?_
  refine D.p 3 rfl rfl rfl rfl rfl rfl (Pu.indexAddr (k.toNat) rfl Try.underlying28 sz75 rfl rfl (by omega) (by omega) (hx.some (by omega))) ?_
  have e1 : k.toNat < bs.length := by omega
  refine D.p 4 rfl rfl rfl rfl rfl rfl (Pu.loadAgg' (v := B3.v (bs[k.toNat]'e1)) rfl rfl ag75 sz75 rfl rfl (Ld.rds (Ld.old hx) (k := k.toNat) e1 rfl)) ?_
  refine D.p 5 rfl rfl rfl rfl rfl rfl (Pu.loadAgg' (v := B3.v b) rfl rfl ag75 sz75 rfl rfl (Ld.rdbs h11)) ?_
  refine D.eff hwf (e := 6) rfl rfl rfl rfl (Ef.callP call202 rfl rfl (fun w hw => meets_ok (bs[k.toNat]'e1) b w)) rfl rfl rfl ?_
  rintro _ _ ⟨rfl, rfl⟩ hs
  refine ⟨fun w hw => hw, ?_⟩
  refine D.p 7 rfl rfl rfl rfl rfl rfl (Pu.assign rfl rfl) ?_
  refine D.done hwf rfl ?_
  refine X.next ?_
  refine V.ret ?_
  refine X.ret1 rfl rfl ?_
  exact fun w hw => St.retP (by rw [blk_ix hk]) hw

set_option maxRecDepth 100000 in
theorem indexFunc_ok (p : Int → Prop) [DecidablePred p] (g : Nat) (caps : Array Value) (xs : List Int) (A : Option Addr) (c : Nat) (w : World) (hok : CallOk Try.prog g) (hx : Rd I64 w A xs) (lx : xs.length ≤ 9223372036854775807) (hf : ∀ k (hk : k < xs.length) w', Bel w.heap.size w w' → Does Try.prog g ([.int .i64 xs[k]] ++ caps.toList) w' [] (fun v => [.pur (v = .bool (decide (p xs[k])))])) : Does Try.prog 230 [.slice A xs.length c, .func (.func g) #[] caps] w [] (fun v => [.pur (v = .int .i64 (idxP p xs))]) := by
  refine Does.enter Try.func230 rfl rfl [(0, .slice A xs.length c), (1, .func (.func g) #[] caps)] rfl ?_
  refine V.seq ?_
  refine V.region ?_
  refine O.p rfl rfl rfl (Pu.assign rfl rfl) ?_
  refine O.nil ?_
  refine X.next ?_
  refine V.seq ?_
  refine V.seq ?_
  refine V.region ?_
  refine O.p rfl rfl rfl (Pu.move rfl rfl) ?_
  refine O.p rfl rfl rfl (Pu.len rfl Try.underlying43 rfl) ?_
  refine O.p rfl rfl rfl (Pu.move rfl rfl) ?_
  refine O.nil ?_
  refine X.next ?_
  refine V.block ?_
  refine V.loop2 (β := Nat) (fun k => [(8, .int .i64 (k : Int))]) _ (fun k => []) (fun k => k ≤ xs.length ∧ ∀ j (hj : j < xs.length), j < k → ¬ p xs[j]) (fun k => xs.length - k) 0 ⟨by omega, fun j hj h => by omega⟩ (Ent.cons rfl (Ent.nil _)) (Ent.cons (t := 0) rfl (Ent.cons (t := 1) rfl (Ent.cons (t := 7) rfl (Ent.nil _)))) (Sub.nil _) ?_
  rintro k ⟨hk, hn⟩
  refine V.seq ?_
  refine V.region ?_
  refine O.p rfl rfl rfl (Pu.lss rfl rfl rfl) ?_
  refine O.nil ?_
  refine X.next ?_
  refine V.seq ?_
  refine V.condD rfl (fun c1 => ?_) (fun c1 => ?_)
  · skip
    refine V.skip ?_
    refine X.next ?_
    refine V.seq ?_
    refine V.block ?_
    refine V.seq ?_
    refine V.region ?_
    refine O.p rfl rfl rfl (Pu.move rfl rfl) ?_
    refine O.p rfl rfl rfl (Pu.assign rfl rfl) ?_
    refine O.nil ?_
    refine X.next ?_
    refine V.seq ?_
    refine V.region ?_
    refine O.p rfl rfl rfl (Pu.move rfl rfl) ?_
    refine O.p rfl rfl rfl (Pu.move rfl rfl) ?_
    refine O.p rfl rfl rfl (Pu.move rfl rfl) ?_
    refine O.p rfl rfl rfl (Pu.indexAddr (k) rfl Try.underlying43 sz2 rfl rfl (by omega) (by omega) (hx.some (by omega))) ?_
    have e1 : k < xs.length := by omega
    refine O.p rfl rfl rfl (Pu.load rfl pl2 rfl (Ld.rd (Ld.old hx) (k := k) e1 rfl rfl)) ?_
    refine O.e rfl rfl rfl (Ef.callPV hok rfl rfl rfl (fun w' hw => hf k e1 w' hw.below)) ?_
    rintro _ _ ⟨rfl, rfl⟩
    refine O.nil ?_
    refine X.next ?_
    refine V.condD rfl (fun c2 => ?_) (fun c2 => ?_)
    · skip
      refine V.seq ?_
      refine V.region ?_
      refine O.p rfl rfl rfl (Pu.move rfl rfl) ?_
      refine O.p rfl rfl rfl (Pu.assign rfl rfl) ?_
      refine O.nil ?_
      refine X.next ?_
      refine V.ret ?_
      refine X.blockRet ?_
      refine X.thenRet ?_
      refine X.thenRet ?_
      refine X.blockRet ?_
      refine X.thenRet ?_
      refine X.ret1 rfl rfl ?_
      exact fun w hw => St.retP (iv (idxP_found e1 c2 hn).symm) hw
    · skip
      refine V.skip ?_
      refine X.blockNormal ?_
      refine X.next ?_
      refine V.region ?_
      refine O.p rfl rfl rfl (Pu.add64 (r := ((k + 1 : Nat) : Int)) rfl (by omega) rfl rfl rfl) ?_
      refine O.p rfl rfl rfl (Pu.move rfl rfl) ?_
      refine O.nil ?_
      exact X.back2 (k + 1) ⟨by omega, fun j hj h => by by_cases e : j = k; (· subst e; exact c2); (· exact hn j hj (by omega))⟩ (by omega) (Ent.cons rfl (Ent.nil _)) (Ent.cons (t := 0) rfl (Ent.cons (t := 1) rfl (Ent.cons (t := 7) rfl (Ent.nil _)))) (Sub.nil _)
  · skip
    refine V.exit ?_
    refine X.thenExit ?_
    refine X.thenExit ?_
    refine X.blockHit ?_
    refine X.next ?_
    refine V.seq ?_
    refine V.region ?_
    refine O.p rfl rfl rfl (Pu.assign rfl rfl) ?_
    refine O.nil ?_
    refine X.next ?_
    refine V.ret ?_
    refine X.ret1 rfl rfl ?_
    exact fun w hw => St.retP (iv (idxP_none (fun j hj => hn j hj (by omega))).symm) hw

set_option maxRecDepth 100000 in
theorem containsFunc_ok (p : Int → Prop) [DecidablePred p] (g : Nat) (caps : Array Value) (xs : List Int) (A : Option Addr) (c : Nat) (w : World) (hok : CallOk Try.prog g) (hx : Rd I64 w A xs) (lx : xs.length ≤ 9223372036854775807) (hf : ∀ k (hk : k < xs.length) w', Bel w.heap.size w w' → Does Try.prog g ([.int .i64 xs[k]] ++ caps.toList) w' [] (fun v => [.pur (v = .bool (decide (p xs[k])))])) : Does Try.prog 190 [.slice A xs.length c, .func (.func g) #[] caps] w [] (fun v => [.pur (v = .bool (decide (∃ x ∈ xs, p x)))]) := by
  refine Does.enter Try.func190 rfl rfl [(0, .slice A xs.length c), (1, .func (.func g) #[] caps)] rfl ?_
  refine V.seq ?_
  refine V.region ?_
  refine O.p rfl rfl rfl (Pu.assign rfl rfl) ?_
  refine O.nil ?_
  refine X.next ?_
  refine V.seq ?_
  refine V.region ?_
  refine O.p rfl rfl rfl (Pu.move rfl rfl) ?_
  refine O.p rfl rfl rfl (Pu.move rfl rfl) ?_
  refine O.e rfl rfl rfl (Ef.callP call230 rfl rfl (fun w hw => indexFunc_ok p g caps xs _ _ w hok (Ld.old hx w hw) lx (fun k hk w' hb => hf k hk w' (hw.grow hb).below))) ?_
  rintro _ _ ⟨rfl, rfl⟩
  refine O.p rfl rfl rfl (Pu.geq rfl rfl rfl) ?_
  refine O.p rfl rfl rfl (Pu.assign rfl rfl) ?_
  refine O.nil ?_
  refine X.next ?_
  refine V.ret ?_
  refine X.ret1 rfl rfl ?_
  exact fun w hw => St.retP (boolD idxP_nonneg) hw

set_option maxRecDepth 100000 in
theorem cloneI_ok (xs : List Int) (A : Option Addr) (c : Nat) (w : World) (hx : Rd I64 w A xs) (lx : xs.length ≤ 1099511627776) : Does Try.prog 159 [.slice A xs.length c] w [] (fun v => [.exi fun p : (Option Addr × Nat) × List Int => .sep (.pur (v = .slice p.1.1 p.2.length p.1.2 ∧ p.2 = xs)) (Own 2 I64 p.1.1 p.1.2 p.2)]) := by
  refine Does.enter Try.func159 rfl rfl [(0, .slice A xs.length c)] rfl ?_
  refine V.seq ?_
  refine V.region ?_
  refine O.p rfl rfl rfl (Pu.assign rfl rfl) ?_
  refine O.nil ?_
  refine X.next ?_
  refine V.seq ?_
  refine V.seq ?_
  refine V.region ?_
  refine O.p rfl rfl rfl (Pu.move rfl rfl) ?_
  refine O.p rfl rfl rfl (Pu.eqlNil Try.underlying43 rfl rfl rfl) ?_
  refine O.nil ?_
  refine X.next ?_
  refine V.cond rfl (fun c1 => ?_) (fun c1 => ?_)
  · skip
    refine V.seq ?_
    refine V.region ?_
    refine O.p rfl rfl rfl (Pu.assign rfl rfl) ?_
    refine O.nil ?_
    refine X.next ?_
    refine V.ret ?_
    refine X.thenRet ?_
    refine X.ret1 rfl rfl ?_
    exact fun w hw => St.retX ((none, 0), []) ⟨rfl, (Rd.none hx (none_of c1)).symm⟩ (St.addNil hw)
  · skip
    refine V.skip ?_
    refine X.next ?_
    refine V.seq ?_
    refine V.region ?_
    refine O.e rfl rfl rfl (Ef.build I64 ([] : List Int) rfl Try.underlying43 inf2 rfl rfl rfl (by first | decide | (simp; done)) (by kernel_rfl)) ?_
    rintro _ _ ⟨A1, hA1, rfl, rfl⟩
    refine O.p rfl rfl rfl (Pu.move rfl rfl) ?_
    refine O.e rfl rfl rfl (Ef.append (xs := ([] : List Int)) (ys := xs) 0 rfl Try.underlying43 inf2 rfl rfl rfl rfl rfl rfl (some_of c1) (Ld.old hx) (by simp only [List.length_append, List.length_cons, List.length_nil] at *; omega) (by decide)) ?_
    rintro _ _ ⟨A2, k1, rfl, rfl, hA2⟩
    replace hA2 := hA2 (.inl hA1)
    refine O.p rfl rfl rfl (Pu.assign rfl rfl) ?_
    refine O.nil ?_
    refine X.next ?_
    refine V.ret ?_
    refine X.ret1 rfl rfl ?_
    exact fun w hw => St.retX ((A2, k1), [] ++ xs) ⟨rfl, rfl⟩ (hw.sub (Sub.keep 0 rfl (Sub.nil _)))

def LDisj (n : Nat) : Prop := ∀ (v : Int) (bs : List B3) (ps : List (Sl × List Int)) (now : List Int) (many : Nat) (A B E : Option Addr) (c d e : Nat) (w0 : World) (H : List Assn) (hx : Rd B3C w0 E bs) (hfew : bs.length ≤ 35) (hd : Dj bs now) (hmany : many = now.length + n) (hm5 : many ≤ 5) (hlp : ps.length + 35 ^ n ≤ 1099511627776), Does Try.prog 145 [.agg #[.int .i64 v, .slice E bs.length e], .slice A (tops ps).length c, .slice B now.length d, .int .i64 (many : Int)] w0 (Own 43 SlC A c (tops ps) :: RowsA 2 I64 ps :: Own 2 I64 B d now :: H) (fun r => [.exi fun p : (Option Addr × Nat) × List (Sl × List Int) => .sep (.pur (r = .slice p.1.1 (tops p.2).length p.1.2 ∧ (∃ ls, conts p.2 = conts ps ++ ls ∧ IsList (Ext bs now many) ls) ∧ p.2.length ≤ ps.length + 35 ^ n)) (.sep (Own 43 SlC p.1.1 p.1.2 (tops p.2)) (RowsA 2 I64 p.2))] ++ H)
set_option maxRecDepth 100000 in
theorem disjoint_step (n : Nat) (ih : ∀ n', n' < n → LDisj n') (v : Int) (bs : List B3) (ps : List (Sl × List Int)) (now : List Int) (many : Nat) (A B E : Option Addr) (c d e : Nat) (w0 : World) (H : List Assn) (hx : Rd B3C w0 E bs) (hfew : bs.length ≤ 35) (hd : Dj bs now) (hmany : many = now.length + n) (hm5 : many ≤ 5) (hlp : ps.length + 35 ^ n ≤ 1099511627776) : Does Try.prog 145 [.agg #[.int .i64 v, .slice E bs.length e], .slice A (tops ps).length c, .slice B now.length d, .int .i64 (many : Int)] w0 (Own 43 SlC A c (tops ps) :: RowsA 2 I64 ps :: Own 2 I64 B d now :: H) (fun r => [.exi fun p : (Option Addr × Nat) × List (Sl × List Int) => .sep (.pur (r = .slice p.1.1 (tops p.2).length p.1.2 ∧ (∃ ls, conts p.2 = conts ps ++ ls ∧ IsList (Ext bs now many) ls) ∧ p.2.length ≤ ps.length + 35 ^ n)) (.sep (Own 43 SlC p.1.1 p.1.2 (tops p.2)) (RowsA 2 I64 p.2))] ++ H) := by
  refine Does.enter Try.func145 rfl rfl [(0, .agg #[.int .i64 v, .slice E bs.length e]), (1, .slice A (tops ps).length c), (2, .slice B now.length d), (3, .int .i64 (many : Int))] rfl ?_
  refine V.seq ?_
  have htl0 := tops_len ps
  have hf0 := fromOf_nonneg hd
  have h35 : 0 < 35 ^ n := Nat.pow_pos (by decide)
  refine V.region ?_
  refine O.e rfl rfl rfl (Ef.box rfl rfl rfl) ?_
  rintro _ _ ⟨b1, rfl, rfl⟩
  refine O.p rfl rfl rfl (Pu.assign rfl rfl) ?_
  refine O.nil ?_
  refine X.next ?_
  refine V.seq ?_
  refine V.seq ?_
  refine V.region ?_
  refine O.p rfl rfl rfl (Pu.move rfl rfl) ?_
  refine O.p rfl rfl rfl (Pu.len rfl Try.underlying43 rfl) ?_
  refine O.p rfl rfl rfl (Pu.move rfl rfl) ?_
  refine O.p rfl rfl rfl (Pu.eql rfl rfl rfl) ?_
  refine O.nil ?_
  refine X.next ?_
  refine V.condD rfl (fun c1 => ?_) (fun c1 => ?_)
  · skip
    refine V.seq ?_
    refine V.region ?_
    refine O.p rfl rfl rfl (Pu.move rfl rfl) ?_
    refine O.p rfl rfl rfl (Pu.move rfl rfl) ?_
    refine O.e rfl rfl rfl (Ef.call1 call159 rfl rfl (fun w hw => cloneI_ok now _ _ w ((Ld.own 3 (by exact rfl)) w hw) (by omega))) ?_
    rintro _ _ rfl
    refine O.exi (fun p1 => ?_)
    refine O.sep ?_
    refine O.pur ?_
    rintro ⟨rfl, hp1⟩
    refine O.e rfl rfl rfl (Ef.build SlC ([⟨p1.1.1, p1.2.length, p1.1.2⟩] : List Sl) rfl Try.underlying34 inf43 rfl rfl rfl (by first | decide | (simp; done)) (by kernel_rfl)) ?_
    rintro _ _ ⟨A1, hA1, rfl, rfl⟩
    refine O.e rfl rfl rfl (Ef.append (xs := (tops ps)) (ys := ([⟨p1.1.1, p1.2.length, p1.1.2⟩] : List Sl)) 3 rfl Try.underlying34 inf43 rfl rfl rfl rfl rfl rfl hA1 (Ld.own 0 (by exact rfl)) (by simp only [List.length_append, List.length_cons, List.length_nil] at *; omega) (by decide)) ?_
    rintro _ _ ⟨A2, k1, rfl, rfl, hA2⟩
    replace hA2 := hA2 (.inr (by simp))
    refine O.p rfl rfl rfl (Pu.assign rfl rfl) ?_
    refine O.nil ?_
    refine X.next ?_
    refine V.ret ?_
    refine X.thenRet ?_
    refine X.ret1 rfl rfl ?_
    exact fun w hw => St.mkExi ((A2, k1), ps ++ [((⟨p1.1.1, p1.2.length, p1.1.2⟩ : Sl), p1.2)]) (St.unsep (St.addPur ⟨by rw [tops_append]; rfl, ⟨[now], by rw [conts_append, ← hp1]; rfl, ext_self hd (by omega)⟩, by simp only [List.length_append, List.length_cons, List.length_nil]; have : 0 < 35 ^ n := Nat.pos_of_ne_zero (by simp); omega⟩ (St.unsep (snoc_heap (hw.sub (Sub.keep 3 rfl (Sub.keep 3 rfl (Sub.keep 1 rfl (Sub.drop (Sub.drop (Sub.drop (Sub.refl _))))))))))))
  · skip
    refine V.skip ?_
    refine X.next ?_
    refine V.seq ?_
    have hn0 : 0 < n := by omega
    have hK : 35 ^ (n - 1) ≤ 35 ^ 4 := Nat.pow_le_pow_right (by decide) (by omega)
    have hKn := pow35 (n := n) (by omega)
    refine V.region ?_
    refine O.p rfl rfl rfl (Pu.assign rfl rfl) ?_
    refine O.nil ?_
    refine X.next ?_
    refine V.seq ?_
    refine V.seq ?_
    refine V.region ?_
    refine O.p rfl rfl rfl (Pu.move rfl rfl) ?_
    refine O.p rfl rfl rfl (Pu.len rfl Try.underlying43 rfl) ?_
    refine O.p rfl rfl rfl (Pu.gtr rfl rfl rfl) ?_
    refine O.nil ?_
    refine X.next ?_
    refine V.cut2 [(9, .int .i64 (fromOf now))] (Ent.cons (t := 1) rfl (Ent.cons (t := 2) rfl (Ent.cons (t := 3) rfl (Ent.cons (t := 4) rfl (Ent.cons (t := 8) rfl (Ent.nil _)))))) (Sub.keep 0 rfl (Sub.keep 0 rfl (Sub.keep 0 rfl (Sub.keep 0 rfl (Sub.refl _))))) ?_ ?_
    · skip
      refine V.condD rfl (fun c2 => ?_) (fun c2 => ?_)
      · skip
        refine V.region ?_
        refine O.p rfl rfl rfl (Pu.move rfl rfl) ?_
        refine O.p rfl rfl rfl (Pu.move rfl rfl) ?_
        refine O.p rfl rfl rfl (Pu.len rfl Try.underlying43 rfl) ?_
        refine O.p rfl rfl rfl (Pu.sub64 (r := ((now.length - 1 : Nat) : Int)) (by omega) (by omega) rfl rfl rfl) ?_
        refine O.p rfl rfl rfl (Pu.indexAddrS (now.length - 1) rfl Try.underlying43 sz2 rfl rfl (by omega) (by omega) (fun w hw => Own.some hw (i := 3) (by exact rfl) (by omega))) ?_
        have e1 : now.length - 1 < now.length := by omega
        refine O.p rfl rfl rfl (Pu.load rfl pl2 rfl (Ld.rd (Ld.own 3 (by exact rfl)) (k := now.length - 1) e1 rfl rfl)) ?_
        refine O.p rfl rfl rfl (Pu.add64 rfl (by have := hd.ix _ (List.getElem_mem (l := now) (n := now.length - 1) (by omega)); unfold okIx at this; omega) rfl rfl rfl) ?_
        refine O.p rfl rfl rfl (Pu.assign rfl rfl) ?_
        refine O.nil ?_
        exact X.cut (Ent.cons' rfl (iv (fromOf_pos (by omega)).symm) (Ent.nil _)) (Ent.cons (t := 1) rfl (Ent.cons (t := 2) rfl (Ent.cons (t := 3) rfl (Ent.cons (t := 4) rfl (Ent.cons (t := 8) rfl (Ent.nil _)))))) (Sub.keep 0 rfl (Sub.keep 0 rfl (Sub.keep 0 rfl (Sub.keep 0 rfl (Sub.refl _)))))
      · skip
        refine V.skip ?_
        exact X.cut (Ent.cons' rfl (iv (fromOf_nil (by omega)).symm) (Ent.nil _)) (Ent.cons (t := 1) rfl (Ent.cons (t := 2) rfl (Ent.cons (t := 3) rfl (Ent.cons (t := 4) rfl (Ent.cons (t := 8) rfl (Ent.nil _)))))) (Sub.keep 0 rfl (Sub.keep 0 rfl (Sub.keep 0 rfl (Sub.keep 0 rfl (Sub.refl _)))))
    · skip
      refine X.next ?_
      refine V.seq ?_
      refine V.seq ?_
      refine V.region ?_
      refine O.p rfl rfl rfl (Pu.move rfl rfl) ?_
      refine O.p rfl rfl rfl (Pu.assign rfl rfl) ?_
      refine O.nil ?_
      refine X.next ?_
      refine V.block ?_
      refine V.loop3 (β := Nat × Option Addr × Nat × List (Sl × List Int)) (fun x => [(10, .int .i64 (x.1 : Int)), (1, .slice x.2.1 (tops x.2.2.2).length x.2.2.1)]) _ (fun x => [Own 43 SlC x.2.1 x.2.2.1 (tops x.2.2.2), RowsA 2 I64 x.2.2.2]) _ (fun x => fromOf now ≤ x.1 ∧ x.1 ≤ bs.length ∧ (∃ ls, conts x.2.2.2 = conts ps ++ ls ∧ IsList (ExtB bs now many x.1) ls) ∧ x.2.2.2.length ≤ ps.length + x.1 * 35 ^ (n - 1)) (fun x => bs.length - x.1) ((fromOf now).toNat, A, c, ps) ⟨by simp only []; omega, by simp only []; omega, ⟨[], by simp, List.Pairwise.nil, fun r => by simp only [List.not_mem_nil, false_iff]; exact extB_from hd (by omega)⟩, by simp only []; omega⟩ (Ent.cons' rfl (iv (by omega)) (Ent.cons rfl (Ent.nil _))) (Ent.cons (t := 2) rfl (Ent.cons (t := 3) rfl (Ent.cons (t := 4) rfl (Ent.cons (t := 8) rfl (Ent.nil _))))) (Sub.keep 1 rfl (Sub.keep 1 rfl (Sub.keep 1 rfl (Sub.keep 0 rfl (Sub.refl _))))) ?_
      rintro ⟨i, Ao, co, qs⟩ ⟨hf, hi, hls, hln⟩
      dsimp only at hf hi hls hln
      have htl := tops_len qs
      have hiK : i * 35 ^ (n - 1) ≤ 35 * 35 ^ (n - 1) := Nat.mul_le_mul_right _ (by omega)
      refine V.seq ?_
      refine V.seq ?_
      refine V.region ?_
      refine O.p rfl rfl rfl (Pu.move rfl rfl) ?_
      refine O.p rfl rfl rfl (Pu.fieldAddr 1 rfl Try.underlying30 rfl sz28 rfl rfl) ?_
      refine O.p rfl rfl rfl (Pu.load rfl pl28 rfl (Ld.blk 3 rfl rfl)) ?_
      refine O.p rfl rfl rfl (Pu.len rfl Try.underlying28 rfl) ?_
      refine O.p rfl rfl rfl (Pu.lss rfl rfl rfl) ?_
      refine O.nil ?_
      refine X.next ?_
      refine V.condD rfl (fun c3 => ?_) (fun c3 => ?_)
      · skip
        refine V.skip ?_
        refine X.next ?_
        refine V.seq ?_
        refine V.block ?_
        refine V.seq ?_
        refine V.region ?_
        refine O.p rfl rfl rfl (Pu.fieldAddr 1 rfl Try.underlying30 rfl sz28 rfl rfl) ?_
        refine O.p rfl rfl rfl (Pu.load rfl pl28 rfl (Ld.blk 3 rfl rfl)) ?_
        refine O.p rfl rfl rfl (Pu.move rfl rfl) ?_
        refine O.p rfl rfl rfl (Pu.indexAddr (i) rfl Try.underlying28 sz75 rfl rfl (by omega) (by omega) (hx.some (by omega))) ?_
        have e2 : i < bs.length := by omega
        refine O.p rfl rfl rfl (Pu.loadAgg' (v := B3.v (bs[i]'e2)) rfl rfl ag75 sz75 rfl rfl (Ld.rds (Ld.old hx) (k := i) e2 rfl)) ?_
        refine O.e rfl rfl rfl (Ef.alloc rfl zr75 rfl) ?_
        rintro _ _ ⟨b2, rfl, rfl⟩
        refine O.s rfl rfl (Ef.storeAll 0 rfl sz75 rfl rfl rfl rfl (by simp [Value.oneCell']) rfl) ?_
        rintro _ _ rfl
        refine O.nil ?_
        refine X.next ?_
        refine V.seq ?_
        refine V.region ?_
        refine O.p rfl rfl rfl (Pu.move rfl rfl) ?_
        refine O.p rfl rfl rfl (Pu.makeFunc rfl rfl) ?_
        refine O.e rfl rfl rfl (Ef.callP call190 rfl rfl (fun w hw => containsFunc_ok (fun k => meets (blk bs k) (bs[i]'e2)) 201 _ now _ _ w call201 (Ld.own 3 (by exact rfl) w hw) (by omega) (fun k hk w' hb => disjoint1_ok v bs _ _ _ _ E e w' (hd.ix _ (List.getElem_mem hk)) ((hx.st hw).below hb) ((Blk.rdb hw (i := 4) rfl).below hb) ((Blk.rdb hw (i := 0) rfl).below hb)))) ?_
        rintro _ _ ⟨rfl, rfl⟩
        refine O.p rfl rfl rfl (Pu.not rfl rfl) ?_
        refine O.nil ?_
        refine X.next ?_
        refine V.condNot rfl (fun c4 => ?_) (fun c4 => ?_)
        · skip
          refine V.drawS mo (by kernel_rfl) (Sub.keep 4 rfl (Sub.keep 3 rfl (Sub.nil _))) (fun hwf => ?_)
          refine D.p 0 rfl rfl rfl rfl rfl rfl (Pu.loadAgg rfl ag30 sz30 rfl rfl (Ld.whole 0 rfl)) ?_
          refine D.p 1 rfl rfl rfl rfl rfl rfl (Pu.move rfl rfl) ?_
          refine D.p 2 rfl rfl rfl rfl rfl rfl (Pu.move rfl rfl) ?_
          refine D.p 4 rfl rfl rfl rfl rfl rfl (Pu.move rfl rfl) ?_
          refine D.p 7 rfl rfl rfl rfl rfl rfl (Pu.move rfl rfl) ?_
          refine D.twoBC hwf (e1 := 5) (e2 := 3) rfl rfl rfl rfl rfl rfl rfl rfl rfl rfl rfl rfl rfl rfl rfl rfl rfl (fun H hs => Ef.build I64 ([(↑i : Int)] : List Int) rfl Try.underlying43 inf2 rfl rfl rfl (by first | decide | (simp; done)) (by kernel_rfl)) (fun H hs => Ef.call1 call159 rfl rfl (fun w hw => cloneI_ok now _ _ w ((Ld.own 1 (by exact rfl)) w (hs w hw)) (by omega))) ?_
          rintro A3 _ hA3
          refine D.exi (fun p2 => ?_)
          refine D.sep ?_
          refine D.pur1 ?_
          rintro ⟨rfl, hp2⟩
          have hiK2 : (i + 1) * 35 ^ (n - 1) ≤ 35 * 35 ^ (n - 1) := Nat.mul_le_mul_right _ (by omega)
          rw [Nat.add_mul, Nat.one_mul] at hiK2
          have hp2l : p2.2.length ≤ 5 := by rw [hp2]; omega
          have hdj : Dj bs (p2.2 ++ [(i : Int)]) := by rw [hp2]; exact dj_snoc hd e2 hf (fun k hk h => c4 ⟨k, hk, by rwa [blk_get e2] at h⟩)
          refine D.eff hwf (e := 6) rfl rfl rfl rfl (Ef.append (xs := p2.2) (ys := ([(↑i : Int)] : List Int)) 0 rfl Try.underlying43 inf2 rfl rfl rfl rfl rfl rfl hA3 (Ld.own 1 (by exact rfl)) (by simp only [List.length_append, List.length_cons, List.length_nil] at *; omega) (by decide)) rfl rfl rfl ?_
          rintro _ _ ⟨A4, k2, rfl, rfl, hA4⟩ hs
          replace hA4 := hA4 (.inr (by simp))
          refine ⟨fun w hw => hw.sub (Sub.keep 6 rfl (Sub.keep 5 rfl (Sub.nil _))), ?_⟩
          refine D.eff hwf (e := 8) rfl rfl rfl rfl (Ef.call call145 rfl rfl (Does.pre (fun w hw => hw.sub (Sub.keep 3 rfl (Sub.keep 3 rfl (Sub.keep 0 rfl (Sub.keep 0 rfl (Sub.keep 0 rfl (Sub.keep 0 rfl (Sub.keep 0 rfl (Sub.refl _))))))))) (ih (n - 1) (by omega) v bs qs (p2.2 ++ [(i : Int)]) many _ _ E _ _ e w0 _ hx hfew hdj (by rw [hp2]; simp only [List.length_append, List.length_cons, List.length_nil]; omega) hm5 (by omega)))) rfl rfl rfl ?_
          rintro _ _ rfl hs
          refine ⟨fun w hw => hw.tail.sub (Sub.keep 3 rfl (Sub.keep 2 rfl (Sub.nil _))), ?_⟩
          refine D.exi (fun p3 => ?_)
          refine D.sep ?_
          refine D.pur1 ?_
          rintro ⟨rfl, hp3_1, hp3_2⟩
          refine D.sep ?_
          refine D.last hwf (e := 9) rfl rfl rfl rfl rfl rfl (Pu.assign rfl rfl) ?_
          refine X.blockNormal ?_
          refine X.next ?_
          refine V.region ?_
          refine O.p rfl rfl rfl (Pu.move rfl rfl) ?_
          refine O.p rfl rfl rfl (Pu.add64 (r := ((i + 1 : Nat) : Int)) rfl (by omega) rfl rfl rfl) ?_
          refine O.p rfl rfl rfl (Pu.assign rfl rfl) ?_
          refine O.nil ?_
          obtain ⟨ls, hls1, hls2⟩ := hls
          obtain ⟨ls', hls3, hls4⟩ := hp3_1
          rw [hp2] at hls4
          exact X.back3 (i + 1, p3.1.1, p3.1.2, p3.2) ⟨by simp only []; omega, by simp only []; omega, ⟨ls ++ ls', by rw [hls3, hls1, List.append_assoc], extB_list hls2 hls4⟩, by simp only [Nat.add_mul, Nat.one_mul]; omega⟩ (by omega) (Ent.cons rfl (Ent.cons rfl (Ent.nil _))) (Ent.cons (t := 2) rfl (Ent.cons (t := 3) rfl (Ent.cons (t := 4) rfl (Ent.cons (t := 8) rfl (Ent.nil _))))) (Sub.keep 0 rfl (Sub.keep 0 rfl (Sub.keep 2 rfl (Sub.keep 2 rfl (Sub.drop (Sub.drop (Sub.refl _)))))))
        · skip
          refine V.skip ?_
          refine X.blockNormal ?_
          refine X.next ?_
          refine V.region ?_
          refine O.p rfl rfl rfl (Pu.move rfl rfl) ?_
          refine O.p rfl rfl rfl (Pu.add64 (r := ((i + 1 : Nat) : Int)) rfl (by omega) rfl rfl rfl) ?_
          refine O.p rfl rfl rfl (Pu.assign rfl rfl) ?_
          refine O.nil ?_
          exact X.back3 (i + 1, Ao, co, qs) ⟨by simp only []; omega, by simp only []; omega, by obtain ⟨ls, h1, h2⟩ := hls; exact ⟨ls, h1, h2.1, fun q => (h2.2 q).trans (extB_skip (by obtain ⟨k, hk, h⟩ := c4; exact ⟨k, hk, by rw [blk_get e2]; exact h⟩) (below_from hd hf)).symm⟩, by simp only [Nat.add_mul]; omega⟩ (by omega) (Ent.cons rfl (Ent.cons rfl (Ent.nil _))) (Ent.cons (t := 2) rfl (Ent.cons (t := 3) rfl (Ent.cons (t := 4) rfl (Ent.cons (t := 8) rfl (Ent.nil _))))) (Sub.keep 1 rfl (Sub.keep 1 rfl (Sub.keep 1 rfl (Sub.keep 1 rfl (Sub.drop (Sub.refl _))))))
      · skip
        refine V.exit ?_
        refine X.thenExit ?_
        refine X.thenExit ?_
        refine X.blockHit ?_
        refine X.next ?_
        refine V.seq ?_
        refine V.region ?_
        refine O.p rfl rfl rfl (Pu.move rfl rfl) ?_
        refine O.p rfl rfl rfl (Pu.assign rfl rfl) ?_
        refine O.nil ?_
        refine X.next ?_
        refine V.ret ?_
        refine X.ret1 rfl rfl ?_
        exact fun w hw => St.mkExi ((Ao, co), qs) (St.unsep (St.addPur ⟨rfl, by obtain ⟨ls, h1, h2⟩ := hls; have e : i = bs.length := (by omega); subst e; exact ⟨ls, h1, h2.1, fun q => (h2.2 q).trans (extB_all (by omega))⟩, show qs.length ≤ _ by omega⟩ (St.unsep (hw.sub (Sub.keep 0 rfl (Sub.keep 0 rfl (Sub.drop (Sub.drop (Sub.refl _)))))))))

theorem disjoint_ok (n : Nat) : LDisj n := by
  induction n using Nat.strongRecOn with
  | _ n ih => exact fun v bs ps now many A B E c d e w0 H hx hfew hd hmany hm5 hlp => disjoint_step n ih v bs ps now many A B E c d e w0 H hx hfew hd hmany hm5 hlp
end Go.Proofs.Ytjpfngmoabnffaa
