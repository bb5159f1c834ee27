/-
  Tools on slices.
-/
import Derived.Test.YtjpfngmoabnffaaJ
import Derived.Test.YtjpfngmoabnffaaL
import Derived.Test.YtjpfngmoabnffaaVcSub
set_option linter.unusedVariables false
set_option linter.unusedSimpArgs false
namespace Go.Proofs.Ytjpfngmoabnffaa
open Go Go.RowKit Go.Vc Go.Proofs
set_option maxRecDepth 100000 in
theorem cloneS_ok (xs : List Sl) (A : Option Addr) (c : Nat) (w : World) (hx : Rd SlC w A xs) (lx : xs.length ≤ 1099511627776) : Does Try.prog 189 [.slice A xs.length c] w [] (fun v => [.exi fun p : (Option Addr × Nat) × List Sl => .sep (.pur (v = .slice p.1.1 p.2.length p.1.2 ∧ p.2 = xs)) (Own 43 SlC p.1.1 p.1.2 p.2)]) := by
  refine Does.enter Try.func189 rfl rfl [(0, .slice A xs.length c)] rfl ?_
  refine V.seq ?_
  refine V.region ?_
  refine O.p rfl rfl rfl (Pu.assign rfl rfl) ?_
  refine O.nil ?_
  refine X.next ?_
  refine V.seq ?_
  refine V.seq ?_
  refine V.region ?_
  refine O.p rfl rfl rfl (Pu.move rfl rfl) ?_
  refine O.p rfl rfl rfl (Pu.eqlNil Try.underlying34 rfl rfl rfl) ?_
  refine O.nil ?_
  refine X.next ?_
  refine V.cond rfl (fun c1 => ?_) (fun c1 => ?_)
  · skip
    refine V.seq ?_
    refine V.region ?_
    refine O.p rfl rfl rfl (Pu.assign rfl rfl) ?_
    refine O.nil ?_
    refine X.next ?_
    refine V.ret ?_
    refine X.thenRet ?_
    refine X.ret1 rfl rfl ?_
    exact fun w hw => St.retX ((none, 0), []) ⟨rfl, (Rd.none hx (none_of c1)).symm⟩ (St.addNil hw)
  · skip
    refine V.skip ?_
    refine X.next ?_
    refine V.seq ?_
    refine V.region ?_
    refine O.e rfl rfl rfl (Ef.build SlC ([] : List Sl) rfl Try.underlying34 inf43 rfl rfl rfl (by first | decide | (simp; done)) (by kernel_rfl)) ?_
    rintro _ _ ⟨A1, hA1, rfl, rfl⟩
    refine O.p rfl rfl rfl (Pu.move rfl rfl) ?_
    refine O.e rfl rfl rfl (Ef.append (xs := ([] : List Sl)) (ys := xs) 0 rfl Try.underlying34 inf43 rfl rfl rfl rfl rfl rfl (some_of c1) (Ld.old hx) (by simp only [List.length_append, List.length_cons, List.length_nil] at *; omega) (by decide)) ?_
    rintro _ _ ⟨A2, k1, rfl, rfl, hA2⟩
    replace hA2 := hA2 (.inl hA1)
    refine O.p rfl rfl rfl (Pu.assign rfl rfl) ?_
    refine O.nil ?_
    refine X.next ?_
    refine V.ret ?_
    refine X.ret1 rfl rfl ?_
    exact fun w hw => St.retX ((A2, k1), [] ++ xs) ⟨rfl, rfl⟩ (hw.sub (Sub.keep 0 rfl (Sub.nil _)))

set_option maxRecDepth 100000 in
theorem cloneB_ok (xs : List B3) (A : Option Addr) (c : Nat) (w : World) (hx : Rd B3C w A xs) (lx : xs.length ≤ 1099511627776) : Does Try.prog 138 [.slice A xs.length c] w [] (fun v => [.exi fun p : (Option Addr × Nat) × List B3 => .sep (.pur (v = .slice p.1.1 p.2.length p.1.2 ∧ p.2 = xs)) (Own 75 B3C p.1.1 p.1.2 p.2)]) := by
  refine Does.enter Try.func138 rfl rfl [(0, .slice A xs.length c)] rfl ?_
  refine V.seq ?_
  refine V.region ?_
  refine O.p rfl rfl rfl (Pu.assign rfl rfl) ?_
  refine O.nil ?_
  refine X.next ?_
  refine V.seq ?_
  refine V.seq ?_
  refine V.region ?_
  refine O.p rfl rfl rfl (Pu.move rfl rfl) ?_
  refine O.p rfl rfl rfl (Pu.eqlNil Try.underlying28 rfl rfl rfl) ?_
  refine O.nil ?_
  refine X.next ?_
  refine V.cond rfl (fun c1 => ?_) (fun c1 => ?_)
  · skip
    refine V.seq ?_
    refine V.region ?_
    refine O.p rfl rfl rfl (Pu.assign rfl rfl) ?_
    refine O.nil ?_
    refine X.next ?_
    refine V.ret ?_
    refine X.thenRet ?_
    refine X.ret1 rfl rfl ?_
    exact fun w hw => St.retX ((none, 0), []) ⟨rfl, (Rd.none hx (none_of c1)).symm⟩ (St.addNil hw)
  · skip
    refine V.skip ?_
    refine X.next ?_
    refine V.seq ?_
    refine V.region ?_
    refine O.e rfl rfl rfl (Ef.build B3C ([] : List B3) rfl Try.underlying28 inf75 rfl rfl rfl (by first | decide | (simp; done)) (by kernel_rfl)) ?_
    rintro _ _ ⟨A1, hA1, rfl, rfl⟩
    refine O.p rfl rfl rfl (Pu.move rfl rfl) ?_
    refine O.e rfl rfl rfl (Ef.append (xs := ([] : List B3)) (ys := xs) 0 rfl Try.underlying28 inf75 rfl rfl rfl rfl rfl rfl (some_of c1) (Ld.old hx) (by simp only [List.length_append, List.length_cons, List.length_nil] at *; omega) (by decide)) ?_
    rintro _ _ ⟨A2, k1, rfl, rfl, hA2⟩
    replace hA2 := hA2 (.inl hA1)
    refine O.p rfl rfl rfl (Pu.assign rfl rfl) ?_
    refine O.nil ?_
    refine X.next ?_
    refine V.ret ?_
    refine X.ret1 rfl rfl ?_
    exact fun w hw => St.retX ((A2, k1), [] ++ xs) ⟨rfl, rfl⟩ (hw.sub (Sub.keep 0 rfl (Sub.nil _)))

set_option maxRecDepth 100000 in
set_option maxHeartbeats 1000000 in
theorem indexI_ok (s : List Int) (y : Int) (sA : Option Addr) (sc : Nat) (w : World) (hs : Rd I64 w sA s) (ls : s.length ≤ 1099511627776) : Does Try.prog 146 [.slice sA s.length sc, .int .i64 y] w [] (fun r => [.pur (r = .int .i64 (idxP (fun x => y = x) s))]) := by
  refine Does.enter Try.func146 rfl rfl [(0, .slice sA s.length sc), (1, .int .i64 y)] rfl ?_
  refine V.seq ?_
  refine V.region ?_
  refine O.p rfl rfl rfl (Pu.assign rfl rfl) ?_
  refine O.nil ?_
  refine X.next ?_
  refine V.seq ?_
  refine V.seq ?_
  refine V.region ?_
  refine O.p rfl rfl rfl (Pu.move rfl rfl) ?_
  refine O.p rfl rfl rfl (Pu.len rfl Try.underlying43 rfl) ?_
  refine O.p rfl rfl rfl (Pu.move rfl rfl) ?_
  refine O.nil ?_
  refine X.next ?_
  refine V.block ?_
  refine V.loop2 (β := Nat) (fun i => [(8, .int .i64 (i : Int))]) _ (fun i => []) (fun i => i ≤ s.length ∧ ∀ j (hj : j < s.length), j < i → ¬ y = s[j]) (fun i => s.length - i) 0 ⟨by omega, fun j hj h => by omega⟩ (Ent.cons rfl (Ent.nil _)) (Ent.cons (t := 0) rfl (Ent.cons (t := 1) rfl (Ent.cons (t := 7) rfl (Ent.nil _)))) (Sub.nil _) ?_
  rintro i ⟨hi, hn⟩
  refine V.seq ?_
  refine V.region ?_
  refine O.p rfl rfl rfl (Pu.lss rfl rfl rfl) ?_
  refine O.nil ?_
  refine X.next ?_
  refine V.seq ?_
  refine V.condD rfl (fun c1 => ?_) (fun c1 => ?_)
  · skip
    refine V.skip ?_
    refine X.next ?_
    refine V.seq ?_
    refine V.block ?_
    refine V.seq ?_
    refine V.region ?_
    refine O.p rfl rfl rfl (Pu.move rfl rfl) ?_
    refine O.p rfl rfl rfl (Pu.assign rfl rfl) ?_
    refine O.nil ?_
    refine X.next ?_
    refine V.seq ?_
    refine V.region ?_
    refine O.p rfl rfl rfl (Pu.move rfl rfl) ?_
    refine O.p rfl rfl rfl (Pu.move rfl rfl) ?_
    refine O.p rfl rfl rfl (Pu.move rfl rfl) ?_
    refine O.p rfl rfl rfl (Pu.indexAddr (i) rfl Try.underlying43 sz2 rfl rfl (by omega) (by omega) (hs.some (by omega))) ?_
    have e1 : i < s.length := by omega
    refine O.p rfl rfl rfl (Pu.load rfl pl2 rfl (Ld.rd (Ld.old hs) (k := i) e1 rfl rfl)) ?_
    refine O.p rfl rfl rfl (Pu.eql rfl rfl rfl) ?_
    refine O.nil ?_
    refine X.next ?_
    refine V.condD rfl (fun c2 => ?_) (fun c2 => ?_)
    · skip
      refine V.seq ?_
      refine V.region ?_
      refine O.p rfl rfl rfl (Pu.move rfl rfl) ?_
      refine O.p rfl rfl rfl (Pu.assign rfl rfl) ?_
      refine O.nil ?_
      refine X.next ?_
      refine V.ret ?_
      refine X.blockRet ?_
      refine X.thenRet ?_
      refine X.thenRet ?_
      refine X.blockRet ?_
      refine X.thenRet ?_
      refine X.ret1 rfl rfl ?_
      exact fun w hw => St.retP (iv ((idxP_found (p := fun x => y = x) e1 c2 hn).symm)) hw
    · skip
      refine V.skip ?_
      refine X.blockNormal ?_
      refine X.next ?_
      refine V.region ?_
      refine O.p rfl rfl rfl (Pu.add64 (r := ((i + 1 : Nat) : Int)) rfl (by omega) rfl rfl rfl) ?_
      refine O.p rfl rfl rfl (Pu.move rfl rfl) ?_
      refine O.nil ?_
      exact X.back2 (i + 1) ⟨by omega, fun j hj h => by by_cases e : j = i; (· subst e; exact c2); (· exact hn j hj (by omega))⟩ (by first | omega | (dsimp only; omega)) (Ent.cons rfl (Ent.nil _)) (Ent.cons (t := 0) rfl (Ent.cons (t := 1) rfl (Ent.cons (t := 7) rfl (Ent.nil _)))) (Sub.nil _)
  · skip
    refine V.exit ?_
    refine X.thenExit ?_
    refine X.thenExit ?_
    refine X.blockHit ?_
    refine X.next ?_
    refine V.seq ?_
    refine V.region ?_
    refine O.p rfl rfl rfl (Pu.assign rfl rfl) ?_
    refine O.nil ?_
    refine X.next ?_
    refine V.ret ?_
    refine X.ret1 rfl rfl ?_
    exact fun w hw => St.retP (iv ((idxP_none (p := fun x => y = x) (fun j hj => hn j hj (by omega))).symm)) hw

set_option maxRecDepth 100000 in
set_option maxHeartbeats 1000000 in
theorem containsI_ok (s : List Int) (y : Int) (sA : Option Addr) (sc : Nat) (w : World) (hs : Rd I64 w sA s) (ls : s.length ≤ 1099511627776) : Does Try.prog 77 [.slice sA s.length sc, .int .i64 y] w [] (fun r => [.pur (r = .bool (decide (y ∈ s)))]) := by
  refine Does.enter Try.func77 rfl rfl [(0, .slice sA s.length sc), (1, .int .i64 y)] rfl ?_
  refine V.seq ?_
  refine V.region ?_
  refine O.p rfl rfl rfl (Pu.assign rfl rfl) ?_
  refine O.nil ?_
  refine X.next ?_
  refine V.seq ?_
  refine V.region ?_
  refine O.p rfl rfl rfl (Pu.move rfl rfl) ?_
  refine O.p rfl rfl rfl (Pu.move rfl rfl) ?_
  refine O.e rfl rfl rfl (Ef.callP call146 rfl rfl (fun w hw => indexI_ok  s y _ _ w ((Ld.old hs) w hw) (by first | omega | (simp only [tops_len, conts_len, bl, List.length_append, List.length_cons, List.length_nil] at *; omega)) )) ?_
  rintro _ _ ⟨rfl, rfl⟩
  refine O.p rfl rfl rfl (Pu.geq rfl rfl rfl) ?_
  refine O.p rfl rfl rfl (Pu.assign rfl rfl) ?_
  refine O.nil ?_
  refine X.next ?_
  refine V.ret ?_
  refine X.ret1 rfl rfl ?_
  exact fun w hw => St.retP (boolD (idxP_nonneg.trans ⟨fun ⟨x, hx, e⟩ => e ▸ hx, fun h => ⟨y, h, rfl⟩⟩)) hw

set_option maxRecDepth 100000 in
set_option maxHeartbeats 1000000 in
theorem indexBl_ok (s : List B3) (y : B3) (sA : Option Addr) (sc : Nat) (w : World) (hs : Rd B3C w sA s) (ls : s.length ≤ 1099511627776) : Does Try.prog 175 [.slice sA s.length sc, B3.v y] w [] (fun r => [.pur (r = .int .i64 (idxP (fun x => y = x) s))]) := by
  refine Does.enter Try.func175 rfl rfl [(0, .slice sA s.length sc), (1, B3.v y)] rfl ?_
  refine V.seq ?_
  refine V.region ?_
  refine O.e rfl rfl rfl (Ef.box rfl rfl rfl) ?_
  rintro _ _ ⟨b1, rfl, rfl⟩
  refine O.p rfl rfl rfl (Pu.assign rfl rfl) ?_
  refine O.nil ?_
  refine X.next ?_
  refine V.seq ?_
  refine V.seq ?_
  refine V.region ?_
  refine O.p rfl rfl rfl (Pu.move rfl rfl) ?_
  refine O.p rfl rfl rfl (Pu.len rfl Try.underlying28 rfl) ?_
  refine O.p rfl rfl rfl (Pu.move rfl rfl) ?_
  refine O.nil ?_
  refine X.next ?_
  refine V.block ?_
  refine V.loop3 (β := Nat) (fun i => [(8, .int .i64 (i : Int))]) _ (fun i => []) _ (fun i => i ≤ s.length ∧ ∀ j (hj : j < s.length), j < i → ¬ y = s[j]) (fun i => s.length - i) 0 ⟨by omega, fun j hj h => by omega⟩ (Ent.cons rfl (Ent.nil _)) (Ent.cons (t := 0) rfl (Ent.cons (t := 3) rfl (Ent.cons (t := 7) rfl (Ent.nil _)))) (Sub.keep 0 rfl (Sub.nil _)) ?_
  rintro i ⟨hi, hn⟩
  refine V.seq ?_
  refine V.region ?_
  refine O.p rfl rfl rfl (Pu.lss rfl rfl rfl) ?_
  refine O.nil ?_
  refine X.next ?_
  refine V.seq ?_
  refine V.condD rfl (fun c1 => ?_) (fun c1 => ?_)
  · skip
    refine V.skip ?_
    refine X.next ?_
    refine V.seq ?_
    refine V.block ?_
    refine V.seq ?_
    refine V.region ?_
    refine O.p rfl rfl rfl (Pu.move rfl rfl) ?_
    refine O.p rfl rfl rfl (Pu.assign rfl rfl) ?_
    refine O.nil ?_
    refine X.next ?_
    refine V.seq ?_
    refine V.draw mo (by kernel_rfl) (fun hwf => ?_)
    refine D.p 0 rfl rfl rfl rfl rfl rfl (Pu.loadAgg' (v := B3.v y) rfl rfl ag75 sz75 rfl rfl (Ld.whole 0 rfl)) ?_
    refine D.p 1 rfl rfl rfl rfl rfl rfl (Pu.move rfl rfl) ?_
    refine D.p 2 rfl rfl rfl rfl rfl rfl (Pu.move rfl rfl) ?_
    refine D.p 3 rfl rfl rfl rfl rfl rfl (Pu.indexAddr (i) rfl Try.underlying28 sz75 rfl rfl (by omega) (by omega) (hs.some (by omega))) ?_
    have e1 : i < s.length := by omega
    refine D.p 4 rfl rfl rfl rfl rfl rfl (Pu.loadAgg' (v := B3.v (s[i]'e1)) rfl rfl ag75 sz75 rfl rfl (Ld.rds (Ld.old hs) (k := i) e1 rfl)) ?_
    refine D.p 5 rfl rfl rfl rfl rfl rfl (Pu.eqlB3 Try.underlying75 Try.underlying2 sz2 (by kernel_rfl) rfl rfl rfl) ?_
    refine D.done hwf rfl ?_
    refine X.next ?_
    refine V.condD rfl (fun c2 => ?_) (fun c2 => ?_)
    · skip
      refine V.seq ?_
      refine V.region ?_
      refine O.p rfl rfl rfl (Pu.move rfl rfl) ?_
      refine O.p rfl rfl rfl (Pu.assign rfl rfl) ?_
      refine O.nil ?_
      refine X.next ?_
      refine V.ret ?_
      refine X.blockRet ?_
      refine X.thenRet ?_
      refine X.thenRet ?_
      refine X.blockRet ?_
      refine X.thenRet ?_
      refine X.ret1 rfl rfl ?_
      exact fun w hw => St.retP (iv ((idxP_found (p := fun x => y = x) e1 c2 hn).symm)) hw
    · skip
      refine V.skip ?_
      refine X.blockNormal ?_
      refine X.next ?_
      refine V.region ?_
      refine O.p rfl rfl rfl (Pu.add64 (r := ((i + 1 : Nat) : Int)) rfl (by omega) rfl rfl rfl) ?_
      refine O.p rfl rfl rfl (Pu.move rfl rfl) ?_
      refine O.nil ?_
      exact X.back3 (i + 1) ⟨by omega, fun j hj h => by by_cases e : j = i; (· subst e; exact c2); (· exact hn j hj (by omega))⟩ (by first | omega | (dsimp only; omega)) (Ent.cons rfl (Ent.nil _)) (Ent.cons (t := 0) rfl (Ent.cons (t := 3) rfl (Ent.cons (t := 7) rfl (Ent.nil _)))) (Sub.keep 0 rfl (Sub.nil _))
  · skip
    refine V.exit ?_
    refine X.thenExit ?_
    refine X.thenExit ?_
    refine X.blockHit ?_
    refine X.next ?_
    refine V.seq ?_
    refine V.region ?_
    refine O.p rfl rfl rfl (Pu.assign rfl rfl) ?_
    refine O.nil ?_
    refine X.next ?_
    refine V.ret ?_
    refine X.ret1 rfl rfl ?_
    exact fun w hw => St.retP (iv ((idxP_none (p := fun x => y = x) (fun j hj => hn j hj (by omega))).symm)) hw

set_option maxRecDepth 100000 in
set_option maxHeartbeats 1000000 in
theorem containsBl_ok (s : List B3) (y : B3) (sA : Option Addr) (sc : Nat) (w : World) (hs : Rd B3C w sA s) (ls : s.length ≤ 1099511627776) : Does Try.prog 147 [.slice sA s.length sc, B3.v y] w [] (fun r => [.pur (r = .bool (decide (y ∈ s)))]) := by
  refine Does.enter Try.func147 rfl rfl [(0, .slice sA s.length sc), (1, B3.v y)] rfl ?_
  refine V.seq ?_
  refine V.region ?_
  refine O.e rfl rfl rfl (Ef.box rfl rfl rfl) ?_
  rintro _ _ ⟨b1, rfl, rfl⟩
  refine O.p rfl rfl rfl (Pu.assign rfl rfl) ?_
  refine O.nil ?_
  refine X.next ?_
  refine V.seq ?_
  refine V.region ?_
  refine O.p rfl rfl rfl (Pu.move rfl rfl) ?_
  refine O.p rfl rfl rfl (Pu.loadAgg' (v := B3.v y) rfl rfl ag75 sz75 rfl rfl (Ld.whole 0 rfl)) ?_
  refine O.e rfl rfl rfl (Ef.callP call175 rfl rfl (fun w hw => indexBl_ok  s y _ _ w ((Ld.old hs) w hw) (by first | omega | (simp only [tops_len, conts_len, bl, List.length_append, List.length_cons, List.length_nil] at *; omega)) )) ?_
  rintro _ _ ⟨rfl, rfl⟩
  refine O.p rfl rfl rfl (Pu.geq rfl rfl rfl) ?_
  refine O.p rfl rfl rfl (Pu.assign rfl rfl) ?_
  refine O.nil ?_
  refine X.next ?_
  refine V.ret ?_
  refine X.ret1 rfl rfl ?_
  exact fun w hw => St.retP (boolD (idxP_nonneg.trans ⟨fun ⟨x, hx, e⟩ => e ▸ hx, fun h => ⟨y, h, rfl⟩⟩)) hw

set_option maxRecDepth 100000 in
set_option maxHeartbeats 1000000 in
theorem deleteI_ok (s : List Int) (p : Int → Prop) [DecidablePred p] (gf : Nat) (caps : Array Value) (sA : Option Addr) (sc : Nat) (w0 : World) (H : List Assn) (hok : CallOk Try.prog gf) (ls : s.length ≤ 1099511627776) (hf : ∀ (k : Nat) (hk : k < s.length) (zs : List Int) w', St w0 (Own 2 I64 sA sc zs :: H) w' → Does Try.prog gf ([.int .i64 s[k]] ++ caps.toList) w' [] (fun v => [.pur (v = .bool (decide (p s[k])))])) : Does Try.prog 192 [.slice sA s.length sc, .func (.func gf) #[] caps] w0 (Own 2 I64 sA sc s :: H) (fun rv_ => [.exi fun (rA : Option Addr) => .exi fun (rc : Nat) => .exi fun (r : List Int) => .sep (.pur (rv_ = .slice rA r.length rc ∧ r = (s.filter fun x => !decide (p x)))) (Own 2 I64 rA rc r)] ++ H) := by
  refine Does.enter Try.func192 rfl rfl [(0, .slice sA s.length sc), (1, .func (.func gf) #[] caps)] rfl ?_
  refine V.seq ?_
  refine V.region ?_
  refine O.p rfl rfl rfl (Pu.assign rfl rfl) ?_
  refine O.nil ?_
  refine X.next ?_
  refine V.seq ?_
  refine V.region ?_
  refine O.p rfl rfl rfl (Pu.move rfl rfl) ?_
  refine O.p rfl rfl rfl (Pu.move rfl rfl) ?_
  refine O.e rfl rfl rfl (Ef.callP call230 rfl rfl (fun w hw => indexFunc_ok p gf caps s _ _ w hok ((Ld.own 0 (by exact rfl)) w hw) (by omega) (fun k hk w' hb => hf k hk s w' (hw.grow hb)))) ?_
  rintro _ _ ⟨rfl, rfl⟩
  refine O.p rfl rfl rfl (Pu.assign rfl rfl) ?_
  refine O.nil ?_
  refine X.next ?_
  refine V.seq ?_
  refine V.seq ?_
  refine V.region ?_
  refine O.p rfl rfl rfl (Pu.move rfl rfl) ?_
  refine O.p rfl rfl rfl (Pu.eql rfl rfl rfl) ?_
  refine O.nil ?_
  refine X.next ?_
  refine V.condD rfl (fun c1 => ?_) (fun c1 => ?_)
  · skip
    refine V.seq ?_
    refine V.region ?_
    refine O.p rfl rfl rfl (Pu.move rfl rfl) ?_
    refine O.p rfl rfl rfl (Pu.assign rfl rfl) ?_
    refine O.nil ?_
    refine X.next ?_
    refine V.ret ?_
    refine X.thenRet ?_
    refine X.ret1 rfl rfl ?_
    exact fun w hw => St.mkExi sA (St.mkExi sc (St.mkExi s (St.unsep (St.addPur ⟨rfl, (keep_none (idxP_not c1)).symm⟩ (hw.sub (Sub.keep 0 rfl (Sub.refl _)))))))
  · skip
    obtain ⟨i0, hi0, q1, q2, q3⟩ := idxP_at c1
    have qj : (idxP p s + 1).toNat = i0 + 1 := by omega
    have qi : (idxP p s).toNat = i0 := by omega
    have qm := movL_start q3 hi0 q2
    refine V.skip ?_
    refine X.next ?_
    refine V.seq ?_
    refine V.seq ?_
    refine V.region ?_
    refine O.p rfl rfl rfl (Pu.move rfl rfl) ?_
    refine O.p rfl rfl rfl (Pu.add64 rfl (by omega) rfl rfl rfl) ?_
    refine O.p rfl rfl rfl (Pu.assign rfl rfl) ?_
    refine O.nil ?_
    refine X.next ?_
    refine V.block ?_
    refine V.loop3 (β := Nat × Nat × (List Int)) (fun x => [(5, .int .i64 (x.1 : Int)), (6, .int .i64 (x.2.1 : Int))]) _ (fun x => [Own 2 I64 sA sc x.2.2]) _ (fun x => i0 < x.2.1 ∧ x.2.1 ≤ s.length ∧ x.1 = (keptL p s x.2.1).length ∧ x.2.2 = movL p s x.2.1) (fun x => s.length - x.2.1) (((idxP p s)).toNat, (((idxP p s) + (1 : Int))).toNat, s) (by (try dsimp only); exact ⟨by omega, by omega, by rw [qj, qm.2]; exact qi, by rw [qj]; exact qm.1⟩) (Ent.cons' rfl (iv (by (try dsimp only); omega)) (Ent.cons' rfl (iv (by (try dsimp only); omega)) (Ent.nil _))) (Ent.cons (t := 0) rfl (Ent.cons (t := 1) rfl (Ent.nil _))) (Sub.keep 0 rfl (Sub.refl _)) ?_
    rintro ⟨i, j, z⟩ ⟨hj0, hj, hi, hz⟩
    dsimp only at hj0 hj hi hz ⊢
    subst hz
    have hml := movL_len (p := p) (ps := s) (j := j)
    have hkl := keptL_le (p := p) (ps := s) (j := j)
    refine V.seq ?_
    refine V.seq ?_
    refine V.region ?_
    refine O.p rfl rfl rfl (Pu.move rfl rfl) ?_
    refine O.p rfl rfl rfl (Pu.move rfl rfl) ?_
    refine O.p rfl rfl rfl (Pu.len rfl Try.underlying43 rfl) ?_
    refine O.p rfl rfl rfl (Pu.lss rfl rfl rfl) ?_
    refine O.nil ?_
    refine X.next ?_
    refine V.condD rfl (fun c2 => ?_) (fun c2 => ?_)
    · skip
      refine V.skip ?_
      refine X.next ?_
      refine V.seq ?_
      refine V.block ?_
      refine V.seq ?_
      refine V.region ?_
      refine O.p rfl rfl rfl (Pu.move rfl rfl) ?_
      refine O.p rfl rfl rfl (Pu.move rfl rfl) ?_
      refine O.p rfl rfl rfl (Pu.indexAddrS (j) rfl Try.underlying43 sz2 rfl rfl (by omega) (by omega) (fun w hw => Own.some hw (i := 0) (by exact rfl) (by omega))) ?_
      have e1 : j < (movL p s j).length := by omega
      refine O.p rfl rfl rfl (Pu.load rfl pl2 rfl (Ld.rd (Ld.own 0 (by exact rfl)) (k := j) e1 rfl rfl)) ?_
      refine O.p rfl rfl rfl (Pu.assign rfl rfl) ?_
      refine O.nil ?_
      refine X.next ?_
      refine V.seq ?_
      refine V.region ?_
      refine O.p rfl rfl rfl (Pu.move rfl rfl) ?_
      refine O.p rfl rfl rfl (Pu.move rfl rfl) ?_
      refine O.e rfl rfl rfl (Ef.callPV hok rfl rfl rfl (fun w' hw => by rw [movL_get (by omega)]; exact hf j (by omega) _ w' (hw.sub (Sub.keep 0 rfl (Sub.refl _))))) ?_
      rintro _ _ ⟨rfl, rfl⟩
      refine O.p rfl rfl rfl (Pu.not rfl rfl) ?_
      refine O.nil ?_
      refine X.next ?_
      refine V.condNot rfl (fun c3 => ?_) (fun c3 => ?_)
      · skip
        refine V.seq ?_
        refine V.region ?_
        refine O.p rfl rfl rfl (Pu.move rfl rfl) ?_
        refine O.p rfl rfl rfl (Pu.move rfl rfl) ?_
        refine O.p rfl rfl rfl (Pu.move rfl rfl) ?_
        refine O.p rfl rfl rfl (Pu.indexAddrS (i) rfl Try.underlying43 sz2 rfl rfl (by omega) (by omega) (fun w hw => Own.some hw (i := 0) (by exact rfl) (by omega))) ?_
        refine O.s rfl rfl (Ef.storeOwn 0 (i) ((movL p s j)[j]'e1) rfl sz2 rfl rfl rfl rfl (by rw [movL_len]; omega) rfl) ?_
        rintro _ _ rfl
        refine O.nil ?_
        refine X.next ?_
        refine V.region ?_
        refine O.p rfl rfl rfl (Pu.move rfl rfl) ?_
        refine O.p rfl rfl rfl (Pu.add64 (r := ((i + 1 : Nat) : Int)) rfl (by omega) rfl rfl rfl) ?_
        refine O.p rfl rfl rfl (Pu.assign rfl rfl) ?_
        refine O.nil ?_
        refine X.blockNormal ?_
        refine X.next ?_
        refine V.region ?_
        refine O.p rfl rfl rfl (Pu.move rfl rfl) ?_
        refine O.p rfl rfl rfl (Pu.add64 (r := ((j + 1 : Nat) : Int)) rfl (by omega) rfl rfl rfl) ?_
        refine O.p rfl rfl rfl (Pu.assign rfl rfl) ?_
        refine O.nil ?_
        exact X.back3 (i + 1, j + 1, ((movL p s j).set (i) ((movL p s j)[j]'e1))) (by (try dsimp only); exact ⟨by omega, by omega, by rw [keptL_no (by omega) c3, List.length_append, hi]; rfl, by rw [movL_get (by omega), hi]; exact movL_no (by omega) c3⟩) (by first | omega | (dsimp only; omega)) (Ent.cons rfl (Ent.cons rfl (Ent.nil _))) (Ent.cons (t := 0) rfl (Ent.cons (t := 1) rfl (Ent.nil _))) (Sub.keep 0 rfl (Sub.refl _))
      · skip
        refine V.skip ?_
        refine X.blockNormal ?_
        refine X.next ?_
        refine V.region ?_
        refine O.p rfl rfl rfl (Pu.move rfl rfl) ?_
        refine O.p rfl rfl rfl (Pu.add64 (r := ((j + 1 : Nat) : Int)) rfl (by omega) rfl rfl rfl) ?_
        refine O.p rfl rfl rfl (Pu.assign rfl rfl) ?_
        refine O.nil ?_
        exact X.back3 (i, j + 1, (movL p s j)) (by (try dsimp only); exact ⟨by omega, by omega, by rw [keptL_yes (by omega) c3]; exact hi, movL_yes (by omega) c3⟩) (by first | omega | (dsimp only; omega)) (Ent.cons rfl (Ent.cons rfl (Ent.nil _))) (Ent.cons (t := 0) rfl (Ent.cons (t := 1) rfl (Ent.nil _))) (Sub.keep 0 rfl (Sub.refl _))
    · skip
      refine V.exit ?_
      refine X.thenExit ?_
      refine X.thenExit ?_
      refine X.blockHit ?_
      refine X.next ?_
      refine V.seq ?_
      refine V.fact (fun w hw => Own.cap hw (i := 0) rfl) (fun hcap => ?_)
      refine V.region ?_
      refine O.p rfl rfl rfl (Pu.move rfl rfl) ?_
      refine O.p rfl rfl rfl (Pu.move rfl rfl) ?_
      refine O.p rfl rfl rfl (Pu.sliceL i rfl Try.underlying43 sz2 rfl rfl (by omega) (by omega)) ?_
      refine O.s rfl rfl (Ef.clearTail (xs := (movL p s j)) (y := (0 : Int)) 0 i rfl Try.underlying43 inf2 rfl rfl rfl rfl hml.symm (by omega)) ?_
      rintro _ _ ⟨rfl, rfl⟩
      refine O.nil ?_
      refine X.next ?_
      refine V.seq ?_
      refine V.region ?_
      refine O.p rfl rfl rfl (Pu.move rfl rfl) ?_
      refine O.p rfl rfl rfl (Pu.move rfl rfl) ?_
      refine O.p rfl rfl rfl (Pu.sliceH i rfl Try.underlying43 sz2 rfl rfl (by omega) (by omega)) ?_
      refine O.p rfl rfl rfl (Pu.assign rfl rfl) ?_
      refine O.nil ?_
      refine X.next ?_
      refine V.ret ?_
      refine X.ret1 rfl rfl ?_
      exact fun w hw => St.mkExi sA (St.mkExi sc (St.mkExi (s.filter fun x => !decide (p x)) (St.unsep (St.addPur ⟨by rw [← keptL_end (p := p) (ps := s) (j := j) (by omega), ← hi], rfl⟩ (hw.sub (Sub.cons 0 rfl (fun w F h => by have h2 := Own.takeP i w F h; rw [List.take_append_of_le_length (by rw [List.length_take]; omega), List.take_take, Nat.min_self, hi, movL_take, keptL_end (by omega)] at h2; exact h2) (Sub.refl _)))))))
end Go.Proofs.Ytjpfngmoabnffaa
