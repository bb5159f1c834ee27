/-
  The first pair that is left.
-/
import Derived.Test.YtjpfngmoabnffaaE
import Derived.Test.YtjpfngmoabnffaaVcComp
import Derived.Test.YtjpfngmoabnffaaVcBuild
set_option linter.unusedVariables false
set_option linter.unusedSimpArgs false
namespace Go.Proofs.Ytjpfngmoabnffaa
open Go Go.RowKit Go.Vc Go.Proofs
set_option maxRecDepth 100000 in
set_option maxHeartbeats 1000000 in
theorem next_ok (cb gb v : Nat) (G : Int → Int → Int) (m : Nat) (S F : Value) (a : Nat) (w : World) (hc : RdB w cb [.int .i64 (v : Int), .pointer (some ⟨gb, 0, none⟩), S, F]) (hG : GridAt w gb G 222) (hv : v ≤ 15) (ha : a ≤ v) (hrel : Rel v G m) (hrows : ∀ i j, i < a → i < j → j < v → usd m i j = true) : Does Try.prog 232 [.pointer (some ⟨cb, 0, none⟩), .int .i64 (a : Int)] w [] (fun r => [.exi fun (i : Nat) => .exi fun (j : Nat) => .pur (r = .tuple #[.int .i64 (i : Int), .int .i64 (j : Int), .bool (decide ((nextM v m).isSome = true))] ∧ ∀ p q, nextM v m = some (p, q) → i = p ∧ j = q ∧ IsNext v m p q)]) := by
  refine Does.enter Try.func232 rfl rfl [(0, .pointer (some ⟨cb, 0, none⟩)), (1, .int .i64 (a : Int))] rfl ?_
  refine V.seq ?_
  refine V.region ?_
  refine O.p rfl rfl rfl (Pu.assign rfl rfl) ?_
  refine O.p rfl rfl rfl (Pu.assign rfl rfl) ?_
  refine O.p rfl rfl rfl (Pu.assign rfl rfl) ?_
  refine O.nil ?_
  refine X.next ?_
  refine V.seq ?_
  refine V.block ?_
  refine V.loop2 (β := Nat) (fun x => [(1, .int .i64 (x : Int))]) _ (fun x => []) (fun x => x ≤ v ∧ ∀ i j, i < x → i < j → j < v → usd m i j = true) (fun x => v - x) a ⟨ha, hrows⟩ (Ent.cons rfl (Ent.nil _)) (Ent.cons (t := 0) rfl (Ent.nil _)) (Sub.nil _) ?_
  rintro x ⟨hx, hr⟩
  refine V.seq ?_
  refine V.seq ?_
  refine V.region ?_
  refine O.p rfl rfl rfl (Pu.move rfl rfl) ?_
  refine O.p rfl rfl rfl (Pu.move rfl rfl) ?_
  refine O.p rfl rfl rfl (Pu.nilCheck rfl rfl) ?_
  refine O.p rfl rfl rfl (Pu.fieldAddr 0 rfl Try.underlying189 rfl sz2 rfl rfl) ?_
  refine O.p rfl rfl rfl (Pu.load rfl pl2 rfl (Ld.rdb hc rfl)) ?_
  refine O.p rfl rfl rfl (Pu.lss rfl rfl rfl) ?_
  refine O.nil ?_
  refine X.next ?_
  refine V.condD rfl (fun c1 => ?_) (fun c1 => ?_)
  · skip
    refine V.skip ?_
    refine X.next ?_
    refine V.seq ?_
    refine V.block ?_
    refine V.seq ?_
    refine V.region ?_
    refine O.p rfl rfl rfl (Pu.move rfl rfl) ?_
    refine O.p rfl rfl rfl (Pu.add64 (r := ((x + 1 : Nat) : Int)) rfl (by omega) rfl rfl rfl) ?_
    refine O.p rfl rfl rfl (Pu.assign rfl rfl) ?_
    refine O.nil ?_
    refine X.next ?_
    refine V.block ?_
    refine V.loop2 (β := Nat) (fun y => [(7, .int .i64 (y : Int))]) _ (fun y => []) (fun y => x < y ∧ y ≤ v ∧ ∀ j, x < j → j < y → usd m x j = true) (fun y => v - y) (x + 1) ⟨by omega, by omega, fun j h1 h2 => by omega⟩ (Ent.cons rfl (Ent.nil _)) (Ent.cons (t := 0) rfl (Ent.cons (t := 1) rfl (Ent.nil _))) (Sub.nil _) ?_
    rintro y ⟨hy0, hy1, hy2⟩
    refine V.seq ?_
    refine V.seq ?_
    refine V.region ?_
    refine O.p rfl rfl rfl (Pu.move rfl rfl) ?_
    refine O.p rfl rfl rfl (Pu.move rfl rfl) ?_
    refine O.p rfl rfl rfl (Pu.nilCheck rfl rfl) ?_
    refine O.p rfl rfl rfl (Pu.fieldAddr 0 rfl Try.underlying189 rfl sz2 rfl rfl) ?_
    refine O.p rfl rfl rfl (Pu.load rfl pl2 rfl (Ld.rdb hc rfl)) ?_
    refine O.p rfl rfl rfl (Pu.lss rfl rfl rfl) ?_
    refine O.nil ?_
    refine X.next ?_
    refine V.condD rfl (fun c2 => ?_) (fun c2 => ?_)
    · skip
      refine V.skip ?_
      refine X.next ?_
      refine V.seq ?_
      refine V.block ?_
      refine V.seq ?_
      refine V.region ?_
      refine O.p rfl rfl rfl (Pu.move rfl rfl) ?_
      refine O.p rfl rfl rfl (Pu.nilCheck rfl rfl) ?_
      refine O.p rfl rfl rfl (Pu.fieldAddr 1 rfl Try.underlying189 rfl sz119 rfl rfl) ?_
      refine O.p rfl rfl rfl (Pu.load rfl pl119 rfl (Ld.rdb hc rfl)) ?_
      refine O.p rfl rfl rfl (Pu.move rfl rfl) ?_
      refine O.p rfl rfl rfl (Pu.move rfl rfl) ?_
      refine O.p rfl rfl rfl (Pu.nilCheck rfl rfl) ?_
      refine O.p rfl rfl rfl (Pu.indexArr (x) (0 + x * 15) rfl Try.underlying222 sz176 rfl rfl (by omega) (by omega) rfl) ?_
      refine O.p rfl rfl rfl (Pu.indexArr (y) (0 + x * 15 + y * 1) rfl Try.underlying176 sz2 rfl rfl (by omega) (by omega) rfl) ?_
      refine O.p rfl rfl rfl (Pu.load rfl pl2 rfl (Ld.gridOld (x := (↑x : Int)) (y := (↑y : Int)) hG (by omega) (by omega) (by omega))) ?_
      refine O.p rfl rfl rfl (Pu.eql rfl rfl rfl) ?_
      refine O.nil ?_
      refine X.next ?_
      refine V.condD rfl (fun c3 => ?_) (fun c3 => ?_)
      · skip
        have hI : IsNext v m x y := ⟨by omega, by omega, (hrel x y (by omega) (by omega) (by omega)).1 c3, hy2, hr⟩
        have hnx := nextM_some hI
        refine V.seq ?_
        refine V.region ?_
        refine O.p rfl rfl rfl (Pu.move rfl rfl) ?_
        refine O.p rfl rfl rfl (Pu.move rfl rfl) ?_
        refine O.p rfl rfl rfl (Pu.assign rfl rfl) ?_
        refine O.p rfl rfl rfl (Pu.assign rfl rfl) ?_
        refine O.p rfl rfl rfl (Pu.assign rfl rfl) ?_
        refine O.nil ?_
        refine X.next ?_
        refine V.ret ?_
        refine X.blockRet ?_
        refine X.thenRet ?_
        refine X.thenRet ?_
        refine X.blockRet ?_
        refine X.blockRet ?_
        refine X.thenRet ?_
        refine X.thenRet ?_
        refine X.blockRet ?_
        refine X.thenRet ?_
        refine X.ret3 rfl rfl rfl rfl ?_
        exact fun w hw => St.mkExi x (St.mkExi y (St.addPur ⟨(by have e : decide ((nextM v m).isSome = true) = true := decide_eq_true (by rw [hnx]; rfl); rw [e]), fun p q h => by rw [hnx] at h; obtain ⟨rfl, rfl⟩ := Prod.mk.inj (Option.some.inj h); exact ⟨rfl, rfl, hI⟩⟩ (hw.sub (Sub.nil _))))
      · skip
        refine V.skip ?_
        refine X.blockNormal ?_
        refine X.next ?_
        refine V.region ?_
        refine O.p rfl rfl rfl (Pu.move rfl rfl) ?_
        refine O.p rfl rfl rfl (Pu.add64 (r := ((y + 1 : Nat) : Int)) rfl (by omega) rfl rfl rfl) ?_
        refine O.p rfl rfl rfl (Pu.assign rfl rfl) ?_
        refine O.nil ?_
        exact X.back2 (y + 1) ⟨by omega, by omega, fun j h1 h2 => by by_cases e : j = y; (· subst e; cases hu : usd m x j with | true => rfl | false => exact absurd ((hrel x j (by omega) (by omega) (by omega)).2 hu) c3); (· exact hy2 j h1 (by omega))⟩ (by first | omega | (dsimp only; omega)) (Ent.cons rfl (Ent.nil _)) (Ent.cons (t := 0) rfl (Ent.cons (t := 1) rfl (Ent.nil _))) (Sub.nil _)
    · skip
      refine V.exit ?_
      refine X.thenExit ?_
      refine X.thenExit ?_
      refine X.blockHit ?_
      refine X.blockNormal ?_
      refine X.next ?_
      refine V.region ?_
      refine O.p rfl rfl rfl (Pu.move rfl rfl) ?_
      refine O.p rfl rfl rfl (Pu.add64 (r := ((x + 1 : Nat) : Int)) rfl (by omega) rfl rfl rfl) ?_
      refine O.p rfl rfl rfl (Pu.assign rfl rfl) ?_
      refine O.nil ?_
      exact X.back2 (x + 1) ⟨by omega, fun i j h1 h2 h3 => by by_cases e : i = x; (· subst e; exact hy2 j h2 (by omega)); (· exact hr i j (by omega) h2 h3)⟩ (by first | omega | (dsimp only; omega)) (Ent.cons rfl (Ent.nil _)) (Ent.cons (t := 0) rfl (Ent.nil _)) (Sub.nil _)
  · skip
    have hnx := nextM_none (v := v) (m := m) (fun i j h1 h2 => hr i j (by omega) h1 h2)
    refine V.exit ?_
    refine X.thenExit ?_
    refine X.thenExit ?_
    refine X.blockHit ?_
    refine X.next ?_
    refine V.seq ?_
    refine V.region ?_
    refine O.p rfl rfl rfl (Pu.assign rfl rfl) ?_
    refine O.p rfl rfl rfl (Pu.assign rfl rfl) ?_
    refine O.p rfl rfl rfl (Pu.assign rfl rfl) ?_
    refine O.nil ?_
    refine X.next ?_
    refine V.ret ?_
    refine X.ret3 rfl rfl rfl rfl ?_
    exact fun w hw => St.mkExi 0 (St.mkExi 0 (St.addPur ⟨(by have e : decide ((nextM v m).isSome = true) = false := decide_eq_false (by rw [hnx]; decide); rw [e]; first | done | rfl), fun p q h => by rw [hnx] at h; cases h⟩ (hw.sub (Sub.nil _))))
end Go.Proofs.Ytjpfngmoabnffaa
