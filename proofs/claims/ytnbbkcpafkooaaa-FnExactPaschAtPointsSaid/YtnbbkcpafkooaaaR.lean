/-
  Pasch, of the program.
-/
import Derived.Test.YtnbbkcpafkooaaaJ
import Derived.Test.YtnbbkcpafkooaaaPurePasch2
import Derived.Test.YtnbbkcpafkooaaaVcFun
import Derived.Test.YtnbbkcpafkooaaaVcMark
set_option linter.unusedVariables false
set_option linter.unusedSimpArgs false
namespace Go.Proofs.Ytnbbkcpafkooaaa
open Go Go.RowKit Go.Vc Go.Proofs
set_option maxRecDepth 100000 in
theorem indexFuncG_ok (p : Int → Prop) [DecidablePred p] (g : Nat) (caps : Array Value) (xs : List Int) (A : Option Addr) (c : Nat) (w : World) (hok : CallOk Try.prog g) (hx : Rd I64 w A xs) (lx : xs.length ≤ 9223372036854775807) (hf : ∀ k (hk : k < xs.length) w', Below w.heap.size w w' → Does Try.prog g ([.int .i64 xs[k]] ++ caps.toList) w' [] (fun v => [.pur (v = .bool (decide (p xs[k])))])) : Does Try.prog 103 [.slice A xs.length c, .func (.func g) #[] caps] w [] (fun v => [.pur (v = .int .i64 (idxP p xs))]) := by
  refine Does.enter Try.func103 rfl rfl [(0, .slice A xs.length c), (1, .func (.func g) #[] caps)] rfl ?_
  refine V.seq ?_
  refine V.region ?_
  refine O.p rfl rfl rfl (Pu.assign rfl rfl) ?_
  refine O.nil ?_
  refine X.next ?_
  refine V.seq ?_
  refine V.seq ?_
  refine V.region ?_
  refine O.p rfl rfl rfl (Pu.move rfl rfl) ?_
  refine O.p rfl rfl rfl (Pu.len rfl Try.underlying108 rfl) ?_
  refine O.p rfl rfl rfl (Pu.move rfl rfl) ?_
  refine O.nil ?_
  refine X.next ?_
  refine V.block ?_
  refine V.loop2 (β := Nat) (fun k => [(8, .int .i64 (k : Int))]) _ (fun k => []) (fun k => k ≤ xs.length ∧ ∀ j (hj : j < xs.length), j < k → ¬ p xs[j]) (fun k => xs.length - k) 0 ⟨by omega, fun j hj h => by omega⟩ (Ent.cons rfl (Ent.nil _)) (Ent.cons (t := 0) rfl (Ent.cons (t := 1) rfl (Ent.cons (t := 7) rfl (Ent.nil _)))) (Sub.nil _) ?_
  rintro k ⟨hk, hn⟩
  refine V.seq ?_
  refine V.region ?_
  refine O.p rfl rfl rfl (Pu.lss rfl rfl rfl) ?_
  refine O.nil ?_
  refine X.next ?_
  refine V.seq ?_
  refine V.condD rfl (fun c1 => ?_) (fun c1 => ?_)
  · skip
    refine V.skip ?_
    refine X.next ?_
    refine V.seq ?_
    refine V.block ?_
    refine V.seq ?_
    refine V.region ?_
    refine O.p rfl rfl rfl (Pu.move rfl rfl) ?_
    refine O.p rfl rfl rfl (Pu.assign rfl rfl) ?_
    refine O.nil ?_
    refine X.next ?_
    refine V.seq ?_
    refine V.region ?_
    refine O.p rfl rfl rfl (Pu.move rfl rfl) ?_
    refine O.p rfl rfl rfl (Pu.move rfl rfl) ?_
    refine O.p rfl rfl rfl (Pu.move rfl rfl) ?_
    refine O.p rfl rfl rfl (Pu.indexAddr (k) rfl Try.underlying108 sz3 rfl rfl (by omega) (by omega) (hx.some (by omega))) ?_
    have e1 : k < xs.length := by omega
    refine O.p rfl rfl rfl (Pu.load rfl pl3 rfl (Ld.rd (Ld.old hx) (k := k) e1 rfl rfl)) ?_
    refine O.e rfl rfl rfl (Ef.callPV hok rfl rfl rfl (fun w' hw => hf k e1 w' hw.below)) ?_
    rintro _ _ ⟨rfl, rfl⟩
    refine O.nil ?_
    refine X.next ?_
    refine V.condD rfl (fun c2 => ?_) (fun c2 => ?_)
    · skip
      refine V.seq ?_
      refine V.region ?_
      refine O.p rfl rfl rfl (Pu.move rfl rfl) ?_
      refine O.p rfl rfl rfl (Pu.assign rfl rfl) ?_
      refine O.nil ?_
      refine X.next ?_
      refine V.ret ?_
      refine X.blockRet ?_
      refine X.thenRet ?_
      refine X.thenRet ?_
      refine X.blockRet ?_
      refine X.thenRet ?_
      refine X.ret1 rfl rfl ?_
      exact fun w hw => St.retP (iv (idxP_found e1 c2 hn).symm) hw
    · skip
      refine V.skip ?_
      refine X.blockNormal ?_
      refine X.next ?_
      refine V.region ?_
      refine O.p rfl rfl rfl (Pu.add64 (r := ((k + 1 : Nat) : Int)) rfl (by omega) rfl rfl rfl) ?_
      refine O.p rfl rfl rfl (Pu.move rfl rfl) ?_
      refine O.nil ?_
      exact X.back2 (k + 1) ⟨by omega, fun j hj h => by by_cases e : j = k; (· subst e; exact c2); (· exact hn j hj (by omega))⟩ (by omega) (Ent.cons rfl (Ent.nil _)) (Ent.cons (t := 0) rfl (Ent.cons (t := 1) rfl (Ent.cons (t := 7) rfl (Ent.nil _)))) (Sub.nil _)
  · skip
    refine V.exit ?_
    refine X.thenExit ?_
    refine X.thenExit ?_
    refine X.blockHit ?_
    refine X.next ?_
    refine V.seq ?_
    refine V.region ?_
    refine O.p rfl rfl rfl (Pu.assign rfl rfl) ?_
    refine O.nil ?_
    refine X.next ?_
    refine V.ret ?_
    refine X.ret1 rfl rfl ?_
    exact fun w hw => St.retP (iv (idxP_none (fun j hj => hn j hj (by omega))).symm) hw

set_option maxRecDepth 100000 in
theorem containsFuncG_ok (p : Int → Prop) [DecidablePred p] (g : Nat) (caps : Array Value) (xs : List Int) (A : Option Addr) (c : Nat) (w : World) (hok : CallOk Try.prog g) (hx : Rd I64 w A xs) (lx : xs.length ≤ 9223372036854775807) (hf : ∀ k (hk : k < xs.length) w', Below w.heap.size w w' → Does Try.prog g ([.int .i64 xs[k]] ++ caps.toList) w' [] (fun v => [.pur (v = .bool (decide (p xs[k])))])) : Does Try.prog 94 [.slice A xs.length c, .func (.func g) #[] caps] w [] (fun v => [.pur (v = .bool (decide (∃ x ∈ xs, p x)))]) := by
  refine Does.enter Try.func94 rfl rfl [(0, .slice A xs.length c), (1, .func (.func g) #[] caps)] rfl ?_
  refine V.seq ?_
  refine V.region ?_
  refine O.p rfl rfl rfl (Pu.assign rfl rfl) ?_
  refine O.nil ?_
  refine X.next ?_
  refine V.seq ?_
  refine V.region ?_
  refine O.p rfl rfl rfl (Pu.move rfl rfl) ?_
  refine O.p rfl rfl rfl (Pu.move rfl rfl) ?_
  refine O.e rfl rfl rfl (Ef.callP call103 rfl rfl (fun w hw => indexFuncG_ok p g caps xs _ _ w hok (Ld.old hx w hw) lx (fun k hk w' hb => hf k hk w' (hw.grow hb).below))) ?_
  rintro _ _ ⟨rfl, rfl⟩
  refine O.p rfl rfl rfl (Pu.geq rfl rfl rfl) ?_
  refine O.p rfl rfl rfl (Pu.assign rfl rfl) ?_
  refine O.nil ?_
  refine X.next ?_
  refine V.ret ?_
  refine X.ret1 rfl rfl ?_
  exact fun w hw => St.retP (boolD idxP_nonneg) hw

set_option maxRecDepth 100000 in
set_option maxHeartbeats 1000000 in
theorem isPasch1_ok (n : Int) (w : World) : Does Try.prog 95 [.int .i64 n] w [] (fun r => [.pur (r = .bool (decide (2 < n)))]) := by
  refine Does.enter Try.func95 rfl rfl [(0, .int .i64 n)] rfl ?_
  refine V.seq ?_
  refine V.region ?_
  refine O.p rfl rfl rfl (Pu.assign rfl rfl) ?_
  refine O.nil ?_
  refine X.next ?_
  refine V.seq ?_
  refine V.region ?_
  refine O.p rfl rfl rfl (Pu.move rfl rfl) ?_
  refine O.p rfl rfl rfl (Pu.gtr rfl rfl rfl) ?_
  refine O.p rfl rfl rfl (Pu.assign rfl rfl) ?_
  refine O.nil ?_
  refine X.next ?_
  refine V.ret ?_
  refine X.ret1 rfl rfl ?_
  exact fun w hw => St.retP (boolD (Iff.rfl)) hw

set_option maxRecDepth 100000 in
set_option maxHeartbeats 1000000 in
theorem isPasch_ok (blocks : List B3) (blocksA : Option Addr) (blocksc : Nat) (w : World) (hblocks : Rd B3C w blocksA blocks) (lblocks : blocks.length ≤ 1099511627776) (hg : ∀ b ∈ blocks, good 15 b) (h4 : blocks.length = 4) : Does Try.prog 75 [.slice blocksA blocks.length blocksc] w [] (fun r => [.pur (r = .bool (decide (PasB blocks)))]) := by
  refine Does.enter Try.func75 rfl rfl [(0, .slice blocksA blocks.length blocksc)] rfl ?_
  refine V.seq ?_
  refine V.region ?_
  refine O.p rfl rfl rfl (Pu.assign rfl rfl) ?_
  refine O.nil ?_
  refine X.next ?_
  refine V.seq ?_
  refine V.region ?_
  refine O.e rfl rfl rfl (Ef.alloc rfl zr106 rfl) ?_
  rintro _ _ ⟨b1, rfl, rfl⟩
  refine O.nil ?_
  refine X.next ?_
  refine V.seq ?_
  refine V.region ?_
  refine O.p rfl rfl rfl (Pu.assign rfl rfl) ?_
  refine O.nil ?_
  refine X.next ?_
  refine V.seq ?_
  refine V.seq ?_
  refine V.region ?_
  refine O.p rfl rfl rfl (Pu.move rfl rfl) ?_
  refine O.p rfl rfl rfl (Pu.len rfl Try.underlying29 rfl) ?_
  refine O.p rfl rfl rfl (Pu.move rfl rfl) ?_
  refine O.nil ?_
  refine X.next ?_
  refine V.block ?_
  refine V.loop2 (β := Nat × Nat × (List Int)) (fun x => [(4, .int .i64 (x.1 : Int)), (11, .int .i64 (x.2.1 : Int))]) _ (fun x => [Blk b1 ((x.2.2).map (Value.int .i64)) 106]) (fun x => x.2.1 ≤ blocks.length ∧ x.2.2 = cntA ((blocks.take x.2.1).flatMap bl) ∧ x.1 = dist ((blocks.take x.2.1).flatMap bl)) (fun x => blocks.length - x.2.1) (0, 0, [0, 0, 0, 0, 0, 0, 0, 0, 0, 0, 0, 0, 0, 0, 0]) (by (try dsimp only); exact ⟨by omega, by simp [cntA, cN], by simp [dist, posL, cntA, cN]⟩) (Ent.cons rfl (Ent.cons rfl (Ent.nil _))) (Ent.cons (t := 2) rfl (Ent.cons (t := 3) rfl (Ent.cons (t := 9) rfl (Ent.cons (t := 10) rfl (Ent.nil _))))) (Sub.cons 0 rfl (fun w F h => h) (Sub.nil _)) ?_
  rintro ⟨points, k, cs⟩ ⟨hk, hcs, hpo⟩
  dsimp only at hk hcs hpo ⊢
  subst hcs
  subst hpo
  have hdl0 := dist_le ((blocks.take k).flatMap bl)
  refine V.seq ?_
  refine V.region ?_
  refine O.p rfl rfl rfl (Pu.lss rfl rfl rfl) ?_
  refine O.nil ?_
  refine X.next ?_
  refine V.seq ?_
  refine V.condD rfl (fun c1 => ?_) (fun c1 => ?_)
  · skip
    refine V.skip ?_
    refine X.next ?_
    refine V.seq ?_
    refine V.block ?_
    refine V.seq ?_
    refine V.region ?_
    refine O.p rfl rfl rfl (Pu.indexAddr (k) rfl Try.underlying29 sz66 rfl rfl (by omega) (by omega) (hblocks.some (by omega))) ?_
    have e1 : k < blocks.length := by omega
    refine O.p rfl rfl rfl (Pu.loadAgg' (v := B3.v (blocks[k]'e1)) rfl rfl ag66 sz66 rfl rfl (Ld.rds (Ld.old hblocks) (k := k) e1 rfl)) ?_
    refine O.e rfl rfl rfl (Ef.alloc rfl zr66 rfl) ?_
    rintro _ _ ⟨b2, rfl, rfl⟩
    refine O.s rfl rfl (Ef.storeAll 0 rfl sz66 rfl rfl rfl rfl (by simp [Value.oneCell']) rfl) ?_
    rintro _ _ rfl
    refine O.nil ?_
    refine X.next ?_
    refine V.seq ?_
    have hgk := hg _ (List.getElem_mem e1)
    unfold good at hgk
    have hfl := flat_len (blocks.take k)
    rw [List.length_take] at hfl
    refine V.region ?_
    refine O.p rfl rfl rfl (Pu.loadAgg' (v := B3.v (blocks[k]'e1)) rfl rfl ag66 sz66 rfl rfl (Ld.whole 0 rfl)) ?_
    refine O.p rfl rfl rfl (Pu.move rfl rfl) ?_
    refine O.nil ?_
    refine X.next ?_
    refine V.block ?_
    refine V.unroll 3 ?_
    refine V.seq ?_
    refine V.region ?_
    refine O.p rfl rfl rfl (Pu.isT (by decide) (Pu.lss rfl rfl rfl)) ?_
    refine O.nil ?_
    refine X.next ?_
    refine V.seq ?_
    refine V.condT rfl ?_
    refine V.skip ?_
    refine X.next ?_
    refine V.seq ?_
    refine V.block ?_
    refine V.seq ?_
    refine V.region ?_
    refine O.p rfl rfl rfl (Pu.indexAgg 0 rfl Try.underlying66 sz2 pl2 rfl rfl (by decide) (by decide) rfl) ?_
    refine O.p rfl rfl rfl (Pu.assign rfl rfl) ?_
    refine O.nil ?_
    refine X.next ?_
    refine V.seq ?_
    have hbd28 := cnt_bd (ps := ((blocks.take k).flatMap bl)) (by simp only [List.length_append, List.length_singleton, hfl]; omega) ((blocks[k]'e1).1).toNat
    refine V.region ?_
    refine O.p rfl rfl rfl (Pu.move rfl rfl) ?_
    refine O.p rfl rfl rfl (Pu.indexArr (((blocks[k]'e1).1).toNat) (0 + ((blocks[k]'e1).1).toNat * 1) rfl Try.underlying106 sz3 rfl rfl (by omega) (by omega) rfl) ?_
    refine O.p rfl rfl rfl (Pu.load rfl pl3 rfl (Ld.arrK (n := 15) (k := ((blocks[k]'e1).1).toNat) 1 rfl rfl (by omega) (by rfl))) ?_
    refine O.p rfl rfl rfl (Pu.add64 rfl (by omega) rfl rfl rfl) ?_
    refine O.p rfl rfl rfl (Pu.indexArr (((blocks[k]'e1).1).toNat) (0 + ((blocks[k]'e1).1).toNat * 1) rfl Try.underlying106 sz3 rfl rfl (by omega) (by omega) rfl) ?_
    refine O.s rfl rfl (Ef.storeArr (n := 15) (xs := (cntA ((blocks.take k).flatMap bl))) 1 (((blocks[k]'e1).1).toNat) rfl sz3 rfl rfl rfl rfl (by omega) (by rfl)) ?_
    rintro _ _ rfl
    refine O.map (fun w hw => hw.sub (Sub.keep 0 rfl (Sub.cons 0 rfl (fun w F h => by rw [cntA_set ((blocks.take k).flatMap bl) (by omega) (by omega)] at h; exact h) (Sub.nil _)))) ?_
    have hdl := dist_le ((blocks.take k).flatMap bl)
    refine O.nil ?_
    refine X.next ?_
    refine V.seq ?_
    refine V.region ?_
    refine O.p rfl rfl rfl (Pu.move rfl rfl) ?_
    refine O.p rfl rfl rfl (Pu.indexArr (((blocks[k]'e1).1).toNat) (0 + ((blocks[k]'e1).1).toNat * 1) rfl Try.underlying106 sz3 rfl rfl (by omega) (by omega) rfl) ?_
    refine O.p rfl rfl rfl (Pu.load rfl pl3 rfl (Ld.arrK (n := 15) (k := ((blocks[k]'e1).1).toNat) 1 rfl rfl (by omega) (by rfl))) ?_
    refine O.p rfl rfl rfl (Pu.eql rfl rfl rfl) ?_
    refine O.nil ?_
    refine X.next ?_
    refine V.cut2 [(4, .int .i64 ((dist (((blocks.take k).flatMap bl) ++ [(blocks[k]'e1).1]) : Nat) : Int))] (Ent.cons (t := 2) rfl (Ent.cons (t := 3) rfl (Ent.cons (t := 9) rfl (Ent.cons (t := 10) rfl (Ent.cons (t := 11) rfl (Ent.cons (t := 15) rfl (Ent.cons (t := 16) rfl (Ent.nil _)))))))) (Sub.keep 0 rfl (Sub.keep 0 rfl (Sub.nil _))) ?_ ?_
    · skip
      refine V.condD rfl (fun c2 => ?_) (fun c2 => ?_)
      · skip
        refine V.region ?_
        refine O.p rfl rfl rfl (Pu.move rfl rfl) ?_
        refine O.p rfl rfl rfl (Pu.add64 (r := (((dist ((blocks.take k).flatMap bl)) + 1 : Nat) : Int)) rfl (by omega) rfl rfl rfl) ?_
        refine O.p rfl rfl rfl (Pu.assign rfl rfl) ?_
        refine O.nil ?_
        exact X.cut (Ent.cons' rfl (iv (by rw [dist_snoc ((blocks.take k).flatMap bl) (by omega) (by omega), if_pos ((cnt_one ((blocks.take k).flatMap bl) (by omega) (by omega)).1 c2)])) (Ent.nil _)) (Ent.cons (t := 2) rfl (Ent.cons (t := 3) rfl (Ent.cons (t := 9) rfl (Ent.cons (t := 10) rfl (Ent.cons (t := 11) rfl (Ent.cons (t := 15) rfl (Ent.cons (t := 16) rfl (Ent.nil _)))))))) (Sub.keep 0 rfl (Sub.keep 0 rfl (Sub.nil _)))
      · skip
        refine V.skip ?_
        exact X.cut (Ent.cons' rfl (iv (by rw [dist_snoc ((blocks.take k).flatMap bl) (by omega) (by omega), if_neg (fun h => c2 ((cnt_one ((blocks.take k).flatMap bl) (by omega) (by omega)).2 h)), Nat.add_zero])) (Ent.nil _)) (Ent.cons (t := 2) rfl (Ent.cons (t := 3) rfl (Ent.cons (t := 9) rfl (Ent.cons (t := 10) rfl (Ent.cons (t := 11) rfl (Ent.cons (t := 15) rfl (Ent.cons (t := 16) rfl (Ent.nil _)))))))) (Sub.keep 0 rfl (Sub.keep 0 rfl (Sub.nil _)))
    · skip
      refine X.blockNormal ?_
      refine X.next ?_
      refine V.region ?_
      refine O.p rfl rfl rfl (Pu.add64 (r := 1) (by decide) (by decide) rfl rfl rfl) ?_
      refine O.p rfl rfl rfl (Pu.move rfl rfl) ?_
      refine O.nil ?_
      refine X.again 2 ?_
      refine V.seq ?_
      refine V.region ?_
      refine O.p rfl rfl rfl (Pu.isT (by decide) (Pu.lss rfl rfl rfl)) ?_
      refine O.nil ?_
      refine X.next ?_
      refine V.seq ?_
      refine V.condT rfl ?_
      refine V.skip ?_
      refine X.next ?_
      refine V.seq ?_
      refine V.block ?_
      refine V.seq ?_
      refine V.region ?_
      refine O.p rfl rfl rfl (Pu.indexAgg 1 rfl Try.underlying66 sz2 pl2 rfl rfl (by decide) (by decide) rfl) ?_
      refine O.p rfl rfl rfl (Pu.assign rfl rfl) ?_
      refine O.nil ?_
      refine X.next ?_
      refine V.seq ?_
      have hbd52 := cnt_bd (ps := (((blocks.take k).flatMap bl) ++ [(blocks[k]'e1).1])) (by simp only [List.length_append, List.length_singleton, hfl]; omega) ((blocks[k]'e1).2.1).toNat
      refine V.region ?_
      refine O.p rfl rfl rfl (Pu.move rfl rfl) ?_
      refine O.p rfl rfl rfl (Pu.indexArr (((blocks[k]'e1).2.1).toNat) (0 + ((blocks[k]'e1).2.1).toNat * 1) rfl Try.underlying106 sz3 rfl rfl (by omega) (by omega) rfl) ?_
      refine O.p rfl rfl rfl (Pu.load rfl pl3 rfl (Ld.arrK (n := 15) (k := ((blocks[k]'e1).2.1).toNat) 1 rfl rfl (by omega) (by rfl))) ?_
      refine O.p rfl rfl rfl (Pu.add64 rfl (by omega) rfl rfl rfl) ?_
      refine O.p rfl rfl rfl (Pu.indexArr (((blocks[k]'e1).2.1).toNat) (0 + ((blocks[k]'e1).2.1).toNat * 1) rfl Try.underlying106 sz3 rfl rfl (by omega) (by omega) rfl) ?_
      refine O.s rfl rfl (Ef.storeArr (n := 15) (xs := (cntA (((blocks.take k).flatMap bl) ++ [(blocks[k]'e1).1]))) 1 (((blocks[k]'e1).2.1).toNat) rfl sz3 rfl rfl rfl rfl (by omega) (by rfl)) ?_
      rintro _ _ rfl
      refine O.map (fun w hw => hw.sub (Sub.keep 0 rfl (Sub.cons 0 rfl (fun w F h => by rw [cntA_set (((blocks.take k).flatMap bl) ++ [(blocks[k]'e1).1]) (by omega) (by omega)] at h; exact h) (Sub.nil _)))) ?_
      have hdl := dist_le (((blocks.take k).flatMap bl) ++ [(blocks[k]'e1).1])
      refine O.nil ?_
      refine X.next ?_
      refine V.seq ?_
      refine V.region ?_
      refine O.p rfl rfl rfl (Pu.move rfl rfl) ?_
      refine O.p rfl rfl rfl (Pu.indexArr (((blocks[k]'e1).2.1).toNat) (0 + ((blocks[k]'e1).2.1).toNat * 1) rfl Try.underlying106 sz3 rfl rfl (by omega) (by omega) rfl) ?_
      refine O.p rfl rfl rfl (Pu.load rfl pl3 rfl (Ld.arrK (n := 15) (k := ((blocks[k]'e1).2.1).toNat) 1 rfl rfl (by omega) (by rfl))) ?_
      refine O.p rfl rfl rfl (Pu.eql rfl rfl rfl) ?_
      refine O.nil ?_
      refine X.next ?_
      refine V.cut2 [(4, .int .i64 ((dist ((((blocks.take k).flatMap bl) ++ [(blocks[k]'e1).1]) ++ [(blocks[k]'e1).2.1]) : Nat) : Int))] (Ent.cons (t := 2) rfl (Ent.cons (t := 3) rfl (Ent.cons (t := 9) rfl (Ent.cons (t := 10) rfl (Ent.cons (t := 11) rfl (Ent.cons (t := 15) rfl (Ent.cons (t := 16) rfl (Ent.nil _)))))))) (Sub.keep 0 rfl (Sub.keep 0 rfl (Sub.nil _))) ?_ ?_
      · skip
        refine V.condD rfl (fun c3 => ?_) (fun c3 => ?_)
        · skip
          refine V.region ?_
          refine O.p rfl rfl rfl (Pu.move rfl rfl) ?_
          refine O.p rfl rfl rfl (Pu.add64 (r := (((dist (((blocks.take k).flatMap bl) ++ [(blocks[k]'e1).1])) + 1 : Nat) : Int)) rfl (by omega) rfl rfl rfl) ?_
          refine O.p rfl rfl rfl (Pu.assign rfl rfl) ?_
          refine O.nil ?_
          exact X.cut (Ent.cons' rfl (iv (by rw [dist_snoc (((blocks.take k).flatMap bl) ++ [(blocks[k]'e1).1]) (by omega) (by omega), if_pos ((cnt_one (((blocks.take k).flatMap bl) ++ [(blocks[k]'e1).1]) (by omega) (by omega)).1 c3)])) (Ent.nil _)) (Ent.cons (t := 2) rfl (Ent.cons (t := 3) rfl (Ent.cons (t := 9) rfl (Ent.cons (t := 10) rfl (Ent.cons (t := 11) rfl (Ent.cons (t := 15) rfl (Ent.cons (t := 16) rfl (Ent.nil _)))))))) (Sub.keep 0 rfl (Sub.keep 0 rfl (Sub.nil _)))
        · skip
          refine V.skip ?_
          exact X.cut (Ent.cons' rfl (iv (by rw [dist_snoc (((blocks.take k).flatMap bl) ++ [(blocks[k]'e1).1]) (by omega) (by omega), if_neg (fun h => c3 ((cnt_one (((blocks.take k).flatMap bl) ++ [(blocks[k]'e1).1]) (by omega) (by omega)).2 h)), Nat.add_zero])) (Ent.nil _)) (Ent.cons (t := 2) rfl (Ent.cons (t := 3) rfl (Ent.cons (t := 9) rfl (Ent.cons (t := 10) rfl (Ent.cons (t := 11) rfl (Ent.cons (t := 15) rfl (Ent.cons (t := 16) rfl (Ent.nil _)))))))) (Sub.keep 0 rfl (Sub.keep 0 rfl (Sub.nil _)))
      · skip
        refine X.blockNormal ?_
        refine X.next ?_
        refine V.region ?_
        refine O.p rfl rfl rfl (Pu.add64 (r := 2) (by decide) (by decide) rfl rfl rfl) ?_
        refine O.p rfl rfl rfl (Pu.move rfl rfl) ?_
        refine O.nil ?_
        refine X.again 1 ?_
        refine V.seq ?_
        refine V.region ?_
        refine O.p rfl rfl rfl (Pu.isT (by decide) (Pu.lss rfl rfl rfl)) ?_
        refine O.nil ?_
        refine X.next ?_
        refine V.seq ?_
        refine V.condT rfl ?_
        refine V.skip ?_
        refine X.next ?_
        refine V.seq ?_
        refine V.block ?_
        refine V.seq ?_
        refine V.region ?_
        refine O.p rfl rfl rfl (Pu.indexAgg 2 rfl Try.underlying66 sz2 pl2 rfl rfl (by decide) (by decide) rfl) ?_
        refine O.p rfl rfl rfl (Pu.assign rfl rfl) ?_
        refine O.nil ?_
        refine X.next ?_
        refine V.seq ?_
        have hbd78 := cnt_bd (ps := ((((blocks.take k).flatMap bl) ++ [(blocks[k]'e1).1]) ++ [(blocks[k]'e1).2.1])) (by simp only [List.length_append, List.length_singleton, hfl]; omega) ((blocks[k]'e1).2.2).toNat
        refine V.region ?_
        refine O.p rfl rfl rfl (Pu.move rfl rfl) ?_
        refine O.p rfl rfl rfl (Pu.indexArr (((blocks[k]'e1).2.2).toNat) (0 + ((blocks[k]'e1).2.2).toNat * 1) rfl Try.underlying106 sz3 rfl rfl (by omega) (by omega) rfl) ?_
        refine O.p rfl rfl rfl (Pu.load rfl pl3 rfl (Ld.arrK (n := 15) (k := ((blocks[k]'e1).2.2).toNat) 1 rfl rfl (by omega) (by rfl))) ?_
        refine O.p rfl rfl rfl (Pu.add64 rfl (by omega) rfl rfl rfl) ?_
        refine O.p rfl rfl rfl (Pu.indexArr (((blocks[k]'e1).2.2).toNat) (0 + ((blocks[k]'e1).2.2).toNat * 1) rfl Try.underlying106 sz3 rfl rfl (by omega) (by omega) rfl) ?_
        refine O.s rfl rfl (Ef.storeArr (n := 15) (xs := (cntA ((((blocks.take k).flatMap bl) ++ [(blocks[k]'e1).1]) ++ [(blocks[k]'e1).2.1]))) 1 (((blocks[k]'e1).2.2).toNat) rfl sz3 rfl rfl rfl rfl (by omega) (by rfl)) ?_
        rintro _ _ rfl
        refine O.map (fun w hw => hw.sub (Sub.keep 0 rfl (Sub.cons 0 rfl (fun w F h => by rw [cntA_set ((((blocks.take k).flatMap bl) ++ [(blocks[k]'e1).1]) ++ [(blocks[k]'e1).2.1]) (by omega) (by omega)] at h; exact h) (Sub.nil _)))) ?_
        have hdl := dist_le ((((blocks.take k).flatMap bl) ++ [(blocks[k]'e1).1]) ++ [(blocks[k]'e1).2.1])
        refine O.nil ?_
        refine X.next ?_
        refine V.seq ?_
        refine V.region ?_
        refine O.p rfl rfl rfl (Pu.move rfl rfl) ?_
        refine O.p rfl rfl rfl (Pu.indexArr (((blocks[k]'e1).2.2).toNat) (0 + ((blocks[k]'e1).2.2).toNat * 1) rfl Try.underlying106 sz3 rfl rfl (by omega) (by omega) rfl) ?_
        refine O.p rfl rfl rfl (Pu.load rfl pl3 rfl (Ld.arrK (n := 15) (k := ((blocks[k]'e1).2.2).toNat) 1 rfl rfl (by omega) (by rfl))) ?_
        refine O.p rfl rfl rfl (Pu.eql rfl rfl rfl) ?_
        refine O.nil ?_
        refine X.next ?_
        refine V.cut2 [(4, .int .i64 ((dist (((((blocks.take k).flatMap bl) ++ [(blocks[k]'e1).1]) ++ [(blocks[k]'e1).2.1]) ++ [(blocks[k]'e1).2.2]) : Nat) : Int))] (Ent.cons (t := 2) rfl (Ent.cons (t := 3) rfl (Ent.cons (t := 9) rfl (Ent.cons (t := 10) rfl (Ent.cons (t := 11) rfl (Ent.cons (t := 15) rfl (Ent.cons (t := 16) rfl (Ent.nil _)))))))) (Sub.keep 0 rfl (Sub.keep 0 rfl (Sub.nil _))) ?_ ?_
        · skip
          refine V.condD rfl (fun c4 => ?_) (fun c4 => ?_)
          · skip
            refine V.region ?_
            refine O.p rfl rfl rfl (Pu.move rfl rfl) ?_
            refine O.p rfl rfl rfl (Pu.add64 (r := (((dist ((((blocks.take k).flatMap bl) ++ [(blocks[k]'e1).1]) ++ [(blocks[k]'e1).2.1])) + 1 : Nat) : Int)) rfl (by omega) rfl rfl rfl) ?_
            refine O.p rfl rfl rfl (Pu.assign rfl rfl) ?_
            refine O.nil ?_
            exact X.cut (Ent.cons' rfl (iv (by rw [dist_snoc ((((blocks.take k).flatMap bl) ++ [(blocks[k]'e1).1]) ++ [(blocks[k]'e1).2.1]) (by omega) (by omega), if_pos ((cnt_one ((((blocks.take k).flatMap bl) ++ [(blocks[k]'e1).1]) ++ [(blocks[k]'e1).2.1]) (by omega) (by omega)).1 c4)])) (Ent.nil _)) (Ent.cons (t := 2) rfl (Ent.cons (t := 3) rfl (Ent.cons (t := 9) rfl (Ent.cons (t := 10) rfl (Ent.cons (t := 11) rfl (Ent.cons (t := 15) rfl (Ent.cons (t := 16) rfl (Ent.nil _)))))))) (Sub.keep 0 rfl (Sub.keep 0 rfl (Sub.nil _)))
          · skip
            refine V.skip ?_
            exact X.cut (Ent.cons' rfl (iv (by rw [dist_snoc ((((blocks.take k).flatMap bl) ++ [(blocks[k]'e1).1]) ++ [(blocks[k]'e1).2.1]) (by omega) (by omega), if_neg (fun h => c4 ((cnt_one ((((blocks.take k).flatMap bl) ++ [(blocks[k]'e1).1]) ++ [(blocks[k]'e1).2.1]) (by omega) (by omega)).2 h)), Nat.add_zero])) (Ent.nil _)) (Ent.cons (t := 2) rfl (Ent.cons (t := 3) rfl (Ent.cons (t := 9) rfl (Ent.cons (t := 10) rfl (Ent.cons (t := 11) rfl (Ent.cons (t := 15) rfl (Ent.cons (t := 16) rfl (Ent.nil _)))))))) (Sub.keep 0 rfl (Sub.keep 0 rfl (Sub.nil _)))
        · skip
          refine X.blockNormal ?_
          refine X.next ?_
          refine V.region ?_
          refine O.p rfl rfl rfl (Pu.add64 (r := 3) (by decide) (by decide) rfl rfl rfl) ?_
          refine O.p rfl rfl rfl (Pu.move rfl rfl) ?_
          refine O.nil ?_
          refine X.again 0 ?_
          refine V.seq ?_
          refine V.region ?_
          refine O.p rfl rfl rfl (Pu.isF (by decide) (Pu.lss rfl rfl rfl)) ?_
          refine O.nil ?_
          refine X.next ?_
          refine V.seq ?_
          refine V.condF rfl ?_
          refine V.exit ?_
          refine X.thenExit ?_
          refine X.thenExit ?_
          refine X.blockHit ?_
          refine X.blockNormal ?_
          refine X.next ?_
          refine V.region ?_
          refine O.p rfl rfl rfl (Pu.add64 (r := ((k + 1 : Nat) : Int)) rfl (by omega) rfl rfl rfl) ?_
          refine O.p rfl rfl rfl (Pu.move rfl rfl) ?_
          refine O.nil ?_
          exact X.back2 ((dist (((((blocks.take k).flatMap bl) ++ [(blocks[k]'e1).1]) ++ [(blocks[k]'e1).2.1]) ++ [(blocks[k]'e1).2.2])), k + 1, (cntA (((((blocks.take k).flatMap bl) ++ [(blocks[k]'e1).1]) ++ [(blocks[k]'e1).2.1]) ++ [(blocks[k]'e1).2.2]))) (by (try dsimp only); exact ⟨by omega, by rw [flat_snoc _ e1], by rw [flat_snoc _ e1]⟩) (by first | omega | (dsimp only; omega)) (Ent.cons rfl (Ent.cons rfl (Ent.nil _))) (Ent.cons (t := 2) rfl (Ent.cons (t := 3) rfl (Ent.cons (t := 9) rfl (Ent.cons (t := 10) rfl (Ent.nil _))))) (Sub.keep 1 rfl (Sub.nil _))
  · skip
    refine V.exit ?_
    refine X.thenExit ?_
    refine X.thenExit ?_
    refine X.blockHit ?_
    refine X.next ?_
    refine V.seq ?_
    refine V.region ?_
    refine O.p rfl rfl rfl (Pu.move rfl rfl) ?_
    refine O.p rfl rfl rfl (Pu.eql rfl rfl rfl) ?_
    refine O.p rfl rfl rfl (Pu.move rfl rfl) ?_
    refine O.splitD 34 rfl (fun c5 => ?_) (fun c5 => ?_)
    · skip
      refine O.gp rfl rfl rfl rfl rfl (Pu.slicePtr rfl Try.underlying106 sz3 rfl) ?_
      refine O.ge rfl rfl rfl rfl rfl (Ef.callP call94 rfl rfl (fun w hw => containsFuncG_ok (fun n => 2 < n) 95 _ (cntA ((blocks.take k).flatMap bl)) _ _ w call95 ((Ld.arr 0 rfl rfl) w hw) (by rw [cntA_len]; omega) (fun k hk w' hb => isPasch1_ok _ w'))) ?_
      rintro _ _ ⟨rfl, rfl⟩
      refine O.gp rfl rfl rfl rfl rfl (Pu.not rfl rfl) ?_
      refine O.p rfl rfl rfl (Pu.pickT rfl rfl rfl) ?_
      refine O.p rfl rfl rfl (Pu.assign rfl rfl) ?_
      refine O.nil ?_
      refine X.next ?_
      refine V.ret ?_
      refine X.ret1 rfl rfl ?_
      exact fun w hw => St.retP ((by rw [← decide_not]; exact boolD (by have e : k = blocks.length := (by omega); subst e; simp only [List.take_length] at *; have h := six_iff (flat_pts hg) (by rw [flat_len]; omega); exact ⟨fun h2 => h.1 ⟨by omega, h2⟩, fun h2 => (h.2 h2).2⟩))) hw
    · skip
      refine O.gs rfl rfl rfl rfl rfl rfl ?_
      refine O.gs rfl rfl rfl rfl rfl rfl ?_
      refine O.gs rfl rfl rfl rfl rfl rfl ?_
      refine O.p rfl rfl rfl (Pu.pickF rfl rfl rfl) ?_
      refine O.p rfl rfl rfl (Pu.assign rfl rfl) ?_
      refine O.nil ?_
      refine X.next ?_
      refine V.ret ?_
      refine X.ret1 rfl rfl ?_
      exact fun w hw => St.retP (boolF (by have e : k = blocks.length := (by omega); subst e; simp only [List.take_length] at *; have h := six_iff (flat_pts hg) (by rw [flat_len]; omega); exact fun h2 => c5 (by have := (h.2 h2).1; omega))) hw
end Go.Proofs.Ytnbbkcpafkooaaa
