/-
  Contracts, part 4.
-/
import Derived.Test.YtjpfngmoabnffaaKb3
set_option linter.unusedVariables false
set_option linter.unusedSimpArgs false
namespace Go.Proofs.Ytjpfngmoabnffaa
open Go Go.RowKit Go.Vc Go.Proofs
set_option maxRecDepth 100000 in
set_option maxHeartbeats 1000000 in
theorem pairs_ok (blocks : List B3) (blocksA : Option Addr) (blocksc : Nat) (w : World) (hblocks : Rd B3C w blocksA blocks) (lblocks : blocks.length ≤ 1099511627776) (lb : blocks.length ≤ 1000000) : Does Try.prog 208 [.slice blocksA blocks.length blocksc] w [] (fun rv_ => [.exi fun (rA : Option Addr) => .exi fun (rc : Nat) => .exi fun (r : List (Int × Int)) => .sep (.pur (rv_ = .slice rA r.length rc ∧ r.Perm (prsB blocks) ∧ SrtP r)) (Own 195 P2C rA rc r)]) := by
  refine Does.enter Try.func208 rfl rfl [(0, .slice blocksA blocks.length blocksc)] rfl ?_
  refine V.seq ?_
  refine V.region ?_
  refine O.p rfl rfl rfl (Pu.assign rfl rfl) ?_
  refine O.nil ?_
  refine X.next ?_
  refine V.seq ?_
  refine V.region ?_
  refine O.p rfl rfl rfl (Pu.assign rfl rfl) ?_
  refine O.nil ?_
  refine X.next ?_
  refine V.seq ?_
  refine V.seq ?_
  refine V.region ?_
  refine O.p rfl rfl rfl (Pu.move rfl rfl) ?_
  refine O.p rfl rfl rfl (Pu.len rfl Try.underlying28 rfl) ?_
  refine O.p rfl rfl rfl (Pu.move rfl rfl) ?_
  refine O.nil ?_
  refine X.next ?_
  refine V.block ?_
  refine V.map (fun w hw => St.addNil (T := 195) (C := P2C) hw) ?_
  refine V.loop2 (β := (Option Addr) × Nat × (List (Int × Int)) × Nat) (fun x => [(3, .slice x.1 x.2.2.1.length x.2.1), (8, .int .i64 (x.2.2.2 : Int))]) _ (fun x => [Own 195 P2C x.1 x.2.1 x.2.2.1]) (fun x => x.2.2.2 ≤ blocks.length ∧ x.2.2.1 = prsB (blocks.take x.2.2.2)) (fun x => blocks.length - x.2.2.2) (none, 0, [], 0) (by (try dsimp only); exact ⟨by omega, rfl⟩) (Ent.cons rfl (Ent.cons rfl (Ent.nil _))) (Ent.cons (t := 6) rfl (Ent.cons (t := 7) rfl (Ent.nil _))) (Sub.keep 0 rfl (Sub.nil _)) ?_
  rintro ⟨outA, outc, out, i⟩ ⟨hi, ho⟩
  dsimp only at hi ho ⊢
  have hol : out.length = 3 * i := by rw [ho, prsB_len, List.length_take]; omega
  refine V.seq ?_
  refine V.region ?_
  refine O.p rfl rfl rfl (Pu.lss rfl rfl rfl) ?_
  refine O.nil ?_
  refine X.next ?_
  refine V.seq ?_
  refine V.condD rfl (fun c1 => ?_) (fun c1 => ?_)
  · skip
    refine V.skip ?_
    refine X.next ?_
    refine V.seq ?_
    refine V.block ?_
    refine V.seq ?_
    refine V.region ?_
    refine O.p rfl rfl rfl (Pu.indexAddr (i) rfl Try.underlying28 sz75 rfl rfl (by omega) (by omega) (hblocks.some (by omega))) ?_
    have e1 : i < blocks.length := by omega
    refine O.p rfl rfl rfl (Pu.loadAgg' (v := B3.v (blocks[i]'e1)) rfl rfl ag75 sz75 rfl rfl (Ld.rds (Ld.old hblocks) (k := i) e1 rfl)) ?_
    refine O.e rfl rfl rfl (Ef.alloc rfl zr75 rfl) ?_
    rintro _ _ ⟨b1, rfl, rfl⟩
    refine O.s rfl rfl (Ef.storeAll 0 rfl sz75 rfl rfl rfl rfl (by simp [Value.oneCell']) rfl) ?_
    rintro _ _ rfl
    refine O.nil ?_
    refine X.next ?_
    refine V.region ?_
    refine O.p rfl rfl rfl (Pu.move rfl rfl) ?_
    refine O.p rfl rfl rfl (Pu.indexArr 0 0 rfl Try.underlying75 sz2 rfl rfl (by decide) (by decide) (by decide)) ?_
    refine O.p rfl rfl rfl (Pu.load rfl pl2 rfl (Ld.blk 0 rfl rfl)) ?_
    refine O.p rfl rfl rfl (Pu.indexArr 1 1 rfl Try.underlying75 sz2 rfl rfl (by decide) (by decide) (by decide)) ?_
    refine O.p rfl rfl rfl (Pu.load rfl pl2 rfl (Ld.blk 0 rfl rfl)) ?_
    refine O.p rfl rfl rfl (Pu.buildA (cs := [.int .i64 (blocks[i]'e1).1, .int .i64 (blocks[i]'e1).2.1]) (v := P2v (((blocks[i]'e1).1, (blocks[i]'e1).2.1) : Int × Int)) rfl rfl Try.underlying195 zr195 sz2 rfl (by kernel_rfl)) ?_
    refine O.p rfl rfl rfl (Pu.indexArr 0 0 rfl Try.underlying75 sz2 rfl rfl (by decide) (by decide) (by decide)) ?_
    refine O.p rfl rfl rfl (Pu.load rfl pl2 rfl (Ld.blk 0 rfl rfl)) ?_
    refine O.p rfl rfl rfl (Pu.indexArr 2 2 rfl Try.underlying75 sz2 rfl rfl (by decide) (by decide) (by decide)) ?_
    refine O.p rfl rfl rfl (Pu.load rfl pl2 rfl (Ld.blk 0 rfl rfl)) ?_
    refine O.p rfl rfl rfl (Pu.buildA (cs := [.int .i64 (blocks[i]'e1).1, .int .i64 (blocks[i]'e1).2.2]) (v := P2v (((blocks[i]'e1).1, (blocks[i]'e1).2.2) : Int × Int)) rfl rfl Try.underlying195 zr195 sz2 rfl (by kernel_rfl)) ?_
    refine O.p rfl rfl rfl (Pu.indexArr 1 1 rfl Try.underlying75 sz2 rfl rfl (by decide) (by decide) (by decide)) ?_
    refine O.p rfl rfl rfl (Pu.load rfl pl2 rfl (Ld.blk 0 rfl rfl)) ?_
    refine O.p rfl rfl rfl (Pu.indexArr 2 2 rfl Try.underlying75 sz2 rfl rfl (by decide) (by decide) (by decide)) ?_
    refine O.p rfl rfl rfl (Pu.load rfl pl2 rfl (Ld.blk 0 rfl rfl)) ?_
    refine O.p rfl rfl rfl (Pu.buildA (cs := [.int .i64 (blocks[i]'e1).2.1, .int .i64 (blocks[i]'e1).2.2]) (v := P2v (((blocks[i]'e1).2.1, (blocks[i]'e1).2.2) : Int × Int)) rfl rfl Try.underlying195 zr195 sz2 rfl (by kernel_rfl)) ?_
    refine O.e rfl rfl rfl (Ef.build P2C ([(((blocks[i]'e1).1, (blocks[i]'e1).2.1) : Int × Int), (((blocks[i]'e1).1, (blocks[i]'e1).2.2) : Int × Int), (((blocks[i]'e1).2.1, (blocks[i]'e1).2.2) : Int × Int)] : List (Int × Int)) rfl Try.underlying194 inf195 rfl rfl rfl (by first | decide | (simp; done)) (by kernel_rfl)) ?_
    rintro _ _ ⟨A1, hA1, rfl, rfl⟩
    refine O.e rfl rfl rfl (Ef.append (xs := out) (ys := ([(((blocks[i]'e1).1, (blocks[i]'e1).2.1) : Int × Int), (((blocks[i]'e1).1, (blocks[i]'e1).2.2) : Int × Int), (((blocks[i]'e1).2.1, (blocks[i]'e1).2.2) : Int × Int)] : List (Int × Int))) 2 rfl Try.underlying194 inf195 rfl rfl rfl rfl rfl rfl hA1 (Ld.own 0 (by exact rfl)) (by simp only [List.length_append, List.length_cons, List.length_nil] at *; omega) (by decide)) ?_
    rintro _ _ ⟨A2, k1, rfl, rfl, hA2⟩
    replace hA2 := hA2 (.inr (by simp))
    refine O.p rfl rfl rfl (Pu.assign rfl rfl) ?_
    refine O.nil ?_
    refine X.blockNormal ?_
    refine X.next ?_
    refine V.region ?_
    refine O.p rfl rfl rfl (Pu.add64 (r := ((i + 1 : Nat) : Int)) rfl (by omega) rfl rfl rfl) ?_
    refine O.p rfl rfl rfl (Pu.move rfl rfl) ?_
    refine O.nil ?_
    exact X.back2 (A2, k1, (out ++ ([(((blocks[i]'e1).1, (blocks[i]'e1).2.1) : Int × Int), (((blocks[i]'e1).1, (blocks[i]'e1).2.2) : Int × Int), (((blocks[i]'e1).2.1, (blocks[i]'e1).2.2) : Int × Int)] : List (Int × Int))), i + 1) (by (try dsimp only); exact ⟨by omega, by rw [take_snoc e1, prsB_snoc, ho]⟩) (by first | omega | (dsimp only; omega)) (Ent.cons rfl (Ent.cons rfl (Ent.nil _))) (Ent.cons (t := 6) rfl (Ent.cons (t := 7) rfl (Ent.nil _))) (Sub.keep 2 rfl (Sub.nil _))
  · skip
    refine V.exit ?_
    refine X.thenExit ?_
    refine X.thenExit ?_
    refine X.blockHit ?_
    refine X.next ?_
    refine V.seq ?_
    refine V.region ?_
    refine O.p rfl rfl rfl (Pu.move rfl rfl) ?_
    refine O.e rfl rfl rfl (Ef.call call233 rfl rfl (Does.pre (fun w hw => hw.sub (Sub.keep 0 rfl (Sub.nil _))) (sortP_ok  out _ _ w _   (by first | assumption | omega | (try dsimp only at *; omega))))) ?_
    rintro _ _ rfl
    refine O.exi (fun ys1 => ?_)
    refine O.sep ?_
    refine O.pur ?_
    rintro ⟨rfl, hys1_1, hys1_2⟩
    refine O.nil ?_
    refine X.next ?_
    refine V.seq ?_
    refine V.region ?_
    refine O.p rfl rfl rfl (Pu.move rfl rfl) ?_
    refine O.p rfl rfl rfl (Pu.assign rfl rfl) ?_
    refine O.nil ?_
    refine X.next ?_
    refine V.ret ?_
    refine X.ret1 rfl rfl ?_
    exact fun w hw => St.mkExi outA (St.mkExi outc (St.mkExi ys1 (St.unsep (St.addPur ⟨(by rw [hys1_1.length_eq]), by rw [ho, List.take_of_length_le (by omega)] at hys1_1; exact hys1_1, hys1_2⟩ (hw.sub (Sub.keep 0 rfl (Sub.nil _)))))))
set_option maxRecDepth 100000 in
set_option maxHeartbeats 1000000 in
theorem equalP_ok (s1 : List (Int × Int)) (s2 : List (Int × Int)) (s1A : Option Addr) (s1c : Nat) (s2A : Option Addr) (s2c : Nat) (w : World) (hs1 : Rd P2C w s1A s1) (hs2 : Rd P2C w s2A s2) (ls1 : s1.length ≤ 1099511627776) (ls2 : s2.length ≤ 1099511627776) : Does Try.prog 207 [.slice s1A s1.length s1c, .slice s2A s2.length s2c] w [] (fun r => [.pur (r = .bool (decide (s1 = s2)))]) := by
  refine Does.enter Try.func207 rfl rfl [(0, .slice s1A s1.length s1c), (1, .slice s2A s2.length s2c)] rfl ?_
  refine V.seq ?_
  refine V.region ?_
  refine O.p rfl rfl rfl (Pu.assign rfl rfl) ?_
  refine O.nil ?_
  refine X.next ?_
  refine V.seq ?_
  refine V.seq ?_
  refine V.region ?_
  refine O.p rfl rfl rfl (Pu.move rfl rfl) ?_
  refine O.p rfl rfl rfl (Pu.len rfl Try.underlying194 rfl) ?_
  refine O.p rfl rfl rfl (Pu.move rfl rfl) ?_
  refine O.p rfl rfl rfl (Pu.len rfl Try.underlying194 rfl) ?_
  refine O.p rfl rfl rfl (Pu.neq rfl rfl rfl) ?_
  refine O.nil ?_
  refine X.next ?_
  refine V.condNot rfl (fun c1 => ?_) (fun c1 => ?_)
  · skip
    refine V.seq ?_
    refine V.region ?_
    refine O.p rfl rfl rfl (Pu.assign rfl rfl) ?_
    refine O.nil ?_
    refine X.next ?_
    refine V.ret ?_
    refine X.thenRet ?_
    refine X.ret1 rfl rfl ?_
    exact fun w hw => St.retP (boolF (fun h => c1 (by rw [h]))) hw
  · skip
    refine V.skip ?_
    refine X.next ?_
    refine V.seq ?_
    refine V.seq ?_
    refine V.region ?_
    refine O.p rfl rfl rfl (Pu.move rfl rfl) ?_
    refine O.p rfl rfl rfl (Pu.len rfl Try.underlying194 rfl) ?_
    refine O.p rfl rfl rfl (Pu.move rfl rfl) ?_
    refine O.nil ?_
    refine X.next ?_
    refine V.block ?_
    refine V.loop2 (β := Nat) (fun i => [(13, .int .i64 (i : Int))]) _ (fun i => []) (fun i => i ≤ s1.length ∧ s1.take i = s2.take i) (fun i => s1.length - i) 0 ⟨by omega, rfl⟩ (Ent.cons rfl (Ent.nil _)) (Ent.cons (t := 0) rfl (Ent.cons (t := 1) rfl (Ent.cons (t := 12) rfl (Ent.nil _)))) (Sub.nil _) ?_
    rintro i ⟨hi, he⟩
    refine V.seq ?_
    refine V.region ?_
    refine O.p rfl rfl rfl (Pu.lss rfl rfl rfl) ?_
    refine O.nil ?_
    refine X.next ?_
    refine V.seq ?_
    refine V.condD rfl (fun c2 => ?_) (fun c2 => ?_)
    · skip
      refine V.skip ?_
      refine X.next ?_
      refine V.seq ?_
      refine V.block ?_
      refine V.seq ?_
      refine V.region ?_
      refine O.p rfl rfl rfl (Pu.move rfl rfl) ?_
      refine O.p rfl rfl rfl (Pu.assign rfl rfl) ?_
      refine O.nil ?_
      refine X.next ?_
      refine V.seq ?_
      refine V.draw mo (by kernel_rfl) (fun hwf => ?_)
      refine D.p 0 rfl rfl rfl rfl rfl rfl (Pu.move rfl rfl) ?_
      refine D.p 1 rfl rfl rfl rfl rfl rfl (Pu.move rfl rfl) ?_
      refine D.p 2 rfl rfl rfl rfl rfl rfl (Pu.indexAddr (i) rfl Try.underlying194 sz195 rfl rfl (by omega) (by omega) (hs1.some (by omega))) ?_
      have e1 : i < s1.length := by omega
      refine D.p 3 rfl rfl rfl rfl rfl rfl (Pu.loadAgg' (v := P2v (s1[i]'e1)) rfl rfl ag195 sz195 rfl rfl (Ld.rds (C := P2C) (Ld.old hs1) (k := i) e1 rfl)) ?_
      refine D.p 4 rfl rfl rfl rfl rfl rfl (Pu.move rfl rfl) ?_
      refine D.p 5 rfl rfl rfl rfl rfl rfl (Pu.move rfl rfl) ?_
      refine D.p 6 rfl rfl rfl rfl rfl rfl (Pu.indexAddr (i) rfl Try.underlying194 sz195 rfl rfl (by omega) (by omega) (hs2.some (by omega))) ?_
      have e2 : i < s2.length := by omega
      refine D.p 7 rfl rfl rfl rfl rfl rfl (Pu.loadAgg' (v := P2v (s2[i]'e2)) rfl rfl ag195 sz195 rfl rfl (Ld.rds (C := P2C) (Ld.old hs2) (k := i) e2 rfl)) ?_
      refine D.p 8 rfl rfl rfl rfl rfl rfl (Pu.neqP2 Try.underlying195 Try.underlying2 sz2 (by kernel_rfl) rfl rfl rfl) ?_
      refine D.done hwf rfl ?_
      refine X.next ?_
      refine V.condNot rfl (fun c3 => ?_) (fun c3 => ?_)
      · skip
        refine V.seq ?_
        refine V.region ?_
        refine O.p rfl rfl rfl (Pu.assign rfl rfl) ?_
        refine O.nil ?_
        refine X.next ?_
        refine V.ret ?_
        refine X.blockRet ?_
        refine X.thenRet ?_
        refine X.thenRet ?_
        refine X.blockRet ?_
        refine X.thenRet ?_
        refine X.ret1 rfl rfl ?_
        exact fun w hw => St.retP (boolF (fun h => c3 (by subst h; rfl))) hw
      · skip
        refine V.skip ?_
        refine X.blockNormal ?_
        refine X.next ?_
        refine V.region ?_
        refine O.p rfl rfl rfl (Pu.add64 (r := ((i + 1 : Nat) : Int)) rfl (by omega) rfl rfl rfl) ?_
        refine O.p rfl rfl rfl (Pu.move rfl rfl) ?_
        refine O.nil ?_
        exact X.back2 (i + 1) ⟨by omega, by rw [take_snoc (by omega), take_snoc (by omega), he]; simp_all⟩ (by first | omega | (dsimp only; omega)) (Ent.cons rfl (Ent.nil _)) (Ent.cons (t := 0) rfl (Ent.cons (t := 1) rfl (Ent.cons (t := 12) rfl (Ent.nil _)))) (Sub.nil _)
    · skip
      refine V.exit ?_
      refine X.thenExit ?_
      refine X.thenExit ?_
      refine X.blockHit ?_
      refine X.next ?_
      refine V.seq ?_
      refine V.region ?_
      refine O.p rfl rfl rfl (Pu.assign rfl rfl) ?_
      refine O.nil ?_
      refine X.next ?_
      refine V.ret ?_
      refine X.ret1 rfl rfl ?_
      exact fun w hw => St.retP (boolT (by rw [List.take_of_length_le (by omega), List.take_of_length_le (by omega)] at he; exact he)) hw
set_option maxRecDepth 100000 in
set_option maxHeartbeats 1000000 in
theorem haveSamePairs_ok (xs : List B3) (ys : List B3) (xsA : Option Addr) (xsc : Nat) (ysA : Option Addr) (ysc : Nat) (w : World) (hxs : Rd B3C w xsA xs) (hys : Rd B3C w ysA ys) (lxs : xs.length ≤ 1099511627776) (lys : ys.length ≤ 1099511627776) (la : xs.length ≤ 1000000) (lb : ys.length ≤ 1000000) : Does Try.prog 161 [.slice xsA xs.length xsc, .slice ysA ys.length ysc] w [] (fun r => [.pur (r = .bool (decide ((prsB xs).Perm (prsB ys))))]) := by
  refine Does.enter Try.func161 rfl rfl [(0, .slice xsA xs.length xsc), (1, .slice ysA ys.length ysc)] rfl ?_
  refine V.seq ?_
  refine V.region ?_
  refine O.p rfl rfl rfl (Pu.assign rfl rfl) ?_
  refine O.nil ?_
  refine X.next ?_
  refine V.seq ?_
  refine V.region ?_
  refine O.p rfl rfl rfl (Pu.move rfl rfl) ?_
  refine O.e rfl rfl rfl (Ef.call1 call208 rfl rfl (fun w hw => pairs_ok  xs _ _ w ((Ld.old hxs) w hw) (by first | omega | (simp only [tops_len, conts_len, bl, List.length_append, List.length_cons, List.length_nil] at *; omega)) (by first | assumption | omega | (try dsimp only at *; omega)))) ?_
  rintro _ _ rfl
  refine O.exi (fun r1A => ?_)
  refine O.exi (fun r1c => ?_)
  refine O.exi (fun r1 => ?_)
  refine O.sep ?_
  refine O.pur ?_
  rintro ⟨rfl, hr1_1, hr1_2⟩
  have hlr1 := hr1_1.length_eq
  rw [prsB_len] at hlr1
  refine O.p rfl rfl rfl (Pu.move rfl rfl) ?_
  refine O.e rfl rfl rfl (Ef.call1 call208 rfl rfl (fun w hw => pairs_ok  ys _ _ w ((Ld.old hys) w hw) (by first | omega | (simp only [tops_len, conts_len, bl, List.length_append, List.length_cons, List.length_nil] at *; omega)) (by first | assumption | omega | (try dsimp only at *; omega)))) ?_
  rintro _ _ rfl
  refine O.exi (fun r2A => ?_)
  refine O.exi (fun r2c => ?_)
  refine O.exi (fun r2 => ?_)
  refine O.sep ?_
  refine O.pur ?_
  rintro ⟨rfl, hr2_1, hr2_2⟩
  have hlr2 := hr2_1.length_eq
  rw [prsB_len] at hlr2
  refine O.e rfl rfl rfl (Ef.callP call207 rfl rfl (fun w hw => equalP_ok  r1 r2 _ _ _ _ w ((Ld.own 1 (by exact rfl)) w hw) ((Ld.own 0 (by exact rfl)) w hw) (by first | omega | (simp only [tops_len, conts_len, bl, List.length_append, List.length_cons, List.length_nil] at *; omega)) (by first | omega | (simp only [tops_len, conts_len, bl, List.length_append, List.length_cons, List.length_nil] at *; omega)) )) ?_
  rintro _ _ ⟨rfl, rfl⟩
  refine O.p rfl rfl rfl (Pu.assign rfl rfl) ?_
  refine O.nil ?_
  refine X.next ?_
  refine V.ret ?_
  refine X.ret1 rfl rfl ?_
  exact fun w hw => St.retP (boolD (⟨fun e => hr1_1.symm.trans (by rw [e]; exact hr2_1), fun hp => srtP_unique hr1_2 hr2_2 (hr1_1.trans (hp.trans hr2_1.symm))⟩)) hw
set_option maxRecDepth 100000 in
set_option maxHeartbeats 1000000 in
theorem implCommon_ok (xs : List B3) (ys : List B3) (xsA : Option Addr) (xsc : Nat) (ysA : Option Addr) (ysc : Nat) (w : World) (hxs : Rd B3C w xsA xs) (hys : Rd B3C w ysA ys) (lxs : xs.length ≤ 1099511627776) (lys : ys.length ≤ 1099511627776) : Does Try.prog 79 [.slice xsA xs.length xsc, .slice ysA ys.length ysc] w [] (fun rv_ => [.exi fun (rA : Option Addr) => .exi fun (rc : Nat) => .exi fun (r : List B3) => .sep (.pur (rv_ = .slice rA r.length rc ∧ r = (xs.filter fun b => decide (b ∈ ys)))) (Own 75 B3C rA rc r)]) := by
  refine Does.enter Try.func79 rfl rfl [(0, .slice xsA xs.length xsc), (1, .slice ysA ys.length ysc)] rfl ?_
  refine V.seq ?_
  refine V.region ?_
  refine O.p rfl rfl rfl (Pu.assign rfl rfl) ?_
  refine O.nil ?_
  refine X.next ?_
  refine V.seq ?_
  refine V.region ?_
  refine O.p rfl rfl rfl (Pu.assign rfl rfl) ?_
  refine O.nil ?_
  refine X.next ?_
  refine V.seq ?_
  refine V.seq ?_
  refine V.region ?_
  refine O.p rfl rfl rfl (Pu.move rfl rfl) ?_
  refine O.p rfl rfl rfl (Pu.len rfl Try.underlying28 rfl) ?_
  refine O.p rfl rfl rfl (Pu.move rfl rfl) ?_
  refine O.nil ?_
  refine X.next ?_
  refine V.block ?_
  refine V.map (fun w hw => St.addNil (T := 75) (C := B3C) hw) ?_
  refine V.loop2 (β := (Option Addr) × Nat × (List B3) × Nat) (fun x => [(5, .slice x.1 x.2.2.1.length x.2.1), (10, .int .i64 (x.2.2.2 : Int))]) _ (fun x => [Own 75 B3C x.1 x.2.1 x.2.2.1]) (fun x => x.2.2.2 ≤ xs.length ∧ x.2.2.1 = ((xs.take x.2.2.2).filter fun b => decide (b ∈ ys))) (fun x => xs.length - x.2.2.2) (none, 0, [], 0) (by (try dsimp only); exact ⟨by omega, rfl⟩) (Ent.cons rfl (Ent.cons rfl (Ent.nil _))) (Ent.cons (t := 1) rfl (Ent.cons (t := 8) rfl (Ent.cons (t := 9) rfl (Ent.nil _)))) (Sub.keep 0 rfl (Sub.nil _)) ?_
  rintro ⟨outA, outc, out, i⟩ ⟨hi, ho⟩
  dsimp only at hi ho ⊢
  have hol : out.length ≤ xs.length := by rw [ho]; exact Nat.le_trans (List.length_filter_le _ _) (by rw [List.length_take]; omega)
  refine V.seq ?_
  refine V.region ?_
  refine O.p rfl rfl rfl (Pu.lss rfl rfl rfl) ?_
  refine O.nil ?_
  refine X.next ?_
  refine V.seq ?_
  refine V.condD rfl (fun c1 => ?_) (fun c1 => ?_)
  · skip
    refine V.skip ?_
    refine X.next ?_
    refine V.seq ?_
    refine V.block ?_
    refine V.seq ?_
    refine V.region ?_
    refine O.p rfl rfl rfl (Pu.indexAddr (i) rfl Try.underlying28 sz75 rfl rfl (by omega) (by omega) (hxs.some (by omega))) ?_
    have e1 : i < xs.length := by omega
    refine O.p rfl rfl rfl (Pu.loadAgg' (v := B3.v (xs[i]'e1)) rfl rfl ag75 sz75 rfl rfl (Ld.rds (Ld.old hxs) (k := i) e1 rfl)) ?_
    refine O.e rfl rfl rfl (Ef.alloc rfl zr75 rfl) ?_
    rintro _ _ ⟨b1, rfl, rfl⟩
    refine O.s rfl rfl (Ef.storeAll 0 rfl sz75 rfl rfl rfl rfl (by simp [Value.oneCell']) rfl) ?_
    rintro _ _ rfl
    refine O.nil ?_
    refine X.next ?_
    refine V.seq ?_
    refine V.region ?_
    refine O.p rfl rfl rfl (Pu.move rfl rfl) ?_
    refine O.p rfl rfl rfl (Pu.loadAgg' (v := B3.v (xs[i]'e1)) rfl rfl ag75 sz75 rfl rfl (Ld.whole 0 rfl)) ?_
    refine O.e rfl rfl rfl (Ef.callP call147 rfl rfl (fun w hw => containsBl_ok  ys (xs[i]'e1) _ _ w ((Ld.old hys) w hw) (by first | omega | (simp only [tops_len, conts_len, bl, List.length_append, List.length_cons, List.length_nil] at *; omega)) )) ?_
    rintro _ _ ⟨rfl, rfl⟩
    refine O.nil ?_
    refine X.next ?_
    refine V.condD rfl (fun c2 => ?_) (fun c2 => ?_)
    · skip
      refine V.region ?_
      refine O.p rfl rfl rfl (Pu.move rfl rfl) ?_
      refine O.p rfl rfl rfl (Pu.loadAgg' (v := B3.v (xs[i]'e1)) rfl rfl ag75 sz75 rfl rfl (Ld.whole 0 rfl)) ?_
      refine O.e rfl rfl rfl (Ef.build B3C ([(xs[i]'e1)] : List B3) rfl Try.underlying28 inf75 rfl rfl rfl (by first | decide | (simp; done)) (by kernel_rfl)) ?_
      rintro _ _ ⟨A1, hA1, rfl, rfl⟩
      refine O.e rfl rfl rfl (Ef.append (xs := out) (ys := ([(xs[i]'e1)] : List B3)) 2 rfl Try.underlying28 inf75 rfl rfl rfl rfl rfl rfl hA1 (Ld.own 0 (by exact rfl)) (by simp only [List.length_append, List.length_cons, List.length_nil] at *; omega) (by decide)) ?_
      rintro _ _ ⟨A2, k1, rfl, rfl, hA2⟩
      replace hA2 := hA2 (.inr (by simp))
      refine O.p rfl rfl rfl (Pu.assign rfl rfl) ?_
      refine O.nil ?_
      refine X.blockNormal ?_
      refine X.next ?_
      refine V.region ?_
      refine O.p rfl rfl rfl (Pu.add64 (r := ((i + 1 : Nat) : Int)) rfl (by omega) rfl rfl rfl) ?_
      refine O.p rfl rfl rfl (Pu.move rfl rfl) ?_
      refine O.nil ?_
      exact X.back2 (A2, k1, (out ++ ([(xs[i]'e1)] : List B3)), i + 1) (by (try dsimp only); exact ⟨by omega, by rw [take_snoc (by omega), List.filter_append, ho]; simp [c2]⟩) (by first | omega | (dsimp only; omega)) (Ent.cons rfl (Ent.cons rfl (Ent.nil _))) (Ent.cons (t := 1) rfl (Ent.cons (t := 8) rfl (Ent.cons (t := 9) rfl (Ent.nil _)))) (Sub.keep 2 rfl (Sub.nil _))
    · skip
      refine V.skip ?_
      refine X.blockNormal ?_
      refine X.next ?_
      refine V.region ?_
      refine O.p rfl rfl rfl (Pu.add64 (r := ((i + 1 : Nat) : Int)) rfl (by omega) rfl rfl rfl) ?_
      refine O.p rfl rfl rfl (Pu.move rfl rfl) ?_
      refine O.nil ?_
      exact X.back2 (outA, outc, out, i + 1) (by (try dsimp only); exact ⟨by omega, by rw [take_snoc (by omega), List.filter_append, ho]; simp [c2]⟩) (by first | omega | (dsimp only; omega)) (Ent.cons rfl (Ent.cons rfl (Ent.nil _))) (Ent.cons (t := 1) rfl (Ent.cons (t := 8) rfl (Ent.cons (t := 9) rfl (Ent.nil _)))) (Sub.keep 1 rfl (Sub.nil _))
  · skip
    refine V.exit ?_
    refine X.thenExit ?_
    refine X.thenExit ?_
    refine X.blockHit ?_
    refine X.next ?_
    refine V.seq ?_
    refine V.region ?_
    refine O.p rfl rfl rfl (Pu.move rfl rfl) ?_
    refine O.p rfl rfl rfl (Pu.assign rfl rfl) ?_
    refine O.nil ?_
    refine X.next ?_
    refine V.ret ?_
    refine X.ret1 rfl rfl ?_
    exact fun w hw => St.mkExi outA (St.mkExi outc (St.mkExi out (St.unsep (St.addPur ⟨rfl, by rw [ho, List.take_of_length_le (by omega)]⟩ (hw.sub (Sub.keep 0 rfl (Sub.nil _)))))))
set_option maxRecDepth 100000 in
set_option maxHeartbeats 1000000 in
theorem isTrade_ok (v : Int) (os ns : List B3) (A1 A2 : Option Addr) (k1 k2 : Nat) (w : World) (ho : Rd B3C w A1 os) (hnt : Rd B3C w A2 ns) (lo : os.length ≤ 4611686018427387904) (ln : ns.length ≤ 4611686018427387904) : Does Try.prog 96 [.agg #[.int .i64 v, .slice A1 os.length k1, .slice A2 ns.length k2]] w [] (fun r => [.pur (r = .bool (decide (TRD v os ns)))]) := by
  refine Does.enter Try.func96 rfl rfl [(0, .agg #[.int .i64 v, .slice A1 os.length k1, .slice A2 ns.length k2])] rfl ?_
  refine V.seq ?_
  refine V.region ?_
  refine O.e rfl rfl rfl (Ef.box rfl rfl rfl) ?_
  rintro _ _ ⟨b1, rfl, rfl⟩
  refine O.p rfl rfl rfl (Pu.assign rfl rfl) ?_
  refine O.nil ?_
  refine X.next ?_
  refine V.seq ?_
  refine V.region ?_
  refine O.p rfl rfl rfl (Pu.fieldAddr 0 rfl Try.underlying54 rfl sz2 rfl rfl) ?_
  refine O.p rfl rfl rfl (Pu.load rfl pl2 rfl (Ld.blk 0 rfl rfl)) ?_
  refine O.p rfl rfl rfl (Pu.fieldAddr 1 rfl Try.underlying54 rfl sz28 rfl rfl) ?_
  refine O.p rfl rfl rfl (Pu.load rfl pl28 rfl (Ld.blk 0 rfl rfl)) ?_
  refine O.e rfl rfl rfl (Ef.callP call142 rfl rfl (fun w hw => areBlocks_ok _ os _ _ w ((Ld.old ho) w hw) (by omega))) ?_
  rintro _ _ ⟨rfl, rfl⟩
  refine O.p rfl rfl rfl (Pu.move rfl rfl) ?_
  refine O.splitD 8 rfl (fun c1 => ?_) (fun c1 => ?_)
  · skip
    have hfo := c1.few
    refine O.gp rfl rfl rfl rfl rfl (Pu.fieldAddr 0 rfl Try.underlying54 rfl sz2 rfl rfl) ?_
    refine O.gp rfl rfl rfl rfl rfl (Pu.load rfl pl2 rfl (Ld.blk 0 rfl rfl)) ?_
    refine O.gp rfl rfl rfl rfl rfl (Pu.fieldAddr 2 rfl Try.underlying54 rfl sz28 rfl rfl) ?_
    refine O.gp rfl rfl rfl rfl rfl (Pu.load rfl pl28 rfl (Ld.blk 0 rfl rfl)) ?_
    refine O.ge rfl rfl rfl rfl rfl (Ef.callP call142 rfl rfl (fun w hw => areBlocks_ok _ ns _ _ w ((Ld.old hnt) w hw) (by omega))) ?_
    rintro _ _ ⟨rfl, rfl⟩
    refine O.p rfl rfl rfl (Pu.pickT rfl rfl rfl) ?_
    refine O.p rfl rfl rfl (Pu.move rfl rfl) ?_
    refine O.splitD 15 rfl (fun c2 => ?_) (fun c2 => ?_)
    · skip
      have hfn := c2.few
      refine O.gp rfl rfl rfl rfl rfl (Pu.fieldAddr 1 rfl Try.underlying54 rfl sz28 rfl rfl) ?_
      refine O.gp rfl rfl rfl rfl rfl (Pu.load rfl pl28 rfl (Ld.blk 0 rfl rfl)) ?_
      refine O.gp rfl rfl rfl rfl rfl (Pu.fieldAddr 2 rfl Try.underlying54 rfl sz28 rfl rfl) ?_
      refine O.gp rfl rfl rfl rfl rfl (Pu.load rfl pl28 rfl (Ld.blk 0 rfl rfl)) ?_
      refine O.ge rfl rfl rfl rfl rfl (Ef.call1 call79 rfl rfl (fun w hw => implCommon_ok  os ns _ _ _ _ w ((Ld.old ho) w hw) ((Ld.old hnt) w hw) (by omega) (by omega) )) ?_
      rintro _ _ rfl
      refine O.exi (fun r1A => ?_)
      refine O.exi (fun r1c => ?_)
      refine O.exi (fun r1 => ?_)
      refine O.sep ?_
      refine O.pur ?_
      rintro ⟨rfl, hr1_1⟩
      have hap : r1.length = 0 ↔ ∀ b ∈ os, b ∉ ns := by rw [hr1_1]; exact apart_I
      refine O.gp rfl rfl rfl rfl rfl (Pu.len rfl Try.underlying28 rfl) ?_
      refine O.gp rfl rfl rfl rfl rfl (Pu.eql rfl rfl rfl) ?_
      refine O.p rfl rfl rfl (Pu.pickT rfl rfl rfl) ?_
      refine O.p rfl rfl rfl (Pu.move rfl rfl) ?_
      refine O.splitD 24 rfl (fun c3 => ?_) (fun c3 => ?_)
      · skip
        refine O.gp rfl rfl rfl rfl rfl (Pu.fieldAddr 1 rfl Try.underlying54 rfl sz28 rfl rfl) ?_
        refine O.gp rfl rfl rfl rfl rfl (Pu.load rfl pl28 rfl (Ld.blk 1 rfl rfl)) ?_
        refine O.gp rfl rfl rfl rfl rfl (Pu.fieldAddr 2 rfl Try.underlying54 rfl sz28 rfl rfl) ?_
        refine O.gp rfl rfl rfl rfl rfl (Pu.load rfl pl28 rfl (Ld.blk 1 rfl rfl)) ?_
        refine O.ge rfl rfl rfl rfl rfl (Ef.callP call161 rfl rfl (fun w hw => haveSamePairs_ok  os ns _ _ _ _ w ((Ld.old ho) w hw) ((Ld.old hnt) w hw) (by first | omega | (simp only [tops_len, conts_len, bl, List.length_append, List.length_cons, List.length_nil] at *; omega)) (by first | omega | (simp only [tops_len, conts_len, bl, List.length_append, List.length_cons, List.length_nil] at *; omega)) (by first | assumption | omega | (try dsimp only at *; omega)) (by first | assumption | omega | (try dsimp only at *; omega)))) ?_
        rintro _ _ ⟨rfl, rfl⟩
        refine O.p rfl rfl rfl (Pu.pickT rfl rfl rfl) ?_
        refine O.p rfl rfl rfl (Pu.assign rfl rfl) ?_
        refine O.nil ?_
        refine X.next ?_
        refine V.ret ?_
        refine X.ret1 rfl rfl ?_
        exact fun w hw => St.retP (boolD (⟨fun h => ⟨c1, c2, hap.1 (by omega), h⟩, fun h => h.2.2.2⟩)) hw
      · skip
        refine O.gs rfl rfl rfl rfl rfl rfl ?_
        refine O.gs rfl rfl rfl rfl rfl rfl ?_
        refine O.gs rfl rfl rfl rfl rfl rfl ?_
        refine O.gs rfl rfl rfl rfl rfl rfl ?_
        refine O.gs rfl rfl rfl rfl rfl rfl ?_
        refine O.p rfl rfl rfl (Pu.pickF rfl rfl rfl) ?_
        refine O.p rfl rfl rfl (Pu.assign rfl rfl) ?_
        refine O.nil ?_
        refine X.next ?_
        refine V.ret ?_
        refine X.ret1 rfl rfl ?_
        exact fun w hw => St.retP (boolF (fun h => c3 (by have := hap.2 h.2.2.1; omega))) hw
    · skip
      refine O.gs rfl rfl rfl rfl rfl rfl ?_
      refine O.gs rfl rfl rfl rfl rfl rfl ?_
      refine O.gs rfl rfl rfl rfl rfl rfl ?_
      refine O.gs rfl rfl rfl rfl rfl rfl ?_
      refine O.gs rfl rfl rfl rfl rfl rfl ?_
      refine O.gs rfl rfl rfl rfl rfl rfl ?_
      refine O.gs rfl rfl rfl rfl rfl rfl ?_
      refine O.p rfl rfl rfl (Pu.pickF rfl rfl rfl) ?_
      refine O.p rfl rfl rfl (Pu.move rfl rfl) ?_
      refine O.gs rfl rfl rfl rfl rfl rfl ?_
      refine O.gs rfl rfl rfl rfl rfl rfl ?_
      refine O.gs rfl rfl rfl rfl rfl rfl ?_
      refine O.gs rfl rfl rfl rfl rfl rfl ?_
      refine O.gs rfl rfl rfl rfl rfl rfl ?_
      refine O.p rfl rfl rfl (Pu.pickF rfl rfl rfl) ?_
      refine O.p rfl rfl rfl (Pu.assign rfl rfl) ?_
      refine O.nil ?_
      refine X.next ?_
      refine V.ret ?_
      refine X.ret1 rfl rfl ?_
      exact fun w hw => St.retP (boolF (fun h => c2 h.2.1)) hw
  · skip
    refine O.gs rfl rfl rfl rfl rfl rfl ?_
    refine O.gs rfl rfl rfl rfl rfl rfl ?_
    refine O.gs rfl rfl rfl rfl rfl rfl ?_
    refine O.gs rfl rfl rfl rfl rfl rfl ?_
    refine O.gs rfl rfl rfl rfl rfl rfl ?_
    refine O.p rfl rfl rfl (Pu.pickF rfl rfl rfl) ?_
    refine O.p rfl rfl rfl (Pu.move rfl rfl) ?_
    refine O.gs rfl rfl rfl rfl rfl rfl ?_
    refine O.gs rfl rfl rfl rfl rfl rfl ?_
    refine O.gs rfl rfl rfl rfl rfl rfl ?_
    refine O.gs rfl rfl rfl rfl rfl rfl ?_
    refine O.gs rfl rfl rfl rfl rfl rfl ?_
    refine O.gs rfl rfl rfl rfl rfl rfl ?_
    refine O.gs rfl rfl rfl rfl rfl rfl ?_
    refine O.p rfl rfl rfl (Pu.pickF rfl rfl rfl) ?_
    refine O.p rfl rfl rfl (Pu.move rfl rfl) ?_
    refine O.gs rfl rfl rfl rfl rfl rfl ?_
    refine O.gs rfl rfl rfl rfl rfl rfl ?_
    refine O.gs rfl rfl rfl rfl rfl rfl ?_
    refine O.gs rfl rfl rfl rfl rfl rfl ?_
    refine O.gs rfl rfl rfl rfl rfl rfl ?_
    refine O.p rfl rfl rfl (Pu.pickF rfl rfl rfl) ?_
    refine O.p rfl rfl rfl (Pu.assign rfl rfl) ?_
    refine O.nil ?_
    refine X.next ?_
    refine V.ret ?_
    refine X.ret1 rfl rfl ?_
    exact fun w hw => St.retP (boolF (fun h => c1 h.1)) hw
set_option maxRecDepth 100000 in
set_option maxHeartbeats 1000000 in
theorem pointsOf1_ok (b : B3) (p : Int) (b_0 : Nat) (w : World) (hb_0 : RdB w b_0 [.int .i64 p]) : Does Try.prog 98 [B3.v b, .pointer (some ⟨b_0, 0, none⟩)] w [] (fun r => [.pur (r = .bool (decide (has b p)))]) := by
  refine Does.enter Try.func98 rfl rfl [(0, B3.v b), (1, .pointer (some ⟨b_0, 0, none⟩))] rfl ?_
  refine V.seq ?_
  refine V.region ?_
  refine O.e rfl rfl rfl (Ef.box rfl rfl rfl) ?_
  rintro _ _ ⟨b1, rfl, rfl⟩
  refine O.p rfl rfl rfl (Pu.assign rfl rfl) ?_
  refine O.nil ?_
  refine X.next ?_
  refine V.seq ?_
  refine V.region ?_
  refine O.p rfl rfl rfl (Pu.loadAgg' (v := B3.v b) rfl rfl ag75 sz75 rfl rfl (Ld.whole 0 rfl)) ?_
  refine O.p rfl rfl rfl (Pu.load rfl pl2 rfl (Ld.rdb hb_0 rfl)) ?_
  refine O.e rfl rfl rfl (Ef.callP call99 rfl rfl (fun w hw => has_ok b _ w)) ?_
  rintro _ _ ⟨rfl, rfl⟩
  refine O.p rfl rfl rfl (Pu.assign rfl rfl) ?_
  refine O.nil ?_
  refine X.next ?_
  refine V.ret ?_
  refine X.ret1 rfl rfl ?_
  exact fun w hw => St.retP (boolD (Iff.rfl)) hw
set_option maxRecDepth 100000 in
set_option maxHeartbeats 1000000 in
theorem implPointsOfTrade_ok (v : Int) (os ns : List B3) (A1 A2 : Option Addr) (k1 k2 : Nat) (w : World) (ho : Rd B3C w A1 os) (hnt : Rd B3C w A2 ns) (lo : os.length ≤ 4611686018427387904) (ln : ns.length ≤ 4611686018427387904) : Does Try.prog 43 [.agg #[.int .i64 v, .slice A1 os.length k1, .slice A2 ns.length k2]] w [] (fun r => [.exi fun (oA : Option Addr) => .exi fun (oc : Nat) => .exi fun (o : List Int) => .sep (.pur (r = .tuple #[.slice oA o.length oc, .int .i64 (if TRD v os ns then 0 else 1)] ∧ PTR v os ns o)) (Own 2 I64 oA oc o)]) := by
  refine Does.enter Try.func43 rfl rfl [(0, .agg #[.int .i64 v, .slice A1 os.length k1, .slice A2 ns.length k2])] rfl ?_
  refine V.seq ?_
  refine V.region ?_
  refine O.e rfl rfl rfl (Ef.box rfl rfl rfl) ?_
  rintro _ _ ⟨b1, rfl, rfl⟩
  refine O.p rfl rfl rfl (Pu.assign rfl rfl) ?_
  refine O.p rfl rfl rfl (Pu.assign rfl rfl) ?_
  refine O.nil ?_
  refine X.next ?_
  refine V.seq ?_
  refine V.seq ?_
  refine V.region ?_
  refine O.p rfl rfl rfl (Pu.loadAgg rfl ag54 sz54 rfl rfl (Ld.whole 0 rfl)) ?_
  refine O.e rfl rfl rfl (Ef.callP call96 rfl rfl (fun w hw => isTrade_ok  v os ns _ _ _ _ w ((Ld.old ho) w hw) ((Ld.old hnt) w hw) (by omega) (by omega) )) ?_
  rintro _ _ ⟨rfl, rfl⟩
  refine O.p rfl rfl rfl (Pu.not rfl rfl) ?_
  refine O.nil ?_
  refine X.next ?_
  refine V.condNot rfl (fun c1 => ?_) (fun c1 => ?_)
  · skip
    refine V.seq ?_
    refine V.region ?_
    refine O.p rfl rfl rfl (Pu.assign rfl rfl) ?_
    refine O.p rfl rfl rfl (Pu.assign rfl rfl) ?_
    refine O.nil ?_
    refine X.next ?_
    refine V.ret ?_
    refine X.thenRet ?_
    refine X.ret2 rfl rfl rfl ?_
    exact fun w hw => St.mkExi none (St.mkExi 0 (St.mkExi [] (St.unsep (St.addPur ⟨(by rw [if_neg c1]; rfl), (by exact ⟨fun h => absurd h c1, fun _ => rfl⟩)⟩ (St.addNil (T := 2) (C := I64) (hw.sub (Sub.nil _)))))))
  · skip
    have hlo := c1.1.lo
    have hhi := c1.1.hi
    have hfo := c1.1.few
    refine V.skip ?_
    refine X.next ?_
    refine V.seq ?_
    refine V.region ?_
    refine O.p rfl rfl rfl (Pu.assign rfl rfl) ?_
    refine O.nil ?_
    refine X.next ?_
    refine V.seq ?_
    refine V.seq ?_
    refine V.region ?_
    refine O.p rfl rfl rfl (Pu.fieldAddr 0 rfl Try.underlying54 rfl sz2 rfl rfl) ?_
    refine O.p rfl rfl rfl (Pu.load rfl pl2 rfl (Ld.blk 0 rfl rfl)) ?_
    refine O.p rfl rfl rfl (Pu.move rfl rfl) ?_
    refine O.nil ?_
    refine X.next ?_
    refine V.block ?_
    refine V.map (fun w hw => St.addNil (T := 2) (C := I64) hw) ?_
    refine V.loop3 (β := (Option Addr) × Nat × (List Int) × Nat) (fun x => [(4, .slice x.1 x.2.2.1.length x.2.1), (11, .int .i64 (x.2.2.2 : Int))]) _ (fun x => [Own 2 I64 x.1 x.2.1 x.2.2.1]) _ (fun x => x.2.2.2 ≤ v.toNat ∧ x.2.2.1 = ptsB os x.2.2.2) (fun x => v.toNat - x.2.2.2) (none, 0, [], 0) (by (try dsimp only); exact ⟨by omega, rfl⟩) (Ent.cons rfl (Ent.cons rfl (Ent.nil _))) (Ent.cons (t := 1) rfl (Ent.cons (t := 10) rfl (Ent.nil _))) (Sub.keep 0 rfl (Sub.keep 0 rfl (Sub.nil _))) ?_
    rintro ⟨outA, outc, out, p⟩ ⟨hp, ho_⟩
    dsimp only at hp ho_ ⊢
    have hol : out.length ≤ p := by rw [ho_]; exact ptsB_len
    refine V.seq ?_
    refine V.region ?_
    refine O.p rfl rfl rfl (Pu.lss rfl rfl rfl) ?_
    refine O.nil ?_
    refine X.next ?_
    refine V.seq ?_
    refine V.condD rfl (fun c2 => ?_) (fun c2 => ?_)
    · skip
      refine V.skip ?_
      refine X.next ?_
      refine V.seq ?_
      refine V.block ?_
      refine V.seq ?_
      refine V.region ?_
      refine O.p rfl rfl rfl (Pu.move rfl rfl) ?_
      refine O.e rfl rfl rfl (Ef.alloc rfl zr2 rfl) ?_
      rintro _ _ ⟨b2, rfl, rfl⟩
      refine O.s rfl rfl (Ef.store1 (cs' := [_]) 0 rfl sz2 rfl rfl rfl rfl rfl (ltb rfl) rfl) ?_
      rintro _ _ rfl
      refine O.nil ?_
      refine X.next ?_
      refine V.seq ?_
      refine V.region ?_
      refine O.p rfl rfl rfl (Pu.fieldAddr 1 rfl Try.underlying54 rfl sz28 rfl rfl) ?_
      refine O.p rfl rfl rfl (Pu.load rfl pl28 rfl (Ld.blk 2 rfl rfl)) ?_
      refine O.p rfl rfl rfl (Pu.makeFunc rfl rfl) ?_
      refine O.e rfl rfl rfl (Ef.callP call97 rfl rfl (fun w hw => containsFuncB_ok (fun b => has b (p : Int)) 98 _ os _ _ w call98 ((Ld.old ho) w hw) (by omega) (fun k hk w' hb => pointsOf1_ok _ (p : Int) _ w' ((Blk.rdb hw (i := 0) rfl).below hb)))) ?_
      rintro _ _ ⟨rfl, rfl⟩
      refine O.nil ?_
      refine X.next ?_
      refine V.condD rfl (fun c3 => ?_) (fun c3 => ?_)
      · skip
        refine V.region ?_
        refine O.p rfl rfl rfl (Pu.move rfl rfl) ?_
        refine O.p rfl rfl rfl (Pu.load rfl pl2 rfl (Ld.blk 0 rfl rfl)) ?_
        refine O.e rfl rfl rfl (Ef.build I64 ([(↑p : Int)] : List Int) rfl Try.underlying43 inf2 rfl rfl rfl (by first | decide | (simp; done)) (by kernel_rfl)) ?_
        rintro _ _ ⟨A1, hA1, rfl, rfl⟩
        refine O.e rfl rfl rfl (Ef.append (xs := out) (ys := ([(↑p : Int)] : List Int)) 2 rfl Try.underlying43 inf2 rfl rfl rfl rfl rfl rfl hA1 (Ld.own 0 (by exact rfl)) (by simp only [List.length_append, List.length_cons, List.length_nil] at *; omega) (by decide)) ?_
        rintro _ _ ⟨A2, k1, rfl, rfl, hA2⟩
        replace hA2 := hA2 (.inr (by simp))
        refine O.p rfl rfl rfl (Pu.assign rfl rfl) ?_
        refine O.nil ?_
        refine X.blockNormal ?_
        refine X.next ?_
        refine V.region ?_
        refine O.p rfl rfl rfl (Pu.add64 (r := ((p + 1 : Nat) : Int)) rfl (by omega) rfl rfl rfl) ?_
        refine O.p rfl rfl rfl (Pu.move rfl rfl) ?_
        refine O.nil ?_
        exact X.back3 (A2, k1, (out ++ ([(↑p : Int)] : List Int)), p + 1) (by (try dsimp only); exact ⟨by omega, by rw [ptsB_yes c3, ho_]⟩) (by first | omega | (dsimp only; omega)) (Ent.cons rfl (Ent.cons rfl (Ent.nil _))) (Ent.cons (t := 1) rfl (Ent.cons (t := 10) rfl (Ent.nil _))) (Sub.keep 2 rfl (Sub.keep 2 rfl (Sub.nil _)))
      · skip
        refine V.skip ?_
        refine X.blockNormal ?_
        refine X.next ?_
        refine V.region ?_
        refine O.p rfl rfl rfl (Pu.add64 (r := ((p + 1 : Nat) : Int)) rfl (by omega) rfl rfl rfl) ?_
        refine O.p rfl rfl rfl (Pu.move rfl rfl) ?_
        refine O.nil ?_
        exact X.back3 (outA, outc, out, p + 1) (by (try dsimp only); exact ⟨by omega, by rw [ptsB_no c3, ho_]⟩) (by first | omega | (dsimp only; omega)) (Ent.cons rfl (Ent.cons rfl (Ent.nil _))) (Ent.cons (t := 1) rfl (Ent.cons (t := 10) rfl (Ent.nil _))) (Sub.keep 1 rfl (Sub.keep 1 rfl (Sub.nil _)))
    · skip
      refine V.exit ?_
      refine X.thenExit ?_
      refine X.thenExit ?_
      refine X.blockHit ?_
      refine X.next ?_
      refine V.seq ?_
      refine V.region ?_
      refine O.p rfl rfl rfl (Pu.move rfl rfl) ?_
      refine O.p rfl rfl rfl (Pu.assign rfl rfl) ?_
      refine O.p rfl rfl rfl (Pu.assign rfl rfl) ?_
      refine O.nil ?_
      refine X.next ?_
      refine V.ret ?_
      refine X.ret2 rfl rfl rfl ?_
      exact fun w hw => St.mkExi outA (St.mkExi outc (St.mkExi out (St.unsep (St.addPur ⟨(by rw [if_pos c1]), (by exact ⟨fun _ => by rw [ho_, show p = v.toNat by omega], fun h => absurd c1 h⟩)⟩ (hw.sub (Sub.keep 0 rfl (Sub.nil _)))))))
set_option maxRecDepth 100000 in
set_option maxHeartbeats 1000000 in
theorem l04Pair_ok (a : Nat) (b : Nat) (w : World) (ha : a < 16) (hb : b < 16) : Does Try.prog 204 [.int .i64 (a : Int), .int .i64 (b : Int)] w [] (fun r => [.pur (r = .int .i64 ((prI a b : Nat) : Int))]) := by
  refine Does.enter Try.func204 rfl rfl [(0, .int .i64 (a : Int)), (1, .int .i64 (b : Int))] rfl ?_
  refine V.seq ?_
  refine V.region ?_
  refine O.p rfl rfl rfl (Pu.assign rfl rfl) ?_
  refine O.nil ?_
  refine X.next ?_
  refine V.seq ?_
  refine V.region ?_
  refine O.p rfl rfl rfl (Pu.move rfl rfl) ?_
  refine O.p rfl rfl rfl (Pu.move rfl rfl) ?_
  refine O.p rfl rfl rfl (Pu.min2 (r := (↑(min a b) : Int)) (by omega) rfl rfl rfl) ?_
  refine O.p rfl rfl rfl (Pu.mul64 rfl (by omega) rfl rfl rfl) ?_
  refine O.p rfl rfl rfl (Pu.move rfl rfl) ?_
  refine O.p rfl rfl rfl (Pu.move rfl rfl) ?_
  refine O.p rfl rfl rfl (Pu.max2 (r := (↑(max a b) : Int)) (by omega) rfl rfl rfl) ?_
  refine O.p rfl rfl rfl (Pu.add64 rfl (by omega) rfl rfl rfl) ?_
  refine O.p rfl rfl rfl (Pu.assign rfl rfl) ?_
  refine O.nil ?_
  refine X.next ?_
  refine V.ret ?_
  refine X.ret1 rfl rfl ?_
  exact fun w hw => St.retP (iv (by unfold prI; omega)) hw
set_option maxRecDepth 100000 in
set_option maxHeartbeats 1000000 in
theorem l04Member_ok (list : List B3) (b : B3) (listA : Option Addr) (listc : Nat) (w : World) (hlist : Rd B3C w listA list) (llist : list.length ≤ 1099511627776) : Does Try.prog 134 [.slice listA list.length listc, B3.v b] w [] (fun r => [.pur (r = .bool (decide (b ∈ list)))]) := by
  refine Does.enter Try.func134 rfl rfl [(0, .slice listA list.length listc), (1, B3.v b)] rfl ?_
  refine V.seq ?_
  refine V.region ?_
  refine O.e rfl rfl rfl (Ef.box rfl rfl rfl) ?_
  rintro _ _ ⟨b1, rfl, rfl⟩
  refine O.p rfl rfl rfl (Pu.assign rfl rfl) ?_
  refine O.nil ?_
  refine X.next ?_
  refine V.seq ?_
  refine V.seq ?_
  refine V.region ?_
  refine O.p rfl rfl rfl (Pu.assign rfl rfl) ?_
  refine O.nil ?_
  refine X.next ?_
  refine V.block ?_
  refine V.loop3 (β := Nat) (fun i => [(5, .int .i64 (i : Int))]) _ (fun i => []) _ (fun i => i ≤ list.length ∧ ∀ j (hj : j < list.length), j < i → ¬ list[j] = b) (fun i => list.length - i) 0 ⟨by omega, fun j hj h => by omega⟩ (Ent.cons rfl (Ent.nil _)) (Ent.cons (t := 0) rfl (Ent.cons (t := 3) rfl (Ent.nil _))) (Sub.keep 0 rfl (Sub.nil _)) ?_
  rintro i ⟨hi, hn⟩
  refine V.seq ?_
  refine V.seq ?_
  refine V.region ?_
  refine O.p rfl rfl rfl (Pu.move rfl rfl) ?_
  refine O.p rfl rfl rfl (Pu.move rfl rfl) ?_
  refine O.p rfl rfl rfl (Pu.len rfl Try.underlying28 rfl) ?_
  refine O.p rfl rfl rfl (Pu.lss rfl rfl rfl) ?_
  refine O.nil ?_
  refine X.next ?_
  refine V.condD rfl (fun c1 => ?_) (fun c1 => ?_)
  · skip
    refine V.skip ?_
    refine X.next ?_
    refine V.seq ?_
    refine V.block ?_
    refine V.seq ?_
    refine V.draw mo (by kernel_rfl) (fun hwf => ?_)
    refine D.p 0 rfl rfl rfl rfl rfl rfl (Pu.move rfl rfl) ?_
    refine D.p 1 rfl rfl rfl rfl rfl rfl (Pu.move rfl rfl) ?_
    refine D.p 2 rfl rfl rfl rfl rfl rfl (Pu.indexAddr (i) rfl Try.underlying28 sz75 rfl rfl (by omega) (by omega) (hlist.some (by omega))) ?_
    have e1 : i < list.length := by omega
    refine D.p 3 rfl rfl rfl rfl rfl rfl (Pu.loadAgg' (v := B3.v (list[i]'e1)) rfl rfl ag75 sz75 rfl rfl (Ld.rds (Ld.old hlist) (k := i) e1 rfl)) ?_
    refine D.p 4 rfl rfl rfl rfl rfl rfl (Pu.loadAgg' (v := B3.v b) rfl rfl ag75 sz75 rfl rfl (Ld.whole 0 rfl)) ?_
    refine D.p 5 rfl rfl rfl rfl rfl rfl (Pu.eqlB3 Try.underlying75 Try.underlying2 sz2 (by kernel_rfl) rfl rfl rfl) ?_
    refine D.done hwf rfl ?_
    refine X.next ?_
    refine V.condD rfl (fun c2 => ?_) (fun c2 => ?_)
    · skip
      refine V.seq ?_
      refine V.region ?_
      refine O.p rfl rfl rfl (Pu.assign rfl rfl) ?_
      refine O.nil ?_
      refine X.next ?_
      refine V.ret ?_
      refine X.blockRet ?_
      refine X.thenRet ?_
      refine X.thenRet ?_
      refine X.blockRet ?_
      refine X.thenRet ?_
      refine X.ret1 rfl rfl ?_
      exact fun w hw => St.retP (boolT (c2 ▸ List.getElem_mem e1)) hw
    · skip
      refine V.skip ?_
      refine X.blockNormal ?_
      refine X.next ?_
      refine V.region ?_
      refine O.p rfl rfl rfl (Pu.move rfl rfl) ?_
      refine O.p rfl rfl rfl (Pu.add64 (r := ((i + 1 : Nat) : Int)) rfl (by omega) rfl rfl rfl) ?_
      refine O.p rfl rfl rfl (Pu.assign rfl rfl) ?_
      refine O.nil ?_
      exact X.back3 (i + 1) ⟨by omega, fun j hj h => by by_cases e : j = i; (· subst e; exact c2); (· exact hn j hj (by omega))⟩ (by first | omega | (dsimp only; omega)) (Ent.cons rfl (Ent.nil _)) (Ent.cons (t := 0) rfl (Ent.cons (t := 3) rfl (Ent.nil _))) (Sub.keep 0 rfl (Sub.nil _))
  · skip
    refine V.exit ?_
    refine X.thenExit ?_
    refine X.thenExit ?_
    refine X.blockHit ?_
    refine X.next ?_
    refine V.seq ?_
    refine V.region ?_
    refine O.p rfl rfl rfl (Pu.assign rfl rfl) ?_
    refine O.nil ?_
    refine X.next ?_
    refine V.ret ?_
    refine X.ret1 rfl rfl ?_
    exact fun w hw => St.retP (boolF (fun h => by obtain ⟨j, hj, e⟩ := List.getElem_of_mem h; exact hn j hj (by omega) e)) hw
theorem l04PairI_ok (a b : Int) (w : World) (ha : 0 ≤ a ∧ a < 16) (hb : 0 ≤ b ∧ b < 16) : Does Try.prog 204 [.int .i64 a, .int .i64 b] w [] (fun v => [.pur (v = .int .i64 ((prI a.toNat b.toNat : Nat) : Int))]) := by
  obtain ⟨x, rfl⟩ := Int.eq_ofNat_of_zero_le ha.1
  obtain ⟨y, rfl⟩ := Int.eq_ofNat_of_zero_le hb.1
  exact l04Pair_ok x y w (by omega) (by omega)
set_option maxRecDepth 100000 in
set_option maxHeartbeats 1000000 in
theorem l04PairsX_ok (v : Nat) (blocks : List B3) (blocksA : Option Addr) (blocksc : Nat) (w : World) (hblocks : Rd B3C w blocksA blocks) (lblocks : blocks.length ≤ 1099511627776) (hv : v ≤ 15) (hb : ∀ d ∈ blocks, inB v d) : Does Try.prog 151 [.slice blocksA blocks.length blocksc] w [] (fun rv_ => [.exi fun (rA : Option Addr) => .exi fun (rc : Nat) => .exi fun (r : List Bool) => .sep (.pur (rv_ = .slice rA r.length rc ∧ r = usedL blocks)) (Own 4 BoolC rA rc r)]) := by
  refine Does.enter Try.func151 rfl rfl [(0, .slice blocksA blocks.length blocksc)] rfl ?_
  refine V.seq ?_
  refine V.region ?_
  refine O.p rfl rfl rfl (Pu.assign rfl rfl) ?_
  refine O.nil ?_
  refine X.next ?_
  refine V.seq ?_
  refine V.region ?_
  refine O.e rfl rfl rfl (Ef.make BoolC false rfl Try.underlying88 inf4 rfl rfl rfl rfl (by decide) (by decide)) ?_
  rintro _ _ ⟨A1, hA1, rfl, rfl⟩
  refine O.p rfl rfl rfl (Pu.assign rfl rfl) ?_
  refine O.nil ?_
  refine X.next ?_
  refine V.seq ?_
  refine V.seq ?_
  refine V.region ?_
  refine O.p rfl rfl rfl (Pu.assign rfl rfl) ?_
  refine O.nil ?_
  refine X.next ?_
  refine V.block ?_
  refine V.loop2 (β := Nat × (List Bool)) (fun x => [(4, .int .i64 (x.1 : Int))]) _ (fun x => [Own 4 BoolC A1 256 x.2]) (fun x => x.1 ≤ blocks.length ∧ x.2 = usedL (blocks.take x.1)) (fun x => blocks.length - x.1) (0, (List.replicate (256) false)) (by (try dsimp only); exact ⟨by omega, usedL_nil.symm⟩) (Ent.cons rfl (Ent.nil _)) (Ent.cons (t := 0) rfl (Ent.cons (t := 3) rfl (Ent.nil _))) (Sub.keep 0 rfl (Sub.nil _)) ?_
  rintro ⟨i, z⟩ ⟨hi, hr⟩
  dsimp only at hi hr ⊢
  have hol : z.length = 256 := by rw [hr]; exact usedL_len _
  refine V.seq ?_
  refine V.seq ?_
  refine V.region ?_
  refine O.p rfl rfl rfl (Pu.move rfl rfl) ?_
  refine O.p rfl rfl rfl (Pu.move rfl rfl) ?_
  refine O.p rfl rfl rfl (Pu.len rfl Try.underlying28 rfl) ?_
  refine O.p rfl rfl rfl (Pu.lss rfl rfl rfl) ?_
  refine O.nil ?_
  refine X.next ?_
  refine V.condD rfl (fun c1 => ?_) (fun c1 => ?_)
  · skip
    refine V.skip ?_
    refine X.next ?_
    refine V.seq ?_
    refine V.block ?_
    refine V.seq ?_
    have ei : i < blocks.length := by omega
    have hin := hb (blocks[i]'ei) (List.getElem_mem ei)
    have hpt := inB_pts hin hv
    have hq1 := prI_lt (a := (blocks[i]'ei).1.toNat) (b := (blocks[i]'ei).2.1.toNat) (by omega) (by omega)
    have hq2 := prI_lt (a := (blocks[i]'ei).1.toNat) (b := (blocks[i]'ei).2.2.toNat) (by omega) (by omega)
    have hq3 := prI_lt (a := (blocks[i]'ei).2.1.toNat) (b := (blocks[i]'ei).2.2.toNat) (by omega) (by omega)
    refine V.draw mo (by kernel_rfl) (fun hwf => ?_)
    refine D.p 0 rfl rfl rfl rfl rfl rfl (Pu.move rfl rfl) ?_
    refine D.p 1 rfl rfl rfl rfl rfl rfl (Pu.move rfl rfl) ?_
    refine D.p 2 rfl rfl rfl rfl rfl rfl (Pu.move rfl rfl) ?_
    refine D.p 3 rfl rfl rfl rfl rfl rfl (Pu.indexAddr (i) rfl Try.underlying28 sz75 rfl rfl (by omega) (by omega) (hblocks.some (by omega))) ?_
    refine D.p 4 rfl rfl rfl rfl rfl rfl (Pu.indexArr' (0) rfl Try.underlying75 sz2 rfl rfl (by omega) (by omega) rfl (fun w hw => by have := Rd.some ((Ld.old hblocks) w hw) (by omega); simpa using this)) ?_
    refine D.p 5 rfl rfl rfl rfl rfl rfl (Pu.load rfl pl2 rfl (Ld.part (k := i) (j := 0) (Ld.old hblocks) ei rfl rfl)) ?_
    refine D.p 6 rfl rfl rfl rfl rfl rfl (Pu.move rfl rfl) ?_
    refine D.p 7 rfl rfl rfl rfl rfl rfl (Pu.move rfl rfl) ?_
    refine D.p 8 rfl rfl rfl rfl rfl rfl (Pu.indexAddr (i) rfl Try.underlying28 sz75 rfl rfl (by omega) (by omega) (hblocks.some (by omega))) ?_
    refine D.p 9 rfl rfl rfl rfl rfl rfl (Pu.indexArr' (1) rfl Try.underlying75 sz2 rfl rfl (by omega) (by omega) rfl (fun w hw => by have := Rd.some ((Ld.old hblocks) w hw) (by omega); simpa using this)) ?_
    refine D.p 10 rfl rfl rfl rfl rfl rfl (Pu.load rfl pl2 rfl (Ld.part (k := i) (j := 1) (Ld.old hblocks) ei rfl rfl)) ?_
    refine D.eff hwf (e := 11) rfl rfl rfl rfl (Ef.callP call204 rfl rfl (fun w hw => l04PairI_ok _ _ w (by omega) (by omega))) rfl rfl rfl ?_
    rintro _ _ ⟨rfl, rfl⟩ hs
    refine ⟨fun w hw => hw, ?_⟩
    refine D.p 12 rfl rfl rfl rfl rfl rfl (Pu.indexAddrS ((prI (((blocks[i]'ei).1)).toNat (((blocks[i]'ei).2.1)).toNat)) rfl Try.underlying88 sz4 rfl rfl (by omega) (by omega) (fun w hw => Own.some hw (i := 0) (by exact rfl) (by omega))) ?_
    refine D.effX (Hs' := []) hwf (e := 13) rfl rfl rfl rfl (Ef.storeOwn 0 ((prI (((blocks[i]'ei).1)).toNat (((blocks[i]'ei).2.1)).toNat)) true rfl sz4 rfl rfl rfl rfl (by omega) rfl) rfl [] rfl (List.forall_mem_nil _) ?_
    rintro _ _ rfl
    refine ⟨fun w hw => hw.sub (Sub.nil _), ?_⟩
    refine D.done hwf rfl ?_
    refine X.next ?_
    refine V.seq ?_
    have hs1 : (z.set (prI (blocks[i]'ei).1.toNat (blocks[i]'ei).2.1.toNat) true).length = 256 := by simp only [List.length_set]; omega
    refine V.draw mo (by kernel_rfl) (fun hwf => ?_)
    refine D.p 0 rfl rfl rfl rfl rfl rfl (Pu.move rfl rfl) ?_
    refine D.p 1 rfl rfl rfl rfl rfl rfl (Pu.move rfl rfl) ?_
    refine D.p 2 rfl rfl rfl rfl rfl rfl (Pu.move rfl rfl) ?_
    refine D.p 3 rfl rfl rfl rfl rfl rfl (Pu.indexAddr (i) rfl Try.underlying28 sz75 rfl rfl (by omega) (by omega) (hblocks.some (by omega))) ?_
    refine D.p 4 rfl rfl rfl rfl rfl rfl (Pu.indexArr' (0) rfl Try.underlying75 sz2 rfl rfl (by omega) (by omega) rfl (fun w hw => by have := Rd.some ((Ld.old hblocks) w hw) (by omega); simpa using this)) ?_
    refine D.p 5 rfl rfl rfl rfl rfl rfl (Pu.load rfl pl2 rfl (Ld.part (k := i) (j := 0) (Ld.old hblocks) ei rfl rfl)) ?_
    refine D.p 6 rfl rfl rfl rfl rfl rfl (Pu.move rfl rfl) ?_
    refine D.p 7 rfl rfl rfl rfl rfl rfl (Pu.move rfl rfl) ?_
    refine D.p 8 rfl rfl rfl rfl rfl rfl (Pu.indexAddr (i) rfl Try.underlying28 sz75 rfl rfl (by omega) (by omega) (hblocks.some (by omega))) ?_
    refine D.p 9 rfl rfl rfl rfl rfl rfl (Pu.indexArr' (2) rfl Try.underlying75 sz2 rfl rfl (by omega) (by omega) rfl (fun w hw => by have := Rd.some ((Ld.old hblocks) w hw) (by omega); simpa using this)) ?_
    refine D.p 10 rfl rfl rfl rfl rfl rfl (Pu.load rfl pl2 rfl (Ld.part (k := i) (j := 2) (Ld.old hblocks) ei rfl rfl)) ?_
    refine D.eff hwf (e := 11) rfl rfl rfl rfl (Ef.callP call204 rfl rfl (fun w hw => l04PairI_ok _ _ w (by omega) (by omega))) rfl rfl rfl ?_
    rintro _ _ ⟨rfl, rfl⟩ hs
    refine ⟨fun w hw => hw, ?_⟩
    refine D.p 12 rfl rfl rfl rfl rfl rfl (Pu.indexAddrS ((prI (((blocks[i]'ei).1)).toNat (((blocks[i]'ei).2.2)).toNat)) rfl Try.underlying88 sz4 rfl rfl (by omega) (by omega) (fun w hw => Own.some hw (i := 0) (by exact rfl) (by omega))) ?_
    refine D.effX (Hs' := []) hwf (e := 13) rfl rfl rfl rfl (Ef.storeOwn 0 ((prI (((blocks[i]'ei).1)).toNat (((blocks[i]'ei).2.2)).toNat)) true rfl sz4 rfl rfl rfl rfl (by omega) rfl) rfl [] rfl (List.forall_mem_nil _) ?_
    rintro _ _ rfl
    refine ⟨fun w hw => hw.sub (Sub.nil _), ?_⟩
    refine D.done hwf rfl ?_
    refine X.next ?_
    have hs2 : ((z.set (prI (blocks[i]'ei).1.toNat (blocks[i]'ei).2.1.toNat) true).set (prI (blocks[i]'ei).1.toNat (blocks[i]'ei).2.2.toNat) true).length = 256 := by simp only [List.length_set]; omega
    refine V.draw mo (by kernel_rfl) (fun hwf => ?_)
    refine D.p 0 rfl rfl rfl rfl rfl rfl (Pu.move rfl rfl) ?_
    refine D.p 1 rfl rfl rfl rfl rfl rfl (Pu.move rfl rfl) ?_
    refine D.p 2 rfl rfl rfl rfl rfl rfl (Pu.move rfl rfl) ?_
    refine D.p 3 rfl rfl rfl rfl rfl rfl (Pu.indexAddr (i) rfl Try.underlying28 sz75 rfl rfl (by omega) (by omega) (hblocks.some (by omega))) ?_
    refine D.p 4 rfl rfl rfl rfl rfl rfl (Pu.indexArr' (1) rfl Try.underlying75 sz2 rfl rfl (by omega) (by omega) rfl (fun w hw => by have := Rd.some ((Ld.old hblocks) w hw) (by omega); simpa using this)) ?_
    refine D.p 5 rfl rfl rfl rfl rfl rfl (Pu.load rfl pl2 rfl (Ld.part (k := i) (j := 1) (Ld.old hblocks) ei rfl rfl)) ?_
    refine D.p 6 rfl rfl rfl rfl rfl rfl (Pu.move rfl rfl) ?_
    refine D.p 7 rfl rfl rfl rfl rfl rfl (Pu.move rfl rfl) ?_
    refine D.p 8 rfl rfl rfl rfl rfl rfl (Pu.indexAddr (i) rfl Try.underlying28 sz75 rfl rfl (by omega) (by omega) (hblocks.some (by omega))) ?_
    refine D.p 9 rfl rfl rfl rfl rfl rfl (Pu.indexArr' (2) rfl Try.underlying75 sz2 rfl rfl (by omega) (by omega) rfl (fun w hw => by have := Rd.some ((Ld.old hblocks) w hw) (by omega); simpa using this)) ?_
    refine D.p 10 rfl rfl rfl rfl rfl rfl (Pu.load rfl pl2 rfl (Ld.part (k := i) (j := 2) (Ld.old hblocks) ei rfl rfl)) ?_
    refine D.eff hwf (e := 11) rfl rfl rfl rfl (Ef.callP call204 rfl rfl (fun w hw => l04PairI_ok _ _ w (by omega) (by omega))) rfl rfl rfl ?_
    rintro _ _ ⟨rfl, rfl⟩ hs
    refine ⟨fun w hw => hw, ?_⟩
    refine D.p 12 rfl rfl rfl rfl rfl rfl (Pu.indexAddrS ((prI (((blocks[i]'ei).2.1)).toNat (((blocks[i]'ei).2.2)).toNat)) rfl Try.underlying88 sz4 rfl rfl (by omega) (by omega) (fun w hw => Own.some hw (i := 0) (by exact rfl) (by omega))) ?_
    refine D.effX (Hs' := []) hwf (e := 13) rfl rfl rfl rfl (Ef.storeOwn 0 ((prI (((blocks[i]'ei).2.1)).toNat (((blocks[i]'ei).2.2)).toNat)) true rfl sz4 rfl rfl rfl rfl (by omega) rfl) rfl [] rfl (List.forall_mem_nil _) ?_
    rintro _ _ rfl
    refine ⟨fun w hw => hw.sub (Sub.nil _), ?_⟩
    refine D.done hwf rfl ?_
    refine X.blockNormal ?_
    refine X.next ?_
    refine V.region ?_
    refine O.p rfl rfl rfl (Pu.move rfl rfl) ?_
    refine O.p rfl rfl rfl (Pu.add64 (r := ((i + 1 : Nat) : Int)) rfl (by omega) rfl rfl rfl) ?_
    refine O.p rfl rfl rfl (Pu.assign rfl rfl) ?_
    refine O.nil ?_
    exact X.back2 (i + 1, (((z.set ((prI (((blocks[i]'ei).1)).toNat (((blocks[i]'ei).2.1)).toNat)) true).set ((prI (((blocks[i]'ei).1)).toNat (((blocks[i]'ei).2.2)).toNat)) true).set ((prI (((blocks[i]'ei).2.1)).toNat (((blocks[i]'ei).2.2)).toNat)) true)) (by (try dsimp only); exact ⟨by omega, by rw [take_snoc ei, usedL_snoc, hr]⟩) (by first | omega | (dsimp only; omega)) (Ent.cons rfl (Ent.nil _)) (Ent.cons (t := 0) rfl (Ent.cons (t := 3) rfl (Ent.nil _))) (Sub.keep 0 rfl (Sub.nil _))
  · skip
    refine V.exit ?_
    refine X.thenExit ?_
    refine X.thenExit ?_
    refine X.blockHit ?_
    refine X.next ?_
    refine V.seq ?_
    refine V.region ?_
    refine O.p rfl rfl rfl (Pu.move rfl rfl) ?_
    refine O.p rfl rfl rfl (Pu.assign rfl rfl) ?_
    refine O.nil ?_
    refine X.next ?_
    refine V.ret ?_
    refine X.ret1 rfl rfl ?_
    exact fun w hw => St.mkExi A1 (St.mkExi 256 (St.mkExi z (St.unsep (St.addPur ⟨(by rw [hol]), by rw [List.take_of_length_le (by omega)] at hr; exact hr⟩ (hw.sub (Sub.keep 0 rfl (Sub.nil _)))))))
set_option maxRecDepth 100000 in
set_option maxHeartbeats 1000000 in
theorem l04Same_ok (v : Nat) (xs : List B3) (ys : List B3) (xsA : Option Addr) (xsc : Nat) (ysA : Option Addr) (ysc : Nat) (w : World) (hxs : Rd B3C w xsA xs) (hys : Rd B3C w ysA ys) (lxs : xs.length ≤ 1099511627776) (lys : ys.length ≤ 1099511627776) (hv : v ≤ 15) (ha : ∀ d ∈ xs, inB v d) (hb : ∀ d ∈ ys, inB v d) : Does Try.prog 160 [.slice xsA xs.length xsc, .slice ysA ys.length ysc] w [] (fun r => [.pur (r = .bool (decide (usedL xs = usedL ys)))]) := by
  refine Does.enter Try.func160 rfl rfl [(0, .slice xsA xs.length xsc), (1, .slice ysA ys.length ysc)] rfl ?_
  refine V.seq ?_
  refine V.region ?_
  refine O.p rfl rfl rfl (Pu.assign rfl rfl) ?_
  refine O.nil ?_
  refine X.next ?_
  refine V.seq ?_
  refine V.region ?_
  refine O.p rfl rfl rfl (Pu.move rfl rfl) ?_
  refine O.e rfl rfl rfl (Ef.call1 call151 rfl rfl (fun w hw => l04PairsX_ok v xs _ _ w ((Ld.old hxs) w hw) (by first | omega | (simp only [tops_len, conts_len, bl, List.length_append, List.length_cons, List.length_nil] at *; omega)) (by first | assumption | omega | (try dsimp only at *; omega)) (by first | assumption | omega | (try dsimp only at *; omega)))) ?_
  rintro _ _ rfl
  refine O.exi (fun r1A => ?_)
  refine O.exi (fun r1c => ?_)
  refine O.exi (fun r1 => ?_)
  refine O.sep ?_
  refine O.pur ?_
  rintro ⟨rfl, hr1_1⟩
  have hlr1 : r1.length = 256 := by rw [hr1_1]; exact usedL_len _
  refine O.p rfl rfl rfl (Pu.move rfl rfl) ?_
  refine O.e rfl rfl rfl (Ef.call1 call151 rfl rfl (fun w hw => l04PairsX_ok v ys _ _ w ((Ld.old hys) w hw) (by first | omega | (simp only [tops_len, conts_len, bl, List.length_append, List.length_cons, List.length_nil] at *; omega)) (by first | assumption | omega | (try dsimp only at *; omega)) (by first | assumption | omega | (try dsimp only at *; omega)))) ?_
  rintro _ _ rfl
  refine O.exi (fun r2A => ?_)
  refine O.exi (fun r2c => ?_)
  refine O.exi (fun r2 => ?_)
  refine O.sep ?_
  refine O.pur ?_
  rintro ⟨rfl, hr2_1⟩
  have hlr2 : r2.length = 256 := by rw [hr2_1]; exact usedL_len _
  refine O.p rfl rfl rfl (Pu.assign rfl rfl) ?_
  refine O.p rfl rfl rfl (Pu.assign rfl rfl) ?_
  refine O.nil ?_
  refine X.next ?_
  refine V.seq ?_
  refine V.seq ?_
  refine V.region ?_
  refine O.p rfl rfl rfl (Pu.assign rfl rfl) ?_
  refine O.nil ?_
  refine X.next ?_
  refine V.block ?_
  refine V.loop3 (β := Nat) (fun i => [(7, .int .i64 (i : Int))]) _ (fun i => []) _ (fun i => i ≤ 256 ∧ r1.take i = r2.take i) (fun i => 256 - i) 0 ⟨by omega, rfl⟩ (Ent.cons rfl (Ent.nil _)) (Ent.cons (t := 5) rfl (Ent.cons (t := 6) rfl (Ent.nil _))) (Sub.keep 0 rfl (Sub.keep 0 rfl (Sub.nil _))) ?_
  rintro i ⟨hi, he⟩
  refine V.seq ?_
  refine V.seq ?_
  refine V.region ?_
  refine O.p rfl rfl rfl (Pu.move rfl rfl) ?_
  refine O.p rfl rfl rfl (Pu.move rfl rfl) ?_
  refine O.p rfl rfl rfl (Pu.len rfl Try.underlying88 rfl) ?_
  refine O.p rfl rfl rfl (Pu.lss rfl rfl rfl) ?_
  refine O.nil ?_
  refine X.next ?_
  refine V.condD rfl (fun c1 => ?_) (fun c1 => ?_)
  · skip
    refine V.skip ?_
    refine X.next ?_
    refine V.seq ?_
    refine V.block ?_
    refine V.seq ?_
    refine V.draw mo (by kernel_rfl) (fun hwf => ?_)
    refine D.p 0 rfl rfl rfl rfl rfl rfl (Pu.move rfl rfl) ?_
    refine D.p 1 rfl rfl rfl rfl rfl rfl (Pu.move rfl rfl) ?_
    refine D.p 2 rfl rfl rfl rfl rfl rfl (Pu.indexAddrS (i) rfl Try.underlying88 sz4 rfl rfl (by omega) (by omega) (fun w hw => Own.some hw (i := 1) (by exact rfl) (by omega))) ?_
    have e1 : i < r1.length := by omega
    refine D.p 3 rfl rfl rfl rfl rfl rfl (Pu.load rfl pl4 rfl (Ld.rd (Ld.own 1 (by exact rfl)) (k := i) e1 rfl rfl)) ?_
    refine D.p 4 rfl rfl rfl rfl rfl rfl (Pu.move rfl rfl) ?_
    refine D.p 5 rfl rfl rfl rfl rfl rfl (Pu.move rfl rfl) ?_
    refine D.p 6 rfl rfl rfl rfl rfl rfl (Pu.indexAddrS (i) rfl Try.underlying88 sz4 rfl rfl (by omega) (by omega) (fun w hw => Own.some hw (i := 0) (by exact rfl) (by omega))) ?_
    have e2 : i < r2.length := by omega
    refine D.p 7 rfl rfl rfl rfl rfl rfl (Pu.load rfl pl4 rfl (Ld.rd (Ld.own 0 (by exact rfl)) (k := i) e2 rfl rfl)) ?_
    refine D.p 8 rfl rfl rfl rfl rfl rfl (Pu.boolNeq Try.underlying4 rfl rfl rfl) ?_
    refine D.done hwf rfl ?_
    refine X.next ?_
    refine V.cond rfl (fun c2 => ?_) (fun c2 => ?_)
    · skip
      refine V.seq ?_
      refine V.region ?_
      refine O.p rfl rfl rfl (Pu.assign rfl rfl) ?_
      refine O.nil ?_
      refine X.next ?_
      refine V.ret ?_
      refine X.blockRet ?_
      refine X.thenRet ?_
      refine X.thenRet ?_
      refine X.blockRet ?_
      refine X.thenRet ?_
      refine X.ret1 rfl rfl ?_
      exact fun w hw => St.retP (boolF (by intro h; rw [← hr1_1, ← hr2_1] at h; subst h; simp at c2)) hw
    · skip
      refine V.skip ?_
      refine X.blockNormal ?_
      refine X.next ?_
      refine V.region ?_
      refine O.p rfl rfl rfl (Pu.move rfl rfl) ?_
      refine O.p rfl rfl rfl (Pu.add64 (r := ((i + 1 : Nat) : Int)) rfl (by omega) rfl rfl rfl) ?_
      refine O.p rfl rfl rfl (Pu.assign rfl rfl) ?_
      refine O.nil ?_
      exact X.back3 (i + 1) ⟨by omega, by rw [take_snoc (by omega), take_snoc (by omega), he]; simp_all⟩ (by first | omega | (dsimp only; omega)) (Ent.cons rfl (Ent.nil _)) (Ent.cons (t := 5) rfl (Ent.cons (t := 6) rfl (Ent.nil _))) (Sub.keep 0 rfl (Sub.keep 0 rfl (Sub.nil _)))
  · skip
    refine V.exit ?_
    refine X.thenExit ?_
    refine X.thenExit ?_
    refine X.blockHit ?_
    refine X.next ?_
    refine V.seq ?_
    refine V.region ?_
    refine O.p rfl rfl rfl (Pu.assign rfl rfl) ?_
    refine O.nil ?_
    refine X.next ?_
    refine V.ret ?_
    refine X.ret1 rfl rfl ?_
    exact fun w hw => St.retP (boolT (by rw [← hr1_1, ← hr2_1]; rw [List.take_of_length_le (by omega), List.take_of_length_le (by omega)] at he; exact he)) hw
set_option maxRecDepth 100000 in
set_option maxHeartbeats 1000000 in
theorem l04Is_ok (v : Int) (os ns : List B3) (A1 A2 : Option Addr) (k1 k2 : Nat) (w : World) (ho : Rd B3C w A1 os) (hnt : Rd B3C w A2 ns) (lo : os.length ≤ 4611686018427387904) (ln : ns.length ≤ 4611686018427387904) : Does Try.prog 94 [.agg #[.int .i64 v, .slice A1 os.length k1, .slice A2 ns.length k2]] w [] (fun r => [.pur (r = .bool (decide (TRD v os ns)))]) := by
  refine Does.enter Try.func94 rfl rfl [(0, .agg #[.int .i64 v, .slice A1 os.length k1, .slice A2 ns.length k2])] rfl ?_
  refine V.seq ?_
  refine V.region ?_
  refine O.e rfl rfl rfl (Ef.box rfl rfl rfl) ?_
  rintro _ _ ⟨b1, rfl, rfl⟩
  refine O.p rfl rfl rfl (Pu.assign rfl rfl) ?_
  refine O.nil ?_
  refine X.next ?_
  refine V.seq ?_
  refine V.region ?_
  refine O.p rfl rfl rfl (Pu.fieldAddr 0 rfl Try.underlying54 rfl sz2 rfl rfl) ?_
  refine O.p rfl rfl rfl (Pu.load rfl pl2 rfl (Ld.blk 0 rfl rfl)) ?_
  refine O.p rfl rfl rfl (Pu.fieldAddr 1 rfl Try.underlying54 rfl sz28 rfl rfl) ?_
  refine O.p rfl rfl rfl (Pu.load rfl pl28 rfl (Ld.blk 0 rfl rfl)) ?_
  refine O.p rfl rfl rfl (Pu.buildS (cs := [.int .i64 v, .slice A1 os.length k1]) rfl rfl Try.underlying30 zr30 (by kernel_rfl) rfl (by kernel_rfl)) ?_
  refine O.e rfl rfl rfl (Ef.alloc rfl zr30 rfl) ?_
  rintro _ _ ⟨b2, rfl, rfl⟩
  refine O.s rfl rfl (Ef.storeAll 0 rfl sz30 rfl rfl rfl rfl (by simp [Value.oneCell']) rfl) ?_
  rintro _ _ rfl
  refine O.nil ?_
  refine X.next ?_
  refine V.seq ?_
  refine V.region ?_
  refine O.p rfl rfl rfl (Pu.fieldAddr 0 rfl Try.underlying54 rfl sz2 rfl rfl) ?_
  refine O.p rfl rfl rfl (Pu.load rfl pl2 rfl (Ld.blk 1 rfl rfl)) ?_
  refine O.p rfl rfl rfl (Pu.fieldAddr 2 rfl Try.underlying54 rfl sz28 rfl rfl) ?_
  refine O.p rfl rfl rfl (Pu.load rfl pl28 rfl (Ld.blk 1 rfl rfl)) ?_
  refine O.p rfl rfl rfl (Pu.buildS (cs := [.int .i64 v, .slice A2 ns.length k2]) rfl rfl Try.underlying30 zr30 (by kernel_rfl) rfl (by kernel_rfl)) ?_
  refine O.e rfl rfl rfl (Ef.alloc rfl zr30 rfl) ?_
  rintro _ _ ⟨b3, rfl, rfl⟩
  refine O.s rfl rfl (Ef.storeAll 0 rfl sz30 rfl rfl rfl rfl (by simp [Value.oneCell']) rfl) ?_
  rintro _ _ rfl
  refine O.nil ?_
  refine X.next ?_
  refine V.seq ?_
  refine V.seq ?_
  refine V.region ?_
  refine O.p rfl rfl rfl (Pu.loadAgg rfl ag30 sz30 rfl rfl (Ld.whole 1 rfl)) ?_
  refine O.e rfl rfl rfl (Ef.callP call81 rfl rfl (fun w hw => l01Is_ok _ os _ _ w ((Ld.old ho) w hw) (by omega))) ?_
  rintro _ _ ⟨rfl, rfl⟩
  refine O.p rfl rfl rfl (Pu.not rfl rfl) ?_
  refine O.p rfl rfl rfl (Pu.move rfl rfl) ?_
  refine O.splitN 19 rfl (fun c1 => ?_) (fun c1 => ?_)
  · skip
    refine O.gs rfl rfl rfl rfl rfl rfl ?_
    refine O.gs rfl rfl rfl rfl rfl rfl ?_
    refine O.gs rfl rfl rfl rfl rfl rfl ?_
    refine O.p rfl rfl rfl (Pu.pickT rfl rfl rfl) ?_
    refine O.p rfl rfl rfl (Pu.move rfl rfl) ?_
    refine O.gs rfl rfl rfl rfl rfl rfl ?_
    refine O.gs rfl rfl rfl rfl rfl rfl ?_
    refine O.gs rfl rfl rfl rfl rfl rfl ?_
    refine O.gs rfl rfl rfl rfl rfl rfl ?_
    refine O.gs rfl rfl rfl rfl rfl rfl ?_
    refine O.gs rfl rfl rfl rfl rfl rfl ?_
    refine O.p rfl rfl rfl (Pu.pickT rfl rfl rfl) ?_
    refine O.nil ?_
    refine X.next ?_
    refine V.condT rfl ?_
    refine V.seq ?_
    refine V.region ?_
    refine O.p rfl rfl rfl (Pu.assign rfl rfl) ?_
    refine O.nil ?_
    refine X.next ?_
    refine V.ret ?_
    refine X.thenRet ?_
    refine X.ret1 rfl rfl ?_
    exact fun w hw => St.retP (boolF (fun h => c1 h.1)) hw
  · skip
    have hlo := c1.lo
    have hhi := c1.hi
    have hfo := c1.few
    have hos : STS (v.toNat : Int) os := by rw [show (v.toNat : Int) = v by omega]; exact c1
    refine O.gp rfl rfl rfl rfl rfl (Pu.loadAgg rfl ag30 sz30 rfl rfl (Ld.whole 0 rfl)) ?_
    refine O.ge rfl rfl rfl rfl rfl (Ef.callP call81 rfl rfl (fun w hw => l01Is_ok _ ns _ _ w ((Ld.old hnt) w hw) (by omega))) ?_
    rintro _ _ ⟨rfl, rfl⟩
    refine O.gp rfl rfl rfl rfl rfl (Pu.not rfl rfl) ?_
    refine O.p rfl rfl rfl (Pu.pickF rfl rfl rfl) ?_
    refine O.p rfl rfl rfl (Pu.move rfl rfl) ?_
    refine O.splitN 24 rfl (fun c2 => ?_) (fun c2 => ?_)
    · skip
      refine O.gs rfl rfl rfl rfl rfl rfl ?_
      refine O.gs rfl rfl rfl rfl rfl rfl ?_
      refine O.gs rfl rfl rfl rfl rfl rfl ?_
      refine O.gs rfl rfl rfl rfl rfl rfl ?_
      refine O.gs rfl rfl rfl rfl rfl rfl ?_
      refine O.gs rfl rfl rfl rfl rfl rfl ?_
      refine O.p rfl rfl rfl (Pu.pickT rfl rfl rfl) ?_
      refine O.nil ?_
      refine X.next ?_
      refine V.condT rfl ?_
      refine V.seq ?_
      refine V.region ?_
      refine O.p rfl rfl rfl (Pu.assign rfl rfl) ?_
      refine O.nil ?_
      refine X.next ?_
      refine V.ret ?_
      refine X.thenRet ?_
      refine X.ret1 rfl rfl ?_
      exact fun w hw => St.retP (boolF (fun h => c2 h.2.1)) hw
    · skip
      have hfn := c2.few
      have hns : STS (v.toNat : Int) ns := by rw [show (v.toNat : Int) = v by omega]; exact c2
      refine O.gp rfl rfl rfl rfl rfl (Pu.fieldAddr 1 rfl Try.underlying54 rfl sz28 rfl rfl) ?_
      refine O.gp rfl rfl rfl rfl rfl (Pu.load rfl pl28 rfl (Ld.blk 2 rfl rfl)) ?_
      refine O.gp rfl rfl rfl rfl rfl (Pu.fieldAddr 2 rfl Try.underlying54 rfl sz28 rfl rfl) ?_
      refine O.gp rfl rfl rfl rfl rfl (Pu.load rfl pl28 rfl (Ld.blk 2 rfl rfl)) ?_
      refine O.ge rfl rfl rfl rfl rfl (Ef.callP call160 rfl rfl (fun w hw => l04Same_ok v.toNat os ns _ _ _ _ w ((Ld.old ho) w hw) ((Ld.old hnt) w hw) (by omega) (by omega) (by omega) (fun d hd => (sts_rest hos).ok d hd) (fun d hd => (sts_rest hns).ok d hd))) ?_
      rintro _ _ ⟨rfl, rfl⟩
      refine O.gp rfl rfl rfl rfl rfl (Pu.not rfl rfl) ?_
      refine O.p rfl rfl rfl (Pu.pickF rfl rfl rfl) ?_
      refine O.nil ?_
      refine X.next ?_
      refine V.condNot rfl (fun c3 => ?_) (fun c3 => ?_)
      · skip
        refine V.seq ?_
        refine V.region ?_
        refine O.p rfl rfl rfl (Pu.assign rfl rfl) ?_
        refine O.nil ?_
        refine X.next ?_
        refine V.ret ?_
        refine X.thenRet ?_
        refine X.ret1 rfl rfl ?_
        exact fun w hw => St.retP (boolF (fun h => c3 ((usedL_iff (by omega) hos hns).2 h.2.2.2))) hw
      · skip
        refine V.skip ?_
        refine X.next ?_
        refine V.seq ?_
        refine V.seq ?_
        refine V.region ?_
        refine O.p rfl rfl rfl (Pu.assign rfl rfl) ?_
        refine O.nil ?_
        refine X.next ?_
        refine V.block ?_
        refine V.loop3 (β := Nat) (fun i => [(5, .int .i64 (i : Int))]) _ (fun i => []) _ (fun i => i ≤ os.length ∧ ∀ j (hj : j < os.length), j < i → os[j] ∉ ns) (fun i => os.length - i) 0 ⟨by omega, fun j hj h => by omega⟩ (Ent.cons rfl (Ent.nil _)) (Ent.cons (t := 1) rfl (Ent.nil _)) (Sub.keep 0 rfl (Sub.keep 0 rfl (Sub.keep 0 rfl (Sub.nil _)))) ?_
        rintro i ⟨hi, hn⟩
        refine V.seq ?_
        refine V.seq ?_
        refine V.region ?_
        refine O.p rfl rfl rfl (Pu.move rfl rfl) ?_
        refine O.p rfl rfl rfl (Pu.fieldAddr 1 rfl Try.underlying54 rfl sz28 rfl rfl) ?_
        refine O.p rfl rfl rfl (Pu.load rfl pl28 rfl (Ld.blk 2 rfl rfl)) ?_
        refine O.p rfl rfl rfl (Pu.len rfl Try.underlying28 rfl) ?_
        refine O.p rfl rfl rfl (Pu.lss rfl rfl rfl) ?_
        refine O.nil ?_
        refine X.next ?_
        refine V.condD rfl (fun c4 => ?_) (fun c4 => ?_)
        · skip
          refine V.skip ?_
          refine X.next ?_
          refine V.seq ?_
          refine V.block ?_
          refine V.seq ?_
          refine V.draw mo (by kernel_rfl) (fun hwf => ?_)
          refine D.p 0 rfl rfl rfl rfl rfl rfl (Pu.fieldAddr 2 rfl Try.underlying54 rfl sz28 rfl rfl) ?_
          refine D.p 1 rfl rfl rfl rfl rfl rfl (Pu.load rfl pl28 rfl (Ld.blk 2 rfl rfl)) ?_
          refine D.p 2 rfl rfl rfl rfl rfl rfl (Pu.fieldAddr 1 rfl Try.underlying54 rfl sz28 rfl rfl) ?_
          refine D.p 3 rfl rfl rfl rfl rfl rfl (Pu.load rfl pl28 rfl (Ld.blk 2 rfl rfl)) ?_
          refine D.p 4 rfl rfl rfl rfl rfl rfl (Pu.move rfl rfl) ?_
          refine D.p 5 rfl rfl rfl rfl rfl rfl (Pu.indexAddr (i) rfl Try.underlying28 sz75 rfl rfl (by omega) (by omega) (ho.some (by omega))) ?_
          have e1 : i < os.length := by omega
          refine D.p 6 rfl rfl rfl rfl rfl rfl (Pu.loadAgg' (v := B3.v (os[i]'e1)) rfl rfl ag75 sz75 rfl rfl (Ld.rds (Ld.old ho) (k := i) e1 rfl)) ?_
          refine D.eff hwf (e := 7) rfl rfl rfl rfl (Ef.callP call134 rfl rfl (fun w hw => l04Member_ok  ns (os[i]'e1) _ _ w ((Ld.old hnt) w hw) (by omega) )) rfl rfl rfl ?_
          rintro _ _ ⟨rfl, rfl⟩ hs
          refine ⟨fun w hw => hw, ?_⟩
          refine D.done hwf rfl ?_
          refine X.next ?_
          refine V.condD rfl (fun c5 => ?_) (fun c5 => ?_)
          · skip
            refine V.seq ?_
            refine V.region ?_
            refine O.p rfl rfl rfl (Pu.assign rfl rfl) ?_
            refine O.nil ?_
            refine X.next ?_
            refine V.ret ?_
            refine X.blockRet ?_
            refine X.thenRet ?_
            refine X.thenRet ?_
            refine X.blockRet ?_
            refine X.thenRet ?_
            refine X.ret1 rfl rfl ?_
            exact fun w hw => St.retP (boolF (fun h => h.2.2.1 _ (List.getElem_mem e1) c5)) hw
          · skip
            refine V.skip ?_
            refine X.blockNormal ?_
            refine X.next ?_
            refine V.region ?_
            refine O.p rfl rfl rfl (Pu.move rfl rfl) ?_
            refine O.p rfl rfl rfl (Pu.add64 (r := ((i + 1 : Nat) : Int)) rfl (by omega) rfl rfl rfl) ?_
            refine O.p rfl rfl rfl (Pu.assign rfl rfl) ?_
            refine O.nil ?_
            exact X.back3 (i + 1) ⟨by omega, fun j hj h => by by_cases e : j = i; (· subst e; exact c5); (· exact hn j hj (by omega))⟩ (by first | omega | (dsimp only; omega)) (Ent.cons rfl (Ent.nil _)) (Ent.cons (t := 1) rfl (Ent.nil _)) (Sub.keep 0 rfl (Sub.keep 0 rfl (Sub.keep 0 rfl (Sub.nil _))))
        · skip
          refine V.exit ?_
          refine X.thenExit ?_
          refine X.thenExit ?_
          refine X.blockHit ?_
          refine X.next ?_
          refine V.seq ?_
          refine V.region ?_
          refine O.p rfl rfl rfl (Pu.assign rfl rfl) ?_
          refine O.nil ?_
          refine X.next ?_
          refine V.ret ?_
          refine X.ret1 rfl rfl ?_
          exact fun w hw => St.retP (boolT (⟨c1, c2, fun b hb hm => by obtain ⟨j, hj, rfl⟩ := List.mem_iff_getElem.1 hb; exact hn j hj (by omega) hm, (usedL_iff (by omega) hos hns).1 c3⟩)) hw
set_option maxRecDepth 100000 in
set_option maxHeartbeats 1000000 in
theorem specPointsOfTrade_ok (v : Int) (os ns : List B3) (A1 A2 : Option Addr) (k1 k2 : Nat) (w : World) (ho : Rd B3C w A1 os) (hnt : Rd B3C w A2 ns) (lo : os.length ≤ 4611686018427387904) (ln : ns.length ≤ 4611686018427387904) : Does Try.prog 41 [.agg #[.int .i64 v, .slice A1 os.length k1, .slice A2 ns.length k2]] w [] (fun r => [.exi fun (oA : Option Addr) => .exi fun (oc : Nat) => .exi fun (o : List Int) => .sep (.pur (r = .tuple #[.slice oA o.length oc, .int .i64 (if TRD v os ns then 0 else 1)] ∧ PTR v os ns o)) (Own 2 I64 oA oc o)]) := by
  refine Does.enter Try.func41 rfl rfl [(0, .agg #[.int .i64 v, .slice A1 os.length k1, .slice A2 ns.length k2])] rfl ?_
  refine V.seq ?_
  refine V.region ?_
  refine O.e rfl rfl rfl (Ef.box rfl rfl rfl) ?_
  rintro _ _ ⟨b1, rfl, rfl⟩
  refine O.p rfl rfl rfl (Pu.assign rfl rfl) ?_
  refine O.p rfl rfl rfl (Pu.assign rfl rfl) ?_
  refine O.nil ?_
  refine X.next ?_
  refine V.seq ?_
  refine V.seq ?_
  refine V.region ?_
  refine O.p rfl rfl rfl (Pu.loadAgg rfl ag54 sz54 rfl rfl (Ld.whole 0 rfl)) ?_
  refine O.e rfl rfl rfl (Ef.callP call94 rfl rfl (fun w hw => l04Is_ok  v os ns _ _ _ _ w ((Ld.old ho) w hw) ((Ld.old hnt) w hw) (by omega) (by omega) )) ?_
  rintro _ _ ⟨rfl, rfl⟩
  refine O.p rfl rfl rfl (Pu.not rfl rfl) ?_
  refine O.nil ?_
  refine X.next ?_
  refine V.condNot rfl (fun c1 => ?_) (fun c1 => ?_)
  · skip
    refine V.seq ?_
    refine V.region ?_
    refine O.p rfl rfl rfl (Pu.assign rfl rfl) ?_
    refine O.p rfl rfl rfl (Pu.assign rfl rfl) ?_
    refine O.nil ?_
    refine X.next ?_
    refine V.ret ?_
    refine X.thenRet ?_
    refine X.ret2 rfl rfl rfl ?_
    exact fun w hw => St.mkExi none (St.mkExi 0 (St.mkExi [] (St.unsep (St.addPur ⟨(by rw [if_neg c1]; rfl), (by exact ⟨fun h => absurd h c1, fun _ => rfl⟩)⟩ (St.addNil (T := 2) (C := I64) (hw.sub (Sub.nil _)))))))
  · skip
    have hlo := c1.1.lo
    have hhi := c1.1.hi
    have hfo := c1.1.few
    refine V.skip ?_
    refine X.next ?_
    refine V.seq ?_
    refine V.region ?_
    refine O.e rfl rfl rfl (Ef.build I64 ([] : List Int) rfl Try.underlying43 inf2 rfl rfl rfl (by first | decide | (simp; done)) (by kernel_rfl)) ?_
    rintro _ _ ⟨A1, hA1, rfl, rfl⟩
    refine O.p rfl rfl rfl (Pu.assign rfl rfl) ?_
    refine O.nil ?_
    refine X.next ?_
    refine V.seq ?_
    refine V.seq ?_
    refine V.region ?_
    refine O.p rfl rfl rfl (Pu.assign rfl rfl) ?_
    refine O.nil ?_
    refine X.next ?_
    refine V.block ?_
    refine V.loop3 (β := (Option Addr) × Nat × (List Int) × Nat) (fun x => [(4, .slice x.1 x.2.2.1.length x.2.1), (5, .int .i64 (x.2.2.2 : Int))]) _ (fun x => [Own 2 I64 x.1 x.2.1 x.2.2.1]) _ (fun x => x.2.2.2 ≤ v.toNat ∧ x.2.2.1 = ptsB os x.2.2.2) (fun x => v.toNat - x.2.2.2) (A1, 0, ([] : List Int), 0) (by (try dsimp only); exact ⟨by omega, rfl⟩) (Ent.cons rfl (Ent.cons rfl (Ent.nil _))) (Ent.cons (t := 1) rfl (Ent.nil _)) (Sub.keep 0 rfl (Sub.keep 0 rfl (Sub.nil _))) ?_
    rintro ⟨outA, outc, out, p⟩ ⟨hp, ho_⟩
    dsimp only at hp ho_ ⊢
    have hol : out.length ≤ p := by rw [ho_]; exact ptsB_len
    refine V.seq ?_
    refine V.seq ?_
    refine V.region ?_
    refine O.p rfl rfl rfl (Pu.move rfl rfl) ?_
    refine O.p rfl rfl rfl (Pu.fieldAddr 0 rfl Try.underlying54 rfl sz2 rfl rfl) ?_
    refine O.p rfl rfl rfl (Pu.load rfl pl2 rfl (Ld.blk 1 rfl rfl)) ?_
    refine O.p rfl rfl rfl (Pu.lss rfl rfl rfl) ?_
    refine O.nil ?_
    refine X.next ?_
    refine V.condD rfl (fun c2 => ?_) (fun c2 => ?_)
    · skip
      refine V.skip ?_
      refine X.next ?_
      refine V.seq ?_
      refine V.block ?_
      refine V.seq ?_
      refine V.region ?_
      refine O.p rfl rfl rfl (Pu.assign rfl rfl) ?_
      refine O.nil ?_
      refine X.next ?_
      refine V.seq ?_
      refine V.seq ?_
      refine V.region ?_
      refine O.p rfl rfl rfl (Pu.assign rfl rfl) ?_
      refine O.nil ?_
      refine X.next ?_
      refine V.block ?_
      refine V.loop3 (β := Bool × Nat) (fun x => [(6, .bool x.1), (7, .int .i64 (x.2 : Int))]) _ (fun x => []) _ (fun x => x.2 ≤ os.length ∧ x.1 = decide (∃ b ∈ os.take x.2, has b (p : Int))) (fun x => os.length - x.2) (false, 0) (by (try dsimp only); exact ⟨by omega, by simp⟩) (Ent.cons rfl (Ent.cons rfl (Ent.nil _))) (Ent.cons (t := 1) rfl (Ent.cons (t := 4) rfl (Ent.cons (t := 5) rfl (Ent.nil _)))) (Sub.keep 0 rfl (Sub.keep 0 rfl (Sub.nil _))) ?_
      rintro ⟨in_, i⟩ ⟨hi, hz⟩
      dsimp only at hi hz ⊢
      refine V.seq ?_
      refine V.seq ?_
      refine V.region ?_
      refine O.p rfl rfl rfl (Pu.move rfl rfl) ?_
      refine O.p rfl rfl rfl (Pu.fieldAddr 1 rfl Try.underlying54 rfl sz28 rfl rfl) ?_
      refine O.p rfl rfl rfl (Pu.load rfl pl28 rfl (Ld.blk 1 rfl rfl)) ?_
      refine O.p rfl rfl rfl (Pu.len rfl Try.underlying28 rfl) ?_
      refine O.p rfl rfl rfl (Pu.lss rfl rfl rfl) ?_
      refine O.nil ?_
      refine X.next ?_
      refine V.condD rfl (fun c3 => ?_) (fun c3 => ?_)
      · skip
        refine V.skip ?_
        refine X.next ?_
        refine V.seq ?_
        refine V.block ?_
        refine V.region ?_
        refine O.p rfl rfl rfl (Pu.move rfl rfl) ?_
        refine O.p rfl rfl rfl (Pu.move rfl rfl) ?_
        refine O.splitB 26 rfl (fun c4 => ?_) (fun c4 => ?_)
        · skip
          subst c4
          refine O.gs rfl rfl rfl rfl rfl rfl ?_
          refine O.gs rfl rfl rfl rfl rfl rfl ?_
          refine O.gs rfl rfl rfl rfl rfl rfl ?_
          refine O.gs rfl rfl rfl rfl rfl rfl ?_
          refine O.gs rfl rfl rfl rfl rfl rfl ?_
          refine O.gs rfl rfl rfl rfl rfl rfl ?_
          refine O.gs rfl rfl rfl rfl rfl rfl ?_
          refine O.p rfl rfl rfl (Pu.pickT rfl rfl rfl) ?_
          refine O.p rfl rfl rfl (Pu.assign rfl rfl) ?_
          refine O.nil ?_
          refine X.blockNormal ?_
          refine X.next ?_
          refine V.region ?_
          refine O.p rfl rfl rfl (Pu.move rfl rfl) ?_
          refine O.p rfl rfl rfl (Pu.add64 (r := ((i + 1 : Nat) : Int)) rfl (by omega) rfl rfl rfl) ?_
          refine O.p rfl rfl rfl (Pu.assign rfl rfl) ?_
          refine O.nil ?_
          exact X.back3 (true, i + 1) (by (try dsimp only); exact ⟨by omega, by rw [take_snoc (by omega)]; exact (decide_eq_true (by obtain ⟨b, hb, h⟩ := of_decide_eq_true hz.symm; exact ⟨b, List.mem_append.2 (.inl hb), h⟩)).symm⟩) (by first | omega | (dsimp only; omega)) (Ent.cons rfl (Ent.cons rfl (Ent.nil _))) (Ent.cons (t := 1) rfl (Ent.cons (t := 4) rfl (Ent.cons (t := 5) rfl (Ent.nil _)))) (Sub.keep 0 rfl (Sub.keep 0 rfl (Sub.nil _)))
        · skip
          subst c4
          refine O.gp rfl rfl rfl rfl rfl (Pu.fieldAddr 1 rfl Try.underlying54 rfl sz28 rfl rfl) ?_
          refine O.gp rfl rfl rfl rfl rfl (Pu.load rfl pl28 rfl (Ld.blk 1 rfl rfl)) ?_
          refine O.gp rfl rfl rfl rfl rfl (Pu.move rfl rfl) ?_
          refine O.gp rfl rfl rfl rfl rfl (Pu.indexAddr (i) rfl Try.underlying28 sz75 rfl rfl (by omega) (by omega) (ho.some (by omega))) ?_
          have e1 : i < os.length := by omega
          refine O.gp rfl rfl rfl rfl rfl (Pu.loadAgg' (v := B3.v (os[i]'e1)) rfl rfl ag75 sz75 rfl rfl (Ld.rds (Ld.old ho) (k := i) e1 rfl)) ?_
          refine O.gp rfl rfl rfl rfl rfl (Pu.move rfl rfl) ?_
          refine O.ge rfl rfl rfl rfl rfl (Ef.callP call95 rfl rfl (fun w hw => l01With_ok (os[i]'e1) _ w)) ?_
          rintro _ _ ⟨rfl, rfl⟩
          refine O.p rfl rfl rfl (Pu.pickF rfl rfl rfl) ?_
          refine O.p rfl rfl rfl (Pu.assign rfl rfl) ?_
          refine O.nil ?_
          refine X.blockNormal ?_
          refine X.next ?_
          refine V.region ?_
          refine O.p rfl rfl rfl (Pu.move rfl rfl) ?_
          refine O.p rfl rfl rfl (Pu.add64 (r := ((i + 1 : Nat) : Int)) rfl (by omega) rfl rfl rfl) ?_
          refine O.p rfl rfl rfl (Pu.assign rfl rfl) ?_
          refine O.nil ?_
          exact X.back3 (_, i + 1) (by (try dsimp only); exact ⟨by omega, by rw [take_snoc (by omega)]; exact decide_eq_decide.2 ⟨fun h => ⟨_, List.mem_append.2 (.inr (List.mem_singleton.2 rfl)), h⟩, fun ⟨b, hb, h⟩ => by rcases List.mem_append.1 hb with hb | hb; (· exact absurd ⟨b, hb, h⟩ (of_decide_eq_false hz.symm)); (· rw [List.mem_singleton] at hb; subst hb; exact h)⟩⟩) (by first | omega | (dsimp only; omega)) (Ent.cons rfl (Ent.cons rfl (Ent.nil _))) (Ent.cons (t := 1) rfl (Ent.cons (t := 4) rfl (Ent.cons (t := 5) rfl (Ent.nil _)))) (Sub.keep 0 rfl (Sub.keep 0 rfl (Sub.nil _)))
      · skip
        refine V.exit ?_
        refine X.thenExit ?_
        refine X.thenExit ?_
        refine X.blockHit ?_
        refine X.next ?_
        refine V.seq ?_
        refine V.region ?_
        refine O.p rfl rfl rfl (Pu.move rfl rfl) ?_
        refine O.nil ?_
        refine X.next ?_
        refine V.cond rfl (fun c5 => ?_) (fun c5 => ?_)
        · skip
          subst c5
          refine V.region ?_
          refine O.p rfl rfl rfl (Pu.move rfl rfl) ?_
          refine O.p rfl rfl rfl (Pu.move rfl rfl) ?_
          refine O.e rfl rfl rfl (Ef.build I64 ([(↑p : Int)] : List Int) rfl Try.underlying43 inf2 rfl rfl rfl (by first | decide | (simp; done)) (by kernel_rfl)) ?_
          rintro _ _ ⟨A2, hA2, rfl, rfl⟩
          refine O.e rfl rfl rfl (Ef.append (xs := out) (ys := ([(↑p : Int)] : List Int)) 1 rfl Try.underlying43 inf2 rfl rfl rfl rfl rfl rfl hA2 (Ld.own 0 (by exact rfl)) (by simp only [List.length_append, List.length_cons, List.length_nil] at *; omega) (by decide)) ?_
          rintro _ _ ⟨A3, k1, rfl, rfl, hA3⟩
          replace hA3 := hA3 (.inr (by simp))
          refine O.p rfl rfl rfl (Pu.assign rfl rfl) ?_
          refine O.nil ?_
          refine X.blockNormal ?_
          refine X.next ?_
          refine V.region ?_
          refine O.p rfl rfl rfl (Pu.move rfl rfl) ?_
          refine O.p rfl rfl rfl (Pu.add64 (r := ((p + 1 : Nat) : Int)) rfl (by omega) rfl rfl rfl) ?_
          refine O.p rfl rfl rfl (Pu.assign rfl rfl) ?_
          refine O.nil ?_
          exact X.back3 (A3, k1, (out ++ ([(↑p : Int)] : List Int)), p + 1) (by (try dsimp only); exact ⟨by omega, by rw [ho_]; exact (ptsB_yes (by rw [List.take_of_length_le (by omega)] at hz; exact of_decide_eq_true hz.symm)).symm⟩) (by first | omega | (dsimp only; omega)) (Ent.cons rfl (Ent.cons rfl (Ent.nil _))) (Ent.cons (t := 1) rfl (Ent.nil _)) (Sub.keep 1 rfl (Sub.keep 1 rfl (Sub.nil _)))
        · skip
          subst c5
          refine V.skip ?_
          refine X.blockNormal ?_
          refine X.next ?_
          refine V.region ?_
          refine O.p rfl rfl rfl (Pu.move rfl rfl) ?_
          refine O.p rfl rfl rfl (Pu.add64 (r := ((p + 1 : Nat) : Int)) rfl (by omega) rfl rfl rfl) ?_
          refine O.p rfl rfl rfl (Pu.assign rfl rfl) ?_
          refine O.nil ?_
          exact X.back3 (outA, outc, out, p + 1) (by (try dsimp only); exact ⟨by omega, by rw [ho_]; exact (ptsB_no (by rw [List.take_of_length_le (by omega)] at hz; exact of_decide_eq_false hz.symm)).symm⟩) (by first | omega | (dsimp only; omega)) (Ent.cons rfl (Ent.cons rfl (Ent.nil _))) (Ent.cons (t := 1) rfl (Ent.nil _)) (Sub.keep 0 rfl (Sub.keep 0 rfl (Sub.nil _)))
    · skip
      refine V.exit ?_
      refine X.thenExit ?_
      refine X.thenExit ?_
      refine X.blockHit ?_
      refine X.next ?_
      refine V.seq ?_
      refine V.region ?_
      refine O.p rfl rfl rfl (Pu.move rfl rfl) ?_
      refine O.p rfl rfl rfl (Pu.assign rfl rfl) ?_
      refine O.p rfl rfl rfl (Pu.assign rfl rfl) ?_
      refine O.nil ?_
      refine X.next ?_
      refine V.ret ?_
      refine X.ret2 rfl rfl rfl ?_
      exact fun w hw => St.mkExi outA (St.mkExi outc (St.mkExi out (St.unsep (St.addPur ⟨(by rw [if_pos c1]), (by exact ⟨fun _ => by rw [ho_, show p = v.toNat by omega], fun h => absurd c1 h⟩)⟩ (hw.sub (Sub.keep 0 rfl (Sub.nil _)))))))
set_option maxRecDepth 100000 in
theorem szTrade_ok (v left : Int) (os ns : List B3) (A1 A2 : Option Addr) (k1 k2 : Nat) (w : World) (hl : 0 ≤ left ∧ left ≤ 4611686018427387904) (lx : os.length ≤ 9223372036854775807) (ly : ns.length ≤ 9223372036854775807) : Does Try.prog 40 [.agg #[.int .i64 v, .slice A1 os.length k1, .slice A2 ns.length k2], .int .i64 left] w [] (fun rv => [.pur (rv = .int .i64 (if roomLeft os.length left < 0 then -1 else roomLeft ns.length (roomLeft os.length left)))]) := by
  refine Does.enter Try.func40 rfl rfl [(0, .agg #[.int .i64 v, .slice A1 os.length k1, .slice A2 ns.length k2]), (1, .int .i64 left)] rfl ?_
  refine V.seq ?_
  refine V.region ?_
  refine O.e rfl rfl rfl (Ef.box rfl rfl rfl) ?_
  rintro _ _ ⟨b1, rfl, rfl⟩
  refine O.p rfl rfl rfl (Pu.assign rfl rfl) ?_
  refine O.nil ?_
  refine X.next ?_
  refine V.seq ?_
  refine V.region ?_
  refine O.p rfl rfl rfl (Pu.fieldAddr 1 rfl Try.underlying50 rfl sz22 rfl rfl) ?_
  refine O.p rfl rfl rfl (Pu.load rfl pl22 rfl (Ld.blk 0 rfl rfl)) ?_
  refine O.p rfl rfl rfl (Pu.move rfl rfl) ?_
  refine O.e rfl rfl rfl (Ef.callP call56 rfl rfl (fun w hw => szBlockS_ok os _ _ _ w (by omega) (by omega))) ?_
  rintro _ _ ⟨rfl, rfl⟩
  refine O.p rfl rfl rfl (Pu.assign rfl rfl) ?_
  refine O.nil ?_
  refine X.next ?_
  refine V.seq ?_
  refine V.seq ?_
  refine V.region ?_
  refine O.p rfl rfl rfl (Pu.move rfl rfl) ?_
  refine O.p rfl rfl rfl (Pu.lss rfl rfl rfl) ?_
  refine O.nil ?_
  refine X.next ?_
  refine V.condD rfl (fun c1 => ?_) (fun c1 => ?_)
  · skip
    refine V.seq ?_
    refine V.region ?_
    refine O.p rfl rfl rfl (Pu.assign rfl rfl) ?_
    refine O.nil ?_
    refine X.next ?_
    refine V.ret ?_
    refine X.thenRet ?_
    refine X.ret1 rfl rfl ?_
    exact fun w hw => St.retP (iv (by rw [if_pos c1])) hw
  · skip
    have hb_ : roomLeft os.length left ≤ left := by unfold roomLeft; split <;> omega
    refine V.skip ?_
    refine X.next ?_
    refine V.seq ?_
    refine V.region ?_
    refine O.p rfl rfl rfl (Pu.fieldAddr 2 rfl Try.underlying50 rfl sz22 rfl rfl) ?_
    refine O.p rfl rfl rfl (Pu.load rfl pl22 rfl (Ld.blk 0 rfl rfl)) ?_
    refine O.p rfl rfl rfl (Pu.move rfl rfl) ?_
    refine O.e rfl rfl rfl (Ef.callP call56 rfl rfl (fun w hw => szBlockS_ok ns _ _ _ w (by omega) (by omega))) ?_
    rintro _ _ ⟨rfl, rfl⟩
    refine O.p rfl rfl rfl (Pu.assign rfl rfl) ?_
    refine O.nil ?_
    refine X.next ?_
    refine V.seq ?_
    refine V.seq ?_
    refine V.region ?_
    refine O.p rfl rfl rfl (Pu.move rfl rfl) ?_
    refine O.p rfl rfl rfl (Pu.lss rfl rfl rfl) ?_
    refine O.nil ?_
    refine X.next ?_
    refine V.condD rfl (fun c2 => ?_) (fun c2 => ?_)
    · skip
      refine V.seq ?_
      refine V.region ?_
      refine O.p rfl rfl rfl (Pu.assign rfl rfl) ?_
      refine O.nil ?_
      refine X.next ?_
      refine V.ret ?_
      refine X.thenRet ?_
      refine X.ret1 rfl rfl ?_
      exact fun w hw => St.retP (iv (by rw [if_neg c1]; exact roomLeft_neg c2)) hw
    · skip
      refine V.skip ?_
      refine X.next ?_
      refine V.seq ?_
      refine V.region ?_
      refine O.p rfl rfl rfl (Pu.move rfl rfl) ?_
      refine O.p rfl rfl rfl (Pu.assign rfl rfl) ?_
      refine O.nil ?_
      refine X.next ?_
      refine V.ret ?_
      refine X.ret1 rfl rfl ?_
      exact fun w hw => St.retP (iv (by rw [if_neg c1])) hw
set_option maxRecDepth 100000 in
theorem toTrade_ok (v : Int) (os ns : List B3) (A1 A2 : Option Addr) (k1 k2 : Nat) (w : World) (ho : Rd B3C w A1 os) (hs : Rd B3C w A2 ns) (lx : os.length ≤ 1099511627776) (ly : ns.length ≤ 1099511627776) : Does Try.prog 42 [.agg #[.int .i64 v, .slice A1 os.length k1, .slice A2 ns.length k2]] w [] (fun rv => [.exi fun p : Option Addr × Option Addr => .sep (.pur (p.1.isSome = true ∧ p.2.isSome = true ∧ rv = .agg #[.int .i64 v, .slice p.1 os.length os.length, .slice p.2 ns.length ns.length])) (.sep (Own 75 B3C p.1 os.length os) (Own 75 B3C p.2 ns.length ns))]) := by
  refine Does.enter Try.func42 rfl rfl [(0, .agg #[.int .i64 v, .slice A1 os.length k1, .slice A2 ns.length k2])] rfl ?_
  refine V.seq ?_
  refine V.region ?_
  refine O.e rfl rfl rfl (Ef.box rfl rfl rfl) ?_
  rintro _ _ ⟨b1, rfl, rfl⟩
  refine O.e rfl rfl rfl (Ef.alloc rfl zr54 rfl) ?_
  rintro _ _ ⟨b2, rfl, rfl⟩
  refine O.nil ?_
  refine X.next ?_
  refine V.seq ?_
  refine V.region ?_
  refine O.e rfl rfl rfl (Ef.alloc rfl zr54 rfl) ?_
  rintro _ _ ⟨b3, rfl, rfl⟩
  refine O.nil ?_
  refine X.next ?_
  refine V.seq ?_
  refine V.region ?_
  refine O.p rfl rfl rfl (Pu.fieldAddr 0 rfl Try.underlying50 rfl sz2 rfl rfl) ?_
  refine O.p rfl rfl rfl (Pu.load rfl pl2 rfl (Ld.blk 2 rfl rfl)) ?_
  refine O.p rfl rfl rfl (Pu.fieldAddr 0 rfl Try.underlying54 rfl sz2 rfl rfl) ?_
  refine O.s rfl rfl (Ef.store1 (cs' := [_, _, _]) 0 rfl sz2 rfl rfl rfl rfl rfl (ltb rfl) rfl) ?_
  rintro _ _ rfl
  refine O.nil ?_
  refine X.next ?_
  refine V.seq ?_
  refine V.region ?_
  refine O.p rfl rfl rfl (Pu.fieldAddr 1 rfl Try.underlying50 rfl sz22 rfl rfl) ?_
  refine O.p rfl rfl rfl (Pu.load rfl pl22 rfl (Ld.blk 2 rfl rfl)) ?_
  refine O.e rfl rfl rfl (Ef.call1 call58 rfl rfl (fun w hw => toBlockS_ok os _ _ w ((Ld.old ho) w hw) (by omega))) ?_
  rintro _ _ rfl
  refine O.exi (fun D1 => ?_)
  refine O.sep ?_
  refine O.pur ?_
  rintro ⟨hD1, rfl⟩
  refine O.p rfl rfl rfl (Pu.fieldAddr 1 rfl Try.underlying54 rfl sz28 rfl rfl) ?_
  refine O.s rfl rfl (Ef.store1 (cs' := [_, _, _]) 1 rfl sz28 rfl rfl rfl rfl rfl (ltb rfl) rfl) ?_
  rintro _ _ rfl
  refine O.nil ?_
  refine X.next ?_
  refine V.seq ?_
  refine V.region ?_
  refine O.p rfl rfl rfl (Pu.fieldAddr 2 rfl Try.underlying50 rfl sz22 rfl rfl) ?_
  refine O.p rfl rfl rfl (Pu.load rfl pl22 rfl (Ld.blk 3 rfl rfl)) ?_
  refine O.e rfl rfl rfl (Ef.call1 call58 rfl rfl (fun w hw => toBlockS_ok ns _ _ w ((Ld.old hs) w hw) (by omega))) ?_
  rintro _ _ rfl
  refine O.exi (fun D2 => ?_)
  refine O.sep ?_
  refine O.pur ?_
  rintro ⟨hD2, rfl⟩
  refine O.p rfl rfl rfl (Pu.fieldAddr 2 rfl Try.underlying54 rfl sz28 rfl rfl) ?_
  refine O.s rfl rfl (Ef.store1 (cs' := [_, _, _]) 2 rfl sz28 rfl rfl rfl rfl rfl (ltb rfl) rfl) ?_
  rintro _ _ rfl
  refine O.nil ?_
  refine X.next ?_
  refine V.seq ?_
  refine V.region ?_
  refine O.p rfl rfl rfl (Pu.loadAgg rfl ag54 sz54 rfl rfl (Ld.whole 2 rfl)) ?_
  refine O.s rfl rfl (Ef.storeAll 3 rfl sz54 rfl rfl rfl rfl (by simp [Value.oneCell']) rfl) ?_
  rintro _ _ rfl
  refine O.nil ?_
  refine X.next ?_
  refine V.ret ?_
  refine X.retCell rfl ag54 sz54 rfl rfl (Ld.whole 3 rfl) ?_
  exact fun w hw => St.retX (D1, D2) ⟨hD1, hD2, rfl⟩ (St.unsep (hw.sub (Sub.keep 1 rfl (Sub.keep 0 rfl (Sub.nil _)))))
set_option maxRecDepth 100000 in
theorem eqTrade_ok (v u : Int) (xs ys zs ts : List B3) (A1 A2 B1 B2 : Option Addr) (k1 k2 k3 k4 : Nat) (w : World) (hx : Rd B3C w A1 xs) (hy : Rd B3C w A2 ys) (hz : Rd B3C w B1 zs) (ht : Rd B3C w B2 ts) (lx : xs.length ≤ 4611686018427387904) (ly : ys.length ≤ 4611686018427387904) (lz : zs.length ≤ 4611686018427387904) (lt : ts.length ≤ 4611686018427387904) : Does Try.prog 44 [.agg #[.int .i64 v, .slice A1 xs.length k1, .slice A2 ys.length k2], .agg #[.int .i64 u, .slice B1 zs.length k3, .slice B2 ts.length k4]] w [] (fun rv => [.pur (rv = .bool (decide (v = u ∧ xs = zs ∧ ys = ts)))]) := by
  refine Does.enter Try.func44 rfl rfl [(0, .agg #[.int .i64 v, .slice A1 xs.length k1, .slice A2 ys.length k2]), (1, .agg #[.int .i64 u, .slice B1 zs.length k3, .slice B2 ts.length k4])] rfl ?_
  refine V.seq ?_
  refine V.region ?_
  refine O.e rfl rfl rfl (Ef.box rfl rfl rfl) ?_
  rintro _ _ ⟨b1, rfl, rfl⟩
  refine O.e rfl rfl rfl (Ef.box rfl rfl rfl) ?_
  rintro _ _ ⟨b2, rfl, rfl⟩
  refine O.p rfl rfl rfl (Pu.assign rfl rfl) ?_
  refine O.nil ?_
  refine X.next ?_
  refine V.seq ?_
  refine V.seq ?_
  refine V.region ?_
  refine O.p rfl rfl rfl (Pu.fieldAddr 0 rfl Try.underlying54 rfl sz2 rfl rfl) ?_
  refine O.p rfl rfl rfl (Pu.load rfl pl2 rfl (Ld.blk 1 rfl rfl)) ?_
  refine O.p rfl rfl rfl (Pu.fieldAddr 0 rfl Try.underlying54 rfl sz2 rfl rfl) ?_
  refine O.p rfl rfl rfl (Pu.load rfl pl2 rfl (Ld.blk 0 rfl rfl)) ?_
  refine O.p rfl rfl rfl (Pu.neq rfl rfl rfl) ?_
  refine O.nil ?_
  refine X.next ?_
  refine V.condNot rfl (fun c1 => ?_) (fun c1 => ?_)
  · skip
    refine V.seq ?_
    refine V.region ?_
    refine O.p rfl rfl rfl (Pu.assign rfl rfl) ?_
    refine O.nil ?_
    refine X.next ?_
    refine V.ret ?_
    refine X.thenRet ?_
    refine X.ret1 rfl rfl ?_
    exact fun w hw => St.retP (boolF (fun h => c1 h.1)) hw
  · skip
    refine V.skip ?_
    refine X.next ?_
    refine V.seq ?_
    refine V.seq ?_
    refine V.region ?_
    refine O.p rfl rfl rfl (Pu.fieldAddr 1 rfl Try.underlying54 rfl sz28 rfl rfl) ?_
    refine O.p rfl rfl rfl (Pu.load rfl pl28 rfl (Ld.blk 1 rfl rfl)) ?_
    refine O.p rfl rfl rfl (Pu.fieldAddr 1 rfl Try.underlying54 rfl sz28 rfl rfl) ?_
    refine O.p rfl rfl rfl (Pu.load rfl pl28 rfl (Ld.blk 0 rfl rfl)) ?_
    refine O.e rfl rfl rfl (Ef.callP call60 rfl rfl (fun w hw => eqBlockS_ok xs zs _ _ _ _ w ((Ld.old hx) w hw) ((Ld.old hz) w hw) (by omega) (by omega))) ?_
    rintro _ _ ⟨rfl, rfl⟩
    refine O.p rfl rfl rfl (Pu.not rfl rfl) ?_
    refine O.nil ?_
    refine X.next ?_
    refine V.condNot rfl (fun c2 => ?_) (fun c2 => ?_)
    · skip
      refine V.seq ?_
      refine V.region ?_
      refine O.p rfl rfl rfl (Pu.assign rfl rfl) ?_
      refine O.nil ?_
      refine X.next ?_
      refine V.ret ?_
      refine X.thenRet ?_
      refine X.ret1 rfl rfl ?_
      exact fun w hw => St.retP (boolF (fun h => c2 h.2.1)) hw
    · skip
      refine V.skip ?_
      refine X.next ?_
      refine V.seq ?_
      refine V.seq ?_
      refine V.region ?_
      refine O.p rfl rfl rfl (Pu.fieldAddr 2 rfl Try.underlying54 rfl sz28 rfl rfl) ?_
      refine O.p rfl rfl rfl (Pu.load rfl pl28 rfl (Ld.blk 1 rfl rfl)) ?_
      refine O.p rfl rfl rfl (Pu.fieldAddr 2 rfl Try.underlying54 rfl sz28 rfl rfl) ?_
      refine O.p rfl rfl rfl (Pu.load rfl pl28 rfl (Ld.blk 0 rfl rfl)) ?_
      refine O.e rfl rfl rfl (Ef.callP call60 rfl rfl (fun w hw => eqBlockS_ok ys ts _ _ _ _ w ((Ld.old hy) w hw) ((Ld.old ht) w hw) (by omega) (by omega))) ?_
      rintro _ _ ⟨rfl, rfl⟩
      refine O.p rfl rfl rfl (Pu.not rfl rfl) ?_
      refine O.nil ?_
      refine X.next ?_
      refine V.condNot rfl (fun c3 => ?_) (fun c3 => ?_)
      · skip
        refine V.seq ?_
        refine V.region ?_
        refine O.p rfl rfl rfl (Pu.assign rfl rfl) ?_
        refine O.nil ?_
        refine X.next ?_
        refine V.ret ?_
        refine X.thenRet ?_
        refine X.ret1 rfl rfl ?_
        exact fun w hw => St.retP (boolF (fun h => c3 h.2.2)) hw
      · skip
        refine V.skip ?_
        refine X.next ?_
        refine V.seq ?_
        refine V.region ?_
        refine O.p rfl rfl rfl (Pu.assign rfl rfl) ?_
        refine O.nil ?_
        refine X.next ?_
        refine V.ret ?_
        refine X.ret1 rfl rfl ?_
        exact fun w hw => St.retP (boolT ⟨c1, c2, c3⟩) hw
set_option maxRecDepth 100000 in
theorem markTrade_ok (p1 : Int) (xs ys : List B3) (m : Int) (A1 A2 : Option Addr) (k1 k2 : Nat) (w0 : World) (H : List Assn) (hm : 0 ≤ m ∧ m ≤ 1000000000) (lx : xs.length ≤ 1048576) (ly : ys.length ≤ 1048576) : Does Try.prog 45 [.agg #[.int .i64 p1, .slice A1 xs.length k1, .slice A2 ys.length k2], .int .i64 m] w0 (Own 75 B3C A1 k1 xs :: Own 75 B3C A2 k2 ys :: H) (fun v => .pur (v = .int .i64 (m + 3 * xs.length + 3 * ys.length)) :: Own 75 B3C A1 k1 (marksB m xs.length) :: Own 75 B3C A2 k2 (marksB (m + 3 * xs.length) ys.length) :: H) := by
  refine Does.enter Try.func45 rfl rfl [(0, .agg #[.int .i64 p1, .slice A1 xs.length k1, .slice A2 ys.length k2]), (1, .int .i64 m)] rfl ?_
  refine V.seq ?_
  refine V.region ?_
  refine O.e rfl rfl rfl (Ef.box rfl rfl rfl) ?_
  rintro _ _ ⟨b1, rfl, rfl⟩
  refine O.p rfl rfl rfl (Pu.assign rfl rfl) ?_
  refine O.nil ?_
  refine X.next ?_
  refine V.seq ?_
  refine V.region ?_
  refine O.p rfl rfl rfl (Pu.fieldAddr 1 rfl Try.underlying54 rfl sz28 rfl rfl) ?_
  refine O.p rfl rfl rfl (Pu.load rfl pl28 rfl (Ld.blk 0 rfl rfl)) ?_
  refine O.p rfl rfl rfl (Pu.move rfl rfl) ?_
  refine O.e rfl rfl rfl (Ef.callM 1 call78 rfl rfl rfl (fun H _ => markBlockX_ok _ _ _ _ _ H (by omega) (by omega))) ?_
  rintro _ _ ⟨rfl, rfl⟩
  refine O.p rfl rfl rfl (Pu.assign rfl rfl) ?_
  refine O.nil ?_
  refine X.next ?_
  refine V.seq ?_
  refine V.region ?_
  refine O.p rfl rfl rfl (Pu.fieldAddr 2 rfl Try.underlying54 rfl sz28 rfl rfl) ?_
  refine O.p rfl rfl rfl (Pu.load rfl pl28 rfl (Ld.blk 0 rfl rfl)) ?_
  refine O.p rfl rfl rfl (Pu.move rfl rfl) ?_
  refine O.e rfl rfl rfl (Ef.callM 2 call78 rfl rfl rfl (fun H _ => markBlockX_ok _ _ _ _ _ H (by omega) (by omega))) ?_
  rintro _ _ ⟨rfl, rfl⟩
  refine O.p rfl rfl rfl (Pu.assign rfl rfl) ?_
  refine O.nil ?_
  refine X.next ?_
  refine V.seq ?_
  refine V.region ?_
  refine O.p rfl rfl rfl (Pu.move rfl rfl) ?_
  refine O.p rfl rfl rfl (Pu.assign rfl rfl) ?_
  refine O.nil ?_
  refine X.next ?_
  refine V.ret ?_
  refine X.ret1 rfl rfl ?_
  exact fun w hw => St.addPur rfl (hw.sub (Sub.keep 1 rfl (Sub.keep 1 rfl (Sub.drop (Sub.refl _)))))
end Go.Proofs.Ytjpfngmoabnffaa
