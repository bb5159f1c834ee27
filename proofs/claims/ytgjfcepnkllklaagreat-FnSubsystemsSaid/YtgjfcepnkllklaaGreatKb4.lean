/-
  Contracts, part 4.
-/
import Derived.Test.YtgjfcepnkllklaaGreatKb3
set_option linter.unusedVariables false
set_option linter.unusedSimpArgs false
namespace Go.Proofs.YtgjfcepnkllklaaGreat
open Go Go.RowKit Go.Vc Go.Proofs
set_option maxRecDepth 100000 in
set_option maxHeartbeats 1000000 in
theorem l01Sort_ok (blocks : List B3) (blocksA : Option Addr) (blocksc : Nat) (w : World) (hblocks : Rd B3C w blocksA blocks) (lblocks : blocks.length ≤ 1099511627776) (lb : blocks.length ≤ 1000000) : Does Tryz.prog 240 [.slice blocksA blocks.length blocksc] w [] (fun rv_ => [.exi fun (rA : Option Addr) => .exi fun (rc : Nat) => .exi fun (r : List B3) => .sep (.pur (rv_ = .slice rA r.length rc ∧ r.Perm blocks ∧ SrtB r)) (Own 51 B3C rA rc r)]) := by
  refine Does.enter Tryz.func240 rfl rfl [(0, .slice blocksA blocks.length blocksc)] rfl ?_
  refine V.seq ?_
  refine V.region ?_
  refine O.p rfl rfl rfl (Pu.assign rfl rfl) ?_
  refine O.nil ?_
  refine X.next ?_
  refine V.seq ?_
  refine V.region ?_
  refine O.e rfl rfl rfl (Ef.build B3C ([] : List B3) rfl Tryz.underlying24 inf51 rfl rfl rfl (by first | decide | (simp; done)) (by kernel_rfl)) ?_
  rintro _ _ ⟨A1, hA1, rfl, rfl⟩
  refine O.p rfl rfl rfl (Pu.assign rfl rfl) ?_
  refine O.nil ?_
  refine X.next ?_
  refine V.seq ?_
  refine V.seq ?_
  refine V.region ?_
  refine O.p rfl rfl rfl (Pu.assign rfl rfl) ?_
  refine O.nil ?_
  refine X.next ?_
  refine V.block ?_
  refine V.loop2 (β := (Option Addr) × Nat × (List B3) × Nat) (fun x => [(3, .slice x.1 x.2.2.1.length x.2.1), (4, .int .i64 (x.2.2.2 : Int))]) _ (fun x => [Own 51 B3C x.1 x.2.1 x.2.2.1]) (fun x => x.2.2.2 ≤ blocks.length ∧ x.2.2.1.Perm (blocks.take x.2.2.2) ∧ SrtB x.2.2.1) (fun x => blocks.length - x.2.2.2) (A1, 0, ([] : List B3), 0) (by (try dsimp only); exact ⟨by omega, by simp, List.Pairwise.nil⟩) (Ent.cons rfl (Ent.cons rfl (Ent.nil _))) (Ent.cons (t := 0) rfl (Ent.nil _)) (Sub.keep 0 rfl (Sub.nil _)) ?_
  rintro ⟨outA, outc, out, i⟩ ⟨hi, hp, hsr⟩
  dsimp only at hi hp hsr ⊢
  have hol : out.length = i := by rw [hp.length_eq, List.length_take]; omega
  refine V.seq ?_
  refine V.seq ?_
  refine V.region ?_
  refine O.p rfl rfl rfl (Pu.move rfl rfl) ?_
  refine O.p rfl rfl rfl (Pu.move rfl rfl) ?_
  refine O.p rfl rfl rfl (Pu.len rfl Tryz.underlying24 rfl) ?_
  refine O.p rfl rfl rfl (Pu.lss rfl rfl rfl) ?_
  refine O.nil ?_
  refine X.next ?_
  refine V.condD rfl (fun c1 => ?_) (fun c1 => ?_)
  · skip
    refine V.skip ?_
    refine X.next ?_
    refine V.seq ?_
    refine V.block ?_
    refine V.seq ?_
    refine V.region ?_
    refine O.p rfl rfl rfl (Pu.move rfl rfl) ?_
    refine O.p rfl rfl rfl (Pu.len rfl Tryz.underlying24 rfl) ?_
    refine O.p rfl rfl rfl (Pu.assign rfl rfl) ?_
    refine O.nil ?_
    refine X.next ?_
    refine V.seq ?_
    refine V.region ?_
    refine O.p rfl rfl rfl (Pu.move rfl rfl) ?_
    refine O.p rfl rfl rfl (Pu.move rfl rfl) ?_
    refine O.p rfl rfl rfl (Pu.move rfl rfl) ?_
    refine O.p rfl rfl rfl (Pu.indexAddr (i) rfl Tryz.underlying24 sz51 rfl rfl (by omega) (by omega) (hblocks.some (by omega))) ?_
    have e1 : i < blocks.length := by omega
    refine O.p rfl rfl rfl (Pu.loadAgg' (v := B3.v (blocks[i]'e1)) rfl rfl ag51 sz51 rfl rfl (Ld.rds (Ld.old hblocks) (k := i) e1 rfl)) ?_
    refine O.e rfl rfl rfl (Ef.build B3C ([(blocks[i]'e1)] : List B3) rfl Tryz.underlying24 inf51 rfl rfl rfl (by first | decide | (simp; done)) (by kernel_rfl)) ?_
    rintro _ _ ⟨A2, hA2, rfl, rfl⟩
    refine O.e rfl rfl rfl (Ef.append (xs := out) (ys := ([(blocks[i]'e1)] : List B3)) 1 rfl Tryz.underlying24 inf51 rfl rfl rfl rfl rfl rfl hA2 (Ld.own 0 (by exact rfl)) (by simp only [List.length_append, List.length_cons, List.length_nil] at *; omega) (by decide)) ?_
    rintro _ _ ⟨A3, k1, rfl, rfl, hA3⟩
    replace hA3 := hA3 (.inr (by simp))
    refine O.p rfl rfl rfl (Pu.assign rfl rfl) ?_
    refine O.nil ?_
    refine X.next ?_
    refine V.seq ?_
    refine V.block ?_
    refine V.loop3 (β := Nat × (List B3)) (fun x => [(5, .int .i64 (x.1 : Int))]) _ (fun x => [Own 51 B3C A3 k1 x.2]) _ (fun x => x.1 ≤ out.length ∧ x.2 = shiftAt out (blocks[i]'e1) x.1 ∧ ∀ j (hj : j < out.length), x.1 ≤ j → B3.lt (blocks[i]'e1) out[j]) (fun x => x.1) (out.length, (out ++ ([(blocks[i]'e1)] : List B3))) (by (try dsimp only); exact ⟨by omega, shiftAt_start.symm, fun j hj h => by omega⟩) (Ent.cons rfl (Ent.nil _)) (Ent.cons (t := 0) rfl (Ent.cons (t := 3) rfl (Ent.cons (t := 4) rfl (Ent.nil _)))) (Sub.keep 1 rfl (Sub.keep 0 rfl (Sub.nil _))) ?_
    rintro ⟨y, z⟩ ⟨hy, hz, hz2⟩
    dsimp only at hy hz hz2 ⊢
    have hzl : z.length = out.length + 1 := by rw [hz]; exact shiftAt_len hy
    have hoa : (out ++ [(blocks[i]'e1)]).length = out.length + 1 := by simp
    refine V.seq ?_
    refine V.seq ?_
    refine V.draw mo (by kernel_rfl) (fun hwf => ?_)
    refine D.p 0 rfl rfl rfl rfl rfl rfl (Pu.move rfl rfl) ?_
    refine D.p 1 rfl rfl rfl rfl rfl rfl (Pu.gtr rfl rfl rfl) ?_
    refine D.p 2 rfl rfl rfl rfl rfl rfl (Pu.move rfl rfl) ?_
    refine D.splitD 24 rfl (fun c2 => ?_) (fun c2 => ?_)
    · skip
      refine D.gp 3 rfl rfl rfl rfl rfl rfl rfl rfl (Pu.move rfl rfl) ?_
      refine D.gp 4 rfl rfl rfl rfl rfl rfl rfl rfl (Pu.move rfl rfl) ?_
      refine D.gp 5 rfl rfl rfl rfl rfl rfl rfl rfl (Pu.indexAddr (i) rfl Tryz.underlying24 sz51 rfl rfl (by omega) (by omega) (hblocks.some (by omega))) ?_
      refine D.gp 6 rfl rfl rfl rfl rfl rfl rfl rfl (Pu.loadAgg' (v := B3.v (blocks[i]'e1)) rfl rfl ag51 sz51 rfl rfl (Ld.rds (Ld.old hblocks) (k := i) e1 rfl)) ?_
      refine D.gp 7 rfl rfl rfl rfl rfl rfl rfl rfl (Pu.move rfl rfl) ?_
      refine D.gp 8 rfl rfl rfl rfl rfl rfl rfl rfl (Pu.move rfl rfl) ?_
      refine D.gp 9 rfl rfl rfl rfl rfl rfl rfl rfl (Pu.sub64 (r := ((y - 1 : Nat) : Int)) (by omega) (by omega) rfl rfl rfl) ?_
      refine D.gp 10 rfl rfl rfl rfl rfl rfl rfl rfl (Pu.indexAddrS (y - 1) rfl Tryz.underlying24 sz51 rfl rfl (by omega) (by omega) (fun w hw => Own.some hw (i := 0) (by exact rfl) (by omega))) ?_
      have e2 : y - 1 < z.length := by omega
      refine D.gp 11 rfl rfl rfl rfl rfl rfl rfl rfl (Pu.loadAgg' (v := B3.v (z[y - 1]'e2)) rfl rfl ag51 sz51 rfl rfl (Ld.rds (C := B3C) (Ld.own 0 (by exact rfl)) (k := y - 1) e2 rfl)) ?_
      refine D.geff hwf (e := 12) rfl rfl rfl rfl rfl rfl (Ef.callP call166 rfl rfl (fun w hw => l01Before_ok _ _ _)) rfl rfl rfl ?_
      rintro _ _ ⟨rfl, rfl⟩ hs
      refine ⟨fun w hw => hw, ?_⟩
      refine D.p 13 rfl rfl rfl rfl rfl rfl (Pu.pickT rfl rfl rfl) ?_
      refine D.done hwf rfl ?_
      refine X.next ?_
      refine V.condD rfl (fun c3 => ?_) (fun c3 => ?_)
      · skip
        refine V.skip ?_
        refine X.next ?_
        refine V.block ?_
        refine V.seq ?_
        refine V.region ?_
        refine O.p rfl rfl rfl (Pu.move rfl rfl) ?_
        refine O.p rfl rfl rfl (Pu.move rfl rfl) ?_
        refine O.p rfl rfl rfl (Pu.move rfl rfl) ?_
        refine O.p rfl rfl rfl (Pu.move rfl rfl) ?_
        refine O.p rfl rfl rfl (Pu.sub64 (r := ((y - 1 : Nat) : Int)) (by omega) (by omega) rfl rfl rfl) ?_
        refine O.p rfl rfl rfl (Pu.indexAddrS (y - 1) rfl Tryz.underlying24 sz51 rfl rfl (by omega) (by omega) (fun w hw => Own.some hw (i := 0) (by exact rfl) (by omega))) ?_
        refine O.p rfl rfl rfl (Pu.loadAgg' (v := B3.v (z[y - 1]'e2)) rfl rfl ag51 sz51 rfl rfl (Ld.rds (C := B3C) (Ld.own 0 (by exact rfl)) (k := y - 1) e2 rfl)) ?_
        refine O.p rfl rfl rfl (Pu.indexAddrS (y) rfl Tryz.underlying24 sz51 rfl rfl (by omega) (by omega) (fun w hw => Own.some hw (i := 0) (by exact rfl) (by omega))) ?_
        refine O.s rfl rfl (Ef.storeOwn 0 (y) (z[y - 1]'e2) rfl sz51 rfl rfl rfl rfl (by omega) rfl) ?_
        rintro _ _ rfl
        refine O.nil ?_
        refine X.next ?_
        refine V.region ?_
        refine O.p rfl rfl rfl (Pu.move rfl rfl) ?_
        refine O.p rfl rfl rfl (Pu.sub64 (r := ((y - 1 : Nat) : Int)) (by omega) (by omega) rfl rfl rfl) ?_
        refine O.p rfl rfl rfl (Pu.assign rfl rfl) ?_
        refine O.nil ?_
        refine X.blockNormal ?_
        exact X.back3 (y - 1, (z.set (y) (z[y - 1]'e2))) (by (try dsimp only); exact ⟨by omega, by subst hz; exact shiftAt_step hy (by omega) _, fun j hj h => by by_cases e : j = y - 1; (· subst e; have e4 : z[y - 1]'(by omega) = out[y - 1]'(by omega) := (by subst hz; exact shiftAt_lt hy (by omega) _); rw [← e4]; exact c3); (· exact hz2 j hj (by omega))⟩) (by first | omega | (dsimp only; omega)) (Ent.cons rfl (Ent.nil _)) (Ent.cons (t := 0) rfl (Ent.cons (t := 3) rfl (Ent.cons (t := 4) rfl (Ent.nil _)))) (Sub.keep 0 rfl (Sub.keep 0 rfl (Sub.nil _)))
      · skip
        refine V.exit ?_
        refine X.thenExit ?_
        refine X.thenExit ?_
        refine X.blockHit ?_
        refine X.next ?_
        refine V.region ?_
        refine O.p rfl rfl rfl (Pu.move rfl rfl) ?_
        refine O.p rfl rfl rfl (Pu.move rfl rfl) ?_
        refine O.p rfl rfl rfl (Pu.move rfl rfl) ?_
        refine O.p rfl rfl rfl (Pu.move rfl rfl) ?_
        refine O.p rfl rfl rfl (Pu.indexAddr (i) rfl Tryz.underlying24 sz51 rfl rfl (by omega) (by omega) (hblocks.some (by omega))) ?_
        refine O.p rfl rfl rfl (Pu.loadAgg' (v := B3.v (blocks[i]'e1)) rfl rfl ag51 sz51 rfl rfl (Ld.rds (Ld.old hblocks) (k := i) e1 rfl)) ?_
        refine O.p rfl rfl rfl (Pu.indexAddrS (y) rfl Tryz.underlying24 sz51 rfl rfl (by omega) (by omega) (fun w hw => Own.some hw (i := 0) (by exact rfl) (by omega))) ?_
        refine O.s rfl rfl (Ef.storeOwn 0 (y) (blocks[i]'e1) rfl sz51 rfl rfl rfl rfl (by omega) rfl) ?_
        rintro _ _ rfl
        refine O.nil ?_
        refine X.blockNormal ?_
        refine X.next ?_
        refine V.region ?_
        refine O.p rfl rfl rfl (Pu.move rfl rfl) ?_
        refine O.p rfl rfl rfl (Pu.add64 (r := ((i + 1 : Nat) : Int)) rfl (by omega) rfl rfl rfl) ?_
        refine O.p rfl rfl rfl (Pu.assign rfl rfl) ?_
        refine O.nil ?_
        exact X.back2 (A3, k1, (out.take y ++ (blocks[i]'e1) :: out.drop y), i + 1) (by (try dsimp only); exact ⟨by omega, ((ins_perm (y := y)).trans ((hp.append_right _).trans (by rw [take_snoc e1]))), ins_sorted hsr hy hz2 (fun h0 => by have e4 : z[y - 1]'(by omega) = out[y - 1]'(by omega) := (by subst hz; exact shiftAt_lt hy (by omega) _); rw [← e4]; exact c3)⟩) (by first | omega | (dsimp only; omega)) (Ent.cons' rfl (by rw [(ins_perm (y := y)).length_eq]) (Ent.cons rfl (Ent.nil _))) (Ent.cons (t := 0) rfl (Ent.nil _)) (Sub.cons 0 rfl (fun w F h => by rw [hz, shiftAt_done hy] at h; exact h) (Sub.nil _))
    · skip
      refine D.gs 3 rfl rfl rfl rfl rfl rfl rfl rfl rfl ?_
      refine D.gs 4 rfl rfl rfl rfl rfl rfl rfl rfl rfl ?_
      refine D.gs 5 rfl rfl rfl rfl rfl rfl rfl rfl rfl ?_
      refine D.gs 6 rfl rfl rfl rfl rfl rfl rfl rfl rfl ?_
      refine D.gs 7 rfl rfl rfl rfl rfl rfl rfl rfl rfl ?_
      refine D.gs 8 rfl rfl rfl rfl rfl rfl rfl rfl rfl ?_
      refine D.gs 9 rfl rfl rfl rfl rfl rfl rfl rfl rfl ?_
      refine D.gs 10 rfl rfl rfl rfl rfl rfl rfl rfl rfl ?_
      refine D.gs 11 rfl rfl rfl rfl rfl rfl rfl rfl rfl ?_
      refine D.gs 12 rfl rfl rfl rfl rfl rfl rfl rfl rfl ?_
      refine D.p 13 rfl rfl rfl rfl rfl rfl (Pu.pickF rfl rfl rfl) ?_
      refine D.done hwf rfl ?_
      refine X.next ?_
      refine V.condF rfl ?_
      refine V.exit ?_
      refine X.thenExit ?_
      refine X.thenExit ?_
      refine X.blockHit ?_
      refine X.next ?_
      refine V.region ?_
      refine O.p rfl rfl rfl (Pu.move rfl rfl) ?_
      refine O.p rfl rfl rfl (Pu.move rfl rfl) ?_
      refine O.p rfl rfl rfl (Pu.move rfl rfl) ?_
      refine O.p rfl rfl rfl (Pu.move rfl rfl) ?_
      refine O.p rfl rfl rfl (Pu.indexAddr (i) rfl Tryz.underlying24 sz51 rfl rfl (by omega) (by omega) (hblocks.some (by omega))) ?_
      refine O.p rfl rfl rfl (Pu.loadAgg' (v := B3.v (blocks[i]'e1)) rfl rfl ag51 sz51 rfl rfl (Ld.rds (Ld.old hblocks) (k := i) e1 rfl)) ?_
      refine O.p rfl rfl rfl (Pu.indexAddrS (y) rfl Tryz.underlying24 sz51 rfl rfl (by omega) (by omega) (fun w hw => Own.some hw (i := 0) (by exact rfl) (by omega))) ?_
      refine O.s rfl rfl (Ef.storeOwn 0 (y) (blocks[i]'e1) rfl sz51 rfl rfl rfl rfl (by omega) rfl) ?_
      rintro _ _ rfl
      refine O.nil ?_
      refine X.blockNormal ?_
      refine X.next ?_
      refine V.region ?_
      refine O.p rfl rfl rfl (Pu.move rfl rfl) ?_
      refine O.p rfl rfl rfl (Pu.add64 (r := ((i + 1 : Nat) : Int)) rfl (by omega) rfl rfl rfl) ?_
      refine O.p rfl rfl rfl (Pu.assign rfl rfl) ?_
      refine O.nil ?_
      exact X.back2 (A3, k1, (out.take y ++ (blocks[i]'e1) :: out.drop y), i + 1) (by (try dsimp only); exact ⟨by omega, ((ins_perm (y := y)).trans ((hp.append_right _).trans (by rw [take_snoc e1]))), ins_sorted hsr hy hz2 (fun h0 => by omega)⟩) (by first | omega | (dsimp only; omega)) (Ent.cons' rfl (by rw [(ins_perm (y := y)).length_eq]) (Ent.cons rfl (Ent.nil _))) (Ent.cons (t := 0) rfl (Ent.nil _)) (Sub.cons 0 rfl (fun w F h => by rw [hz, shiftAt_done hy] at h; exact h) (Sub.nil _))
  · skip
    refine V.exit ?_
    refine X.thenExit ?_
    refine X.thenExit ?_
    refine X.blockHit ?_
    refine X.next ?_
    refine V.seq ?_
    refine V.region ?_
    refine O.p rfl rfl rfl (Pu.move rfl rfl) ?_
    refine O.p rfl rfl rfl (Pu.assign rfl rfl) ?_
    refine O.nil ?_
    refine X.next ?_
    refine V.ret ?_
    refine X.ret1 rfl rfl ?_
    exact fun w hw => St.mkExi outA (St.mkExi outc (St.mkExi out (St.unsep (St.addPur ⟨rfl, by rw [List.take_of_length_le (by omega)] at hp; exact hp, hsr⟩ (hw.sub (Sub.keep 0 rfl (Sub.nil _)))))))
set_option maxRecDepth 100000 in
set_option maxHeartbeats 1000000 in
theorem l01Made_ok (v_ : Int) (blocks : List B3) (blocksA : Option Addr) (blocksc : Nat) (w : World) (hblocks : Rd B3C w blocksA blocks) (lblocks : blocks.length ≤ 1099511627776) (lb : blocks.length ≤ 1000000) : Does Tryz.prog 199 [.int .i64 v_, .slice blocksA blocks.length blocksc] w [] (fun rv_ => [.exi fun (rA : Option Addr) => .exi fun (rc : Nat) => .exi fun (r : List B3) => .sep (.pur (rv_ = .agg #[.int .i64 v_, .slice rA r.length rc] ∧ r.Perm blocks ∧ SrtB r)) (Own 51 B3C rA rc r)]) := by
  refine Does.enter Tryz.func199 rfl rfl [(0, .int .i64 v_), (1, .slice blocksA blocks.length blocksc)] rfl ?_
  refine V.seq ?_
  refine V.region ?_
  refine O.e rfl rfl rfl (Ef.alloc rfl zr26 rfl) ?_
  rintro _ _ ⟨b1, rfl, rfl⟩
  refine O.nil ?_
  refine X.next ?_
  refine V.seq ?_
  refine V.region ?_
  refine O.p rfl rfl rfl (Pu.move rfl rfl) ?_
  refine O.p rfl rfl rfl (Pu.move rfl rfl) ?_
  refine O.e rfl rfl rfl (Ef.call1 call240 rfl rfl (fun w hw => l01Sort_ok  blocks _ _ w ((Ld.old hblocks) w hw) (by first | omega | (simp only [tops_len, conts_len, bl, List.length_append, List.length_cons, List.length_nil] at *; omega)) (by first | assumption | omega | (try dsimp only at *; omega)))) ?_
  rintro _ _ rfl
  refine O.exi (fun r1A => ?_)
  refine O.exi (fun r1c => ?_)
  refine O.exi (fun r1 => ?_)
  refine O.sep ?_
  refine O.pur ?_
  rintro ⟨rfl, hr1_1, hr1_2⟩
  refine O.p rfl rfl rfl (Pu.buildS (cs := [.int .i64 v_, .slice r1A r1.length r1c]) rfl rfl Tryz.underlying26 zr26 (by kernel_rfl) rfl (by kernel_rfl)) ?_
  refine O.s rfl rfl (Ef.storeAll 1 rfl sz26 rfl rfl rfl rfl (by simp [Value.oneCell']) rfl) ?_
  rintro _ _ rfl
  refine O.nil ?_
  refine X.next ?_
  refine V.ret ?_
  refine X.retCell rfl ag26 sz26 rfl rfl (Ld.whole 1 rfl) ?_
  exact fun w hw => St.mkExi r1A (St.mkExi r1c (St.mkExi r1 (St.unsep (St.addPur ⟨rfl, hr1_1, hr1_2⟩ (hw.sub (Sub.keep 0 rfl (Sub.nil _)))))))
theorem setHasI_ok (m : Nat) (p : Int) (w : World) (hm : m < 32768) (hp : 0 ≤ p ∧ p ≤ 62) : Does Tryz.prog 189 [.int .u64 (m : Int), .int .i64 p] w [] (fun v => [.pur (v = .bool (decide (m.testBit p.toNat = true)))]) := by
  obtain ⟨q, rfl⟩ := Int.eq_ofNat_of_zero_le hp.1
  exact setHas_ok m q w hm (by omega)
set_option maxRecDepth 100000 in
set_option maxHeartbeats 1000000 in
theorem isSubsystem_ok (v : Int) (bs : List B3) (g : Nat) (G : Int → Int → Int) (s : Nat) (w : World) (hg : GridAt w g G 206) (hS : STS v bs) (hG : G = tab bs) (hs : s < 32768) : Does Tryz.prog 107 [.pointer (some ⟨g, 0, none⟩), .int .u64 (s : Int)] w [] (fun r => [.pur (r = .bool (decide (3 ≤ ones s ∧ SubQ bs s)))]) := by
  refine Does.enter Tryz.func107 rfl rfl [(0, .pointer (some ⟨g, 0, none⟩)), (1, .int .u64 (s : Int))] rfl ?_
  refine V.seq ?_
  refine V.region ?_
  refine O.p rfl rfl rfl (Pu.assign rfl rfl) ?_
  refine O.nil ?_
  refine X.next ?_
  refine V.seq ?_
  refine V.region ?_
  refine O.p rfl rfl rfl (Pu.move rfl rfl) ?_
  refine O.e rfl rfl rfl (Ef.call1 call99 rfl rfl (fun w hw => list_ok s w (by omega))) ?_
  rintro _ _ rfl
  refine O.exi (fun p1 => ?_)
  refine O.sep ?_
  refine O.pur ?_
  rintro ⟨rfl, hp1⟩
  have hpl := pts_len s
  rw [← hp1] at hpl
  have hps : p1.2.Pairwise (· < ·) := by rw [hp1]; exact pts_lt s
  refine O.p rfl rfl rfl (Pu.assign rfl rfl) ?_
  refine O.nil ?_
  refine X.next ?_
  refine V.seq ?_
  refine V.seq ?_
  refine V.region ?_
  refine O.p rfl rfl rfl (Pu.move rfl rfl) ?_
  refine O.p rfl rfl rfl (Pu.len rfl Tryz.underlying34 rfl) ?_
  refine O.p rfl rfl rfl (Pu.move rfl rfl) ?_
  refine O.nil ?_
  refine X.next ?_
  refine V.block ?_
  refine V.loop3 (β := Nat) (fun i => [(15, .int .i64 (i : Int))]) _ (fun i => []) _ (fun i => i ≤ p1.2.length ∧ SubI bs s i 0) (fun i => p1.2.length - i) 0 ⟨by omega, subI_zero⟩ (Ent.cons rfl (Ent.nil _)) (Ent.cons (t := 0) rfl (Ent.cons (t := 1) rfl (Ent.cons (t := 5) rfl (Ent.cons (t := 13) rfl (Ent.cons (t := 14) rfl (Ent.nil _)))))) (Sub.keep 0 rfl (Sub.nil _)) ?_
  rintro i ⟨hi, hq1⟩
  refine V.seq ?_
  refine V.region ?_
  refine O.p rfl rfl rfl (Pu.lss rfl rfl rfl) ?_
  refine O.nil ?_
  refine X.next ?_
  refine V.seq ?_
  refine V.condD rfl (fun c1 => ?_) (fun c1 => ?_)
  · skip
    refine V.skip ?_
    refine X.next ?_
    refine V.seq ?_
    refine V.block ?_
    refine V.seq ?_
    refine V.region ?_
    refine O.p rfl rfl rfl (Pu.move rfl rfl) ?_
    refine O.p rfl rfl rfl (Pu.indexAddrS (i) rfl Tryz.underlying34 sz2 rfl rfl (by omega) (by omega) (fun w hw => Own.some hw (i := 0) (by exact rfl) (by omega))) ?_
    have e1 : i < p1.2.length := by omega
    refine O.p rfl rfl rfl (Pu.load rfl pl2 rfl (Ld.rd (Ld.own 0 (by exact rfl)) (k := i) e1 rfl rfl)) ?_
    refine O.p rfl rfl rfl (Pu.assign rfl rfl) ?_
    refine O.p rfl rfl rfl (Pu.assign rfl rfl) ?_
    refine O.nil ?_
    refine X.next ?_
    refine V.seq ?_
    refine V.fact (fun w hw => Own.cap hw (i := 0) rfl) (fun hcap => ?_)
    refine V.region ?_
    refine O.p rfl rfl rfl (Pu.move rfl rfl) ?_
    refine O.p rfl rfl rfl (Pu.move rfl rfl) ?_
    refine O.p rfl rfl rfl (Pu.sliceH i rfl Tryz.underlying34 sz2 rfl rfl (by omega) (by omega)) ?_
    refine O.p rfl rfl rfl (Pu.len rfl Tryz.underlying34 rfl) ?_
    refine O.p rfl rfl rfl (Pu.move rfl rfl) ?_
    refine O.nil ?_
    refine X.next ?_
    refine V.block ?_
    refine V.loop3 (β := Nat) (fun j => [(24, .int .i64 (j : Int))]) _ (fun j => []) _ (fun j => j ≤ i ∧ SubI bs s i j) (fun j => i - j) 0 ⟨by omega, hq1⟩ (Ent.cons rfl (Ent.nil _)) (Ent.cons (t := 0) rfl (Ent.cons (t := 1) rfl (Ent.cons (t := 5) rfl (Ent.cons (t := 7) rfl (Ent.cons (t := 13) rfl (Ent.cons (t := 14) rfl (Ent.cons (t := 15) rfl (Ent.cons (t := 22) rfl (Ent.cons (t := 23) rfl (Ent.nil _)))))))))) (Sub.keep 0 rfl (Sub.nil _)) ?_
    rintro j ⟨hj, hq2⟩
    have htk : (p1.2.take i).length = i := by rw [List.length_take]; omega
    refine V.seq ?_
    refine V.region ?_
    refine O.p rfl rfl rfl (Pu.lss rfl rfl rfl) ?_
    refine O.nil ?_
    refine X.next ?_
    refine V.seq ?_
    refine V.condD rfl (fun c2 => ?_) (fun c2 => ?_)
    · skip
      refine V.skip ?_
      refine X.next ?_
      refine V.seq ?_
      refine V.block ?_
      refine V.seq ?_
      refine V.region ?_
      refine O.p rfl rfl rfl (Pu.indexAddrS (j) rfl Tryz.underlying34 sz2 rfl rfl (by omega) (by omega) (fun w hw => ((Ld.takeK (C := I64) (k := i) (Ld.own 0 (by exact rfl))) w hw).some (by omega))) ?_
      have e2 : j < (p1.2.take i).length := by omega
      refine O.p rfl rfl rfl (Pu.load rfl pl2 rfl (Ld.rd (Ld.takeK (C := I64) (k := i) (Ld.own 0 (by exact rfl))) (k := j) e2 rfl rfl)) ?_
      refine O.p rfl rfl rfl (Pu.assign rfl rfl) ?_
      refine O.nil ?_
      refine X.next ?_
      refine V.seq ?_
      have mi : (p1.2[i]'e1) ∈ pts s := by rw [← hp1]; exact List.getElem_mem _
      have dj : ((p1.2.take i)[j]'e2) = p1.2[j]'(by omega) := List.getElem_take
      have mj : ((p1.2.take i)[j]'e2) ∈ pts s := by rw [dj, ← hp1]; exact List.getElem_mem _
      have pi := mem_pts.1 mi
      have pj := mem_pts.1 mj
      have hlt := List.pairwise_iff_getElem.1 hps j i (by omega) e1 (by omega)
      rw [← dj] at hlt
      have tp := tab_pair (s := s) hS (x := (p1.2[i]'e1)) (y := ((p1.2.take i)[j]'e2)) (by omega) mi mj
      have tb := tab_bd hS (x := (p1.2[i]'e1)) (y := ((p1.2.take i)[j]'e2)) (by omega)
      rw [← hG] at tp tb
      have gdi : (pts s).getD i 0 = (p1.2[i]'e1) := by rw [← hp1, getD_at e1]
      have gdj : (pts s).getD j 0 = ((p1.2.take i)[j]'e2) := by rw [dj, ← hp1, getD_at (by omega)]
      refine V.region ?_
      refine O.p rfl rfl rfl (Pu.move rfl rfl) ?_
      refine O.p rfl rfl rfl (Pu.move rfl rfl) ?_
      refine O.p rfl rfl rfl (Pu.move rfl rfl) ?_
      refine O.p rfl rfl rfl (Pu.nilCheck rfl rfl) ?_
      refine O.p rfl rfl rfl (Pu.indexArr (((p1.2[i]'e1)).toNat) (0 + ((p1.2[i]'e1)).toNat * 15) rfl Tryz.underlying206 sz159 rfl rfl (by omega) (by omega) rfl) ?_
      refine O.p rfl rfl rfl (Pu.indexArr ((((p1.2.take i)[j]'e2)).toNat) (0 + ((p1.2[i]'e1)).toNat * 15 + (((p1.2.take i)[j]'e2)).toNat * 1) rfl Tryz.underlying159 sz2 rfl rfl (by omega) (by omega) rfl) ?_
      refine O.p rfl rfl rfl (Pu.load rfl pl2 rfl (Ld.gridOld (x := (p1.2[i]'e1)) (y := ((p1.2.take i)[j]'e2)) hg (by omega) (by omega) (by omega))) ?_
      refine O.p rfl rfl rfl (Pu.assign rfl rfl) ?_
      refine O.nil ?_
      refine X.next ?_
      refine V.seq ?_
      refine V.region ?_
      refine O.p rfl rfl rfl (Pu.move rfl rfl) ?_
      refine O.p rfl rfl rfl (Pu.eql rfl rfl rfl) ?_
      refine O.p rfl rfl rfl (Pu.move rfl rfl) ?_
      refine O.splitD 37 rfl (fun c3 => ?_) (fun c3 => ?_)
      · skip
        refine O.gs rfl rfl rfl rfl rfl rfl ?_
        refine O.gs rfl rfl rfl rfl rfl rfl ?_
        refine O.gs rfl rfl rfl rfl rfl rfl ?_
        refine O.gs rfl rfl rfl rfl rfl rfl ?_
        refine O.p rfl rfl rfl (Pu.pickT rfl rfl rfl) ?_
        refine O.nil ?_
        refine X.next ?_
        refine V.condT rfl ?_
        refine V.seq ?_
        refine V.region ?_
        refine O.p rfl rfl rfl (Pu.assign rfl rfl) ?_
        refine O.nil ?_
        refine X.next ?_
        refine V.ret ?_
        refine X.blockRet ?_
        refine X.thenRet ?_
        refine X.thenRet ?_
        refine X.blockRet ?_
        refine X.blockRet ?_
        refine X.thenRet ?_
        refine X.thenRet ?_
        refine X.blockRet ?_
        refine X.thenRet ?_
        refine X.ret1 rfl rfl ?_
        exact fun w hw => St.retP (boolF (fun h => subI_not (a := j) (b := i) (by omega) (by rw [← hp1]; omega) (by rw [gdi, gdj]; exact fun q => (tp.1 q).1 c3) h.2)) hw
      · skip
        have tb2 := tb c3
        refine O.gp rfl rfl rfl rfl rfl (Pu.move rfl rfl) ?_
        refine O.gp rfl rfl rfl rfl rfl (Pu.move rfl rfl) ?_
        refine O.ge rfl rfl rfl rfl rfl (Ef.callP call189 rfl rfl (fun w hw => setHasI_ok _ _ w (by omega) (by omega))) ?_
        rintro _ _ ⟨rfl, rfl⟩
        refine O.gp rfl rfl rfl rfl rfl (Pu.not rfl rfl) ?_
        refine O.p rfl rfl rfl (Pu.pickF rfl rfl rfl) ?_
        refine O.nil ?_
        refine X.next ?_
        refine V.condNot rfl (fun c4 => ?_) (fun c4 => ?_)
        · skip
          refine V.seq ?_
          refine V.region ?_
          refine O.p rfl rfl rfl (Pu.assign rfl rfl) ?_
          refine O.nil ?_
          refine X.next ?_
          refine V.ret ?_
          refine X.blockRet ?_
          refine X.thenRet ?_
          refine X.thenRet ?_
          refine X.blockRet ?_
          refine X.blockRet ?_
          refine X.thenRet ?_
          refine X.thenRet ?_
          refine X.blockRet ?_
          refine X.thenRet ?_
          refine X.ret1 rfl rfl ?_
          exact fun w hw => St.retP (boolF (fun h => subI_not (a := j) (b := i) (by omega) (by rw [← hp1]; omega) (by rw [gdi, gdj]; exact fun q => c4 (tp.1 q).2) h.2)) hw
        · skip
          refine V.skip ?_
          refine X.blockNormal ?_
          refine X.next ?_
          refine V.region ?_
          refine O.p rfl rfl rfl (Pu.add64 (r := ((j + 1 : Nat) : Int)) rfl (by omega) rfl rfl rfl) ?_
          refine O.p rfl rfl rfl (Pu.move rfl rfl) ?_
          refine O.nil ?_
          exact X.back3 (j + 1) ⟨by omega, subI_step hq2 (by rw [gdi, gdj]; exact tp.2 ⟨c3, c4⟩)⟩ (by first | omega | (dsimp only; omega)) (Ent.cons rfl (Ent.nil _)) (Ent.cons (t := 0) rfl (Ent.cons (t := 1) rfl (Ent.cons (t := 5) rfl (Ent.cons (t := 7) rfl (Ent.cons (t := 13) rfl (Ent.cons (t := 14) rfl (Ent.cons (t := 15) rfl (Ent.cons (t := 22) rfl (Ent.cons (t := 23) rfl (Ent.nil _)))))))))) (Sub.keep 0 rfl (Sub.nil _))
    · skip
      refine V.exit ?_
      refine X.thenExit ?_
      refine X.thenExit ?_
      refine X.blockHit ?_
      refine X.blockNormal ?_
      refine X.next ?_
      refine V.region ?_
      refine O.p rfl rfl rfl (Pu.add64 (r := ((i + 1 : Nat) : Int)) rfl (by omega) rfl rfl rfl) ?_
      refine O.p rfl rfl rfl (Pu.move rfl rfl) ?_
      refine O.nil ?_
      exact X.back3 (i + 1) ⟨by omega, subI_row hq2 (by omega)⟩ (by first | omega | (dsimp only; omega)) (Ent.cons rfl (Ent.nil _)) (Ent.cons (t := 0) rfl (Ent.cons (t := 1) rfl (Ent.cons (t := 5) rfl (Ent.cons (t := 13) rfl (Ent.cons (t := 14) rfl (Ent.nil _)))))) (Sub.keep 0 rfl (Sub.nil _))
  · skip
    refine V.exit ?_
    refine X.thenExit ?_
    refine X.thenExit ?_
    refine X.blockHit ?_
    refine X.next ?_
    refine V.seq ?_
    refine V.region ?_
    refine O.p rfl rfl rfl (Pu.move rfl rfl) ?_
    refine O.p rfl rfl rfl (Pu.len rfl Tryz.underlying34 rfl) ?_
    refine O.p rfl rfl rfl (Pu.geq rfl rfl rfl) ?_
    refine O.p rfl rfl rfl (Pu.assign rfl rfl) ?_
    refine O.nil ?_
    refine X.next ?_
    refine V.ret ?_
    refine X.ret1 rfl rfl ?_
    exact fun w hw => St.retP (boolD (by rw [← pts_ones hs, ← hp1]; exact ⟨fun h => ⟨by omega, (subI_all (by rw [← hp1]; omega)).1 hq1⟩, fun h => by omega⟩)) hw
set_option maxRecDepth 100000 in
set_option maxHeartbeats 1000000 in
theorem subs1_ok (a : List Int) (b : List Int) (aA : Option Addr) (ac : Nat) (bA : Option Addr) (bc : Nat) (w : World) (ha : Rd I64 w aA a) (hb : Rd I64 w bA b) (la : a.length ≤ 1099511627776) (lb : b.length ≤ 1099511627776) : Does Tryz.prog 109 [.slice aA a.length ac, .slice bA b.length bc] w [] (fun r => [.pur (r = .int .i64 (cfB a b))]) := by
  refine Does.enter Tryz.func109 rfl rfl [(0, .slice aA a.length ac), (1, .slice bA b.length bc)] rfl ?_
  refine V.seq ?_
  refine V.region ?_
  refine O.p rfl rfl rfl (Pu.assign rfl rfl) ?_
  refine O.nil ?_
  refine X.next ?_
  refine V.seq ?_
  refine V.seq ?_
  refine V.region ?_
  refine O.p rfl rfl rfl (Pu.move rfl rfl) ?_
  refine O.p rfl rfl rfl (Pu.len rfl Tryz.underlying34 rfl) ?_
  refine O.p rfl rfl rfl (Pu.move rfl rfl) ?_
  refine O.p rfl rfl rfl (Pu.len rfl Tryz.underlying34 rfl) ?_
  refine O.p rfl rfl rfl (Pu.neq rfl rfl rfl) ?_
  refine O.nil ?_
  refine X.next ?_
  refine V.condNot rfl (fun c1 => ?_) (fun c1 => ?_)
  · skip
    refine V.seq ?_
    refine V.region ?_
    refine O.p rfl rfl rfl (Pu.move rfl rfl) ?_
    refine O.p rfl rfl rfl (Pu.len rfl Tryz.underlying34 rfl) ?_
    refine O.p rfl rfl rfl (Pu.move rfl rfl) ?_
    refine O.p rfl rfl rfl (Pu.len rfl Tryz.underlying34 rfl) ?_
    refine O.p rfl rfl rfl (Pu.sub64 rfl (by omega) rfl rfl rfl) ?_
    refine O.p rfl rfl rfl (Pu.assign rfl rfl) ?_
    refine O.nil ?_
    refine X.next ?_
    refine V.ret ?_
    refine X.thenRet ?_
    refine X.ret1 rfl rfl ?_
    exact fun w hw => St.retP (iv (by unfold cfB; rw [if_pos c1])) hw
  · skip
    refine V.skip ?_
    refine X.next ?_
    refine V.seq ?_
    refine V.region ?_
    refine O.p rfl rfl rfl (Pu.move rfl rfl) ?_
    refine O.p rfl rfl rfl (Pu.move rfl rfl) ?_
    refine O.e rfl rfl rfl (Ef.callP call110 rfl rfl (fun w hw => slicesCompare_ok a b _ _ _ _ w ((Ld.old ha) w hw) ((Ld.old hb) w hw) (by first | omega | (simp [bl]; done)) (by first | omega | (simp [bl]; done)))) ?_
    rintro _ _ ⟨rfl, rfl⟩
    refine O.p rfl rfl rfl (Pu.assign rfl rfl) ?_
    refine O.nil ?_
    refine X.next ?_
    refine V.ret ?_
    refine X.ret1 rfl rfl ?_
    exact fun w hw => St.retP (iv (by unfold cfB; rw [if_neg (fun h => h c1)])) hw
def layR_ren : Go.Shelf.Ren := ⟨fun | 6 => 108 | 15 => 194 | 14 => 193 | 28 => 237 | 29 => 238 | 20 => 229 | 21 => 230 | 22 => 231 | 23 => 232 | 24 => 233 | 25 => 234 | 26 => 235 | 27 => 236 | 46 => 255 | 47 => 256 | 48 => 257 | 49 => 258 | 50 => 259 | 57 => 265 | n => n, fun | 22 => 28 | 24 => 34 | 25 => 89 | 3 => 3 | 39 => 76 | 0 => 0 | 53 => 171 | 55 => 90 | 4 => 4 | 46 => 187 | 45 => 186 | 50 => 191 | 5 => 5 | 9 => 9 | 66 => 207 | 70 => 211 | 76 => 219 | 77 => 220 | n => n, fun | n => n⟩
theorem layR : SlLaysF.n6 Tryz.prog layR_ren where
  mixed := by kernel_rfl
  f6 := ⟨Tryz.f108.name, by decide, Tryz.func108.trans (congrArg some (by kernel_rfl))⟩
  f14 := ⟨Tryz.f193.name, by decide, Tryz.func193.trans (congrArg some (by kernel_rfl))⟩
  f15 := Tryz.func194.trans (congrArg some (by kernel_rfl))
  f20 := ⟨Tryz.f229.name, by decide, Tryz.func229.trans (congrArg some (by kernel_rfl))⟩
  f21 := ⟨Tryz.f230.name, by decide, Tryz.func230.trans (congrArg some (by kernel_rfl))⟩
  f22 := ⟨Tryz.f231.name, by decide, Tryz.func231.trans (congrArg some (by kernel_rfl))⟩
  f23 := ⟨Tryz.f232.name, by decide, Tryz.func232.trans (congrArg some (by kernel_rfl))⟩
  f24 := ⟨Tryz.f233.name, by decide, Tryz.func233.trans (congrArg some (by kernel_rfl))⟩
  f25 := ⟨Tryz.f234.name, by decide, Tryz.func234.trans (congrArg some (by kernel_rfl))⟩
  f26 := ⟨Tryz.f235.name, by decide, Tryz.func235.trans (congrArg some (by kernel_rfl))⟩
  f27 := ⟨Tryz.f236.name, by decide, Tryz.func236.trans (congrArg some (by kernel_rfl))⟩
  f28 := Tryz.func237.trans (congrArg some (by kernel_rfl))
  f29 := Tryz.func238.trans (congrArg some (by kernel_rfl))
  f46 := ⟨Tryz.f255.name, by decide, Tryz.func255.trans (congrArg some (by kernel_rfl))⟩
  f47 := Tryz.func256.trans (congrArg some (by kernel_rfl))
  f48 := Tryz.func257.trans (congrArg some (by kernel_rfl))
  f49 := ⟨Tryz.f258.name, by decide, Tryz.func258.trans (congrArg some (by kernel_rfl))⟩
  f50 := ⟨Tryz.f259.name, by decide, Tryz.func259.trans (congrArg some (by kernel_rfl))⟩
  f57 := ⟨Tryz.f265.name, by decide, Tryz.func265.trans (congrArg some (by kernel_rfl))⟩
  t0 := Tryz.underlying0
  a0 := Tryz.isAgg0
  z0 := Tryz.sizeOf0
  v0 := Tryz.zeroValue0
  t3 := Tryz.underlying3
  a3 := Tryz.isAgg3
  z3 := Tryz.sizeOf3
  v3 := Tryz.zeroValue3
  t4 := Tryz.underlying4
  a4 := Tryz.isAgg4
  z4 := Tryz.sizeOf4
  v4 := Tryz.zeroValue4
  t5 := Tryz.underlying5
  a5 := Tryz.isAgg5
  z5 := Tryz.sizeOf5
  v5 := Tryz.zeroValue5
  t9 := Tryz.underlying9
  a9 := Tryz.isAgg9
  z9 := Tryz.sizeOf9
  v9 := Tryz.zeroValue9
  t22 := Tryz.underlying28
  a22 := Tryz.isAgg28
  z22 := Tryz.sizeOf28
  v22 := Tryz.zeroValue28
  a24 := Tryz.isAgg34
  z24 := Tryz.sizeOf34
  t25 := Tryz.underlying89
  a25 := Tryz.isAgg89
  z25 := Tryz.sizeOf89
  v25 := Tryz.zeroValue89
  t39 := Tryz.underlying76
  a39 := Tryz.isAgg76
  z39 := Tryz.sizeOf76
  v39 := Tryz.zeroValue76
  t45 := Tryz.underlying186
  a45 := Tryz.isAgg186
  z45 := Tryz.sizeOf186
  v45 := Tryz.zeroValue186
  t46 := Tryz.underlying187
  a46 := Tryz.isAgg187
  z46 := Tryz.sizeOf187
  v46 := Tryz.zeroValue187
  t50 := Tryz.underlying191
  a50 := Tryz.isAgg191
  z50 := Tryz.sizeOf191
  v50 := Tryz.zeroValue191
  t53 := Tryz.underlying171
  a53 := Tryz.isAgg171
  z53 := Tryz.sizeOf171
  v53 := Tryz.zeroValue171
  t55 := Tryz.underlying90
  a55 := Tryz.isAgg90
  z55 := Tryz.sizeOf90
  v55 := Tryz.zeroValue90
  t66 := Tryz.underlying207
  a66 := Tryz.isAgg207
  z66 := Tryz.sizeOf207
  v66 := Tryz.zeroValue207
  t70 := Tryz.underlying211
  a70 := Tryz.isAgg211
  z70 := Tryz.sizeOf211
  v70 := Tryz.zeroValue211
  t76 := Tryz.underlying219
  a76 := Tryz.isAgg219
  z76 := Tryz.sizeOf219
  v76 := Tryz.zeroValue219
  t77 := Tryz.underlying220
  a77 := Tryz.isAgg220
  z77 := Tryz.sizeOf220
  v77 := Tryz.zeroValue220
theorem sortRS_ok (s : List (Sl × List Int)) (sA : Option Addr) (sc : Nat) (w0 : World) (H : List Assn) (ls : s.length ≤ 1099511627776) (hl : ∀ q ∈ conts s, q.length ≤ 1000) : Does Tryz.prog 108 [.slice sA (tops s).length sc, .func (.func 109) #[] #[]] w0 (Own 34 SlC sA sc (tops s) :: RowsA 2 I64 s :: H) (fun v => [.exi fun ys : List (Sl × List Int) => .sep (.pur (v = .tuple #[] ∧ ys.Perm s ∧ (conts ys).Pairwise fun x y => ¬ cfB y x < 0)) (.sep (Own 34 SlC sA sc (tops ys)) (RowsA 2 I64 ys))] ++ H) :=
  sortRows_does layR cfB swoQ call109 (fun W x y hx hy hW h1 h2 l1 l2 => subs1_ok x.2 y.2 _ _ _ _ W h1 h2 (by have := hl _ (List.mem_map_of_mem hx); omega) (by have := hl _ (List.mem_map_of_mem hy); omega)) (by omega)
set_option maxRecDepth 100000 in
set_option maxHeartbeats 1000000 in
theorem implSubsystems_ok (v : Int) (bs : List B3) (A : Option Addr) (c : Nat) (w : World) (hx : Rd B3C w A bs) (lx : bs.length ≤ 4611686018427387904) : Does Tryz.prog 34 [.agg #[.int .i64 v, .slice A bs.length c]] w [] (fun r => [.exi fun (pA : Option Addr) => .exi fun (pc : Nat) => .exi fun (p : List (Sl × List Int)) => .sep (.pur (r = .tuple #[.slice pA (tops p).length pc, .int .i64 (if STS v bs then 0 else 1)] ∧ SubR v bs (conts p))) (.sep (Own 34 SlC pA pc (tops p)) (RowsA 2 I64 p))]) := by
  refine Does.enter Tryz.func34 rfl rfl [(0, .agg #[.int .i64 v, .slice A bs.length c])] rfl ?_
  refine V.seq ?_
  refine V.region ?_
  refine O.e rfl rfl rfl (Ef.box rfl rfl rfl) ?_
  rintro _ _ ⟨b1, rfl, rfl⟩
  refine O.p rfl rfl rfl (Pu.assign rfl rfl) ?_
  refine O.p rfl rfl rfl (Pu.assign rfl rfl) ?_
  refine O.nil ?_
  refine X.next ?_
  refine V.seq ?_
  refine V.seq ?_
  refine V.region ?_
  refine O.p rfl rfl rfl (Pu.loadAgg rfl ag26 sz26 rfl rfl (Ld.whole 0 rfl)) ?_
  refine O.e rfl rfl rfl (Ef.callP call77 rfl rfl (fun w hw => IsSystem_ok _ bs _ _ w ((Ld.old hx) w hw) (by omega))) ?_
  rintro _ _ ⟨rfl, rfl⟩
  refine O.p rfl rfl rfl (Pu.not rfl rfl) ?_
  refine O.nil ?_
  refine X.next ?_
  refine V.condNot rfl (fun c1 => ?_) (fun c1 => ?_)
  · skip
    refine V.seq ?_
    refine V.region ?_
    refine O.p rfl rfl rfl (Pu.assign rfl rfl) ?_
    refine O.p rfl rfl rfl (Pu.assign rfl rfl) ?_
    refine O.nil ?_
    refine X.next ?_
    refine V.ret ?_
    refine X.thenRet ?_
    refine X.ret2 rfl rfl rfl ?_
    exact fun w hw => St.mkExi none (St.mkExi 0 (St.mkExi [] (St.unsep (St.addPur ⟨(by rw [if_neg c1]; rfl), (by exact ⟨fun h => absurd h c1, fun _ => rfl⟩)⟩ (St.unsep (St.addNil (T := 34) (C := SlC) (RowsA.nil (T := 2) (C := I64) (hw.sub (Sub.nil _)))))))))
  · skip
    have hlo := c1.lo
    have hhi := c1.hi
    have hfew := c1.few
    have hg : ∀ b ∈ bs, good 15 b := fun b h => (c1.good b h).mono c1.hi
    have hpw : 2 ^ v.toNat ≤ 2 ^ 15 := Nat.pow_le_pow_right (by decide) (by omega)
    have hpw0 := Nat.two_pow_pos v.toNat
    refine V.skip ?_
    refine X.next ?_
    refine V.seq ?_
    refine V.region ?_
    refine O.p rfl rfl rfl (Pu.loadAgg rfl ag26 sz26 rfl rfl (Ld.whole 0 rfl)) ?_
    refine O.e rfl rfl rfl (Ef.call1 call96 rfl rfl (fun w hw => sysGrid_ok  v bs _ _ w ((Ld.old hx) w hw) (by first | omega | (simp only [tops_len, conts_len, bl, List.length_append, List.length_cons, List.length_nil] at *; omega)) hg c1.fits)) ?_
    rintro _ _ rfl
    refine O.exi (fun g1 => ?_)
    refine O.sep ?_
    refine O.pur ?_
    rintro rfl
    refine O.p rfl rfl rfl (Pu.assign rfl rfl) ?_
    refine O.nil ?_
    refine X.next ?_
    refine V.seq ?_
    refine V.region ?_
    refine O.p rfl rfl rfl (Pu.assign rfl rfl) ?_
    refine O.nil ?_
    refine X.next ?_
    refine V.seq ?_
    refine V.seq ?_
    refine V.region ?_
    refine O.p rfl rfl rfl (Pu.assign rfl rfl) ?_
    refine O.nil ?_
    refine X.next ?_
    refine V.block ?_
    refine V.map (fun w hw => St.addNil (T := 34) (C := SlC) (RowsA.nil (T := 2) (C := I64) hw)) ?_
    refine V.loop3 (β := (Option Addr) × Nat × (List (Sl × List Int)) × Nat) (fun x => [(5, .slice x.1 (tops x.2.2.1).length x.2.1), (6, .int .u64 (x.2.2.2 : Int))]) _ (fun x => [Own 34 SlC x.1 x.2.1 (tops x.2.2.1), RowsA 2 I64 x.2.2.1]) _ (fun x => x.2.2.2 ≤ 2 ^ v.toNat ∧ conts x.2.2.1 = subsL bs x.2.2.2 ∧ x.2.2.1.length ≤ x.2.2.2) (fun x => 2 ^ v.toNat - x.2.2.2) (none, 0, [], 0) (by (try dsimp only); exact ⟨by omega, rfl, by simp⟩) (Ent.cons rfl (Ent.cons rfl (Ent.nil _))) (Ent.cons (t := 1) rfl (Ent.cons (t := 4) rfl (Ent.nil _))) (Sub.keep 0 rfl (Sub.keep 0 rfl (Sub.keep 0 rfl (Sub.keep 0 rfl (Sub.nil _))))) ?_
    rintro ⟨outA, outc, out, s⟩ ⟨hs, ho, hl⟩
    dsimp only at hs ho hl ⊢
    refine V.fact (RowsA.len 1 rfl) (fun hn_out => ?_)
    have htl_out := tops_len out
    refine V.seq ?_
    refine V.seq ?_
    refine V.region ?_
    refine O.p rfl rfl rfl (Pu.move rfl rfl) ?_
    refine O.p rfl rfl rfl (Pu.loadAgg rfl ag26 sz26 rfl rfl (Ld.whole 3 rfl)) ?_
    refine O.e rfl rfl rfl (Ef.callP call105 rfl rfl (fun w hw => setAll_ok _ bs _ _ w (by omega))) ?_
    rintro _ _ ⟨rfl, rfl⟩
    refine O.p rfl rfl rfl (Pu.leq rfl rfl rfl) ?_
    refine O.nil ?_
    refine X.next ?_
    refine V.condD rfl (fun c2 => ?_) (fun c2 => ?_)
    · skip
      refine V.skip ?_
      refine X.next ?_
      refine V.seq ?_
      refine V.block ?_
      refine V.seq ?_
      refine V.region ?_
      refine O.p rfl rfl rfl (Pu.move rfl rfl) ?_
      refine O.e rfl rfl rfl (Ef.callP call106 rfl rfl (fun w hw => size_ok s w (by omega))) ?_
      rintro _ _ ⟨rfl, rfl⟩
      refine O.p rfl rfl rfl (Pu.geq rfl rfl rfl) ?_
      refine O.p rfl rfl rfl (Pu.move rfl rfl) ?_
      refine O.splitD 21 rfl (fun c3 => ?_) (fun c3 => ?_)
      · skip
        refine O.gp rfl rfl rfl rfl rfl (Pu.move rfl rfl) ?_
        refine O.gp rfl rfl rfl rfl rfl (Pu.move rfl rfl) ?_
        refine O.ge rfl rfl rfl rfl rfl (Ef.callP call107 rfl rfl (fun w hw => isSubsystem_ok v bs _ (tab bs) s w (GridAt.of (i := 2) hw (by exact rfl))  c1 rfl (by omega))) ?_
        rintro _ _ ⟨rfl, rfl⟩
        refine O.p rfl rfl rfl (Pu.pickT rfl rfl rfl) ?_
        refine O.nil ?_
        refine X.next ?_
        refine V.condD rfl (fun c4 => ?_) (fun c4 => ?_)
        · skip
          refine V.region ?_
          refine O.p rfl rfl rfl (Pu.move rfl rfl) ?_
          refine O.p rfl rfl rfl (Pu.move rfl rfl) ?_
          refine O.e rfl rfl rfl (Ef.call1 call99 rfl rfl (fun w hw => list_ok s w (by omega))) ?_
          rintro _ _ rfl
          refine O.exi (fun p1 => ?_)
          refine O.sep ?_
          refine O.pur ?_
          rintro ⟨rfl, hp1⟩
          refine O.e rfl rfl rfl (Ef.build SlC ([⟨p1.1.1, p1.2.length, p1.1.2⟩] : List Sl) rfl Tryz.underlying28 inf34 rfl rfl rfl (by first | decide | (simp; done)) (by kernel_rfl)) ?_
          rintro _ _ ⟨A1, hA1, rfl, rfl⟩
          refine O.e rfl rfl rfl (Ef.append (xs := (tops out)) (ys := ([⟨p1.1.1, p1.2.length, p1.1.2⟩] : List Sl)) 2 rfl Tryz.underlying28 inf34 rfl rfl rfl rfl rfl rfl hA1 (Ld.own 0 (by exact rfl)) (by simp only [List.length_append, List.length_cons, List.length_nil] at *; omega) (by decide)) ?_
          rintro _ _ ⟨A2, k1, rfl, rfl, hA2⟩
          replace hA2 := hA2 (.inr (by simp))
          refine O.map (fun w hw => snoc_heap (ps := out) (xs := p1.2) (hw.sub (Sub.keep 2 rfl (Sub.keep 2 rfl (Sub.keep 1 rfl (Sub.keep 0 rfl (Sub.keep 0 rfl (Sub.keep 0 rfl (Sub.nil _))))))))) ?_
          refine O.p rfl rfl rfl (Pu.assign rfl rfl) ?_
          refine O.nil ?_
          refine X.blockNormal ?_
          refine X.next ?_
          refine V.region ?_
          refine O.p rfl rfl rfl (Pu.move rfl rfl) ?_
          refine O.p rfl rfl rfl (Pu.addN (m := s) (n := 1) K64.u (by omega) rfl rfl rfl) ?_
          refine O.p rfl rfl rfl (Pu.assign rfl rfl) ?_
          refine O.nil ?_
          exact X.back3 (A2, k1, (out ++ [((⟨p1.1.1, p1.2.length, p1.1.2⟩ : Sl), p1.2)]), (s + 1)) (by (try dsimp only); exact ⟨by omega, by rw [conts_append, ho, subsL_yes c4, ← hp1]; rfl, by simp only [List.length_append, List.length_singleton]; omega⟩) (by first | omega | (dsimp only; omega)) (Ent.cons' rfl (by first | rfl | (simp only [tops_append]; done) | (simp only [tops_append]; rfl)) (Ent.cons rfl (Ent.nil _))) (Ent.cons (t := 1) rfl (Ent.cons (t := 4) rfl (Ent.nil _))) (Sub.keep 0 rfl (Sub.keep 0 rfl (Sub.keep 1 rfl (Sub.keep 1 rfl (Sub.nil _)))))
        · skip
          refine V.skip ?_
          refine X.blockNormal ?_
          refine X.next ?_
          refine V.region ?_
          refine O.p rfl rfl rfl (Pu.move rfl rfl) ?_
          refine O.p rfl rfl rfl (Pu.addN (m := s) (n := 1) K64.u (by omega) rfl rfl rfl) ?_
          refine O.p rfl rfl rfl (Pu.assign rfl rfl) ?_
          refine O.nil ?_
          exact X.back3 (outA, outc, out, (s + 1)) (by (try dsimp only); exact ⟨by omega, by rw [subsL_no c4]; exact ho, by omega⟩) (by first | omega | (dsimp only; omega)) (Ent.cons' rfl (by first | rfl | (simp only [tops_append]; done) | (simp only [tops_append]; rfl)) (Ent.cons rfl (Ent.nil _))) (Ent.cons (t := 1) rfl (Ent.cons (t := 4) rfl (Ent.nil _))) (Sub.keep 0 rfl (Sub.keep 0 rfl (Sub.keep 0 rfl (Sub.keep 0 rfl (Sub.nil _)))))
      · skip
        refine O.gs rfl rfl rfl rfl rfl rfl ?_
        refine O.gs rfl rfl rfl rfl rfl rfl ?_
        refine O.gs rfl rfl rfl rfl rfl rfl ?_
        refine O.p rfl rfl rfl (Pu.pickF rfl rfl rfl) ?_
        refine O.nil ?_
        refine X.next ?_
        refine V.condF rfl ?_
        refine V.skip ?_
        refine X.blockNormal ?_
        refine X.next ?_
        refine V.region ?_
        refine O.p rfl rfl rfl (Pu.move rfl rfl) ?_
        refine O.p rfl rfl rfl (Pu.addN (m := s) (n := 1) K64.u (by omega) rfl rfl rfl) ?_
        refine O.p rfl rfl rfl (Pu.assign rfl rfl) ?_
        refine O.nil ?_
        exact X.back3 (outA, outc, out, (s + 1)) (by (try dsimp only); exact ⟨by omega, by rw [subsL_no (fun h => c3 (by omega))]; exact ho, by omega⟩) (by first | omega | (dsimp only; omega)) (Ent.cons' rfl (by first | rfl | (simp only [tops_append]; done) | (simp only [tops_append]; rfl)) (Ent.cons rfl (Ent.nil _))) (Ent.cons (t := 1) rfl (Ent.cons (t := 4) rfl (Ent.nil _))) (Sub.keep 0 rfl (Sub.keep 0 rfl (Sub.keep 0 rfl (Sub.keep 0 rfl (Sub.nil _)))))
    · skip
      refine V.exit ?_
      refine X.thenExit ?_
      refine X.thenExit ?_
      refine X.blockHit ?_
      refine X.next ?_
      refine V.seq ?_
      have h5 : ∀ q ∈ conts out, q.length ≤ 1000 := fun q hq => by have := subsL_small q (by rw [ho] at hq; exact hq); omega
      refine V.region ?_
      refine O.p rfl rfl rfl (Pu.move rfl rfl) ?_
      refine O.e rfl rfl rfl (Ef.call call108 rfl rfl (Does.pre (fun w hw => hw.sub (Sub.keep 0 rfl (Sub.keep 0 rfl (Sub.keep 0 rfl (Sub.keep 0 rfl (Sub.nil _)))))) (sortRS_ok  out _ _ w _   (by omega) h5))) ?_
      rintro _ _ rfl
      refine O.exi (fun ys1 => ?_)
      refine O.sep ?_
      refine O.pur ?_
      rintro ⟨rfl, hys1_1, hys1_2⟩
      refine O.sep ?_
      have hyl : (tops out).length = (tops ys1).length := by rw [tops_len, tops_len, hys1_1.length_eq]
      rw [hyl]
      have hyt := tops_len ys1
      refine O.nil ?_
      refine X.next ?_
      refine V.seq ?_
      refine V.region ?_
      refine O.p rfl rfl rfl (Pu.move rfl rfl) ?_
      refine O.p rfl rfl rfl (Pu.assign rfl rfl) ?_
      refine O.p rfl rfl rfl (Pu.assign rfl rfl) ?_
      refine O.nil ?_
      refine X.next ?_
      refine V.ret ?_
      refine X.ret2 rfl rfl rfl ?_
      exact fun w hw => St.mkExi outA (St.mkExi outc (St.mkExi ys1 (St.unsep (St.addPur ⟨(by rw [if_pos c1]), (by exact ⟨fun _ => ⟨by rw [← show s = 2 ^ v.toNat by omega, ← ho]; exact hys1_1.map _, hys1_2⟩, fun h => absurd c1 h⟩)⟩ (St.unsep (hw.sub (Sub.keep 0 rfl (Sub.keep 0 rfl (Sub.nil _)))))))))
set_option maxRecDepth 100000 in
set_option maxHeartbeats 1000000 in
theorem l07Closed_ok (v : Int) (bs : List B3) (set : Nat) (A : Option Addr) (c : Nat) (w : World) (hx : Rd B3C w A bs) (lx : bs.length ≤ 4611686018427387904) (hg : ∀ b ∈ bs, good 15 b) (hs : set < 32768) (hfew : bs.length ≤ 35) : Does Tryz.prog 118 [.agg #[.int .i64 v, .slice A bs.length c], .int .i64 (set : Int)] w [] (fun r => [.pur (r = .bool (decide (Clo bs set)))]) := by
  refine Does.enter Tryz.func118 rfl rfl [(0, .agg #[.int .i64 v, .slice A bs.length c]), (1, .int .i64 (set : Int))] rfl ?_
  refine V.seq ?_
  refine V.region ?_
  refine O.e rfl rfl rfl (Ef.box rfl rfl rfl) ?_
  rintro _ _ ⟨b1, rfl, rfl⟩
  refine O.p rfl rfl rfl (Pu.assign rfl rfl) ?_
  refine O.nil ?_
  refine X.next ?_
  refine V.seq ?_
  refine V.seq ?_
  refine V.region ?_
  refine O.p rfl rfl rfl (Pu.assign rfl rfl) ?_
  refine O.nil ?_
  refine X.next ?_
  refine V.block ?_
  refine V.loop3 (β := Nat) (fun i => [(5, .int .i64 (i : Int))]) _ (fun i => []) _ (fun i => i ≤ bs.length ∧ ∀ j (hj : j < bs.length), j < i → ¬ ones (bmask bs[j] &&& set) = 2) (fun i => bs.length - i) 0 ⟨by omega, fun j hj h => by omega⟩ (Ent.cons rfl (Ent.nil _)) (Ent.cons (t := 1) rfl (Ent.cons (t := 2) rfl (Ent.nil _))) (Sub.keep 0 rfl (Sub.nil _)) ?_
  rintro i ⟨hi, hn⟩
  refine V.seq ?_
  refine V.seq ?_
  refine V.region ?_
  refine O.p rfl rfl rfl (Pu.move rfl rfl) ?_
  refine O.p rfl rfl rfl (Pu.fieldAddr 1 rfl Tryz.underlying26 rfl sz24 rfl rfl) ?_
  refine O.p rfl rfl rfl (Pu.load rfl pl24 rfl (Ld.blk 0 rfl rfl)) ?_
  refine O.p rfl rfl rfl (Pu.len rfl Tryz.underlying24 rfl) ?_
  refine O.p rfl rfl rfl (Pu.lss rfl rfl rfl) ?_
  refine O.nil ?_
  refine X.next ?_
  refine V.condD rfl (fun c1 => ?_) (fun c1 => ?_)
  · skip
    refine V.skip ?_
    refine X.next ?_
    refine V.seq ?_
    refine V.block ?_
    refine V.seq ?_
    refine V.region ?_
    refine O.p rfl rfl rfl (Pu.fieldAddr 1 rfl Tryz.underlying26 rfl sz24 rfl rfl) ?_
    refine O.p rfl rfl rfl (Pu.load rfl pl24 rfl (Ld.blk 0 rfl rfl)) ?_
    refine O.p rfl rfl rfl (Pu.move rfl rfl) ?_
    refine O.p rfl rfl rfl (Pu.indexAddr (i) rfl Tryz.underlying24 sz51 rfl rfl (by omega) (by omega) (hx.some (by omega))) ?_
    have e1 : i < bs.length := by omega
    refine O.p rfl rfl rfl (Pu.loadAgg' (v := B3.v (bs[i]'e1)) rfl rfl ag51 sz51 rfl rfl (Ld.rds (Ld.old hx) (k := i) e1 rfl)) ?_
    refine O.e rfl rfl rfl (Ef.callP call191 rfl rfl (fun w hw => l05Bits_ok (bs[i]'e1) w (hg _ (List.getElem_mem _)))) ?_
    rintro _ _ ⟨rfl, rfl⟩
    have hbm := bmask_lt (hg (bs[i]'e1) (List.getElem_mem e1))
    have hba : bmask (bs[i]'e1) &&& set ≤ set := Nat.and_le_right
    refine O.p rfl rfl rfl (Pu.move rfl rfl) ?_
    refine O.p rfl rfl rfl (Pu.and (m := (bmask (bs[i]'e1))) (n := set) K64.i (by omega) (by omega) rfl rfl rfl) ?_
    refine O.p rfl rfl rfl (Pu.assign rfl rfl) ?_
    refine O.nil ?_
    refine X.next ?_
    refine V.seq ?_
    refine V.region ?_
    refine O.p rfl rfl rfl (Pu.move rfl rfl) ?_
    refine O.e rfl rfl rfl (Ef.callP call111 rfl rfl (fun w hw => l05Ones_ok ((bmask (bs[i]'e1)) &&& set) w (by omega))) ?_
    rintro _ _ ⟨rfl, rfl⟩
    refine O.p rfl rfl rfl (Pu.eql rfl rfl rfl) ?_
    refine O.nil ?_
    refine X.next ?_
    refine V.condD rfl (fun c2 => ?_) (fun c2 => ?_)
    · skip
      refine V.seq ?_
      refine V.region ?_
      refine O.p rfl rfl rfl (Pu.assign rfl rfl) ?_
      refine O.nil ?_
      refine X.next ?_
      refine V.ret ?_
      refine X.blockRet ?_
      refine X.thenRet ?_
      refine X.thenRet ?_
      refine X.blockRet ?_
      refine X.thenRet ?_
      refine X.ret1 rfl rfl ?_
      exact fun w hw => St.retP (boolF (fun h => h _ (List.getElem_mem e1) (by omega))) hw
    · skip
      refine V.skip ?_
      refine X.blockNormal ?_
      refine X.next ?_
      refine V.region ?_
      refine O.p rfl rfl rfl (Pu.move rfl rfl) ?_
      refine O.p rfl rfl rfl (Pu.add64 (r := ((i + 1 : Nat) : Int)) rfl (by omega) rfl rfl rfl) ?_
      refine O.p rfl rfl rfl (Pu.assign rfl rfl) ?_
      refine O.nil ?_
      exact X.back3 (i + 1) ⟨by omega, fun j hj h => by by_cases e : j = i; (· subst e; intro q; omega); (· exact hn j hj (by omega))⟩ (by first | omega | (dsimp only; omega)) (Ent.cons rfl (Ent.nil _)) (Ent.cons (t := 1) rfl (Ent.cons (t := 2) rfl (Ent.nil _))) (Sub.keep 0 rfl (Sub.nil _))
  · skip
    refine V.exit ?_
    refine X.thenExit ?_
    refine X.thenExit ?_
    refine X.blockHit ?_
    refine X.next ?_
    refine V.seq ?_
    refine V.region ?_
    refine O.p rfl rfl rfl (Pu.assign rfl rfl) ?_
    refine O.nil ?_
    refine X.next ?_
    refine V.ret ?_
    refine X.ret1 rfl rfl ?_
    exact fun w hw => St.retP (boolT (fun d hd => by obtain ⟨j, hj, rfl⟩ := List.mem_iff_getElem.1 hd; exact hn j hj (by omega))) hw
set_option maxRecDepth 100000 in
set_option maxHeartbeats 1000000 in
theorem l07Subsystem_ok (v : Int) (bs : List B3) (set : Nat) (A : Option Addr) (c : Nat) (w : World) (hx : Rd B3C w A bs) (lx : bs.length ≤ 4611686018427387904) (hg : ∀ b ∈ bs, good 15 b) (hs : set < 32768) (hfew : bs.length ≤ 35) : Does Tryz.prog 112 [.agg #[.int .i64 v, .slice A bs.length c], .int .i64 (set : Int)] w [] (fun r => [.pur (r = .bool (decide (3 ≤ ones set ∧ 6 * inside bs set bs.length = ones set * (ones set - 1) ∧ Clo bs set)))]) := by
  refine Does.enter Tryz.func112 rfl rfl [(0, .agg #[.int .i64 v, .slice A bs.length c]), (1, .int .i64 (set : Int))] rfl ?_
  have ho15 : ones set ≤ 15 := by rw [← pts_ones hs]; exact pts_len set
  have hil := @inside_le bs set bs.length
  have hmul := mul15 (ones set) (by omega)
  refine V.seq ?_
  refine V.region ?_
  refine O.e rfl rfl rfl (Ef.box rfl rfl rfl) ?_
  rintro _ _ ⟨b1, rfl, rfl⟩
  refine O.p rfl rfl rfl (Pu.assign rfl rfl) ?_
  refine O.nil ?_
  refine X.next ?_
  refine V.seq ?_
  refine V.region ?_
  refine O.p rfl rfl rfl (Pu.move rfl rfl) ?_
  refine O.e rfl rfl rfl (Ef.callP call111 rfl rfl (fun w hw => l05Ones_ok set w (by omega))) ?_
  rintro _ _ ⟨rfl, rfl⟩
  refine O.p rfl rfl rfl (Pu.assign rfl rfl) ?_
  refine O.nil ?_
  refine X.next ?_
  refine V.seq ?_
  refine V.region ?_
  refine O.p rfl rfl rfl (Pu.move rfl rfl) ?_
  refine O.p rfl rfl rfl (Pu.geq rfl rfl rfl) ?_
  refine O.p rfl rfl rfl (Pu.move rfl rfl) ?_
  refine O.splitD 10 rfl (fun c1 => ?_) (fun c1 => ?_)
  · skip
    refine O.gp rfl rfl rfl rfl rfl (Pu.loadAgg rfl ag26 sz26 rfl rfl (Ld.whole 0 rfl)) ?_
    refine O.gp rfl rfl rfl rfl rfl (Pu.move rfl rfl) ?_
    refine O.ge rfl rfl rfl rfl rfl (Ef.callP call196 rfl rfl (fun w hw => l07Inside_ok _ bs set _ _ w ((Ld.old hx) w hw) hg (by omega) hfew)) ?_
    rintro _ _ ⟨rfl, rfl⟩
    refine O.gp rfl rfl rfl rfl rfl (Pu.mul64 rfl (by omega) rfl rfl rfl) ?_
    refine O.gp rfl rfl rfl rfl rfl (Pu.move rfl rfl) ?_
    refine O.gp rfl rfl rfl rfl rfl (Pu.move rfl rfl) ?_
    refine O.gp rfl rfl rfl rfl rfl (Pu.sub64 rfl (by omega) rfl rfl rfl) ?_
    refine O.gp rfl rfl rfl rfl rfl (Pu.mul64 rfl (by omega) rfl rfl rfl) ?_
    refine O.gp rfl rfl rfl rfl rfl (Pu.eql rfl rfl rfl) ?_
    refine O.p rfl rfl rfl (Pu.pickT rfl rfl rfl) ?_
    refine O.p rfl rfl rfl (Pu.move rfl rfl) ?_
    refine O.splitD 21 rfl (fun c2 => ?_) (fun c2 => ?_)
    · skip
      refine O.gp rfl rfl rfl rfl rfl (Pu.loadAgg rfl ag26 sz26 rfl rfl (Ld.whole 0 rfl)) ?_
      refine O.gp rfl rfl rfl rfl rfl (Pu.move rfl rfl) ?_
      refine O.ge rfl rfl rfl rfl rfl (Ef.callP call118 rfl rfl (fun w hw => l07Closed_ok  v bs set _ _ w ((Ld.old hx) w hw) (by first | omega | (simp only [tops_len, conts_len, bl, List.length_append, List.length_cons, List.length_nil] at *; omega)) (by first | assumption | omega | (try dsimp only at *; omega)) (by first | assumption | omega | (try dsimp only at *; omega)) (by first | assumption | omega | (try dsimp only at *; omega)))) ?_
      rintro _ _ ⟨rfl, rfl⟩
      refine O.p rfl rfl rfl (Pu.pickT rfl rfl rfl) ?_
      refine O.p rfl rfl rfl (Pu.assign rfl rfl) ?_
      refine O.nil ?_
      refine X.next ?_
      refine V.ret ?_
      refine X.ret1 rfl rfl ?_
      exact fun w hw => St.retP (boolD (⟨fun h => ⟨by omega, by have := hmul.2; omega, h⟩, fun h => h.2.2⟩)) hw
    · skip
      refine O.gs rfl rfl rfl rfl rfl rfl ?_
      refine O.gs rfl rfl rfl rfl rfl rfl ?_
      refine O.gs rfl rfl rfl rfl rfl rfl ?_
      refine O.p rfl rfl rfl (Pu.pickF rfl rfl rfl) ?_
      refine O.p rfl rfl rfl (Pu.assign rfl rfl) ?_
      refine O.nil ?_
      refine X.next ?_
      refine V.ret ?_
      refine X.ret1 rfl rfl ?_
      exact fun w hw => St.retP (boolF (fun h => c2 (by have := hmul.2; have := h.2.1; omega))) hw
  · skip
    refine O.gs rfl rfl rfl rfl rfl rfl ?_
    refine O.gs rfl rfl rfl rfl rfl rfl ?_
    refine O.gs rfl rfl rfl rfl rfl rfl ?_
    refine O.gs rfl rfl rfl rfl rfl rfl ?_
    refine O.gs rfl rfl rfl rfl rfl rfl ?_
    refine O.gs rfl rfl rfl rfl rfl rfl ?_
    refine O.gs rfl rfl rfl rfl rfl rfl ?_
    refine O.gs rfl rfl rfl rfl rfl rfl ?_
    refine O.gs rfl rfl rfl rfl rfl rfl ?_
    refine O.p rfl rfl rfl (Pu.pickF rfl rfl rfl) ?_
    refine O.p rfl rfl rfl (Pu.move rfl rfl) ?_
    refine O.gs rfl rfl rfl rfl rfl rfl ?_
    refine O.gs rfl rfl rfl rfl rfl rfl ?_
    refine O.gs rfl rfl rfl rfl rfl rfl ?_
    refine O.p rfl rfl rfl (Pu.pickF rfl rfl rfl) ?_
    refine O.p rfl rfl rfl (Pu.assign rfl rfl) ?_
    refine O.nil ?_
    refine X.next ?_
    refine V.ret ?_
    refine X.ret1 rfl rfl ?_
    exact fun w hw => St.retP (boolF (fun h => c1 (by have := h.1; omega))) hw
set_option maxRecDepth 100000 in
set_option maxHeartbeats 1000000 in
theorem l07Before_ok (a : List Int) (b : List Int) (aA : Option Addr) (ac : Nat) (bA : Option Addr) (bc : Nat) (w : World) (ha : Rd I64 w aA a) (hb : Rd I64 w bA b) (la : a.length ≤ 1099511627776) (lb : b.length ≤ 1099511627776) : Does Tryz.prog 113 [.slice aA a.length ac, .slice bA b.length bc] w [] (fun r => [.pur (r = .bool (decide (cfB a b < 0)))]) := by
  refine Does.enter Tryz.func113 rfl rfl [(0, .slice aA a.length ac), (1, .slice bA b.length bc)] rfl ?_
  refine V.seq ?_
  refine V.region ?_
  refine O.p rfl rfl rfl (Pu.assign rfl rfl) ?_
  refine O.nil ?_
  refine X.next ?_
  refine V.seq ?_
  refine V.seq ?_
  refine V.region ?_
  refine O.p rfl rfl rfl (Pu.move rfl rfl) ?_
  refine O.p rfl rfl rfl (Pu.len rfl Tryz.underlying34 rfl) ?_
  refine O.p rfl rfl rfl (Pu.move rfl rfl) ?_
  refine O.p rfl rfl rfl (Pu.len rfl Tryz.underlying34 rfl) ?_
  refine O.p rfl rfl rfl (Pu.neq rfl rfl rfl) ?_
  refine O.nil ?_
  refine X.next ?_
  refine V.condNot rfl (fun c1 => ?_) (fun c1 => ?_)
  · skip
    refine V.seq ?_
    refine V.region ?_
    refine O.p rfl rfl rfl (Pu.move rfl rfl) ?_
    refine O.p rfl rfl rfl (Pu.len rfl Tryz.underlying34 rfl) ?_
    refine O.p rfl rfl rfl (Pu.move rfl rfl) ?_
    refine O.p rfl rfl rfl (Pu.len rfl Tryz.underlying34 rfl) ?_
    refine O.p rfl rfl rfl (Pu.lss rfl rfl rfl) ?_
    refine O.p rfl rfl rfl (Pu.assign rfl rfl) ?_
    refine O.nil ?_
    refine X.next ?_
    refine V.ret ?_
    refine X.thenRet ?_
    refine X.ret1 rfl rfl ?_
    exact fun w hw => St.retP (boolD (by rw [cfB_lt]; exact ⟨fun h => .inl (by omega), fun h => h.elim (fun h => by omega) (fun h => absurd h.1 (by omega))⟩)) hw
  · skip
    refine V.skip ?_
    refine X.next ?_
    refine V.seq ?_
    refine V.region ?_
    refine O.p rfl rfl rfl (Pu.move rfl rfl) ?_
    refine O.p rfl rfl rfl (Pu.move rfl rfl) ?_
    refine O.e rfl rfl rfl (Ef.callP call197 rfl rfl (fun w hw => l03Less_ok a b _ _ _ _ w ((Ld.old ha) w hw) ((Ld.old hb) w hw) (by omega) (by omega))) ?_
    rintro _ _ ⟨rfl, rfl⟩
    refine O.p rfl rfl rfl (Pu.assign rfl rfl) ?_
    refine O.nil ?_
    refine X.next ?_
    refine V.ret ?_
    refine X.ret1 rfl rfl ?_
    exact fun w hw => St.retP (boolD (by rw [cfB_lt]; exact ⟨fun h => .inr ⟨by omega, h⟩, fun h => h.elim (fun h => by omega) (fun h => h.2)⟩)) hw
end Go.Proofs.YtgjfcepnkllklaaGreat
