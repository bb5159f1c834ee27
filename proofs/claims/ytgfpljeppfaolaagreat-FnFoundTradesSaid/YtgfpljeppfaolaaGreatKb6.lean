/-
  Contracts, part 6.
-/
import Derived.Test.YtgfpljeppfaolaaGreatKb5
set_option linter.unusedVariables false
set_option linter.unusedSimpArgs false
namespace Go.Proofs.YtgfpljeppfaolaaGreat
open Go Go.RowKit Go.Vc Go.Proofs
set_option maxRecDepth 100000 in
set_option maxHeartbeats 1000000 in
theorem exchangedT_ok (blocks : List B3) (a : Int) (b : Int) (blocksA : Option Addr) (blocksc : Nat) (w : World) (hblocks : Rd B3C w blocksA blocks) (lblocks : blocks.length ≤ 1099511627776) (lb : blocks.length ≤ 1000) : Does Tryz.prog 76 [.slice blocksA blocks.length blocksc, .int .i64 a, .int .i64 b] w [] (fun rv_ => [.exi fun (rA : Option Addr) => .exi fun (rc : Nat) => .exi fun (r : List B3) => .sep (.pur (rv_ = .slice rA r.length rc ∧ r.Perm (blocks.map (exB a b)) ∧ SrtB r)) (Own 81 B3C rA rc r)]) := by
 refine Does.enter Tryz.func76 rfl rfl [(0, .slice blocksA blocks.length blocksc), (1, .int .i64 a), (2, .int .i64 b)] rfl (Za (O.m rfl (Zb (O.m rfl (Zf (Vs ?_))))))
 refine Za (O.m rfl (O.q rfl (Pu.len rfl ut24 rfl) (O.m rfl (Zi (V.map (fun w hw => St.addNil (T := 81) (C := B3C) hw) (V.loop2 (β := (Option Addr) × Nat × (List B3) × Nat) (fun x => [(7, .slice x.1 x.2.2.1.length x.2.1), (14, .int .i64 (x.2.2.2 : Int))]) _ (fun x => [Own 81 B3C x.1 x.2.1 x.2.2.1]) (fun x => x.2.2.2 ≤ blocks.length ∧ x.2.2.1 = (blocks.take x.2.2.2).map (exB a b) ∧ x.2.2.1.length ≤ x.2.2.2) (fun x => blocks.length - x.2.2.2) (none, 0, [], 0) (by (try dsimp only); exact ⟨by omega, rfl, by simp⟩) (Ent.cons rfl (Ent.cons rfl (Ent.nil _))) (Ent.cons (t := 1) rfl (Ent.cons (t := 2) rfl (Ent.cons (t := 12) rfl (Ent.cons (t := 13) rfl (Ent.nil _))))) (Sub.s [0] rfl) ?_))))))
 rintro ⟨outA, outc, out, i⟩ ⟨hi, ho, hl⟩
 dsimp only at hi ho hl ⊢
 refine Za (O.q rfl (Pu.lss rfl rfl rfl) (Zf (Vs (V.condD rfl (fun c1 => ?_) (fun c1 => ?_)))))
 ·refine Zh (O.q rfl (Pu.indexAddr (i) rfl ut24 sz81 rfl rfl (by omega) (by omega) (hblocks.some (by omega))) ?_)
  have e1 : i < blocks.length := by omega
  refine O.q rfl (Pu.loadAgg' (v := B3.v (blocks[i]'e1)) rfl rfl ag81 sz81 rfl rfl (Ld.rds (Ld.old hblocks) (k := i) e1 rfl)) (O.f rfl (Ef.alloc rfl zr81 rfl) ?_)
  rintro _ _ ⟨b1, rfl, rfl⟩
  refine O.s rfl rfl (Ef.storeAll 0 rfl sz81 rfl rfl rfl rfl (by simp [Value.oneCell']) rfl) ?_
  rintro _ _ rfl
  refine Zc (O.q rfl (Pu.loadAgg' (v := B3.v (blocks[i]'e1)) rfl rfl ag81 sz81 rfl rfl (Ld.whole 0 rfl)) (O.m rfl (Zi (V.unroll 3 (Vs ?_)))))
  refine Vr (O.q rfl (Pu.isT (by decide) (Pu.lss rfl rfl rfl)) (Zf (Vs (V.condT rfl (Zh ?_)))))
  refine O.m rfl (O.q rfl (Pu.indexAgg 0 rfl ut81 sz2 pl2 rfl rfl (by decide) (by decide) rfl) (O.m rfl (O.m rfl (Zb (O.m rfl (Zi ?_))))))
  refine Za (O.m rfl (O.q rfl (Pu.eql rfl rfl rfl) (O.m rfl (Zf (V.condD rfl (fun c2 => ?_) (fun c2 => ?_))))))
  ·refine Vr (O.m rfl (O.m rfl (O.q rfl (Pu.indexArr 0 0 rfl ut81 sz2 rfl rfl (by decide) (by decide) (by decide)) (O.s rfl rfl (Ef.store1 (cs' := [_, _, _]) 0 rfl sz2 rfl rfl rfl rfl rfl (ltb rfl) rfl) ?_))))
   rintro _ _ rfl
   refine On (Xb (Xb (Xn (Vr (O.q rfl (Pu.add64 (r := 1) (by decide) (by decide) rfl rfl rfl) (O.m rfl (On (X.again 2 (Za (O.q rfl (Pu.isT (by decide) (Pu.lss rfl rfl rfl)) ?_))))))))))
   refine Zf (Vs (V.condT rfl (Zh (O.m rfl (O.q rfl (Pu.indexAgg 1 rfl ut81 sz2 pl2 rfl rfl (by decide) (by decide) rfl) ?_)))))
   refine O.m rfl (O.m rfl (Zb (O.m rfl (Zi (Za ?_)))))
   refine O.m rfl (O.q rfl (Pu.eql rfl rfl rfl) (O.m rfl (Zf (V.condD rfl (fun c3 => ?_) (fun c3 => ?_)))))
   ·refine Vr (O.m rfl (O.m rfl (O.q rfl (Pu.indexArr 1 1 rfl ut81 sz2 rfl rfl (by decide) (by decide) (by decide)) (O.s rfl rfl (Ef.store1 (cs' := [_, _, _]) 0 rfl sz2 rfl rfl rfl rfl rfl (ltb rfl) rfl) ?_))))
    rintro _ _ rfl
    refine On (Xb (Xb (Xn (Vr (O.q rfl (Pu.add64 (r := 2) (by decide) (by decide) rfl rfl rfl) (O.m rfl (On (X.again 1 (Za (O.q rfl (Pu.isT (by decide) (Pu.lss rfl rfl rfl)) ?_))))))))))
    refine Zf (Vs (V.condT rfl (Zh (O.m rfl (O.q rfl (Pu.indexAgg 2 rfl ut81 sz2 pl2 rfl rfl (by decide) (by decide) rfl) ?_)))))
    refine O.m rfl (O.m rfl (Zb (O.m rfl (Zi (Za ?_)))))
    refine O.m rfl (O.q rfl (Pu.eql rfl rfl rfl) (O.m rfl (Zf (V.condD rfl (fun c4 => ?_) (fun c4 => ?_)))))
    ·refine Vr (O.m rfl (O.m rfl (O.q rfl (Pu.indexArr 2 2 rfl ut81 sz2 rfl rfl (by decide) (by decide) (by decide)) (O.s rfl rfl (Ef.store1 (cs' := [_, _, _]) 0 rfl sz2 rfl rfl rfl rfl rfl (ltb rfl) rfl) ?_))))
     rintro _ _ rfl
     refine On (Xb (Xb (Xn (Vr (O.q rfl (Pu.add64 (r := 3) (by decide) (by decide) rfl rfl rfl) (O.m rfl (On (X.again 0 (Za (O.q rfl (Pu.isF (by decide) (Pu.lss rfl rfl rfl)) ?_))))))))))
     refine Zf (Vs (V.condF rfl (Ve (Xe (Xe (Xh (Xn (Vr (O.m rfl (O.q rfl (Pu.indexArr 0 0 rfl ut81 sz2 rfl rfl (by decide) (by decide) (by decide)) ?_))))))))))
     refine O.q rfl (Pu.load rfl pl2 rfl (Ld.blk 0 rfl rfl)) (O.q rfl (Pu.indexArr 1 1 rfl ut81 sz2 rfl rfl (by decide) (by decide) (by decide)) (O.q rfl (Pu.load rfl pl2 rfl (Ld.blk 0 rfl rfl)) (O.q rfl (Pu.indexArr 2 2 rfl ut81 sz2 rfl rfl (by decide) (by decide) (by decide)) (O.q rfl (Pu.load rfl pl2 rfl (Ld.blk 0 rfl rfl)) (O.f rfl (Ef.callP call148 rfl rfl (fun w hw => blockOf_ok  b b b w   )) ?_)))))
     rintro _ _ ⟨rfl, rfl⟩
     refine O.f rfl (Ef.build B3C ([(bk3 b b b)] : List B3) rfl ut24 inf81 rfl rfl rfl (by first | decide | (simp; done)) (by kernel_rfl)) ?_
     rintro _ _ ⟨A1, hA1, rfl, rfl⟩
     refine O.f rfl (Ef.append (xs := out) (ys := ([(bk3 b b b)] : List B3)) 2 rfl ut24 inf81 rfl rfl rfl rfl rfl rfl hA1 (Ld.own 0 (by exact rfl)) (by simp only [List.length_append, List.length_cons, List.length_nil] at *; omega) (by decide)) ?_
     rintro _ _ ⟨A2, k1, rfl, rfl, hA2⟩
     replace hA2 := hA2 (.inr (by simp))
     refine O.m rfl (Zk (O.q rfl (Pu.add64 (r := ((i + 1 : Nat) : Int)) rfl (by omega) rfl rfl rfl) (O.m rfl (On ?_))))
     exact X.back2 (A2, k1, (out ++ ([(bk3 b b b)] : List B3)), i + 1) (by (try dsimp only); exact ⟨by omega, by rw [take_snoc e1, List.map_append, ho]; refine congrArg _ (congrArg (· :: []) ?_); unfold exB sw2; (repeat' split) <;> first | (exfalso; omega) | rfl, by simp only [List.length_append, List.length_singleton]; omega⟩) (by first | omega | (dsimp only; omega)) (Ent.cons rfl (Ent.cons rfl (Ent.nil _))) (Ent.cons (t := 1) rfl (Ent.cons (t := 2) rfl (Ent.cons (t := 12) rfl (Ent.cons (t := 13) rfl (Ent.nil _))))) (Sub.s [2] rfl)
    ·refine Za (O.m rfl (O.q rfl (Pu.eql rfl rfl rfl) (O.m rfl (Zf (V.condD rfl (fun c5 => ?_) (fun c5 => ?_))))))
     ·refine Vr (O.m rfl (O.m rfl (O.q rfl (Pu.indexArr 2 2 rfl ut81 sz2 rfl rfl (by decide) (by decide) (by decide)) (O.s rfl rfl (Ef.store1 (cs' := [_, _, _]) 0 rfl sz2 rfl rfl rfl rfl rfl (ltb rfl) rfl) ?_))))
      rintro _ _ rfl
      refine On (Xb (Xb (Xn (Vr (O.q rfl (Pu.add64 (r := 3) (by decide) (by decide) rfl rfl rfl) (O.m rfl (On (X.again 0 (Za (O.q rfl (Pu.isF (by decide) (Pu.lss rfl rfl rfl)) ?_))))))))))
      refine Zf (Vs (V.condF rfl (Ve (Xe (Xe (Xh (Xn (Vr (O.m rfl (O.q rfl (Pu.indexArr 0 0 rfl ut81 sz2 rfl rfl (by decide) (by decide) (by decide)) ?_))))))))))
      refine O.q rfl (Pu.load rfl pl2 rfl (Ld.blk 0 rfl rfl)) (O.q rfl (Pu.indexArr 1 1 rfl ut81 sz2 rfl rfl (by decide) (by decide) (by decide)) (O.q rfl (Pu.load rfl pl2 rfl (Ld.blk 0 rfl rfl)) (O.q rfl (Pu.indexArr 2 2 rfl ut81 sz2 rfl rfl (by decide) (by decide) (by decide)) (O.q rfl (Pu.load rfl pl2 rfl (Ld.blk 0 rfl rfl)) (O.f rfl (Ef.callP call148 rfl rfl (fun w hw => blockOf_ok  b b a w   )) ?_)))))
      rintro _ _ ⟨rfl, rfl⟩
      refine O.f rfl (Ef.build B3C ([(bk3 b b a)] : List B3) rfl ut24 inf81 rfl rfl rfl (by first | decide | (simp; done)) (by kernel_rfl)) ?_
      rintro _ _ ⟨A3, hA3, rfl, rfl⟩
      refine O.f rfl (Ef.append (xs := out) (ys := ([(bk3 b b a)] : List B3)) 2 rfl ut24 inf81 rfl rfl rfl rfl rfl rfl hA3 (Ld.own 0 (by exact rfl)) (by simp only [List.length_append, List.length_cons, List.length_nil] at *; omega) (by decide)) ?_
      rintro _ _ ⟨A4, k2, rfl, rfl, hA4⟩
      replace hA4 := hA4 (.inr (by simp))
      refine O.m rfl (Zk (O.q rfl (Pu.add64 (r := ((i + 1 : Nat) : Int)) rfl (by omega) rfl rfl rfl) (O.m rfl (On ?_))))
      exact X.back2 (A4, k2, (out ++ ([(bk3 b b a)] : List B3)), i + 1) (by (try dsimp only); exact ⟨by omega, by rw [take_snoc e1, List.map_append, ho]; refine congrArg _ (congrArg (· :: []) ?_); unfold exB sw2; (repeat' split) <;> first | (exfalso; omega) | rfl, by simp only [List.length_append, List.length_singleton]; omega⟩) (by first | omega | (dsimp only; omega)) (Ent.cons rfl (Ent.cons rfl (Ent.nil _))) (Ent.cons (t := 1) rfl (Ent.cons (t := 2) rfl (Ent.cons (t := 12) rfl (Ent.cons (t := 13) rfl (Ent.nil _))))) (Sub.s [2] rfl)
     ·refine Vk (Xb (Xb (Xn (Vr (O.q rfl (Pu.add64 (r := 3) (by decide) (by decide) rfl rfl rfl) (O.m rfl (On (X.again 0 (Za (O.q rfl (Pu.isF (by decide) (Pu.lss rfl rfl rfl)) ?_))))))))))
      refine Zf (Vs (V.condF rfl (Ve (Xe (Xe (Xh (Xn (Vr (O.m rfl (O.q rfl (Pu.indexArr 0 0 rfl ut81 sz2 rfl rfl (by decide) (by decide) (by decide)) ?_))))))))))
      refine O.q rfl (Pu.load rfl pl2 rfl (Ld.blk 0 rfl rfl)) (O.q rfl (Pu.indexArr 1 1 rfl ut81 sz2 rfl rfl (by decide) (by decide) (by decide)) (O.q rfl (Pu.load rfl pl2 rfl (Ld.blk 0 rfl rfl)) (O.q rfl (Pu.indexArr 2 2 rfl ut81 sz2 rfl rfl (by decide) (by decide) (by decide)) (O.q rfl (Pu.load rfl pl2 rfl (Ld.blk 0 rfl rfl)) (O.f rfl (Ef.callP call148 rfl rfl (fun w hw => blockOf_ok  b b ((blocks[i]'e1).2.2) w   )) ?_)))))
      rintro _ _ ⟨rfl, rfl⟩
      refine O.f rfl (Ef.build B3C ([(bk3 b b ((blocks[i]'e1).2.2))] : List B3) rfl ut24 inf81 rfl rfl rfl (by first | decide | (simp; done)) (by kernel_rfl)) ?_
      rintro _ _ ⟨A5, hA5, rfl, rfl⟩
      refine O.f rfl (Ef.append (xs := out) (ys := ([(bk3 b b ((blocks[i]'e1).2.2))] : List B3)) 2 rfl ut24 inf81 rfl rfl rfl rfl rfl rfl hA5 (Ld.own 0 (by exact rfl)) (by simp only [List.length_append, List.length_cons, List.length_nil] at *; omega) (by decide)) ?_
      rintro _ _ ⟨A6, k3, rfl, rfl, hA6⟩
      replace hA6 := hA6 (.inr (by simp))
      refine O.m rfl (Zk (O.q rfl (Pu.add64 (r := ((i + 1 : Nat) : Int)) rfl (by omega) rfl rfl rfl) (O.m rfl (On ?_))))
      exact X.back2 (A6, k3, (out ++ ([(bk3 b b ((blocks[i]'e1).2.2))] : List B3)), i + 1) (by (try dsimp only); exact ⟨by omega, by rw [take_snoc e1, List.map_append, ho]; refine congrArg _ (congrArg (· :: []) ?_); unfold exB sw2; (repeat' split) <;> first | (exfalso; omega) | rfl, by simp only [List.length_append, List.length_singleton]; omega⟩) (by first | omega | (dsimp only; omega)) (Ent.cons rfl (Ent.cons rfl (Ent.nil _))) (Ent.cons (t := 1) rfl (Ent.cons (t := 2) rfl (Ent.cons (t := 12) rfl (Ent.cons (t := 13) rfl (Ent.nil _))))) (Sub.s [2] rfl)
   ·refine Za (O.m rfl (O.q rfl (Pu.eql rfl rfl rfl) (O.m rfl (Zf (V.condD rfl (fun c6 => ?_) (fun c6 => ?_))))))
    ·refine Vr (O.m rfl (O.m rfl (O.q rfl (Pu.indexArr 1 1 rfl ut81 sz2 rfl rfl (by decide) (by decide) (by decide)) (O.s rfl rfl (Ef.store1 (cs' := [_, _, _]) 0 rfl sz2 rfl rfl rfl rfl rfl (ltb rfl) rfl) ?_))))
     rintro _ _ rfl
     refine On (Xb (Xb (Xn (Vr (O.q rfl (Pu.add64 (r := 2) (by decide) (by decide) rfl rfl rfl) (O.m rfl (On (X.again 1 (Za (O.q rfl (Pu.isT (by decide) (Pu.lss rfl rfl rfl)) ?_))))))))))
     refine Zf (Vs (V.condT rfl (Zh (O.m rfl (O.q rfl (Pu.indexAgg 2 rfl ut81 sz2 pl2 rfl rfl (by decide) (by decide) rfl) ?_)))))
     refine O.m rfl (O.m rfl (Zb (O.m rfl (Zi (Za ?_)))))
     refine O.m rfl (O.q rfl (Pu.eql rfl rfl rfl) (O.m rfl (Zf (V.condD rfl (fun c7 => ?_) (fun c7 => ?_)))))
     ·refine Vr (O.m rfl (O.m rfl (O.q rfl (Pu.indexArr 2 2 rfl ut81 sz2 rfl rfl (by decide) (by decide) (by decide)) (O.s rfl rfl (Ef.store1 (cs' := [_, _, _]) 0 rfl sz2 rfl rfl rfl rfl rfl (ltb rfl) rfl) ?_))))
      rintro _ _ rfl
      refine On (Xb (Xb (Xn (Vr (O.q rfl (Pu.add64 (r := 3) (by decide) (by decide) rfl rfl rfl) (O.m rfl (On (X.again 0 (Za (O.q rfl (Pu.isF (by decide) (Pu.lss rfl rfl rfl)) ?_))))))))))
      refine Zf (Vs (V.condF rfl (Ve (Xe (Xe (Xh (Xn (Vr (O.m rfl (O.q rfl (Pu.indexArr 0 0 rfl ut81 sz2 rfl rfl (by decide) (by decide) (by decide)) ?_))))))))))
      refine O.q rfl (Pu.load rfl pl2 rfl (Ld.blk 0 rfl rfl)) (O.q rfl (Pu.indexArr 1 1 rfl ut81 sz2 rfl rfl (by decide) (by decide) (by decide)) (O.q rfl (Pu.load rfl pl2 rfl (Ld.blk 0 rfl rfl)) (O.q rfl (Pu.indexArr 2 2 rfl ut81 sz2 rfl rfl (by decide) (by decide) (by decide)) (O.q rfl (Pu.load rfl pl2 rfl (Ld.blk 0 rfl rfl)) (O.f rfl (Ef.callP call148 rfl rfl (fun w hw => blockOf_ok  b a b w   )) ?_)))))
      rintro _ _ ⟨rfl, rfl⟩
      refine O.f rfl (Ef.build B3C ([(bk3 b a b)] : List B3) rfl ut24 inf81 rfl rfl rfl (by first | decide | (simp; done)) (by kernel_rfl)) ?_
      rintro _ _ ⟨A7, hA7, rfl, rfl⟩
      refine O.f rfl (Ef.append (xs := out) (ys := ([(bk3 b a b)] : List B3)) 2 rfl ut24 inf81 rfl rfl rfl rfl rfl rfl hA7 (Ld.own 0 (by exact rfl)) (by simp only [List.length_append, List.length_cons, List.length_nil] at *; omega) (by decide)) ?_
      rintro _ _ ⟨A8, k4, rfl, rfl, hA8⟩
      replace hA8 := hA8 (.inr (by simp))
      refine O.m rfl (Zk (O.q rfl (Pu.add64 (r := ((i + 1 : Nat) : Int)) rfl (by omega) rfl rfl rfl) (O.m rfl (On ?_))))
      exact X.back2 (A8, k4, (out ++ ([(bk3 b a b)] : List B3)), i + 1) (by (try dsimp only); exact ⟨by omega, by rw [take_snoc e1, List.map_append, ho]; refine congrArg _ (congrArg (· :: []) ?_); unfold exB sw2; (repeat' split) <;> first | (exfalso; omega) | rfl, by simp only [List.length_append, List.length_singleton]; omega⟩) (by first | omega | (dsimp only; omega)) (Ent.cons rfl (Ent.cons rfl (Ent.nil _))) (Ent.cons (t := 1) rfl (Ent.cons (t := 2) rfl (Ent.cons (t := 12) rfl (Ent.cons (t := 13) rfl (Ent.nil _))))) (Sub.s [2] rfl)
     ·refine Za (O.m rfl (O.q rfl (Pu.eql rfl rfl rfl) (O.m rfl (Zf (V.condD rfl (fun c8 => ?_) (fun c8 => ?_))))))
      ·refine Vr (O.m rfl (O.m rfl (O.q rfl (Pu.indexArr 2 2 rfl ut81 sz2 rfl rfl (by decide) (by decide) (by decide)) (O.s rfl rfl (Ef.store1 (cs' := [_, _, _]) 0 rfl sz2 rfl rfl rfl rfl rfl (ltb rfl) rfl) ?_))))
       rintro _ _ rfl
       refine On (Xb (Xb (Xn (Vr (O.q rfl (Pu.add64 (r := 3) (by decide) (by decide) rfl rfl rfl) (O.m rfl (On (X.again 0 (Za (O.q rfl (Pu.isF (by decide) (Pu.lss rfl rfl rfl)) ?_))))))))))
       refine Zf (Vs (V.condF rfl (Ve (Xe (Xe (Xh (Xn (Vr (O.m rfl (O.q rfl (Pu.indexArr 0 0 rfl ut81 sz2 rfl rfl (by decide) (by decide) (by decide)) ?_))))))))))
       refine O.q rfl (Pu.load rfl pl2 rfl (Ld.blk 0 rfl rfl)) (O.q rfl (Pu.indexArr 1 1 rfl ut81 sz2 rfl rfl (by decide) (by decide) (by decide)) (O.q rfl (Pu.load rfl pl2 rfl (Ld.blk 0 rfl rfl)) (O.q rfl (Pu.indexArr 2 2 rfl ut81 sz2 rfl rfl (by decide) (by decide) (by decide)) (O.q rfl (Pu.load rfl pl2 rfl (Ld.blk 0 rfl rfl)) (O.f rfl (Ef.callP call148 rfl rfl (fun w hw => blockOf_ok  b a a w   )) ?_)))))
       rintro _ _ ⟨rfl, rfl⟩
       refine O.f rfl (Ef.build B3C ([(bk3 b a a)] : List B3) rfl ut24 inf81 rfl rfl rfl (by first | decide | (simp; done)) (by kernel_rfl)) ?_
       rintro _ _ ⟨A9, hA9, rfl, rfl⟩
       refine O.f rfl (Ef.append (xs := out) (ys := ([(bk3 b a a)] : List B3)) 2 rfl ut24 inf81 rfl rfl rfl rfl rfl rfl hA9 (Ld.own 0 (by exact rfl)) (by simp only [List.length_append, List.length_cons, List.length_nil] at *; omega) (by decide)) ?_
       rintro _ _ ⟨A10, k5, rfl, rfl, hA10⟩
       replace hA10 := hA10 (.inr (by simp))
       refine O.m rfl (Zk (O.q rfl (Pu.add64 (r := ((i + 1 : Nat) : Int)) rfl (by omega) rfl rfl rfl) (O.m rfl (On ?_))))
       exact X.back2 (A10, k5, (out ++ ([(bk3 b a a)] : List B3)), i + 1) (by (try dsimp only); exact ⟨by omega, by rw [take_snoc e1, List.map_append, ho]; refine congrArg _ (congrArg (· :: []) ?_); unfold exB sw2; (repeat' split) <;> first | (exfalso; omega) | rfl, by simp only [List.length_append, List.length_singleton]; omega⟩) (by first | omega | (dsimp only; omega)) (Ent.cons rfl (Ent.cons rfl (Ent.nil _))) (Ent.cons (t := 1) rfl (Ent.cons (t := 2) rfl (Ent.cons (t := 12) rfl (Ent.cons (t := 13) rfl (Ent.nil _))))) (Sub.s [2] rfl)
      ·refine Vk (Xb (Xb (Xn (Vr (O.q rfl (Pu.add64 (r := 3) (by decide) (by decide) rfl rfl rfl) (O.m rfl (On (X.again 0 (Za (O.q rfl (Pu.isF (by decide) (Pu.lss rfl rfl rfl)) ?_))))))))))
       refine Zf (Vs (V.condF rfl (Ve (Xe (Xe (Xh (Xn (Vr (O.m rfl (O.q rfl (Pu.indexArr 0 0 rfl ut81 sz2 rfl rfl (by decide) (by decide) (by decide)) ?_))))))))))
       refine O.q rfl (Pu.load rfl pl2 rfl (Ld.blk 0 rfl rfl)) (O.q rfl (Pu.indexArr 1 1 rfl ut81 sz2 rfl rfl (by decide) (by decide) (by decide)) (O.q rfl (Pu.load rfl pl2 rfl (Ld.blk 0 rfl rfl)) (O.q rfl (Pu.indexArr 2 2 rfl ut81 sz2 rfl rfl (by decide) (by decide) (by decide)) (O.q rfl (Pu.load rfl pl2 rfl (Ld.blk 0 rfl rfl)) (O.f rfl (Ef.callP call148 rfl rfl (fun w hw => blockOf_ok  b a ((blocks[i]'e1).2.2) w   )) ?_)))))
       rintro _ _ ⟨rfl, rfl⟩
       refine O.f rfl (Ef.build B3C ([(bk3 b a ((blocks[i]'e1).2.2))] : List B3) rfl ut24 inf81 rfl rfl rfl (by first | decide | (simp; done)) (by kernel_rfl)) ?_
       rintro _ _ ⟨A11, hA11, rfl, rfl⟩
       refine O.f rfl (Ef.append (xs := out) (ys := ([(bk3 b a ((blocks[i]'e1).2.2))] : List B3)) 2 rfl ut24 inf81 rfl rfl rfl rfl rfl rfl hA11 (Ld.own 0 (by exact rfl)) (by simp only [List.length_append, List.length_cons, List.length_nil] at *; omega) (by decide)) ?_
       rintro _ _ ⟨A12, k6, rfl, rfl, hA12⟩
       replace hA12 := hA12 (.inr (by simp))
       refine O.m rfl (Zk (O.q rfl (Pu.add64 (r := ((i + 1 : Nat) : Int)) rfl (by omega) rfl rfl rfl) (O.m rfl (On ?_))))
       exact X.back2 (A12, k6, (out ++ ([(bk3 b a ((blocks[i]'e1).2.2))] : List B3)), i + 1) (by (try dsimp only); exact ⟨by omega, by rw [take_snoc e1, List.map_append, ho]; refine congrArg _ (congrArg (· :: []) ?_); unfold exB sw2; (repeat' split) <;> first | (exfalso; omega) | rfl, by simp only [List.length_append, List.length_singleton]; omega⟩) (by first | omega | (dsimp only; omega)) (Ent.cons rfl (Ent.cons rfl (Ent.nil _))) (Ent.cons (t := 1) rfl (Ent.cons (t := 2) rfl (Ent.cons (t := 12) rfl (Ent.cons (t := 13) rfl (Ent.nil _))))) (Sub.s [2] rfl)
    ·refine Vk (Xb (Xb (Xn (Vr (O.q rfl (Pu.add64 (r := 2) (by decide) (by decide) rfl rfl rfl) (O.m rfl (On (X.again 1 (Za (O.q rfl (Pu.isT (by decide) (Pu.lss rfl rfl rfl)) ?_))))))))))
     refine Zf (Vs (V.condT rfl (Zh (O.m rfl (O.q rfl (Pu.indexAgg 2 rfl ut81 sz2 pl2 rfl rfl (by decide) (by decide) rfl) ?_)))))
     refine O.m rfl (O.m rfl (Zb (O.m rfl (Zi (Za ?_)))))
     refine O.m rfl (O.q rfl (Pu.eql rfl rfl rfl) (O.m rfl (Zf (V.condD rfl (fun c9 => ?_) (fun c9 => ?_)))))
     ·refine Vr (O.m rfl (O.m rfl (O.q rfl (Pu.indexArr 2 2 rfl ut81 sz2 rfl rfl (by decide) (by decide) (by decide)) (O.s rfl rfl (Ef.store1 (cs' := [_, _, _]) 0 rfl sz2 rfl rfl rfl rfl rfl (ltb rfl) rfl) ?_))))
      rintro _ _ rfl
      refine On (Xb (Xb (Xn (Vr (O.q rfl (Pu.add64 (r := 3) (by decide) (by decide) rfl rfl rfl) (O.m rfl (On (X.again 0 (Za (O.q rfl (Pu.isF (by decide) (Pu.lss rfl rfl rfl)) ?_))))))))))
      refine Zf (Vs (V.condF rfl (Ve (Xe (Xe (Xh (Xn (Vr (O.m rfl (O.q rfl (Pu.indexArr 0 0 rfl ut81 sz2 rfl rfl (by decide) (by decide) (by decide)) ?_))))))))))
      refine O.q rfl (Pu.load rfl pl2 rfl (Ld.blk 0 rfl rfl)) (O.q rfl (Pu.indexArr 1 1 rfl ut81 sz2 rfl rfl (by decide) (by decide) (by decide)) (O.q rfl (Pu.load rfl pl2 rfl (Ld.blk 0 rfl rfl)) (O.q rfl (Pu.indexArr 2 2 rfl ut81 sz2 rfl rfl (by decide) (by decide) (by decide)) (O.q rfl (Pu.load rfl pl2 rfl (Ld.blk 0 rfl rfl)) (O.f rfl (Ef.callP call148 rfl rfl (fun w hw => blockOf_ok  b ((blocks[i]'e1).2.1) b w   )) ?_)))))
      rintro _ _ ⟨rfl, rfl⟩
      refine O.f rfl (Ef.build B3C ([(bk3 b ((blocks[i]'e1).2.1) b)] : List B3) rfl ut24 inf81 rfl rfl rfl (by first | decide | (simp; done)) (by kernel_rfl)) ?_
      rintro _ _ ⟨A13, hA13, rfl, rfl⟩
      refine O.f rfl (Ef.append (xs := out) (ys := ([(bk3 b ((blocks[i]'e1).2.1) b)] : List B3)) 2 rfl ut24 inf81 rfl rfl rfl rfl rfl rfl hA13 (Ld.own 0 (by exact rfl)) (by simp only [List.length_append, List.length_cons, List.length_nil] at *; omega) (by decide)) ?_
      rintro _ _ ⟨A14, k7, rfl, rfl, hA14⟩
      replace hA14 := hA14 (.inr (by simp))
      refine O.m rfl (Zk (O.q rfl (Pu.add64 (r := ((i + 1 : Nat) : Int)) rfl (by omega) rfl rfl rfl) (O.m rfl (On ?_))))
      exact X.back2 (A14, k7, (out ++ ([(bk3 b ((blocks[i]'e1).2.1) b)] : List B3)), i + 1) (by (try dsimp only); exact ⟨by omega, by rw [take_snoc e1, List.map_append, ho]; refine congrArg _ (congrArg (· :: []) ?_); unfold exB sw2; (repeat' split) <;> first | (exfalso; omega) | rfl, by simp only [List.length_append, List.length_singleton]; omega⟩) (by first | omega | (dsimp only; omega)) (Ent.cons rfl (Ent.cons rfl (Ent.nil _))) (Ent.cons (t := 1) rfl (Ent.cons (t := 2) rfl (Ent.cons (t := 12) rfl (Ent.cons (t := 13) rfl (Ent.nil _))))) (Sub.s [2] rfl)
     ·refine Za (O.m rfl (O.q rfl (Pu.eql rfl rfl rfl) (O.m rfl (Zf (V.condD rfl (fun c10 => ?_) (fun c10 => ?_))))))
      ·refine Vr (O.m rfl (O.m rfl (O.q rfl (Pu.indexArr 2 2 rfl ut81 sz2 rfl rfl (by decide) (by decide) (by decide)) (O.s rfl rfl (Ef.store1 (cs' := [_, _, _]) 0 rfl sz2 rfl rfl rfl rfl rfl (ltb rfl) rfl) ?_))))
       rintro _ _ rfl
       refine On (Xb (Xb (Xn (Vr (O.q rfl (Pu.add64 (r := 3) (by decide) (by decide) rfl rfl rfl) (O.m rfl (On (X.again 0 (Za (O.q rfl (Pu.isF (by decide) (Pu.lss rfl rfl rfl)) ?_))))))))))
       refine Zf (Vs (V.condF rfl (Ve (Xe (Xe (Xh (Xn (Vr (O.m rfl (O.q rfl (Pu.indexArr 0 0 rfl ut81 sz2 rfl rfl (by decide) (by decide) (by decide)) ?_))))))))))
       refine O.q rfl (Pu.load rfl pl2 rfl (Ld.blk 0 rfl rfl)) (O.q rfl (Pu.indexArr 1 1 rfl ut81 sz2 rfl rfl (by decide) (by decide) (by decide)) (O.q rfl (Pu.load rfl pl2 rfl (Ld.blk 0 rfl rfl)) (O.q rfl (Pu.indexArr 2 2 rfl ut81 sz2 rfl rfl (by decide) (by decide) (by decide)) (O.q rfl (Pu.load rfl pl2 rfl (Ld.blk 0 rfl rfl)) (O.f rfl (Ef.callP call148 rfl rfl (fun w hw => blockOf_ok  b ((blocks[i]'e1).2.1) a w   )) ?_)))))
       rintro _ _ ⟨rfl, rfl⟩
       refine O.f rfl (Ef.build B3C ([(bk3 b ((blocks[i]'e1).2.1) a)] : List B3) rfl ut24 inf81 rfl rfl rfl (by first | decide | (simp; done)) (by kernel_rfl)) ?_
       rintro _ _ ⟨A15, hA15, rfl, rfl⟩
       refine O.f rfl (Ef.append (xs := out) (ys := ([(bk3 b ((blocks[i]'e1).2.1) a)] : List B3)) 2 rfl ut24 inf81 rfl rfl rfl rfl rfl rfl hA15 (Ld.own 0 (by exact rfl)) (by simp only [List.length_append, List.length_cons, List.length_nil] at *; omega) (by decide)) ?_
       rintro _ _ ⟨A16, k8, rfl, rfl, hA16⟩
       replace hA16 := hA16 (.inr (by simp))
       refine O.m rfl (Zk (O.q rfl (Pu.add64 (r := ((i + 1 : Nat) : Int)) rfl (by omega) rfl rfl rfl) (O.m rfl (On ?_))))
       exact X.back2 (A16, k8, (out ++ ([(bk3 b ((blocks[i]'e1).2.1) a)] : List B3)), i + 1) (by (try dsimp only); exact ⟨by omega, by rw [take_snoc e1, List.map_append, ho]; refine congrArg _ (congrArg (· :: []) ?_); unfold exB sw2; (repeat' split) <;> first | (exfalso; omega) | rfl, by simp only [List.length_append, List.length_singleton]; omega⟩) (by first | omega | (dsimp only; omega)) (Ent.cons rfl (Ent.cons rfl (Ent.nil _))) (Ent.cons (t := 1) rfl (Ent.cons (t := 2) rfl (Ent.cons (t := 12) rfl (Ent.cons (t := 13) rfl (Ent.nil _))))) (Sub.s [2] rfl)
      ·refine Vk (Xb (Xb (Xn (Vr (O.q rfl (Pu.add64 (r := 3) (by decide) (by decide) rfl rfl rfl) (O.m rfl (On (X.again 0 (Za (O.q rfl (Pu.isF (by decide) (Pu.lss rfl rfl rfl)) ?_))))))))))
       refine Zf (Vs (V.condF rfl (Ve (Xe (Xe (Xh (Xn (Vr (O.m rfl (O.q rfl (Pu.indexArr 0 0 rfl ut81 sz2 rfl rfl (by decide) (by decide) (by decide)) ?_))))))))))
       refine O.q rfl (Pu.load rfl pl2 rfl (Ld.blk 0 rfl rfl)) (O.q rfl (Pu.indexArr 1 1 rfl ut81 sz2 rfl rfl (by decide) (by decide) (by decide)) (O.q rfl (Pu.load rfl pl2 rfl (Ld.blk 0 rfl rfl)) (O.q rfl (Pu.indexArr 2 2 rfl ut81 sz2 rfl rfl (by decide) (by decide) (by decide)) (O.q rfl (Pu.load rfl pl2 rfl (Ld.blk 0 rfl rfl)) (O.f rfl (Ef.callP call148 rfl rfl (fun w hw => blockOf_ok  b ((blocks[i]'e1).2.1) ((blocks[i]'e1).2.2) w   )) ?_)))))
       rintro _ _ ⟨rfl, rfl⟩
       refine O.f rfl (Ef.build B3C ([(bk3 b ((blocks[i]'e1).2.1) ((blocks[i]'e1).2.2))] : List B3) rfl ut24 inf81 rfl rfl rfl (by first | decide | (simp; done)) (by kernel_rfl)) ?_
       rintro _ _ ⟨A17, hA17, rfl, rfl⟩
       refine O.f rfl (Ef.append (xs := out) (ys := ([(bk3 b ((blocks[i]'e1).2.1) ((blocks[i]'e1).2.2))] : List B3)) 2 rfl ut24 inf81 rfl rfl rfl rfl rfl rfl hA17 (Ld.own 0 (by exact rfl)) (by simp only [List.length_append, List.length_cons, List.length_nil] at *; omega) (by decide)) ?_
       rintro _ _ ⟨A18, k9, rfl, rfl, hA18⟩
       replace hA18 := hA18 (.inr (by simp))
       refine O.m rfl (Zk (O.q rfl (Pu.add64 (r := ((i + 1 : Nat) : Int)) rfl (by omega) rfl rfl rfl) (O.m rfl (On ?_))))
       exact X.back2 (A18, k9, (out ++ ([(bk3 b ((blocks[i]'e1).2.1) ((blocks[i]'e1).2.2))] : List B3)), i + 1) (by (try dsimp only); exact ⟨by omega, by rw [take_snoc e1, List.map_append, ho]; refine congrArg _ (congrArg (· :: []) ?_); unfold exB sw2; (repeat' split) <;> first | (exfalso; omega) | rfl, by simp only [List.length_append, List.length_singleton]; omega⟩) (by first | omega | (dsimp only; omega)) (Ent.cons rfl (Ent.cons rfl (Ent.nil _))) (Ent.cons (t := 1) rfl (Ent.cons (t := 2) rfl (Ent.cons (t := 12) rfl (Ent.cons (t := 13) rfl (Ent.nil _))))) (Sub.s [2] rfl)
  ·refine Za (O.m rfl (O.q rfl (Pu.eql rfl rfl rfl) (O.m rfl (Zf (V.condD rfl (fun c11 => ?_) (fun c11 => ?_))))))
   ·refine Vr (O.m rfl (O.m rfl (O.q rfl (Pu.indexArr 0 0 rfl ut81 sz2 rfl rfl (by decide) (by decide) (by decide)) (O.s rfl rfl (Ef.store1 (cs' := [_, _, _]) 0 rfl sz2 rfl rfl rfl rfl rfl (ltb rfl) rfl) ?_))))
    rintro _ _ rfl
    refine On (Xb (Xb (Xn (Vr (O.q rfl (Pu.add64 (r := 1) (by decide) (by decide) rfl rfl rfl) (O.m rfl (On (X.again 2 (Za (O.q rfl (Pu.isT (by decide) (Pu.lss rfl rfl rfl)) ?_))))))))))
    refine Zf (Vs (V.condT rfl (Zh (O.m rfl (O.q rfl (Pu.indexAgg 1 rfl ut81 sz2 pl2 rfl rfl (by decide) (by decide) rfl) ?_)))))
    refine O.m rfl (O.m rfl (Zb (O.m rfl (Zi (Za ?_)))))
    refine O.m rfl (O.q rfl (Pu.eql rfl rfl rfl) (O.m rfl (Zf (V.condD rfl (fun c12 => ?_) (fun c12 => ?_)))))
    ·refine Vr (O.m rfl (O.m rfl (O.q rfl (Pu.indexArr 1 1 rfl ut81 sz2 rfl rfl (by decide) (by decide) (by decide)) (O.s rfl rfl (Ef.store1 (cs' := [_, _, _]) 0 rfl sz2 rfl rfl rfl rfl rfl (ltb rfl) rfl) ?_))))
     rintro _ _ rfl
     refine On (Xb (Xb (Xn (Vr (O.q rfl (Pu.add64 (r := 2) (by decide) (by decide) rfl rfl rfl) (O.m rfl (On (X.again 1 (Za (O.q rfl (Pu.isT (by decide) (Pu.lss rfl rfl rfl)) ?_))))))))))
     refine Zf (Vs (V.condT rfl (Zh (O.m rfl (O.q rfl (Pu.indexAgg 2 rfl ut81 sz2 pl2 rfl rfl (by decide) (by decide) rfl) ?_)))))
     refine O.m rfl (O.m rfl (Zb (O.m rfl (Zi (Za ?_)))))
     refine O.m rfl (O.q rfl (Pu.eql rfl rfl rfl) (O.m rfl (Zf (V.condD rfl (fun c13 => ?_) (fun c13 => ?_)))))
     ·refine Vr (O.m rfl (O.m rfl (O.q rfl (Pu.indexArr 2 2 rfl ut81 sz2 rfl rfl (by decide) (by decide) (by decide)) (O.s rfl rfl (Ef.store1 (cs' := [_, _, _]) 0 rfl sz2 rfl rfl rfl rfl rfl (ltb rfl) rfl) ?_))))
      rintro _ _ rfl
      refine On (Xb (Xb (Xn (Vr (O.q rfl (Pu.add64 (r := 3) (by decide) (by decide) rfl rfl rfl) (O.m rfl (On (X.again 0 (Za (O.q rfl (Pu.isF (by decide) (Pu.lss rfl rfl rfl)) ?_))))))))))
      refine Zf (Vs (V.condF rfl (Ve (Xe (Xe (Xh (Xn (Vr (O.m rfl (O.q rfl (Pu.indexArr 0 0 rfl ut81 sz2 rfl rfl (by decide) (by decide) (by decide)) ?_))))))))))
      refine O.q rfl (Pu.load rfl pl2 rfl (Ld.blk 0 rfl rfl)) (O.q rfl (Pu.indexArr 1 1 rfl ut81 sz2 rfl rfl (by decide) (by decide) (by decide)) (O.q rfl (Pu.load rfl pl2 rfl (Ld.blk 0 rfl rfl)) (O.q rfl (Pu.indexArr 2 2 rfl ut81 sz2 rfl rfl (by decide) (by decide) (by decide)) (O.q rfl (Pu.load rfl pl2 rfl (Ld.blk 0 rfl rfl)) (O.f rfl (Ef.callP call148 rfl rfl (fun w hw => blockOf_ok  a b b w   )) ?_)))))
      rintro _ _ ⟨rfl, rfl⟩
      refine O.f rfl (Ef.build B3C ([(bk3 a b b)] : List B3) rfl ut24 inf81 rfl rfl rfl (by first | decide | (simp; done)) (by kernel_rfl)) ?_
      rintro _ _ ⟨A19, hA19, rfl, rfl⟩
      refine O.f rfl (Ef.append (xs := out) (ys := ([(bk3 a b b)] : List B3)) 2 rfl ut24 inf81 rfl rfl rfl rfl rfl rfl hA19 (Ld.own 0 (by exact rfl)) (by simp only [List.length_append, List.length_cons, List.length_nil] at *; omega) (by decide)) ?_
      rintro _ _ ⟨A20, k10, rfl, rfl, hA20⟩
      replace hA20 := hA20 (.inr (by simp))
      refine O.m rfl (Zk (O.q rfl (Pu.add64 (r := ((i + 1 : Nat) : Int)) rfl (by omega) rfl rfl rfl) (O.m rfl (On ?_))))
      exact X.back2 (A20, k10, (out ++ ([(bk3 a b b)] : List B3)), i + 1) (by (try dsimp only); exact ⟨by omega, by rw [take_snoc e1, List.map_append, ho]; refine congrArg _ (congrArg (· :: []) ?_); unfold exB sw2; (repeat' split) <;> first | (exfalso; omega) | rfl, by simp only [List.length_append, List.length_singleton]; omega⟩) (by first | omega | (dsimp only; omega)) (Ent.cons rfl (Ent.cons rfl (Ent.nil _))) (Ent.cons (t := 1) rfl (Ent.cons (t := 2) rfl (Ent.cons (t := 12) rfl (Ent.cons (t := 13) rfl (Ent.nil _))))) (Sub.s [2] rfl)
     ·refine Za (O.m rfl (O.q rfl (Pu.eql rfl rfl rfl) (O.m rfl (Zf (V.condD rfl (fun c14 => ?_) (fun c14 => ?_))))))
      ·refine Vr (O.m rfl (O.m rfl (O.q rfl (Pu.indexArr 2 2 rfl ut81 sz2 rfl rfl (by decide) (by decide) (by decide)) (O.s rfl rfl (Ef.store1 (cs' := [_, _, _]) 0 rfl sz2 rfl rfl rfl rfl rfl (ltb rfl) rfl) ?_))))
       rintro _ _ rfl
       refine On (Xb (Xb (Xn (Vr (O.q rfl (Pu.add64 (r := 3) (by decide) (by decide) rfl rfl rfl) (O.m rfl (On (X.again 0 (Za (O.q rfl (Pu.isF (by decide) (Pu.lss rfl rfl rfl)) ?_))))))))))
       refine Zf (Vs (V.condF rfl (Ve (Xe (Xe (Xh (Xn (Vr (O.m rfl (O.q rfl (Pu.indexArr 0 0 rfl ut81 sz2 rfl rfl (by decide) (by decide) (by decide)) ?_))))))))))
       refine O.q rfl (Pu.load rfl pl2 rfl (Ld.blk 0 rfl rfl)) (O.q rfl (Pu.indexArr 1 1 rfl ut81 sz2 rfl rfl (by decide) (by decide) (by decide)) (O.q rfl (Pu.load rfl pl2 rfl (Ld.blk 0 rfl rfl)) (O.q rfl (Pu.indexArr 2 2 rfl ut81 sz2 rfl rfl (by decide) (by decide) (by decide)) (O.q rfl (Pu.load rfl pl2 rfl (Ld.blk 0 rfl rfl)) (O.f rfl (Ef.callP call148 rfl rfl (fun w hw => blockOf_ok  a b a w   )) ?_)))))
       rintro _ _ ⟨rfl, rfl⟩
       refine O.f rfl (Ef.build B3C ([(bk3 a b a)] : List B3) rfl ut24 inf81 rfl rfl rfl (by first | decide | (simp; done)) (by kernel_rfl)) ?_
       rintro _ _ ⟨A21, hA21, rfl, rfl⟩
       refine O.f rfl (Ef.append (xs := out) (ys := ([(bk3 a b a)] : List B3)) 2 rfl ut24 inf81 rfl rfl rfl rfl rfl rfl hA21 (Ld.own 0 (by exact rfl)) (by simp only [List.length_append, List.length_cons, List.length_nil] at *; omega) (by decide)) ?_
       rintro _ _ ⟨A22, k11, rfl, rfl, hA22⟩
       replace hA22 := hA22 (.inr (by simp))
       refine O.m rfl (Zk (O.q rfl (Pu.add64 (r := ((i + 1 : Nat) : Int)) rfl (by omega) rfl rfl rfl) (O.m rfl (On ?_))))
       exact X.back2 (A22, k11, (out ++ ([(bk3 a b a)] : List B3)), i + 1) (by (try dsimp only); exact ⟨by omega, by rw [take_snoc e1, List.map_append, ho]; refine congrArg _ (congrArg (· :: []) ?_); unfold exB sw2; (repeat' split) <;> first | (exfalso; omega) | rfl, by simp only [List.length_append, List.length_singleton]; omega⟩) (by first | omega | (dsimp only; omega)) (Ent.cons rfl (Ent.cons rfl (Ent.nil _))) (Ent.cons (t := 1) rfl (Ent.cons (t := 2) rfl (Ent.cons (t := 12) rfl (Ent.cons (t := 13) rfl (Ent.nil _))))) (Sub.s [2] rfl)
      ·refine Vk (Xb (Xb (Xn (Vr (O.q rfl (Pu.add64 (r := 3) (by decide) (by decide) rfl rfl rfl) (O.m rfl (On (X.again 0 (Za (O.q rfl (Pu.isF (by decide) (Pu.lss rfl rfl rfl)) ?_))))))))))
       refine Zf (Vs (V.condF rfl (Ve (Xe (Xe (Xh (Xn (Vr (O.m rfl (O.q rfl (Pu.indexArr 0 0 rfl ut81 sz2 rfl rfl (by decide) (by decide) (by decide)) ?_))))))))))
       refine O.q rfl (Pu.load rfl pl2 rfl (Ld.blk 0 rfl rfl)) (O.q rfl (Pu.indexArr 1 1 rfl ut81 sz2 rfl rfl (by decide) (by decide) (by decide)) (O.q rfl (Pu.load rfl pl2 rfl (Ld.blk 0 rfl rfl)) (O.q rfl (Pu.indexArr 2 2 rfl ut81 sz2 rfl rfl (by decide) (by decide) (by decide)) (O.q rfl (Pu.load rfl pl2 rfl (Ld.blk 0 rfl rfl)) (O.f rfl (Ef.callP call148 rfl rfl (fun w hw => blockOf_ok  a b ((blocks[i]'e1).2.2) w   )) ?_)))))
       rintro _ _ ⟨rfl, rfl⟩
       refine O.f rfl (Ef.build B3C ([(bk3 a b ((blocks[i]'e1).2.2))] : List B3) rfl ut24 inf81 rfl rfl rfl (by first | decide | (simp; done)) (by kernel_rfl)) ?_
       rintro _ _ ⟨A23, hA23, rfl, rfl⟩
       refine O.f rfl (Ef.append (xs := out) (ys := ([(bk3 a b ((blocks[i]'e1).2.2))] : List B3)) 2 rfl ut24 inf81 rfl rfl rfl rfl rfl rfl hA23 (Ld.own 0 (by exact rfl)) (by simp only [List.length_append, List.length_cons, List.length_nil] at *; omega) (by decide)) ?_
       rintro _ _ ⟨A24, k12, rfl, rfl, hA24⟩
       replace hA24 := hA24 (.inr (by simp))
       refine O.m rfl (Zk (O.q rfl (Pu.add64 (r := ((i + 1 : Nat) : Int)) rfl (by omega) rfl rfl rfl) (O.m rfl (On ?_))))
       exact X.back2 (A24, k12, (out ++ ([(bk3 a b ((blocks[i]'e1).2.2))] : List B3)), i + 1) (by (try dsimp only); exact ⟨by omega, by rw [take_snoc e1, List.map_append, ho]; refine congrArg _ (congrArg (· :: []) ?_); unfold exB sw2; (repeat' split) <;> first | (exfalso; omega) | rfl, by simp only [List.length_append, List.length_singleton]; omega⟩) (by first | omega | (dsimp only; omega)) (Ent.cons rfl (Ent.cons rfl (Ent.nil _))) (Ent.cons (t := 1) rfl (Ent.cons (t := 2) rfl (Ent.cons (t := 12) rfl (Ent.cons (t := 13) rfl (Ent.nil _))))) (Sub.s [2] rfl)
    ·refine Za (O.m rfl (O.q rfl (Pu.eql rfl rfl rfl) (O.m rfl (Zf (V.condD rfl (fun c15 => ?_) (fun c15 => ?_))))))
     ·refine Vr (O.m rfl (O.m rfl (O.q rfl (Pu.indexArr 1 1 rfl ut81 sz2 rfl rfl (by decide) (by decide) (by decide)) (O.s rfl rfl (Ef.store1 (cs' := [_, _, _]) 0 rfl sz2 rfl rfl rfl rfl rfl (ltb rfl) rfl) ?_))))
      rintro _ _ rfl
      refine On (Xb (Xb (Xn (Vr (O.q rfl (Pu.add64 (r := 2) (by decide) (by decide) rfl rfl rfl) (O.m rfl (On (X.again 1 (Za (O.q rfl (Pu.isT (by decide) (Pu.lss rfl rfl rfl)) ?_))))))))))
      refine Zf (Vs (V.condT rfl (Zh (O.m rfl (O.q rfl (Pu.indexAgg 2 rfl ut81 sz2 pl2 rfl rfl (by decide) (by decide) rfl) ?_)))))
      refine O.m rfl (O.m rfl (Zb (O.m rfl (Zi (Za ?_)))))
      refine O.m rfl (O.q rfl (Pu.eql rfl rfl rfl) (O.m rfl (Zf (V.condD rfl (fun c16 => ?_) (fun c16 => ?_)))))
      ·refine Vr (O.m rfl (O.m rfl (O.q rfl (Pu.indexArr 2 2 rfl ut81 sz2 rfl rfl (by decide) (by decide) (by decide)) (O.s rfl rfl (Ef.store1 (cs' := [_, _, _]) 0 rfl sz2 rfl rfl rfl rfl rfl (ltb rfl) rfl) ?_))))
       rintro _ _ rfl
       refine On (Xb (Xb (Xn (Vr (O.q rfl (Pu.add64 (r := 3) (by decide) (by decide) rfl rfl rfl) (O.m rfl (On (X.again 0 (Za (O.q rfl (Pu.isF (by decide) (Pu.lss rfl rfl rfl)) ?_))))))))))
       refine Zf (Vs (V.condF rfl (Ve (Xe (Xe (Xh (Xn (Vr (O.m rfl (O.q rfl (Pu.indexArr 0 0 rfl ut81 sz2 rfl rfl (by decide) (by decide) (by decide)) ?_))))))))))
       refine O.q rfl (Pu.load rfl pl2 rfl (Ld.blk 0 rfl rfl)) (O.q rfl (Pu.indexArr 1 1 rfl ut81 sz2 rfl rfl (by decide) (by decide) (by decide)) (O.q rfl (Pu.load rfl pl2 rfl (Ld.blk 0 rfl rfl)) (O.q rfl (Pu.indexArr 2 2 rfl ut81 sz2 rfl rfl (by decide) (by decide) (by decide)) (O.q rfl (Pu.load rfl pl2 rfl (Ld.blk 0 rfl rfl)) (O.f rfl (Ef.callP call148 rfl rfl (fun w hw => blockOf_ok  a a b w   )) ?_)))))
       rintro _ _ ⟨rfl, rfl⟩
       refine O.f rfl (Ef.build B3C ([(bk3 a a b)] : List B3) rfl ut24 inf81 rfl rfl rfl (by first | decide | (simp; done)) (by kernel_rfl)) ?_
       rintro _ _ ⟨A25, hA25, rfl, rfl⟩
       refine O.f rfl (Ef.append (xs := out) (ys := ([(bk3 a a b)] : List B3)) 2 rfl ut24 inf81 rfl rfl rfl rfl rfl rfl hA25 (Ld.own 0 (by exact rfl)) (by simp only [List.length_append, List.length_cons, List.length_nil] at *; omega) (by decide)) ?_
       rintro _ _ ⟨A26, k13, rfl, rfl, hA26⟩
       replace hA26 := hA26 (.inr (by simp))
       refine O.m rfl (Zk (O.q rfl (Pu.add64 (r := ((i + 1 : Nat) : Int)) rfl (by omega) rfl rfl rfl) (O.m rfl (On ?_))))
       exact X.back2 (A26, k13, (out ++ ([(bk3 a a b)] : List B3)), i + 1) (by (try dsimp only); exact ⟨by omega, by rw [take_snoc e1, List.map_append, ho]; refine congrArg _ (congrArg (· :: []) ?_); unfold exB sw2; (repeat' split) <;> first | (exfalso; omega) | rfl, by simp only [List.length_append, List.length_singleton]; omega⟩) (by first | omega | (dsimp only; omega)) (Ent.cons rfl (Ent.cons rfl (Ent.nil _))) (Ent.cons (t := 1) rfl (Ent.cons (t := 2) rfl (Ent.cons (t := 12) rfl (Ent.cons (t := 13) rfl (Ent.nil _))))) (Sub.s [2] rfl)
      ·refine Za (O.m rfl (O.q rfl (Pu.eql rfl rfl rfl) (O.m rfl (Zf (V.condD rfl (fun c17 => ?_) (fun c17 => ?_))))))
       ·refine Vr (O.m rfl (O.m rfl (O.q rfl (Pu.indexArr 2 2 rfl ut81 sz2 rfl rfl (by decide) (by decide) (by decide)) (O.s rfl rfl (Ef.store1 (cs' := [_, _, _]) 0 rfl sz2 rfl rfl rfl rfl rfl (ltb rfl) rfl) ?_))))
        rintro _ _ rfl
        refine On (Xb (Xb (Xn (Vr (O.q rfl (Pu.add64 (r := 3) (by decide) (by decide) rfl rfl rfl) (O.m rfl (On (X.again 0 (Za (O.q rfl (Pu.isF (by decide) (Pu.lss rfl rfl rfl)) ?_))))))))))
        refine Zf (Vs (V.condF rfl (Ve (Xe (Xe (Xh (Xn (Vr (O.m rfl (O.q rfl (Pu.indexArr 0 0 rfl ut81 sz2 rfl rfl (by decide) (by decide) (by decide)) ?_))))))))))
        refine O.q rfl (Pu.load rfl pl2 rfl (Ld.blk 0 rfl rfl)) (O.q rfl (Pu.indexArr 1 1 rfl ut81 sz2 rfl rfl (by decide) (by decide) (by decide)) (O.q rfl (Pu.load rfl pl2 rfl (Ld.blk 0 rfl rfl)) (O.q rfl (Pu.indexArr 2 2 rfl ut81 sz2 rfl rfl (by decide) (by decide) (by decide)) (O.q rfl (Pu.load rfl pl2 rfl (Ld.blk 0 rfl rfl)) (O.f rfl (Ef.callP call148 rfl rfl (fun w hw => blockOf_ok  a a a w   )) ?_)))))
        rintro _ _ ⟨rfl, rfl⟩
        refine O.f rfl (Ef.build B3C ([(bk3 a a a)] : List B3) rfl ut24 inf81 rfl rfl rfl (by first | decide | (simp; done)) (by kernel_rfl)) ?_
        rintro _ _ ⟨A27, hA27, rfl, rfl⟩
        refine O.f rfl (Ef.append (xs := out) (ys := ([(bk3 a a a)] : List B3)) 2 rfl ut24 inf81 rfl rfl rfl rfl rfl rfl hA27 (Ld.own 0 (by exact rfl)) (by simp only [List.length_append, List.length_cons, List.length_nil] at *; omega) (by decide)) ?_
        rintro _ _ ⟨A28, k14, rfl, rfl, hA28⟩
        replace hA28 := hA28 (.inr (by simp))
        refine O.m rfl (Zk (O.q rfl (Pu.add64 (r := ((i + 1 : Nat) : Int)) rfl (by omega) rfl rfl rfl) (O.m rfl (On ?_))))
        exact X.back2 (A28, k14, (out ++ ([(bk3 a a a)] : List B3)), i + 1) (by (try dsimp only); exact ⟨by omega, by rw [take_snoc e1, List.map_append, ho]; refine congrArg _ (congrArg (· :: []) ?_); unfold exB sw2; (repeat' split) <;> first | (exfalso; omega) | rfl, by simp only [List.length_append, List.length_singleton]; omega⟩) (by first | omega | (dsimp only; omega)) (Ent.cons rfl (Ent.cons rfl (Ent.nil _))) (Ent.cons (t := 1) rfl (Ent.cons (t := 2) rfl (Ent.cons (t := 12) rfl (Ent.cons (t := 13) rfl (Ent.nil _))))) (Sub.s [2] rfl)
       ·refine Vk (Xb (Xb (Xn (Vr (O.q rfl (Pu.add64 (r := 3) (by decide) (by decide) rfl rfl rfl) (O.m rfl (On (X.again 0 (Za (O.q rfl (Pu.isF (by decide) (Pu.lss rfl rfl rfl)) ?_))))))))))
        refine Zf (Vs (V.condF rfl (Ve (Xe (Xe (Xh (Xn (Vr (O.m rfl (O.q rfl (Pu.indexArr 0 0 rfl ut81 sz2 rfl rfl (by decide) (by decide) (by decide)) ?_))))))))))
        refine O.q rfl (Pu.load rfl pl2 rfl (Ld.blk 0 rfl rfl)) (O.q rfl (Pu.indexArr 1 1 rfl ut81 sz2 rfl rfl (by decide) (by decide) (by decide)) (O.q rfl (Pu.load rfl pl2 rfl (Ld.blk 0 rfl rfl)) (O.q rfl (Pu.indexArr 2 2 rfl ut81 sz2 rfl rfl (by decide) (by decide) (by decide)) (O.q rfl (Pu.load rfl pl2 rfl (Ld.blk 0 rfl rfl)) (O.f rfl (Ef.callP call148 rfl rfl (fun w hw => blockOf_ok  a a ((blocks[i]'e1).2.2) w   )) ?_)))))
        rintro _ _ ⟨rfl, rfl⟩
        refine O.f rfl (Ef.build B3C ([(bk3 a a ((blocks[i]'e1).2.2))] : List B3) rfl ut24 inf81 rfl rfl rfl (by first | decide | (simp; done)) (by kernel_rfl)) ?_
        rintro _ _ ⟨A29, hA29, rfl, rfl⟩
        refine O.f rfl (Ef.append (xs := out) (ys := ([(bk3 a a ((blocks[i]'e1).2.2))] : List B3)) 2 rfl ut24 inf81 rfl rfl rfl rfl rfl rfl hA29 (Ld.own 0 (by exact rfl)) (by simp only [List.length_append, List.length_cons, List.length_nil] at *; omega) (by decide)) ?_
        rintro _ _ ⟨A30, k15, rfl, rfl, hA30⟩
        replace hA30 := hA30 (.inr (by simp))
        refine O.m rfl (Zk (O.q rfl (Pu.add64 (r := ((i + 1 : Nat) : Int)) rfl (by omega) rfl rfl rfl) (O.m rfl (On ?_))))
        exact X.back2 (A30, k15, (out ++ ([(bk3 a a ((blocks[i]'e1).2.2))] : List B3)), i + 1) (by (try dsimp only); exact ⟨by omega, by rw [take_snoc e1, List.map_append, ho]; refine congrArg _ (congrArg (· :: []) ?_); unfold exB sw2; (repeat' split) <;> first | (exfalso; omega) | rfl, by simp only [List.length_append, List.length_singleton]; omega⟩) (by first | omega | (dsimp only; omega)) (Ent.cons rfl (Ent.cons rfl (Ent.nil _))) (Ent.cons (t := 1) rfl (Ent.cons (t := 2) rfl (Ent.cons (t := 12) rfl (Ent.cons (t := 13) rfl (Ent.nil _))))) (Sub.s [2] rfl)
     ·refine Vk (Xb (Xb (Xn (Vr (O.q rfl (Pu.add64 (r := 2) (by decide) (by decide) rfl rfl rfl) (O.m rfl (On (X.again 1 (Za (O.q rfl (Pu.isT (by decide) (Pu.lss rfl rfl rfl)) ?_))))))))))
      refine Zf (Vs (V.condT rfl (Zh (O.m rfl (O.q rfl (Pu.indexAgg 2 rfl ut81 sz2 pl2 rfl rfl (by decide) (by decide) rfl) ?_)))))
      refine O.m rfl (O.m rfl (Zb (O.m rfl (Zi (Za ?_)))))
      refine O.m rfl (O.q rfl (Pu.eql rfl rfl rfl) (O.m rfl (Zf (V.condD rfl (fun c18 => ?_) (fun c18 => ?_)))))
      ·refine Vr (O.m rfl (O.m rfl (O.q rfl (Pu.indexArr 2 2 rfl ut81 sz2 rfl rfl (by decide) (by decide) (by decide)) (O.s rfl rfl (Ef.store1 (cs' := [_, _, _]) 0 rfl sz2 rfl rfl rfl rfl rfl (ltb rfl) rfl) ?_))))
       rintro _ _ rfl
       refine On (Xb (Xb (Xn (Vr (O.q rfl (Pu.add64 (r := 3) (by decide) (by decide) rfl rfl rfl) (O.m rfl (On (X.again 0 (Za (O.q rfl (Pu.isF (by decide) (Pu.lss rfl rfl rfl)) ?_))))))))))
       refine Zf (Vs (V.condF rfl (Ve (Xe (Xe (Xh (Xn (Vr (O.m rfl (O.q rfl (Pu.indexArr 0 0 rfl ut81 sz2 rfl rfl (by decide) (by decide) (by decide)) ?_))))))))))
       refine O.q rfl (Pu.load rfl pl2 rfl (Ld.blk 0 rfl rfl)) (O.q rfl (Pu.indexArr 1 1 rfl ut81 sz2 rfl rfl (by decide) (by decide) (by decide)) (O.q rfl (Pu.load rfl pl2 rfl (Ld.blk 0 rfl rfl)) (O.q rfl (Pu.indexArr 2 2 rfl ut81 sz2 rfl rfl (by decide) (by decide) (by decide)) (O.q rfl (Pu.load rfl pl2 rfl (Ld.blk 0 rfl rfl)) (O.f rfl (Ef.callP call148 rfl rfl (fun w hw => blockOf_ok  a ((blocks[i]'e1).2.1) b w   )) ?_)))))
       rintro _ _ ⟨rfl, rfl⟩
       refine O.f rfl (Ef.build B3C ([(bk3 a ((blocks[i]'e1).2.1) b)] : List B3) rfl ut24 inf81 rfl rfl rfl (by first | decide | (simp; done)) (by kernel_rfl)) ?_
       rintro _ _ ⟨A31, hA31, rfl, rfl⟩
       refine O.f rfl (Ef.append (xs := out) (ys := ([(bk3 a ((blocks[i]'e1).2.1) b)] : List B3)) 2 rfl ut24 inf81 rfl rfl rfl rfl rfl rfl hA31 (Ld.own 0 (by exact rfl)) (by simp only [List.length_append, List.length_cons, List.length_nil] at *; omega) (by decide)) ?_
       rintro _ _ ⟨A32, k16, rfl, rfl, hA32⟩
       replace hA32 := hA32 (.inr (by simp))
       refine O.m rfl (Zk (O.q rfl (Pu.add64 (r := ((i + 1 : Nat) : Int)) rfl (by omega) rfl rfl rfl) (O.m rfl (On ?_))))
       exact X.back2 (A32, k16, (out ++ ([(bk3 a ((blocks[i]'e1).2.1) b)] : List B3)), i + 1) (by (try dsimp only); exact ⟨by omega, by rw [take_snoc e1, List.map_append, ho]; refine congrArg _ (congrArg (· :: []) ?_); unfold exB sw2; (repeat' split) <;> first | (exfalso; omega) | rfl, by simp only [List.length_append, List.length_singleton]; omega⟩) (by first | omega | (dsimp only; omega)) (Ent.cons rfl (Ent.cons rfl (Ent.nil _))) (Ent.cons (t := 1) rfl (Ent.cons (t := 2) rfl (Ent.cons (t := 12) rfl (Ent.cons (t := 13) rfl (Ent.nil _))))) (Sub.s [2] rfl)
      ·refine Za (O.m rfl (O.q rfl (Pu.eql rfl rfl rfl) (O.m rfl (Zf (V.condD rfl (fun c19 => ?_) (fun c19 => ?_))))))
       ·refine Vr (O.m rfl (O.m rfl (O.q rfl (Pu.indexArr 2 2 rfl ut81 sz2 rfl rfl (by decide) (by decide) (by decide)) (O.s rfl rfl (Ef.store1 (cs' := [_, _, _]) 0 rfl sz2 rfl rfl rfl rfl rfl (ltb rfl) rfl) ?_))))
        rintro _ _ rfl
        refine On (Xb (Xb (Xn (Vr (O.q rfl (Pu.add64 (r := 3) (by decide) (by decide) rfl rfl rfl) (O.m rfl (On (X.again 0 (Za (O.q rfl (Pu.isF (by decide) (Pu.lss rfl rfl rfl)) ?_))))))))))
        refine Zf (Vs (V.condF rfl (Ve (Xe (Xe (Xh (Xn (Vr (O.m rfl (O.q rfl (Pu.indexArr 0 0 rfl ut81 sz2 rfl rfl (by decide) (by decide) (by decide)) ?_))))))))))
        refine O.q rfl (Pu.load rfl pl2 rfl (Ld.blk 0 rfl rfl)) (O.q rfl (Pu.indexArr 1 1 rfl ut81 sz2 rfl rfl (by decide) (by decide) (by decide)) (O.q rfl (Pu.load rfl pl2 rfl (Ld.blk 0 rfl rfl)) (O.q rfl (Pu.indexArr 2 2 rfl ut81 sz2 rfl rfl (by decide) (by decide) (by decide)) (O.q rfl (Pu.load rfl pl2 rfl (Ld.blk 0 rfl rfl)) (O.f rfl (Ef.callP call148 rfl rfl (fun w hw => blockOf_ok  a ((blocks[i]'e1).2.1) a w   )) ?_)))))
        rintro _ _ ⟨rfl, rfl⟩
        refine O.f rfl (Ef.build B3C ([(bk3 a ((blocks[i]'e1).2.1) a)] : List B3) rfl ut24 inf81 rfl rfl rfl (by first | decide | (simp; done)) (by kernel_rfl)) ?_
        rintro _ _ ⟨A33, hA33, rfl, rfl⟩
        refine O.f rfl (Ef.append (xs := out) (ys := ([(bk3 a ((blocks[i]'e1).2.1) a)] : List B3)) 2 rfl ut24 inf81 rfl rfl rfl rfl rfl rfl hA33 (Ld.own 0 (by exact rfl)) (by simp only [List.length_append, List.length_cons, List.length_nil] at *; omega) (by decide)) ?_
        rintro _ _ ⟨A34, k17, rfl, rfl, hA34⟩
        replace hA34 := hA34 (.inr (by simp))
        refine O.m rfl (Zk (O.q rfl (Pu.add64 (r := ((i + 1 : Nat) : Int)) rfl (by omega) rfl rfl rfl) (O.m rfl (On ?_))))
        exact X.back2 (A34, k17, (out ++ ([(bk3 a ((blocks[i]'e1).2.1) a)] : List B3)), i + 1) (by (try dsimp only); exact ⟨by omega, by rw [take_snoc e1, List.map_append, ho]; refine congrArg _ (congrArg (· :: []) ?_); unfold exB sw2; (repeat' split) <;> first | (exfalso; omega) | rfl, by simp only [List.length_append, List.length_singleton]; omega⟩) (by first | omega | (dsimp only; omega)) (Ent.cons rfl (Ent.cons rfl (Ent.nil _))) (Ent.cons (t := 1) rfl (Ent.cons (t := 2) rfl (Ent.cons (t := 12) rfl (Ent.cons (t := 13) rfl (Ent.nil _))))) (Sub.s [2] rfl)
       ·refine Vk (Xb (Xb (Xn (Vr (O.q rfl (Pu.add64 (r := 3) (by decide) (by decide) rfl rfl rfl) (O.m rfl (On (X.again 0 (Za (O.q rfl (Pu.isF (by decide) (Pu.lss rfl rfl rfl)) ?_))))))))))
        refine Zf (Vs (V.condF rfl (Ve (Xe (Xe (Xh (Xn (Vr (O.m rfl (O.q rfl (Pu.indexArr 0 0 rfl ut81 sz2 rfl rfl (by decide) (by decide) (by decide)) ?_))))))))))
        refine O.q rfl (Pu.load rfl pl2 rfl (Ld.blk 0 rfl rfl)) (O.q rfl (Pu.indexArr 1 1 rfl ut81 sz2 rfl rfl (by decide) (by decide) (by decide)) (O.q rfl (Pu.load rfl pl2 rfl (Ld.blk 0 rfl rfl)) (O.q rfl (Pu.indexArr 2 2 rfl ut81 sz2 rfl rfl (by decide) (by decide) (by decide)) (O.q rfl (Pu.load rfl pl2 rfl (Ld.blk 0 rfl rfl)) (O.f rfl (Ef.callP call148 rfl rfl (fun w hw => blockOf_ok  a ((blocks[i]'e1).2.1) ((blocks[i]'e1).2.2) w   )) ?_)))))
        rintro _ _ ⟨rfl, rfl⟩
        refine O.f rfl (Ef.build B3C ([(bk3 a ((blocks[i]'e1).2.1) ((blocks[i]'e1).2.2))] : List B3) rfl ut24 inf81 rfl rfl rfl (by first | decide | (simp; done)) (by kernel_rfl)) ?_
        rintro _ _ ⟨A35, hA35, rfl, rfl⟩
        refine O.f rfl (Ef.append (xs := out) (ys := ([(bk3 a ((blocks[i]'e1).2.1) ((blocks[i]'e1).2.2))] : List B3)) 2 rfl ut24 inf81 rfl rfl rfl rfl rfl rfl hA35 (Ld.own 0 (by exact rfl)) (by simp only [List.length_append, List.length_cons, List.length_nil] at *; omega) (by decide)) ?_
        rintro _ _ ⟨A36, k18, rfl, rfl, hA36⟩
        replace hA36 := hA36 (.inr (by simp))
        refine O.m rfl (Zk (O.q rfl (Pu.add64 (r := ((i + 1 : Nat) : Int)) rfl (by omega) rfl rfl rfl) (O.m rfl (On ?_))))
        exact X.back2 (A36, k18, (out ++ ([(bk3 a ((blocks[i]'e1).2.1) ((blocks[i]'e1).2.2))] : List B3)), i + 1) (by (try dsimp only); exact ⟨by omega, by rw [take_snoc e1, List.map_append, ho]; refine congrArg _ (congrArg (· :: []) ?_); unfold exB sw2; (repeat' split) <;> first | (exfalso; omega) | rfl, by simp only [List.length_append, List.length_singleton]; omega⟩) (by first | omega | (dsimp only; omega)) (Ent.cons rfl (Ent.cons rfl (Ent.nil _))) (Ent.cons (t := 1) rfl (Ent.cons (t := 2) rfl (Ent.cons (t := 12) rfl (Ent.cons (t := 13) rfl (Ent.nil _))))) (Sub.s [2] rfl)
   ·refine Vk (Xb (Xb (Xn (Vr (O.q rfl (Pu.add64 (r := 1) (by decide) (by decide) rfl rfl rfl) (O.m rfl (On (X.again 2 (Za (O.q rfl (Pu.isT (by decide) (Pu.lss rfl rfl rfl)) ?_))))))))))
    refine Zf (Vs (V.condT rfl (Zh (O.m rfl (O.q rfl (Pu.indexAgg 1 rfl ut81 sz2 pl2 rfl rfl (by decide) (by decide) rfl) ?_)))))
    refine O.m rfl (O.m rfl (Zb (O.m rfl (Zi (Za ?_)))))
    refine O.m rfl (O.q rfl (Pu.eql rfl rfl rfl) (O.m rfl (Zf (V.condD rfl (fun c20 => ?_) (fun c20 => ?_)))))
    ·refine Vr (O.m rfl (O.m rfl (O.q rfl (Pu.indexArr 1 1 rfl ut81 sz2 rfl rfl (by decide) (by decide) (by decide)) (O.s rfl rfl (Ef.store1 (cs' := [_, _, _]) 0 rfl sz2 rfl rfl rfl rfl rfl (ltb rfl) rfl) ?_))))
     rintro _ _ rfl
     refine On (Xb (Xb (Xn (Vr (O.q rfl (Pu.add64 (r := 2) (by decide) (by decide) rfl rfl rfl) (O.m rfl (On (X.again 1 (Za (O.q rfl (Pu.isT (by decide) (Pu.lss rfl rfl rfl)) ?_))))))))))
     refine Zf (Vs (V.condT rfl (Zh (O.m rfl (O.q rfl (Pu.indexAgg 2 rfl ut81 sz2 pl2 rfl rfl (by decide) (by decide) rfl) ?_)))))
     refine O.m rfl (O.m rfl (Zb (O.m rfl (Zi (Za ?_)))))
     refine O.m rfl (O.q rfl (Pu.eql rfl rfl rfl) (O.m rfl (Zf (V.condD rfl (fun c21 => ?_) (fun c21 => ?_)))))
     ·refine Vr (O.m rfl (O.m rfl (O.q rfl (Pu.indexArr 2 2 rfl ut81 sz2 rfl rfl (by decide) (by decide) (by decide)) (O.s rfl rfl (Ef.store1 (cs' := [_, _, _]) 0 rfl sz2 rfl rfl rfl rfl rfl (ltb rfl) rfl) ?_))))
      rintro _ _ rfl
      refine On (Xb (Xb (Xn (Vr (O.q rfl (Pu.add64 (r := 3) (by decide) (by decide) rfl rfl rfl) (O.m rfl (On (X.again 0 (Za (O.q rfl (Pu.isF (by decide) (Pu.lss rfl rfl rfl)) ?_))))))))))
      refine Zf (Vs (V.condF rfl (Ve (Xe (Xe (Xh (Xn (Vr (O.m rfl (O.q rfl (Pu.indexArr 0 0 rfl ut81 sz2 rfl rfl (by decide) (by decide) (by decide)) ?_))))))))))
      refine O.q rfl (Pu.load rfl pl2 rfl (Ld.blk 0 rfl rfl)) (O.q rfl (Pu.indexArr 1 1 rfl ut81 sz2 rfl rfl (by decide) (by decide) (by decide)) (O.q rfl (Pu.load rfl pl2 rfl (Ld.blk 0 rfl rfl)) (O.q rfl (Pu.indexArr 2 2 rfl ut81 sz2 rfl rfl (by decide) (by decide) (by decide)) (O.q rfl (Pu.load rfl pl2 rfl (Ld.blk 0 rfl rfl)) (O.f rfl (Ef.callP call148 rfl rfl (fun w hw => blockOf_ok  ((blocks[i]'e1).1) b b w   )) ?_)))))
      rintro _ _ ⟨rfl, rfl⟩
      refine O.f rfl (Ef.build B3C ([(bk3 ((blocks[i]'e1).1) b b)] : List B3) rfl ut24 inf81 rfl rfl rfl (by first | decide | (simp; done)) (by kernel_rfl)) ?_
      rintro _ _ ⟨A37, hA37, rfl, rfl⟩
      refine O.f rfl (Ef.append (xs := out) (ys := ([(bk3 ((blocks[i]'e1).1) b b)] : List B3)) 2 rfl ut24 inf81 rfl rfl rfl rfl rfl rfl hA37 (Ld.own 0 (by exact rfl)) (by simp only [List.length_append, List.length_cons, List.length_nil] at *; omega) (by decide)) ?_
      rintro _ _ ⟨A38, k19, rfl, rfl, hA38⟩
      replace hA38 := hA38 (.inr (by simp))
      refine O.m rfl (Zk (O.q rfl (Pu.add64 (r := ((i + 1 : Nat) : Int)) rfl (by omega) rfl rfl rfl) (O.m rfl (On ?_))))
      exact X.back2 (A38, k19, (out ++ ([(bk3 ((blocks[i]'e1).1) b b)] : List B3)), i + 1) (by (try dsimp only); exact ⟨by omega, by rw [take_snoc e1, List.map_append, ho]; refine congrArg _ (congrArg (· :: []) ?_); unfold exB sw2; (repeat' split) <;> first | (exfalso; omega) | rfl, by simp only [List.length_append, List.length_singleton]; omega⟩) (by first | omega | (dsimp only; omega)) (Ent.cons rfl (Ent.cons rfl (Ent.nil _))) (Ent.cons (t := 1) rfl (Ent.cons (t := 2) rfl (Ent.cons (t := 12) rfl (Ent.cons (t := 13) rfl (Ent.nil _))))) (Sub.s [2] rfl)
     ·refine Za (O.m rfl (O.q rfl (Pu.eql rfl rfl rfl) (O.m rfl (Zf (V.condD rfl (fun c22 => ?_) (fun c22 => ?_))))))
      ·refine Vr (O.m rfl (O.m rfl (O.q rfl (Pu.indexArr 2 2 rfl ut81 sz2 rfl rfl (by decide) (by decide) (by decide)) (O.s rfl rfl (Ef.store1 (cs' := [_, _, _]) 0 rfl sz2 rfl rfl rfl rfl rfl (ltb rfl) rfl) ?_))))
       rintro _ _ rfl
       refine On (Xb (Xb (Xn (Vr (O.q rfl (Pu.add64 (r := 3) (by decide) (by decide) rfl rfl rfl) (O.m rfl (On (X.again 0 (Za (O.q rfl (Pu.isF (by decide) (Pu.lss rfl rfl rfl)) ?_))))))))))
       refine Zf (Vs (V.condF rfl (Ve (Xe (Xe (Xh (Xn (Vr (O.m rfl (O.q rfl (Pu.indexArr 0 0 rfl ut81 sz2 rfl rfl (by decide) (by decide) (by decide)) ?_))))))))))
       refine O.q rfl (Pu.load rfl pl2 rfl (Ld.blk 0 rfl rfl)) (O.q rfl (Pu.indexArr 1 1 rfl ut81 sz2 rfl rfl (by decide) (by decide) (by decide)) (O.q rfl (Pu.load rfl pl2 rfl (Ld.blk 0 rfl rfl)) (O.q rfl (Pu.indexArr 2 2 rfl ut81 sz2 rfl rfl (by decide) (by decide) (by decide)) (O.q rfl (Pu.load rfl pl2 rfl (Ld.blk 0 rfl rfl)) (O.f rfl (Ef.callP call148 rfl rfl (fun w hw => blockOf_ok  ((blocks[i]'e1).1) b a w   )) ?_)))))
       rintro _ _ ⟨rfl, rfl⟩
       refine O.f rfl (Ef.build B3C ([(bk3 ((blocks[i]'e1).1) b a)] : List B3) rfl ut24 inf81 rfl rfl rfl (by first | decide | (simp; done)) (by kernel_rfl)) ?_
       rintro _ _ ⟨A39, hA39, rfl, rfl⟩
       refine O.f rfl (Ef.append (xs := out) (ys := ([(bk3 ((blocks[i]'e1).1) b a)] : List B3)) 2 rfl ut24 inf81 rfl rfl rfl rfl rfl rfl hA39 (Ld.own 0 (by exact rfl)) (by simp only [List.length_append, List.length_cons, List.length_nil] at *; omega) (by decide)) ?_
       rintro _ _ ⟨A40, k20, rfl, rfl, hA40⟩
       replace hA40 := hA40 (.inr (by simp))
       refine O.m rfl (Zk (O.q rfl (Pu.add64 (r := ((i + 1 : Nat) : Int)) rfl (by omega) rfl rfl rfl) (O.m rfl (On ?_))))
       exact X.back2 (A40, k20, (out ++ ([(bk3 ((blocks[i]'e1).1) b a)] : List B3)), i + 1) (by (try dsimp only); exact ⟨by omega, by rw [take_snoc e1, List.map_append, ho]; refine congrArg _ (congrArg (· :: []) ?_); unfold exB sw2; (repeat' split) <;> first | (exfalso; omega) | rfl, by simp only [List.length_append, List.length_singleton]; omega⟩) (by first | omega | (dsimp only; omega)) (Ent.cons rfl (Ent.cons rfl (Ent.nil _))) (Ent.cons (t := 1) rfl (Ent.cons (t := 2) rfl (Ent.cons (t := 12) rfl (Ent.cons (t := 13) rfl (Ent.nil _))))) (Sub.s [2] rfl)
      ·refine Vk (Xb (Xb (Xn (Vr (O.q rfl (Pu.add64 (r := 3) (by decide) (by decide) rfl rfl rfl) (O.m rfl (On (X.again 0 (Za (O.q rfl (Pu.isF (by decide) (Pu.lss rfl rfl rfl)) ?_))))))))))
       refine Zf (Vs (V.condF rfl (Ve (Xe (Xe (Xh (Xn (Vr (O.m rfl (O.q rfl (Pu.indexArr 0 0 rfl ut81 sz2 rfl rfl (by decide) (by decide) (by decide)) ?_))))))))))
       refine O.q rfl (Pu.load rfl pl2 rfl (Ld.blk 0 rfl rfl)) (O.q rfl (Pu.indexArr 1 1 rfl ut81 sz2 rfl rfl (by decide) (by decide) (by decide)) (O.q rfl (Pu.load rfl pl2 rfl (Ld.blk 0 rfl rfl)) (O.q rfl (Pu.indexArr 2 2 rfl ut81 sz2 rfl rfl (by decide) (by decide) (by decide)) (O.q rfl (Pu.load rfl pl2 rfl (Ld.blk 0 rfl rfl)) (O.f rfl (Ef.callP call148 rfl rfl (fun w hw => blockOf_ok  ((blocks[i]'e1).1) b ((blocks[i]'e1).2.2) w   )) ?_)))))
       rintro _ _ ⟨rfl, rfl⟩
       refine O.f rfl (Ef.build B3C ([(bk3 ((blocks[i]'e1).1) b ((blocks[i]'e1).2.2))] : List B3) rfl ut24 inf81 rfl rfl rfl (by first | decide | (simp; done)) (by kernel_rfl)) ?_
       rintro _ _ ⟨A41, hA41, rfl, rfl⟩
       refine O.f rfl (Ef.append (xs := out) (ys := ([(bk3 ((blocks[i]'e1).1) b ((blocks[i]'e1).2.2))] : List B3)) 2 rfl ut24 inf81 rfl rfl rfl rfl rfl rfl hA41 (Ld.own 0 (by exact rfl)) (by simp only [List.length_append, List.length_cons, List.length_nil] at *; omega) (by decide)) ?_
       rintro _ _ ⟨A42, k21, rfl, rfl, hA42⟩
       replace hA42 := hA42 (.inr (by simp))
       refine O.m rfl (Zk (O.q rfl (Pu.add64 (r := ((i + 1 : Nat) : Int)) rfl (by omega) rfl rfl rfl) (O.m rfl (On ?_))))
       exact X.back2 (A42, k21, (out ++ ([(bk3 ((blocks[i]'e1).1) b ((blocks[i]'e1).2.2))] : List B3)), i + 1) (by (try dsimp only); exact ⟨by omega, by rw [take_snoc e1, List.map_append, ho]; refine congrArg _ (congrArg (· :: []) ?_); unfold exB sw2; (repeat' split) <;> first | (exfalso; omega) | rfl, by simp only [List.length_append, List.length_singleton]; omega⟩) (by first | omega | (dsimp only; omega)) (Ent.cons rfl (Ent.cons rfl (Ent.nil _))) (Ent.cons (t := 1) rfl (Ent.cons (t := 2) rfl (Ent.cons (t := 12) rfl (Ent.cons (t := 13) rfl (Ent.nil _))))) (Sub.s [2] rfl)
    ·refine Za (O.m rfl (O.q rfl (Pu.eql rfl rfl rfl) (O.m rfl (Zf (V.condD rfl (fun c23 => ?_) (fun c23 => ?_))))))
     ·refine Vr (O.m rfl (O.m rfl (O.q rfl (Pu.indexArr 1 1 rfl ut81 sz2 rfl rfl (by decide) (by decide) (by decide)) (O.s rfl rfl (Ef.store1 (cs' := [_, _, _]) 0 rfl sz2 rfl rfl rfl rfl rfl (ltb rfl) rfl) ?_))))
      rintro _ _ rfl
      refine On (Xb (Xb (Xn (Vr (O.q rfl (Pu.add64 (r := 2) (by decide) (by decide) rfl rfl rfl) (O.m rfl (On (X.again 1 (Za (O.q rfl (Pu.isT (by decide) (Pu.lss rfl rfl rfl)) ?_))))))))))
      refine Zf (Vs (V.condT rfl (Zh (O.m rfl (O.q rfl (Pu.indexAgg 2 rfl ut81 sz2 pl2 rfl rfl (by decide) (by decide) rfl) ?_)))))
      refine O.m rfl (O.m rfl (Zb (O.m rfl (Zi (Za ?_)))))
      refine O.m rfl (O.q rfl (Pu.eql rfl rfl rfl) (O.m rfl (Zf (V.condD rfl (fun c24 => ?_) (fun c24 => ?_)))))
      ·refine Vr (O.m rfl (O.m rfl (O.q rfl (Pu.indexArr 2 2 rfl ut81 sz2 rfl rfl (by decide) (by decide) (by decide)) (O.s rfl rfl (Ef.store1 (cs' := [_, _, _]) 0 rfl sz2 rfl rfl rfl rfl rfl (ltb rfl) rfl) ?_))))
       rintro _ _ rfl
       refine On (Xb (Xb (Xn (Vr (O.q rfl (Pu.add64 (r := 3) (by decide) (by decide) rfl rfl rfl) (O.m rfl (On (X.again 0 (Za (O.q rfl (Pu.isF (by decide) (Pu.lss rfl rfl rfl)) ?_))))))))))
       refine Zf (Vs (V.condF rfl (Ve (Xe (Xe (Xh (Xn (Vr (O.m rfl (O.q rfl (Pu.indexArr 0 0 rfl ut81 sz2 rfl rfl (by decide) (by decide) (by decide)) ?_))))))))))
       refine O.q rfl (Pu.load rfl pl2 rfl (Ld.blk 0 rfl rfl)) (O.q rfl (Pu.indexArr 1 1 rfl ut81 sz2 rfl rfl (by decide) (by decide) (by decide)) (O.q rfl (Pu.load rfl pl2 rfl (Ld.blk 0 rfl rfl)) (O.q rfl (Pu.indexArr 2 2 rfl ut81 sz2 rfl rfl (by decide) (by decide) (by decide)) (O.q rfl (Pu.load rfl pl2 rfl (Ld.blk 0 rfl rfl)) (O.f rfl (Ef.callP call148 rfl rfl (fun w hw => blockOf_ok  ((blocks[i]'e1).1) a b w   )) ?_)))))
       rintro _ _ ⟨rfl, rfl⟩
       refine O.f rfl (Ef.build B3C ([(bk3 ((blocks[i]'e1).1) a b)] : List B3) rfl ut24 inf81 rfl rfl rfl (by first | decide | (simp; done)) (by kernel_rfl)) ?_
       rintro _ _ ⟨A43, hA43, rfl, rfl⟩
       refine O.f rfl (Ef.append (xs := out) (ys := ([(bk3 ((blocks[i]'e1).1) a b)] : List B3)) 2 rfl ut24 inf81 rfl rfl rfl rfl rfl rfl hA43 (Ld.own 0 (by exact rfl)) (by simp only [List.length_append, List.length_cons, List.length_nil] at *; omega) (by decide)) ?_
       rintro _ _ ⟨A44, k22, rfl, rfl, hA44⟩
       replace hA44 := hA44 (.inr (by simp))
       refine O.m rfl (Zk (O.q rfl (Pu.add64 (r := ((i + 1 : Nat) : Int)) rfl (by omega) rfl rfl rfl) (O.m rfl (On ?_))))
       exact X.back2 (A44, k22, (out ++ ([(bk3 ((blocks[i]'e1).1) a b)] : List B3)), i + 1) (by (try dsimp only); exact ⟨by omega, by rw [take_snoc e1, List.map_append, ho]; refine congrArg _ (congrArg (· :: []) ?_); unfold exB sw2; (repeat' split) <;> first | (exfalso; omega) | rfl, by simp only [List.length_append, List.length_singleton]; omega⟩) (by first | omega | (dsimp only; omega)) (Ent.cons rfl (Ent.cons rfl (Ent.nil _))) (Ent.cons (t := 1) rfl (Ent.cons (t := 2) rfl (Ent.cons (t := 12) rfl (Ent.cons (t := 13) rfl (Ent.nil _))))) (Sub.s [2] rfl)
      ·refine Za (O.m rfl (O.q rfl (Pu.eql rfl rfl rfl) (O.m rfl (Zf (V.condD rfl (fun c25 => ?_) (fun c25 => ?_))))))
       ·refine Vr (O.m rfl (O.m rfl (O.q rfl (Pu.indexArr 2 2 rfl ut81 sz2 rfl rfl (by decide) (by decide) (by decide)) (O.s rfl rfl (Ef.store1 (cs' := [_, _, _]) 0 rfl sz2 rfl rfl rfl rfl rfl (ltb rfl) rfl) ?_))))
        rintro _ _ rfl
        refine On (Xb (Xb (Xn (Vr (O.q rfl (Pu.add64 (r := 3) (by decide) (by decide) rfl rfl rfl) (O.m rfl (On (X.again 0 (Za (O.q rfl (Pu.isF (by decide) (Pu.lss rfl rfl rfl)) ?_))))))))))
        refine Zf (Vs (V.condF rfl (Ve (Xe (Xe (Xh (Xn (Vr (O.m rfl (O.q rfl (Pu.indexArr 0 0 rfl ut81 sz2 rfl rfl (by decide) (by decide) (by decide)) ?_))))))))))
        refine O.q rfl (Pu.load rfl pl2 rfl (Ld.blk 0 rfl rfl)) (O.q rfl (Pu.indexArr 1 1 rfl ut81 sz2 rfl rfl (by decide) (by decide) (by decide)) (O.q rfl (Pu.load rfl pl2 rfl (Ld.blk 0 rfl rfl)) (O.q rfl (Pu.indexArr 2 2 rfl ut81 sz2 rfl rfl (by decide) (by decide) (by decide)) (O.q rfl (Pu.load rfl pl2 rfl (Ld.blk 0 rfl rfl)) (O.f rfl (Ef.callP call148 rfl rfl (fun w hw => blockOf_ok  ((blocks[i]'e1).1) a a w   )) ?_)))))
        rintro _ _ ⟨rfl, rfl⟩
        refine O.f rfl (Ef.build B3C ([(bk3 ((blocks[i]'e1).1) a a)] : List B3) rfl ut24 inf81 rfl rfl rfl (by first | decide | (simp; done)) (by kernel_rfl)) ?_
        rintro _ _ ⟨A45, hA45, rfl, rfl⟩
        refine O.f rfl (Ef.append (xs := out) (ys := ([(bk3 ((blocks[i]'e1).1) a a)] : List B3)) 2 rfl ut24 inf81 rfl rfl rfl rfl rfl rfl hA45 (Ld.own 0 (by exact rfl)) (by simp only [List.length_append, List.length_cons, List.length_nil] at *; omega) (by decide)) ?_
        rintro _ _ ⟨A46, k23, rfl, rfl, hA46⟩
        replace hA46 := hA46 (.inr (by simp))
        refine O.m rfl (Zk (O.q rfl (Pu.add64 (r := ((i + 1 : Nat) : Int)) rfl (by omega) rfl rfl rfl) (O.m rfl (On ?_))))
        exact X.back2 (A46, k23, (out ++ ([(bk3 ((blocks[i]'e1).1) a a)] : List B3)), i + 1) (by (try dsimp only); exact ⟨by omega, by rw [take_snoc e1, List.map_append, ho]; refine congrArg _ (congrArg (· :: []) ?_); unfold exB sw2; (repeat' split) <;> first | (exfalso; omega) | rfl, by simp only [List.length_append, List.length_singleton]; omega⟩) (by first | omega | (dsimp only; omega)) (Ent.cons rfl (Ent.cons rfl (Ent.nil _))) (Ent.cons (t := 1) rfl (Ent.cons (t := 2) rfl (Ent.cons (t := 12) rfl (Ent.cons (t := 13) rfl (Ent.nil _))))) (Sub.s [2] rfl)
       ·refine Vk (Xb (Xb (Xn (Vr (O.q rfl (Pu.add64 (r := 3) (by decide) (by decide) rfl rfl rfl) (O.m rfl (On (X.again 0 (Za (O.q rfl (Pu.isF (by decide) (Pu.lss rfl rfl rfl)) ?_))))))))))
        refine Zf (Vs (V.condF rfl (Ve (Xe (Xe (Xh (Xn (Vr (O.m rfl (O.q rfl (Pu.indexArr 0 0 rfl ut81 sz2 rfl rfl (by decide) (by decide) (by decide)) ?_))))))))))
        refine O.q rfl (Pu.load rfl pl2 rfl (Ld.blk 0 rfl rfl)) (O.q rfl (Pu.indexArr 1 1 rfl ut81 sz2 rfl rfl (by decide) (by decide) (by decide)) (O.q rfl (Pu.load rfl pl2 rfl (Ld.blk 0 rfl rfl)) (O.q rfl (Pu.indexArr 2 2 rfl ut81 sz2 rfl rfl (by decide) (by decide) (by decide)) (O.q rfl (Pu.load rfl pl2 rfl (Ld.blk 0 rfl rfl)) (O.f rfl (Ef.callP call148 rfl rfl (fun w hw => blockOf_ok  ((blocks[i]'e1).1) a ((blocks[i]'e1).2.2) w   )) ?_)))))
        rintro _ _ ⟨rfl, rfl⟩
        refine O.f rfl (Ef.build B3C ([(bk3 ((blocks[i]'e1).1) a ((blocks[i]'e1).2.2))] : List B3) rfl ut24 inf81 rfl rfl rfl (by first | decide | (simp; done)) (by kernel_rfl)) ?_
        rintro _ _ ⟨A47, hA47, rfl, rfl⟩
        refine O.f rfl (Ef.append (xs := out) (ys := ([(bk3 ((blocks[i]'e1).1) a ((blocks[i]'e1).2.2))] : List B3)) 2 rfl ut24 inf81 rfl rfl rfl rfl rfl rfl hA47 (Ld.own 0 (by exact rfl)) (by simp only [List.length_append, List.length_cons, List.length_nil] at *; omega) (by decide)) ?_
        rintro _ _ ⟨A48, k24, rfl, rfl, hA48⟩
        replace hA48 := hA48 (.inr (by simp))
        refine O.m rfl (Zk (O.q rfl (Pu.add64 (r := ((i + 1 : Nat) : Int)) rfl (by omega) rfl rfl rfl) (O.m rfl (On ?_))))
        exact X.back2 (A48, k24, (out ++ ([(bk3 ((blocks[i]'e1).1) a ((blocks[i]'e1).2.2))] : List B3)), i + 1) (by (try dsimp only); exact ⟨by omega, by rw [take_snoc e1, List.map_append, ho]; refine congrArg _ (congrArg (· :: []) ?_); unfold exB sw2; (repeat' split) <;> first | (exfalso; omega) | rfl, by simp only [List.length_append, List.length_singleton]; omega⟩) (by first | omega | (dsimp only; omega)) (Ent.cons rfl (Ent.cons rfl (Ent.nil _))) (Ent.cons (t := 1) rfl (Ent.cons (t := 2) rfl (Ent.cons (t := 12) rfl (Ent.cons (t := 13) rfl (Ent.nil _))))) (Sub.s [2] rfl)
     ·refine Vk (Xb (Xb (Xn (Vr (O.q rfl (Pu.add64 (r := 2) (by decide) (by decide) rfl rfl rfl) (O.m rfl (On (X.again 1 (Za (O.q rfl (Pu.isT (by decide) (Pu.lss rfl rfl rfl)) ?_))))))))))
      refine Zf (Vs (V.condT rfl (Zh (O.m rfl (O.q rfl (Pu.indexAgg 2 rfl ut81 sz2 pl2 rfl rfl (by decide) (by decide) rfl) ?_)))))
      refine O.m rfl (O.m rfl (Zb (O.m rfl (Zi (Za ?_)))))
      refine O.m rfl (O.q rfl (Pu.eql rfl rfl rfl) (O.m rfl (Zf (V.condD rfl (fun c26 => ?_) (fun c26 => ?_)))))
      ·refine Vr (O.m rfl (O.m rfl (O.q rfl (Pu.indexArr 2 2 rfl ut81 sz2 rfl rfl (by decide) (by decide) (by decide)) (O.s rfl rfl (Ef.store1 (cs' := [_, _, _]) 0 rfl sz2 rfl rfl rfl rfl rfl (ltb rfl) rfl) ?_))))
       rintro _ _ rfl
       refine On (Xb (Xb (Xn (Vr (O.q rfl (Pu.add64 (r := 3) (by decide) (by decide) rfl rfl rfl) (O.m rfl (On (X.again 0 (Za (O.q rfl (Pu.isF (by decide) (Pu.lss rfl rfl rfl)) ?_))))))))))
       refine Zf (Vs (V.condF rfl (Ve (Xe (Xe (Xh (Xn (Vr (O.m rfl (O.q rfl (Pu.indexArr 0 0 rfl ut81 sz2 rfl rfl (by decide) (by decide) (by decide)) ?_))))))))))
       refine O.q rfl (Pu.load rfl pl2 rfl (Ld.blk 0 rfl rfl)) (O.q rfl (Pu.indexArr 1 1 rfl ut81 sz2 rfl rfl (by decide) (by decide) (by decide)) (O.q rfl (Pu.load rfl pl2 rfl (Ld.blk 0 rfl rfl)) (O.q rfl (Pu.indexArr 2 2 rfl ut81 sz2 rfl rfl (by decide) (by decide) (by decide)) (O.q rfl (Pu.load rfl pl2 rfl (Ld.blk 0 rfl rfl)) (O.f rfl (Ef.callP call148 rfl rfl (fun w hw => blockOf_ok  ((blocks[i]'e1).1) ((blocks[i]'e1).2.1) b w   )) ?_)))))
       rintro _ _ ⟨rfl, rfl⟩
       refine O.f rfl (Ef.build B3C ([(bk3 ((blocks[i]'e1).1) ((blocks[i]'e1).2.1) b)] : List B3) rfl ut24 inf81 rfl rfl rfl (by first | decide | (simp; done)) (by kernel_rfl)) ?_
       rintro _ _ ⟨A49, hA49, rfl, rfl⟩
       refine O.f rfl (Ef.append (xs := out) (ys := ([(bk3 ((blocks[i]'e1).1) ((blocks[i]'e1).2.1) b)] : List B3)) 2 rfl ut24 inf81 rfl rfl rfl rfl rfl rfl hA49 (Ld.own 0 (by exact rfl)) (by simp only [List.length_append, List.length_cons, List.length_nil] at *; omega) (by decide)) ?_
       rintro _ _ ⟨A50, k25, rfl, rfl, hA50⟩
       replace hA50 := hA50 (.inr (by simp))
       refine O.m rfl (Zk (O.q rfl (Pu.add64 (r := ((i + 1 : Nat) : Int)) rfl (by omega) rfl rfl rfl) (O.m rfl (On ?_))))
       exact X.back2 (A50, k25, (out ++ ([(bk3 ((blocks[i]'e1).1) ((blocks[i]'e1).2.1) b)] : List B3)), i + 1) (by (try dsimp only); exact ⟨by omega, by rw [take_snoc e1, List.map_append, ho]; refine congrArg _ (congrArg (· :: []) ?_); unfold exB sw2; (repeat' split) <;> first | (exfalso; omega) | rfl, by simp only [List.length_append, List.length_singleton]; omega⟩) (by first | omega | (dsimp only; omega)) (Ent.cons rfl (Ent.cons rfl (Ent.nil _))) (Ent.cons (t := 1) rfl (Ent.cons (t := 2) rfl (Ent.cons (t := 12) rfl (Ent.cons (t := 13) rfl (Ent.nil _))))) (Sub.s [2] rfl)
      ·refine Za (O.m rfl (O.q rfl (Pu.eql rfl rfl rfl) (O.m rfl (Zf (V.condD rfl (fun c27 => ?_) (fun c27 => ?_))))))
       ·refine Vr (O.m rfl (O.m rfl (O.q rfl (Pu.indexArr 2 2 rfl ut81 sz2 rfl rfl (by decide) (by decide) (by decide)) (O.s rfl rfl (Ef.store1 (cs' := [_, _, _]) 0 rfl sz2 rfl rfl rfl rfl rfl (ltb rfl) rfl) ?_))))
        rintro _ _ rfl
        refine On (Xb (Xb (Xn (Vr (O.q rfl (Pu.add64 (r := 3) (by decide) (by decide) rfl rfl rfl) (O.m rfl (On (X.again 0 (Za (O.q rfl (Pu.isF (by decide) (Pu.lss rfl rfl rfl)) ?_))))))))))
        refine Zf (Vs (V.condF rfl (Ve (Xe (Xe (Xh (Xn (Vr (O.m rfl (O.q rfl (Pu.indexArr 0 0 rfl ut81 sz2 rfl rfl (by decide) (by decide) (by decide)) ?_))))))))))
        refine O.q rfl (Pu.load rfl pl2 rfl (Ld.blk 0 rfl rfl)) (O.q rfl (Pu.indexArr 1 1 rfl ut81 sz2 rfl rfl (by decide) (by decide) (by decide)) (O.q rfl (Pu.load rfl pl2 rfl (Ld.blk 0 rfl rfl)) (O.q rfl (Pu.indexArr 2 2 rfl ut81 sz2 rfl rfl (by decide) (by decide) (by decide)) (O.q rfl (Pu.load rfl pl2 rfl (Ld.blk 0 rfl rfl)) (O.f rfl (Ef.callP call148 rfl rfl (fun w hw => blockOf_ok  ((blocks[i]'e1).1) ((blocks[i]'e1).2.1) a w   )) ?_)))))
        rintro _ _ ⟨rfl, rfl⟩
        refine O.f rfl (Ef.build B3C ([(bk3 ((blocks[i]'e1).1) ((blocks[i]'e1).2.1) a)] : List B3) rfl ut24 inf81 rfl rfl rfl (by first | decide | (simp; done)) (by kernel_rfl)) ?_
        rintro _ _ ⟨A51, hA51, rfl, rfl⟩
        refine O.f rfl (Ef.append (xs := out) (ys := ([(bk3 ((blocks[i]'e1).1) ((blocks[i]'e1).2.1) a)] : List B3)) 2 rfl ut24 inf81 rfl rfl rfl rfl rfl rfl hA51 (Ld.own 0 (by exact rfl)) (by simp only [List.length_append, List.length_cons, List.length_nil] at *; omega) (by decide)) ?_
        rintro _ _ ⟨A52, k26, rfl, rfl, hA52⟩
        replace hA52 := hA52 (.inr (by simp))
        refine O.m rfl (Zk (O.q rfl (Pu.add64 (r := ((i + 1 : Nat) : Int)) rfl (by omega) rfl rfl rfl) (O.m rfl (On ?_))))
        exact X.back2 (A52, k26, (out ++ ([(bk3 ((blocks[i]'e1).1) ((blocks[i]'e1).2.1) a)] : List B3)), i + 1) (by (try dsimp only); exact ⟨by omega, by rw [take_snoc e1, List.map_append, ho]; refine congrArg _ (congrArg (· :: []) ?_); unfold exB sw2; (repeat' split) <;> first | (exfalso; omega) | rfl, by simp only [List.length_append, List.length_singleton]; omega⟩) (by first | omega | (dsimp only; omega)) (Ent.cons rfl (Ent.cons rfl (Ent.nil _))) (Ent.cons (t := 1) rfl (Ent.cons (t := 2) rfl (Ent.cons (t := 12) rfl (Ent.cons (t := 13) rfl (Ent.nil _))))) (Sub.s [2] rfl)
       ·refine Vk (Xb (Xb (Xn (Vr (O.q rfl (Pu.add64 (r := 3) (by decide) (by decide) rfl rfl rfl) (O.m rfl (On (X.again 0 (Za (O.q rfl (Pu.isF (by decide) (Pu.lss rfl rfl rfl)) ?_))))))))))
        refine Zf (Vs (V.condF rfl (Ve (Xe (Xe (Xh (Xn (Vr (O.m rfl (O.q rfl (Pu.indexArr 0 0 rfl ut81 sz2 rfl rfl (by decide) (by decide) (by decide)) ?_))))))))))
        refine O.q rfl (Pu.load rfl pl2 rfl (Ld.blk 0 rfl rfl)) (O.q rfl (Pu.indexArr 1 1 rfl ut81 sz2 rfl rfl (by decide) (by decide) (by decide)) (O.q rfl (Pu.load rfl pl2 rfl (Ld.blk 0 rfl rfl)) (O.q rfl (Pu.indexArr 2 2 rfl ut81 sz2 rfl rfl (by decide) (by decide) (by decide)) (O.q rfl (Pu.load rfl pl2 rfl (Ld.blk 0 rfl rfl)) (O.f rfl (Ef.callP call148 rfl rfl (fun w hw => blockOf_ok  ((blocks[i]'e1).1) ((blocks[i]'e1).2.1) ((blocks[i]'e1).2.2) w   )) ?_)))))
        rintro _ _ ⟨rfl, rfl⟩
        refine O.f rfl (Ef.build B3C ([(bk3 ((blocks[i]'e1).1) ((blocks[i]'e1).2.1) ((blocks[i]'e1).2.2))] : List B3) rfl ut24 inf81 rfl rfl rfl (by first | decide | (simp; done)) (by kernel_rfl)) ?_
        rintro _ _ ⟨A53, hA53, rfl, rfl⟩
        refine O.f rfl (Ef.append (xs := out) (ys := ([(bk3 ((blocks[i]'e1).1) ((blocks[i]'e1).2.1) ((blocks[i]'e1).2.2))] : List B3)) 2 rfl ut24 inf81 rfl rfl rfl rfl rfl rfl hA53 (Ld.own 0 (by exact rfl)) (by simp only [List.length_append, List.length_cons, List.length_nil] at *; omega) (by decide)) ?_
        rintro _ _ ⟨A54, k27, rfl, rfl, hA54⟩
        replace hA54 := hA54 (.inr (by simp))
        refine O.m rfl (Zk (O.q rfl (Pu.add64 (r := ((i + 1 : Nat) : Int)) rfl (by omega) rfl rfl rfl) (O.m rfl (On ?_))))
        exact X.back2 (A54, k27, (out ++ ([(bk3 ((blocks[i]'e1).1) ((blocks[i]'e1).2.1) ((blocks[i]'e1).2.2))] : List B3)), i + 1) (by (try dsimp only); exact ⟨by omega, by rw [take_snoc e1, List.map_append, ho]; refine congrArg _ (congrArg (· :: []) ?_); unfold exB sw2; (repeat' split) <;> first | (exfalso; omega) | rfl, by simp only [List.length_append, List.length_singleton]; omega⟩) (by first | omega | (dsimp only; omega)) (Ent.cons rfl (Ent.cons rfl (Ent.nil _))) (Ent.cons (t := 1) rfl (Ent.cons (t := 2) rfl (Ent.cons (t := 12) rfl (Ent.cons (t := 13) rfl (Ent.nil _))))) (Sub.s [2] rfl)
 ·refine Zd (O.m rfl (O.f rfl (Ef.call1 call149 rfl rfl (fun w hw => sorted_ok  out _ _ w ((Ld.own 0 (by exact rfl)) w hw) (by first | omega | (simp only [tops_len, conts_len, bl, List.length_append, List.length_cons, List.length_nil] at *; omega)) (by first | assumption | omega | (try dsimp only at *; omega)))) ?_))
  rintro _ _ rfl
  refine O.exi (fun r1A => O.exi (fun r1c => O.exi (fun r1 => O.sep (O.pur ?_))))
  rintro ⟨rfl, hr1_1, hr1_2⟩
  exact O.m rfl (Ze (X.ret1 rfl rfl (fun w hw => St.mkExi r1A (St.mkExi r1c (St.mkExi r1 (St.unsep (St.addPur ⟨rfl, by rw [ho, List.take_of_length_le (by omega)] at hr1_1; exact hr1_1, hr1_2⟩ (hw.sub (Sub.s [0] rfl)))))))))
set_option maxRecDepth 100000 in
set_option maxHeartbeats 1000000 in
theorem paschTrade1_ok (c_ : B3) (p : Int) (b_0 : Nat) (w : World) (hb_0 : RdB w b_0 [.int .i64 p]) : Does Tryz.prog 185 [B3.v c_, .pointer (some ⟨b_0, 0, none⟩)] w [] (fun r => [.pur (r = .bool (decide (has c_ p)))]) := by
 refine Does.enter Tryz.func185 rfl rfl [(0, B3.v c_), (1, .pointer (some ⟨b_0, 0, none⟩))] rfl (Za (O.f rfl (Ef.box rfl rfl rfl) ?_))
 rintro _ _ ⟨b1, rfl, rfl⟩
 refine O.m rfl (Zb (O.q rfl (Pu.loadAgg' (v := B3.v c_) rfl rfl ag81 sz81 rfl rfl (Ld.whole 0 rfl)) (O.q rfl (Pu.load rfl pl2 rfl (Ld.rdb hb_0 rfl)) (O.f rfl (Ef.callP call75 rfl rfl (fun w hw => has_ok c_ _ w)) ?_))))
 rintro _ _ ⟨rfl, rfl⟩
 exact O.m rfl (Ze (X.ret1 rfl rfl (fun w hw => St.retP (boolD (Iff.rfl)) hw)))
set_option maxRecDepth 100000 in
set_option maxHeartbeats 1000000 in
theorem paschTrade2_ok (c_ : B3) (p : Int) (b_0 : Nat) (a : Int) (b_1 : Nat) (w : World) (hb_0 : RdB w b_0 [.int .i64 p]) (hb_1 : RdB w b_1 [.int .i64 a]) : Does Tryz.prog 186 [B3.v c_, .pointer (some ⟨b_0, 0, none⟩), .pointer (some ⟨b_1, 0, none⟩)] w [] (fun r => [.pur (r = .bool (decide (has c_ p ∧ has c_ a)))]) := by
 refine Does.enter Tryz.func186 rfl rfl [(0, B3.v c_), (1, .pointer (some ⟨b_0, 0, none⟩)), (2, .pointer (some ⟨b_1, 0, none⟩))] rfl (Za (O.f rfl (Ef.box rfl rfl rfl) ?_))
 rintro _ _ ⟨b1, rfl, rfl⟩
 refine O.m rfl (Zb (O.q rfl (Pu.loadAgg' (v := B3.v c_) rfl rfl ag81 sz81 rfl rfl (Ld.whole 0 rfl)) (O.q rfl (Pu.load rfl pl2 rfl (Ld.rdb hb_0 rfl)) (O.f rfl (Ef.callP call75 rfl rfl (fun w hw => has_ok c_ _ w)) ?_))))
 rintro _ _ ⟨rfl, rfl⟩
 refine O.m rfl (O.splitD 8 rfl (fun c1 => ?_) (fun c1 => ?_))
 ·refine O.gq rfl (Pu.loadAgg' (v := B3.v c_) rfl rfl ag81 sz81 rfl rfl (Ld.whole 0 rfl)) (O.gq rfl (Pu.load rfl pl2 rfl (Ld.rdb hb_1 rfl)) (O.gf rfl (Ef.callP call75 rfl rfl (fun w hw => has_ok c_ _ w)) ?_))
  rintro _ _ ⟨rfl, rfl⟩
  exact O.m rfl (O.m rfl (Ze (X.ret1 rfl rfl (fun w hw => St.retP (boolD (⟨fun h => ⟨c1, h⟩, fun h => h.2⟩)) hw))))
 ·exact O.g rfl (O.g rfl (O.g rfl (O.m rfl (O.m rfl (Ze (X.ret1 rfl rfl (fun w hw => St.retP (boolF (fun h => c1 h.1)) hw)))))))
set_option maxRecDepth 100000 in
set_option maxHeartbeats 1000000 in
theorem paschTrade_ok (v : Int) (bs : List B3) (numbers : List Int) (A : Option Addr) (c : Nat) (numbersA : Option Addr) (numbersc : Nat) (w : World) (hx : Rd B3C w A bs) (hnumbers : Rd I64 w numbersA numbers) (lx : bs.length ≤ 4611686018427387904) (lnumbers : numbers.length ≤ 1099511627776) (hS : STS v bs) (hq : PQ bs numbers) : Does Tryz.prog 137 [.agg #[.int .i64 v, .slice A bs.length c], .slice numbersA numbers.length numbersc] w [] (fun r => [.exi fun (oA : Option Addr) => .exi fun (oc : Nat) => .exi fun (o : List B3) => .exi fun (iA : Option Addr) => .exi fun (ic : Nat) => .exi fun (i : List B3) => .sep (.pur (r = .agg #[.int .i64 v, .slice oA o.length oc, .slice iA i.length ic] ∧ o = numbers.map (blk bs) ∧ (i.Perm (o.map (exB (ptA o) (ptB v.toNat o))) ∧ SrtB i))) (.sep (Own 81 B3C oA oc o) (Own 81 B3C iA ic i))]) := by
 refine Does.enter Tryz.func137 rfl rfl [(0, .agg #[.int .i64 v, .slice A bs.length c]), (1, .slice numbersA numbers.length numbersc)] rfl ?_
 have hlo := hS.lo
 have hhi := hS.hi
 have hfew := hS.few
 have h4 := hq.four
 refine Za (O.f rfl (Ef.box rfl rfl rfl) ?_)
 rintro _ _ ⟨b1, rfl, rfl⟩
 refine O.f rfl (Ef.alloc rfl zr35 rfl) ?_
 rintro _ _ ⟨b2, rfl, rfl⟩
 refine Zb (O.q rfl (Pu.fieldAddr 0 rfl ut26 rfl sz2 rfl rfl) (O.q rfl (Pu.load rfl pl2 rfl (Ld.blk 1 rfl rfl)) (O.q rfl (Pu.buildS (cs := [.int .i64 v, .slice none 0 0, .slice none 0 0]) rfl rfl ut35 zr35 (by kernel_rfl) rfl (by kernel_rfl)) (O.f rfl (Ef.alloc rfl zr35 rfl) ?_))))
 rintro _ _ ⟨b3, rfl, rfl⟩
 refine O.s rfl rfl (Ef.storeAll 0 rfl sz35 rfl rfl rfl rfl (by simp [Value.oneCell']) rfl) ?_
 rintro _ _ rfl
 refine Zc (O.m rfl (O.q rfl (Pu.len rfl ut49 rfl) (O.m rfl (Zi (V.map (fun w hw => St.addNil (T := 81) (C := B3C) hw) ?_)))))
 refine V.loop3 (β := Nat × (Option Addr) × Nat × (List B3)) (fun x => [(17, .int .i64 (x.1 : Int))]) _ (fun x => [Blk b3 [.int .i64 v, .slice x.2.1 x.2.2.2.length x.2.2.1, .slice none 0 0] 35, Own 81 B3C x.2.1 x.2.2.1 x.2.2.2]) _ (fun x => x.1 ≤ numbers.length ∧ x.2.2.2 = (numbers.take x.1).map (blk bs)) (fun x => numbers.length - x.1) (0, none, 0, []) (by (try dsimp only); exact ⟨by omega, rfl⟩) (Ent.cons rfl (Ent.nil _)) (Ent.cons (t := 2) rfl (Ent.cons (t := 4) rfl (Ent.cons (t := 5) rfl (Ent.cons (t := 15) rfl (Ent.cons (t := 16) rfl (Ent.nil _)))))) (Sub.s [1,0,0,0] rfl) ?_
 rintro ⟨k, outA, outc, out⟩ ⟨hk, ho⟩
 dsimp only at hk ho ⊢
 have hol : out.length = k := by rw [ho, List.length_map, List.length_take]; omega
 refine Za (O.q rfl (Pu.lss rfl rfl rfl) (Zf (Vs (V.condD rfl (fun c1 => ?_) (fun c1 => ?_)))))
 ·refine Zh (O.q rfl (Pu.indexAddr (k) rfl ut49 sz2 rfl rfl (by omega) (by omega) (hnumbers.some (by omega))) ?_)
  have e1 : k < numbers.length := by omega
  refine O.q rfl (Pu.load rfl pl2 rfl (Ld.rd (Ld.old hnumbers) (k := k) e1 rfl rfl)) (O.m rfl (Zf ?_))
  have e1 : k < numbers.length := by omega
  have hix := hq.ix _ (List.getElem_mem e1)
  have hix2 := hix
  unfold okIx at hix2
  refine V.drawS mo (by kernel_rfl) (Sub.s [0,1,1] rfl) (fun hwf => D.q 0 rfl (Pu.fieldAddr 1 rfl ut35 rfl sz24 rfl rfl) (D.q 1 rfl (Pu.load rfl pl24 rfl (Ld.blk 0 rfl rfl)) (D.q 2 rfl (Pu.fieldAddr 1 rfl ut26 rfl sz24 rfl rfl) (D.q 3 rfl (Pu.load rfl pl24 rfl (Ld.blk 2 rfl rfl)) (D.m 4 rfl (D.q 5 rfl (Pu.indexAddr (((numbers[k]'e1)).toNat) rfl ut24 sz81 rfl rfl (by omega) (by omega) (hx.some (by omega))) ?_))))))
  have e2 : ((numbers[k]'e1)).toNat < bs.length := by omega
  refine D.q 6 rfl (Pu.loadAgg' (v := B3.v (bs[((numbers[k]'e1)).toNat]'e2)) rfl rfl ag81 sz81 rfl rfl (Ld.rds (Ld.old hx) (k := ((numbers[k]'e1)).toNat) e2 rfl)) (D.q 9 rfl (Pu.fieldAddr 1 rfl ut35 rfl sz24 rfl rfl) (D.f hwf 7 rfl (Ef.build B3C ([(bs[((numbers[k]'e1)).toNat]'e2)] : List B3) rfl ut24 inf81 rfl rfl rfl (by first | decide | (simp; done)) (by kernel_rfl)) ?_))
  rintro _ _ ⟨A1, hA1, rfl, rfl⟩ hs
  refine ⟨fun w hw => hw.sub (Sub.s [1,2,2] rfl), (D.f hwf 8 rfl (Ef.append (xs := out) (ys := ([(bs[((numbers[k]'e1)).toNat]'e2)] : List B3)) 2 rfl ut24 inf81 rfl rfl rfl rfl rfl rfl hA1 (Ld.own 0 (by exact rfl)) (by simp only [List.length_append, List.length_cons, List.length_nil] at *; omega) (by decide)) ?_)⟩
  rintro _ _ ⟨A2, k1, rfl, rfl, hA2⟩ hs
  replace hA2 := hA2 (.inr (by simp))
  refine ⟨fun w hw => hw.sub (Sub.s [1,2,2] rfl), (D.effX (Hs' := []) hwf (e := 10) rfl rfl rfl rfl (Ef.store1 (cs' := [_, _, _]) 1 rfl sz24 rfl rfl rfl rfl rfl (ltb rfl) rfl) rfl [] rfl (List.forall_mem_nil _) ?_)⟩
  rintro _ _ rfl
  exact ⟨fun w hw => hw.sub (Sub.nil _), (D.done hwf rfl (Xb (Xn (Vr (O.q rfl (Pu.add64 (r := ((k + 1 : Nat) : Int)) rfl (by omega) rfl rfl rfl) (O.m rfl (On (X.back3 (k + 1, A2, k1, (out ++ ([(bs[((numbers[k]'e1)).toNat]'e2)] : List B3))) (by (try dsimp only); exact ⟨by omega, by rw [take_snoc e1, List.map_append, ho]; simp only [List.map_cons, List.map_nil]; rw [blk_ix hix]⟩) (by first | omega | (dsimp only; omega)) (Ent.cons rfl (Ent.nil _)) (Ent.cons (t := 2) rfl (Ent.cons (t := 4) rfl (Ent.cons (t := 5) rfl (Ent.cons (t := 15) rfl (Ent.cons (t := 16) rfl (Ent.nil _)))))) (Sub.s [1,1,1,1] rfl)))))))))⟩
 ·refine Ve (Xe (Xe (Xh (Xn (Vs ?_)))))
  have ho4 : out = numbers.map (blk bs) := by rw [ho, List.take_of_length_le (by omega)]
  have hl4 : out.length = 4 := by rw [ho4, List.length_map]; exact h4
  have e0 : 0 < out.length := by omega
  have hpa : ptA out = (out[0]'e0).1 := by unfold ptA; rw [first_headD e0 (d := (0, 0, 0))]
  refine Vr (O.q rfl (Pu.fieldAddr 1 rfl ut35 rfl sz24 rfl rfl) (O.q rfl (Pu.load rfl pl24 rfl (Ld.blk 0 rfl rfl)) (O.q rfl (Pu.indexAddrS (0) rfl ut24 sz81 rfl rfl (by omega) (by omega) (fun w hw => Own.some hw (i := 1) (by exact rfl) (by omega))) (O.q rfl (Pu.indexArr' (0) rfl ut81 sz2 rfl rfl (by omega) (by omega) rfl (fun w hw => by have := Own.some hw (i := 1) (by exact rfl) (by omega); simpa using this)) (O.q rfl (Pu.load rfl pl2 rfl (Ld.part (k := 0) (j := 0) (Ld.own 1 (by exact rfl)) e0 rfl rfl)) (O.f rfl (Ef.alloc rfl zr2 rfl) ?_))))))
  rintro _ _ ⟨b4, rfl, rfl⟩
  refine O.s rfl rfl (Ef.store1 (cs' := [_]) 0 rfl sz2 rfl rfl rfl rfl rfl (ltb rfl) rfl) ?_
  rintro _ _ rfl
  refine Zb (O.m rfl (Zc (O.q rfl (Pu.fieldAddr 0 rfl ut26 rfl sz2 rfl rfl) (O.q rfl (Pu.load rfl pl2 rfl (Ld.blk 4 rfl rfl)) ?_))))
  refine O.m rfl (Zi (V.loop3 (β := Int × Nat) (fun x => [(9, .int .i64 (x.1 : Int)), (39, .int .i64 (x.2 : Int))]) _ (fun x => []) _ (fun x => x.2 ≤ v.toNat ∧ x.1 = lastP (PtC out) x.2) (fun x => v.toNat - x.2) ((-1 : Int), 0) (by (try dsimp only); exact ⟨by omega, rfl⟩) (Ent.cons rfl (Ent.cons rfl (Ent.nil _))) (Ent.cons (t := 4) rfl (Ent.cons (t := 5) rfl (Ent.cons (t := 8) rfl (Ent.cons (t := 38) rfl (Ent.nil _))))) (Sub.s [0,0,0,0,0] rfl) ?_))
  rintro ⟨b, p⟩ ⟨hp, hb⟩
  dsimp only at hp hb ⊢
  refine Za (O.q rfl (Pu.lss rfl rfl rfl) (Zf (Vs (V.condD rfl (fun c2 => ?_) (fun c2 => ?_)))))
  ·refine Zh (O.m rfl (O.f rfl (Ef.alloc rfl zr2 rfl) ?_))
   rintro _ _ ⟨b5, rfl, rfl⟩
   refine O.s rfl rfl (Ef.store1 (cs' := [_]) 0 rfl sz2 rfl rfl rfl rfl rfl (ltb rfl) rfl) ?_
   rintro _ _ rfl
   refine Zb (O.q rfl (Pu.fieldAddr 1 rfl ut35 rfl sz24 rfl rfl) (O.q rfl (Pu.load rfl pl24 rfl (Ld.blk 2 rfl rfl)) (O.q rfl (Pu.makeFunc rfl rfl) (O.f rfl (Ef.callP call94 rfl rfl (fun w hw => containsFuncB_ok (fun b => has b (p : Int)) 185 _ out _ _ w call185 ((Ld.own 3 (by exact rfl)) w hw) (by omega) (fun k hk w' hb => paschTrade1_ok _ (p : Int) _ w' ((Blk.rdb hw (i := 0) rfl).below hb)))) ?_))))
   rintro _ _ ⟨rfl, rfl⟩
   refine O.m rfl (Zb (O.q rfl (Pu.load rfl pl2 rfl (Ld.blk 0 rfl rfl)) (O.q rfl (Pu.load rfl pl2 rfl (Ld.blk 1 rfl rfl)) (O.q rfl (Pu.neq rfl rfl rfl) (O.m rfl (O.splitN 49 rfl (fun c3 => ?_) (fun c3 => ?_)))))))
   ·refine O.gm rfl (O.m rfl (O.m rfl (O.splitD 52 rfl (fun c4 => ?_) (fun c4 => ?_))))
    ·refine O.gq rfl (Pu.fieldAddr 1 rfl ut35 rfl sz24 rfl rfl) (O.gq rfl (Pu.load rfl pl24 rfl (Ld.blk 2 rfl rfl)) (O.gq rfl (Pu.makeFunc rfl rfl) (O.gf rfl (Ef.callP call94 rfl rfl (fun w hw => containsFuncB_ok (fun b => has b (p : Int) ∧ has b (out[0]'e0).1) 186 _ out _ _ w call186 ((Ld.own 3 (by exact rfl)) w hw) (by omega) (fun k hk w' hb => paschTrade2_ok _ (p : Int) _ (out[0]'e0).1 _ w' ((Blk.rdb hw (i := 0) rfl).below hb) ((Blk.rdb hw (i := 1) rfl).below hb)))) ?_)))
     rintro _ _ ⟨rfl, rfl⟩
     refine O.gq rfl (Pu.not rfl rfl) (O.m rfl (Zf (V.condNot rfl (fun c5 => ?_) (fun c5 => ?_))))
     ·exact Vr (O.q rfl (Pu.load rfl pl2 rfl (Ld.blk 0 rfl rfl)) (O.m rfl (Zk (O.q rfl (Pu.add64 (r := ((p + 1 : Nat) : Int)) rfl (by omega) rfl rfl rfl) (O.m rfl (On (X.back3 ((↑p : Int), p + 1) (by (try dsimp only); exact ⟨by omega, by rw [lastP_yes (C := PtC out) ⟨by rw [hpa]; exact c3, c4, by rw [hpa]; exact c5⟩]⟩) (by first | omega | (dsimp only; omega)) (Ent.cons rfl (Ent.cons rfl (Ent.nil _))) (Ent.cons (t := 4) rfl (Ent.cons (t := 5) rfl (Ent.cons (t := 8) rfl (Ent.cons (t := 38) rfl (Ent.nil _))))) (Sub.s [1,1,1,1,1] rfl))))))))
     ·exact Zg (O.q rfl (Pu.add64 (r := ((p + 1 : Nat) : Int)) rfl (by omega) rfl rfl rfl) (O.m rfl (On (X.back3 (b, p + 1) (by (try dsimp only); exact ⟨by omega, by rw [lastP_no (C := PtC out) (fun h => (by have h2 := h.2.2; rw [hpa] at h2; exact h2 c5))]; exact hb⟩) (by first | omega | (dsimp only; omega)) (Ent.cons rfl (Ent.cons rfl (Ent.nil _))) (Ent.cons (t := 4) rfl (Ent.cons (t := 5) rfl (Ent.cons (t := 8) rfl (Ent.cons (t := 38) rfl (Ent.nil _))))) (Sub.s [1,1,1,1,1] rfl)))))
    ·refine O.g rfl (O.g rfl (O.g rfl (O.g rfl (O.g rfl (O.m rfl (Zf (V.condF rfl (Vk (Xb (Xn ?_))))))))))
     exact Vr (O.q rfl (Pu.add64 (r := ((p + 1 : Nat) : Int)) rfl (by omega) rfl rfl rfl) (O.m rfl (On (X.back3 (b, p + 1) (by (try dsimp only); exact ⟨by omega, by rw [lastP_no (C := PtC out) (fun h => c4 h.2.1)]; exact hb⟩) (by first | omega | (dsimp only; omega)) (Ent.cons rfl (Ent.cons rfl (Ent.nil _))) (Ent.cons (t := 4) rfl (Ent.cons (t := 5) rfl (Ent.cons (t := 8) rfl (Ent.cons (t := 38) rfl (Ent.nil _))))) (Sub.s [1,1,1,1,1] rfl)))))
   ·refine O.g rfl (O.m rfl (O.m rfl (O.g rfl (O.g rfl (O.g rfl (O.g rfl (O.g rfl (O.m rfl (Zf (V.condF rfl ?_))))))))))
    exact Zg (O.q rfl (Pu.add64 (r := ((p + 1 : Nat) : Int)) rfl (by omega) rfl rfl rfl) (O.m rfl (On (X.back3 (b, p + 1) (by (try dsimp only); exact ⟨by omega, by rw [lastP_no (C := PtC out) (fun h => h.1 (by rw [hpa]; exact c3))]; exact hb⟩) (by first | omega | (dsimp only; omega)) (Ent.cons rfl (Ent.cons rfl (Ent.nil _))) (Ent.cons (t := 4) rfl (Ent.cons (t := 5) rfl (Ent.cons (t := 8) rfl (Ent.cons (t := 38) rfl (Ent.nil _))))) (Sub.s [1,1,1,1,1] rfl)))))
  ·refine Zd (O.q rfl (Pu.fieldAddr 1 rfl ut35 rfl sz24 rfl rfl) (O.q rfl (Pu.load rfl pl24 rfl (Ld.blk 1 rfl rfl)) (O.q rfl (Pu.load rfl pl2 rfl (Ld.blk 0 rfl rfl)) (O.m rfl (O.f rfl (Ef.call1 call76 rfl rfl (fun w hw => exchangedT_ok  out ((out[0]'e0).1) b _ _ w ((Ld.own 2 (by exact rfl)) w hw) (by first | omega | (simp only [tops_len, conts_len, bl, List.length_append, List.length_cons, List.length_nil] at *; omega)) (by omega))) ?_)))))
   rintro _ _ rfl
   refine O.exi (fun r1A => O.exi (fun r1c => O.exi (fun r1 => O.sep (O.pur ?_))))
   rintro ⟨rfl, hr1_1, hr1_2⟩
   refine O.q rfl (Pu.fieldAddr 2 rfl ut35 rfl sz24 rfl rfl) (O.s rfl rfl (Ef.store1 (cs' := [_, _, _]) 2 rfl sz24 rfl rfl rfl rfl rfl (ltb rfl) rfl) ?_)
   rintro _ _ rfl
   refine Zb (O.q rfl (Pu.loadAgg rfl ag35 sz35 rfl rfl (Ld.whole 2 rfl)) (O.s rfl rfl (Ef.storeAll 4 rfl sz35 rfl rfl rfl rfl (by simp [Value.oneCell']) rfl) ?_))
   rintro _ _ rfl
   exact Ze (X.retCell rfl ag35 sz35 rfl rfl (Ld.whole 4 rfl) (fun w hw => St.mkExi outA (St.mkExi outc (St.mkExi out (St.mkExi r1A (St.mkExi r1c (St.mkExi r1 (St.unsep (St.addPur ⟨rfl, ho4, by rw [hpa]; unfold ptB; rw [show v.toNat = p by omega, ← hb]; exact ⟨hr1_1, hr1_2⟩⟩ (St.unsep (hw.sub (Sub.s [3,0] rfl))))))))))))
set_option maxRecDepth 100000 in
set_option maxHeartbeats 1000000 in
theorem paschTrades_ok (v : Int) (bs : List B3) (A : Option Addr) (c : Nat) (w : World) (hx : Rd B3C w A bs) (lx : bs.length ≤ 4611686018427387904) (hS : STS v bs) : Does Tryz.prog 63 [.agg #[.int .i64 v, .slice A bs.length c]] w [] (fun rv_ => [.exi fun (rA : Option Addr) => .exi fun (rc : Nat) => .exi fun (r : TrL) => .sep (.pur (rv_ = .slice rA (topT r).length rc ∧ (∃ ls, IsList (PQ bs) ls ∧ contT r = ls.map (trQ v bs)) ∧ r.length ≤ 1500625)) (.sep (Own 35 (TrC v) rA rc (topT r)) (TrsA 81 r))]) := by
 refine Does.enter Tryz.func63 rfl rfl [(0, .agg #[.int .i64 v, .slice A bs.length c])] rfl (Za (O.f rfl (Ef.box rfl rfl rfl) ?_))
 rintro _ _ ⟨b1, rfl, rfl⟩
 refine O.m rfl (Zb (O.m rfl (Zc (O.q rfl (Pu.loadAgg rfl ag26 sz26 rfl rfl (Ld.whole 0 rfl)) ?_))))
 refine O.f rfl (Ef.call1 call136 rfl rfl (fun w hw => paschs_ok  v bs _ _ w ((Ld.old hx) w hw) (by first | omega | (simp only [tops_len, conts_len, bl, List.length_append, List.length_cons, List.length_nil] at *; omega)) (by first | assumption | omega | (try dsimp only at *; omega)))) ?_
 rintro _ _ rfl
 refine O.exi (fun p1A => O.exi (fun p1c => O.exi (fun p1 => O.sep (O.pur ?_))))
 rintro ⟨rfl, hp1_1, hp1_2⟩
 refine O.sep (O.fact (RowsA.len 1 rfl) (fun hn_p1 => ?_))
 have htl_p1 := tops_len p1
 refine O.q rfl (Pu.len rfl ut53 rfl) (O.m rfl (Zi (V.map (fun w hw => St.addNil (T := 35) (C := TrC v) (TrsA.nil (T := 81) hw)) (V.loop3 (β := (Option Addr) × Nat × TrL × Nat) (fun x => [(3, .slice x.1 (topT x.2.2.1).length x.2.1), (9, .int .i64 (x.2.2.2 : Int))]) _ (fun x => [Own 35 (TrC v) x.1 x.2.1 (topT x.2.2.1), TrsA 81 x.2.2.1]) _ (fun x => x.2.2.2 ≤ p1.length ∧ contT x.2.2.1 = ((conts p1).take x.2.2.2).map (trQ v bs)) (fun x => p1.length - x.2.2.2) (none, 0, [], 0) (by (try dsimp only); exact ⟨by omega, rfl⟩) (Ent.cons rfl (Ent.cons rfl (Ent.nil _))) (Ent.cons (t := 1) rfl (Ent.cons (t := 7) rfl (Ent.cons (t := 8) rfl (Ent.nil _)))) (Sub.s [0,0,0,0,0] rfl) ?_))))
 rintro ⟨outA, outc, out, i⟩ ⟨hi, ho⟩
 dsimp only at hi ho ⊢
 have hcl := conts_len p1
 have htl := topT_len out
 have hcl2 := contT_len out
 have hol := congrArg List.length ho
 rw [List.length_map, List.length_take] at hol
 refine Za (O.q rfl (Pu.lss rfl rfl rfl) (Zf (Vs (V.condD rfl (fun c1 => ?_) (fun c1 => ?_)))))
 ·refine Zh (O.q rfl (Pu.indexAddrS (i) rfl ut53 sz49 rfl rfl (by omega) (by omega) (fun w hw => Own.some hw (i := 2) (by exact rfl) (by omega))) ?_)
  have e1 : i < p1.length := by have := tops_len p1; omega
  refine O.q rfl (Pu.load rfl pl49 rfl (Ld.row (Ld.own 2 (by exact rfl)) hn_p1 e1 rfl)) (O.m rfl (Zf ?_))
  have e1 : i < p1.length := by omega
  have hmm : (p1[i]'e1).2 ∈ conts p1 := List.mem_map_of_mem (List.getElem_mem e1)
  have hq : PQ bs (p1[i]'e1).2 := (hp1_1.2 _).1 hmm
  refine Vr (O.m rfl (O.q rfl (Pu.loadAgg rfl ag26 sz26 rfl rfl (Ld.whole 4 rfl)) (O.m rfl (O.f rfl (Ef.call1 call137 rfl rfl (fun w hw => paschTrade_ok  v bs ((p1[i]'e1).2) _ _ _ _ w ((Ld.old hx) w hw) ((Ld.rows 3 (by exact rfl) e1) w hw) (by first | omega | (simp only [tops_len, conts_len, bl, List.length_append, List.length_cons, List.length_nil] at *; omega)) (by have := hq.four; omega) hS hq)) ?_))))
  rintro _ _ rfl
  refine O.exi (fun o1A => O.exi (fun o1c => O.exi (fun o1 => O.exi (fun i1A => O.exi (fun i1c => O.exi (fun i1 => O.sep (O.pur ?_)))))))
  rintro ⟨rfl, ho1_1, ho1_2⟩
  refine O.sep (O.f rfl (Ef.build (TrC v) ([(⟨o1A, o1.length, o1c⟩, ⟨i1A, i1.length, i1c⟩)] : List (Sl × Sl)) rfl ut28 inf35 rfl rfl rfl (by first | decide | (simp; done)) (by kernel_rfl)) ?_)
  rintro _ _ ⟨A1, hA1, rfl, rfl⟩
  refine O.f rfl (Ef.append (xs := (topT out)) (ys := ([(⟨o1A, o1.length, o1c⟩, ⟨i1A, i1.length, i1c⟩)] : List (Sl × Sl))) 3 rfl ut28 inf35 rfl rfl rfl rfl rfl rfl hA1 (Ld.own 0 (by exact rfl)) (by simp only [List.length_append, List.length_cons, List.length_nil] at *; omega) (by decide)) ?_
  rintro _ _ ⟨A2, k1, rfl, rfl, hA2⟩
  replace hA2 := hA2 (.inr (by simp))
  refine O.m rfl (Zk (O.q rfl (Pu.add64 (r := ((i + 1 : Nat) : Int)) rfl (by omega) rfl rfl rfl) (O.m rfl (On (X.map (fun w hw => trs_snoc (ts := out) (hw.sub (Sub.s [3,3,1,1,0,0,0,0] rfl))) ?_)))))
  exact X.back3 (A2, k1, (out ++ [((⟨o1A, o1.length, o1c⟩, o1), (⟨i1A, i1.length, i1c⟩, i1))]), i + 1) (by (try dsimp only); exact ⟨by omega, by rw [contT_append, ho, take_snoc (by rw [conts_len]; exact e1), List.map_append]; refine congrArg _ ?_; show [(o1, i1)] = [trQ v bs _]; rw [conts_get]; unfold trQ; rw [← insT_eq (n := v.toNat) (by rw [← ho1_1]; exact ho1_2), ho1_1]⟩) (by first | omega | (dsimp only; omega)) (Ent.cons' rfl (by first | rfl | (simp only [topT_append]; done) | (simp only [topT_append]; rfl)) (Ent.cons rfl (Ent.nil _))) (Ent.cons (t := 1) rfl (Ent.cons (t := 7) rfl (Ent.cons (t := 8) rfl (Ent.nil _)))) (Sub.s [0,0,1,1,1] rfl)
 ·refine Zd (O.m rfl (O.m rfl (Ze ?_)))
  exact X.ret1 rfl rfl (fun w hw => St.mkExi outA (St.mkExi outc (St.mkExi out (St.unsep (St.addPur ⟨(by first | rfl | (simp only [tops_append]; done) | (simp only [tops_append]; rfl)), ⟨conts p1, hp1_1, by rw [ho, List.take_of_length_le (by omega)]⟩, by omega⟩ (St.unsep (hw.sub (Sub.s [0,0] rfl))))))))
set_option maxRecDepth 100000 in
set_option maxHeartbeats 1000000 in
theorem implPaschTrades_ok (v : Int) (bs : List B3) (A : Option Addr) (c : Nat) (w : World) (hx : Rd B3C w A bs) (lx : bs.length ≤ 4611686018427387904) : Does Tryz.prog 8 [.agg #[.int .i64 v, .slice A bs.length c]] w [] (fun rv_ => [.exi fun (rA : Option Addr) => .exi fun (rc : Nat) => .exi fun (r : TrL) => .sep (.pur (rv_ = .tuple #[.slice rA (topT r).length rc, .int .i64 (if STS v bs then 0 else 1)] ∧ TRL v bs (contT r) ∧ r.length ≤ 1500625)) (.sep (Own 35 (TrC v) rA rc (topT r)) (TrsA 81 r))]) := by
 refine Does.enter Tryz.func8 rfl rfl [(0, .agg #[.int .i64 v, .slice A bs.length c])] rfl (Za (O.f rfl (Ef.box rfl rfl rfl) ?_))
 rintro _ _ ⟨b1, rfl, rfl⟩
 refine O.m rfl (O.m rfl (Zc (O.q rfl (Pu.loadAgg rfl ag26 sz26 rfl rfl (Ld.whole 0 rfl)) (O.f rfl (Ef.callP call62 rfl rfl (fun w hw => IsSystem_ok _ bs _ _ w ((Ld.old hx) w hw) (by omega))) ?_))))
 rintro _ _ ⟨rfl, rfl⟩
 refine O.q rfl (Pu.not rfl rfl) (Zf (V.condNot rfl (fun c1 => ?_) (fun c1 => ?_)))
 ·exact Za (O.m rfl (O.m rfl (Ze (Xr (X.ret2 rfl rfl rfl (fun w hw => St.mkExi none (St.mkExi 0 (St.mkExi [] (St.unsep (St.addPur ⟨(by rw [if_neg c1]; rfl), ⟨fun h => absurd h c1, fun _ => rfl⟩, by simp⟩ (St.unsep (St.addNil (T := 35) (C := TrC v) (TrsA.nil (T := 81) (hw.sub (Sub.nil _)))))))))))))))
 ·refine Vk (Xn (Za (O.q rfl (Pu.loadAgg rfl ag26 sz26 rfl rfl (Ld.whole 0 rfl)) (O.f rfl (Ef.call1 call63 rfl rfl (fun w hw => paschTrades_ok  v bs _ _ w ((Ld.old hx) w hw) (by first | omega | (simp only [tops_len, conts_len, bl, List.length_append, List.length_cons, List.length_nil] at *; omega)) (by first | assumption | omega | (try dsimp only at *; omega)))) ?_))))
  rintro _ _ rfl
  refine O.exi (fun r1A => O.exi (fun r1c => O.exi (fun r1 => O.sep (O.pur ?_))))
  rintro ⟨rfl, hr1_1, hr1_2⟩
  exact O.sep (O.m rfl (O.m rfl (Ze (X.ret2 rfl rfl rfl (fun w hw => St.mkExi r1A (St.mkExi r1c (St.mkExi r1 (St.unsep (St.addPur ⟨(by rw [if_pos c1]), ⟨fun _ => hr1_1, fun h => absurd c1 h⟩, hr1_2⟩ (St.unsep (hw.sub (Sub.s [0,0] rfl))))))))))))
set_option maxRecDepth 100000 in
set_option maxHeartbeats 1000000 in
theorem l04PairsX_ok (v : Nat) (blocks : List B3) (blocksA : Option Addr) (blocksc : Nat) (w : World) (hblocks : Rd B3C w blocksA blocks) (lblocks : blocks.length ≤ 1099511627776) (hv : v ≤ 15) (hb : ∀ d ∈ blocks, inB v d) : Does Tryz.prog 158 [.slice blocksA blocks.length blocksc] w [] (fun rv_ => [.exi fun (rA : Option Addr) => .exi fun (rc : Nat) => .exi fun (r : List Bool) => .sep (.pur (rv_ = .slice rA r.length rc ∧ r = usedL blocks)) (Own 4 BoolC rA rc r)]) := by
 refine Does.enter Tryz.func158 rfl rfl [(0, .slice blocksA blocks.length blocksc)] rfl (Za (O.m rfl (Zb (O.f rfl (Ef.make BoolC false rfl ut130 inf4 rfl rfl rfl rfl (by decide) (by decide)) ?_))))
 rintro _ _ ⟨A1, hA1, rfl, rfl⟩
 refine O.m rfl (Zc (O.m rfl (Zi (V.loop2 (β := Nat × (List Bool)) (fun x => [(4, .int .i64 (x.1 : Int))]) _ (fun x => [Own 4 BoolC A1 256 x.2]) (fun x => x.1 ≤ blocks.length ∧ x.2 = usedL (blocks.take x.1)) (fun x => blocks.length - x.1) (0, (List.replicate (256) false)) (by (try dsimp only); exact ⟨by omega, usedL_nil.symm⟩) (Ent.cons rfl (Ent.nil _)) (Ent.cons (t := 0) rfl (Ent.cons (t := 3) rfl (Ent.nil _))) (Sub.s [0] rfl) ?_))))
 rintro ⟨i, z⟩ ⟨hi, hr⟩
 dsimp only at hi hr ⊢
 have hol : z.length = 256 := by rw [hr]; exact usedL_len _
 refine Zj (O.m rfl (O.m rfl (O.q rfl (Pu.len rfl ut24 rfl) (O.q rfl (Pu.lss rfl rfl rfl) (Zf (V.condD rfl (fun c1 => ?_) (fun c1 => ?_)))))))
 ·refine Vk (Xn (Vs (Vb (Vs ?_))))
  have ei : i < blocks.length := by omega
  have hin := hb (blocks[i]'ei) (List.getElem_mem ei)
  have hpt := inB_pts hin hv
  have hq1 := prI_lt (a := (blocks[i]'ei).1.toNat) (b := (blocks[i]'ei).2.1.toNat) (by omega) (by omega)
  have hq2 := prI_lt (a := (blocks[i]'ei).1.toNat) (b := (blocks[i]'ei).2.2.toNat) (by omega) (by omega)
  have hq3 := prI_lt (a := (blocks[i]'ei).2.1.toNat) (b := (blocks[i]'ei).2.2.toNat) (by omega) (by omega)
  refine V.draw mo (by kernel_rfl) (fun hwf => D.m 0 rfl (D.m 1 rfl (D.m 2 rfl (D.q 3 rfl (Pu.indexAddr (i) rfl ut24 sz81 rfl rfl (by omega) (by omega) (hblocks.some (by omega))) (D.q 4 rfl (Pu.indexArr' (0) rfl ut81 sz2 rfl rfl (by omega) (by omega) rfl (fun w hw => by have := Rd.some ((Ld.old hblocks) w hw) (by omega); simpa using this)) (D.q 5 rfl (Pu.load rfl pl2 rfl (Ld.part (k := i) (j := 0) (Ld.old hblocks) ei rfl rfl)) (D.m 6 rfl (D.m 7 rfl (D.q 8 rfl (Pu.indexAddr (i) rfl ut24 sz81 rfl rfl (by omega) (by omega) (hblocks.some (by omega))) (D.q 9 rfl (Pu.indexArr' (1) rfl ut81 sz2 rfl rfl (by omega) (by omega) rfl (fun w hw => by have := Rd.some ((Ld.old hblocks) w hw) (by omega); simpa using this)) (D.q 10 rfl (Pu.load rfl pl2 rfl (Ld.part (k := i) (j := 1) (Ld.old hblocks) ei rfl rfl)) ?_)))))))))))
  refine D.f hwf 11 rfl (Ef.callP call196 rfl rfl (fun w hw => l04PairI_ok _ _ w (by omega) (by omega))) ?_
  rintro _ _ ⟨rfl, rfl⟩ hs
  refine ⟨fun w hw => hw, (D.q 12 rfl (Pu.indexAddrS ((prI (((blocks[i]'ei).1)).toNat (((blocks[i]'ei).2.1)).toNat)) rfl ut130 sz4 rfl rfl (by omega) (by omega) (fun w hw => Own.some hw (i := 0) (by exact rfl) (by omega))) (D.effX (Hs' := []) hwf (e := 13) rfl rfl rfl rfl (Ef.storeOwn 0 ((prI (((blocks[i]'ei).1)).toNat (((blocks[i]'ei).2.1)).toNat)) true rfl sz4 rfl rfl rfl rfl (by omega) rfl) rfl [] rfl (List.forall_mem_nil _) ?_))⟩
  rintro _ _ rfl
  refine ⟨fun w hw => hw.sub (Sub.nil _), (D.done hwf rfl (Xn (Vs ?_)))⟩
  have hs1 : (z.set (prI (blocks[i]'ei).1.toNat (blocks[i]'ei).2.1.toNat) true).length = 256 := by simp only [List.length_set]; omega
  refine V.draw mo (by kernel_rfl) (fun hwf => D.m 0 rfl (D.m 1 rfl (D.m 2 rfl (D.q 3 rfl (Pu.indexAddr (i) rfl ut24 sz81 rfl rfl (by omega) (by omega) (hblocks.some (by omega))) (D.q 4 rfl (Pu.indexArr' (0) rfl ut81 sz2 rfl rfl (by omega) (by omega) rfl (fun w hw => by have := Rd.some ((Ld.old hblocks) w hw) (by omega); simpa using this)) (D.q 5 rfl (Pu.load rfl pl2 rfl (Ld.part (k := i) (j := 0) (Ld.old hblocks) ei rfl rfl)) (D.m 6 rfl (D.m 7 rfl (D.q 8 rfl (Pu.indexAddr (i) rfl ut24 sz81 rfl rfl (by omega) (by omega) (hblocks.some (by omega))) (D.q 9 rfl (Pu.indexArr' (2) rfl ut81 sz2 rfl rfl (by omega) (by omega) rfl (fun w hw => by have := Rd.some ((Ld.old hblocks) w hw) (by omega); simpa using this)) (D.q 10 rfl (Pu.load rfl pl2 rfl (Ld.part (k := i) (j := 2) (Ld.old hblocks) ei rfl rfl)) ?_)))))))))))
  refine D.f hwf 11 rfl (Ef.callP call196 rfl rfl (fun w hw => l04PairI_ok _ _ w (by omega) (by omega))) ?_
  rintro _ _ ⟨rfl, rfl⟩ hs
  refine ⟨fun w hw => hw, (D.q 12 rfl (Pu.indexAddrS ((prI (((blocks[i]'ei).1)).toNat (((blocks[i]'ei).2.2)).toNat)) rfl ut130 sz4 rfl rfl (by omega) (by omega) (fun w hw => Own.some hw (i := 0) (by exact rfl) (by omega))) (D.effX (Hs' := []) hwf (e := 13) rfl rfl rfl rfl (Ef.storeOwn 0 ((prI (((blocks[i]'ei).1)).toNat (((blocks[i]'ei).2.2)).toNat)) true rfl sz4 rfl rfl rfl rfl (by omega) rfl) rfl [] rfl (List.forall_mem_nil _) ?_))⟩
  rintro _ _ rfl
  refine ⟨fun w hw => hw.sub (Sub.nil _), (D.done hwf rfl (Xn ?_))⟩
  have hs2 : ((z.set (prI (blocks[i]'ei).1.toNat (blocks[i]'ei).2.1.toNat) true).set (prI (blocks[i]'ei).1.toNat (blocks[i]'ei).2.2.toNat) true).length = 256 := by simp only [List.length_set]; omega
  refine V.draw mo (by kernel_rfl) (fun hwf => D.m 0 rfl (D.m 1 rfl (D.m 2 rfl (D.q 3 rfl (Pu.indexAddr (i) rfl ut24 sz81 rfl rfl (by omega) (by omega) (hblocks.some (by omega))) (D.q 4 rfl (Pu.indexArr' (1) rfl ut81 sz2 rfl rfl (by omega) (by omega) rfl (fun w hw => by have := Rd.some ((Ld.old hblocks) w hw) (by omega); simpa using this)) (D.q 5 rfl (Pu.load rfl pl2 rfl (Ld.part (k := i) (j := 1) (Ld.old hblocks) ei rfl rfl)) (D.m 6 rfl (D.m 7 rfl (D.q 8 rfl (Pu.indexAddr (i) rfl ut24 sz81 rfl rfl (by omega) (by omega) (hblocks.some (by omega))) (D.q 9 rfl (Pu.indexArr' (2) rfl ut81 sz2 rfl rfl (by omega) (by omega) rfl (fun w hw => by have := Rd.some ((Ld.old hblocks) w hw) (by omega); simpa using this)) (D.q 10 rfl (Pu.load rfl pl2 rfl (Ld.part (k := i) (j := 2) (Ld.old hblocks) ei rfl rfl)) ?_)))))))))))
  refine D.f hwf 11 rfl (Ef.callP call196 rfl rfl (fun w hw => l04PairI_ok _ _ w (by omega) (by omega))) ?_
  rintro _ _ ⟨rfl, rfl⟩ hs
  refine ⟨fun w hw => hw, (D.q 12 rfl (Pu.indexAddrS ((prI (((blocks[i]'ei).2.1)).toNat (((blocks[i]'ei).2.2)).toNat)) rfl ut130 sz4 rfl rfl (by omega) (by omega) (fun w hw => Own.some hw (i := 0) (by exact rfl) (by omega))) (D.effX (Hs' := []) hwf (e := 13) rfl rfl rfl rfl (Ef.storeOwn 0 ((prI (((blocks[i]'ei).2.1)).toNat (((blocks[i]'ei).2.2)).toNat)) true rfl sz4 rfl rfl rfl rfl (by omega) rfl) rfl [] rfl (List.forall_mem_nil _) ?_))⟩
  rintro _ _ rfl
  exact ⟨fun w hw => hw.sub (Sub.nil _), (D.done hwf rfl (Xb (Xn (Vr (O.m rfl (O.q rfl (Pu.add64 (r := ((i + 1 : Nat) : Int)) rfl (by omega) rfl rfl rfl) (O.m rfl (On (X.back2 (i + 1, (((z.set ((prI (((blocks[i]'ei).1)).toNat (((blocks[i]'ei).2.1)).toNat)) true).set ((prI (((blocks[i]'ei).1)).toNat (((blocks[i]'ei).2.2)).toNat)) true).set ((prI (((blocks[i]'ei).2.1)).toNat (((blocks[i]'ei).2.2)).toNat)) true)) (by (try dsimp only); exact ⟨by omega, by rw [take_snoc ei, usedL_snoc, hr]⟩) (by first | omega | (dsimp only; omega)) (Ent.cons rfl (Ent.nil _)) (Ent.cons (t := 0) rfl (Ent.cons (t := 3) rfl (Ent.nil _))) (Sub.s [0] rfl))))))))))⟩
 ·refine Zd (O.m rfl (O.m rfl (Ze ?_)))
  exact X.ret1 rfl rfl (fun w hw => St.mkExi A1 (St.mkExi 256 (St.mkExi z (St.unsep (St.addPur ⟨(by rw [hol]), by rw [List.take_of_length_le (by omega)] at hr; exact hr⟩ (hw.sub (Sub.s [0] rfl)))))))
set_option maxRecDepth 100000 in
set_option maxHeartbeats 1000000 in
theorem l04Same_ok (v : Nat) (xs : List B3) (ys : List B3) (xsA : Option Addr) (xsc : Nat) (ysA : Option Addr) (ysc : Nat) (w : World) (hxs : Rd B3C w xsA xs) (hys : Rd B3C w ysA ys) (lxs : xs.length ≤ 1099511627776) (lys : ys.length ≤ 1099511627776) (hv : v ≤ 15) (ha : ∀ d ∈ xs, inB v d) (hb : ∀ d ∈ ys, inB v d) : Does Tryz.prog 88 [.slice xsA xs.length xsc, .slice ysA ys.length ysc] w [] (fun r => [.pur (r = .bool (decide (usedL xs = usedL ys)))]) := by
 refine Does.enter Tryz.func88 rfl rfl [(0, .slice xsA xs.length xsc), (1, .slice ysA ys.length ysc)] rfl (Za (O.m rfl (Zb (O.m rfl (O.f rfl (Ef.call1 call158 rfl rfl (fun w hw => l04PairsX_ok v xs _ _ w ((Ld.old hxs) w hw) (by first | omega | (simp only [tops_len, conts_len, bl, List.length_append, List.length_cons, List.length_nil] at *; omega)) (by first | assumption | omega | (try dsimp only at *; omega)) (by first | assumption | omega | (try dsimp only at *; omega)))) ?_)))))
 rintro _ _ rfl
 refine O.exi (fun r1A => O.exi (fun r1c => O.exi (fun r1 => O.sep (O.pur ?_))))
 rintro ⟨rfl, hr1_1⟩
 have hlr1 : r1.length = 256 := by rw [hr1_1]; exact usedL_len _
 refine O.m rfl (O.f rfl (Ef.call1 call158 rfl rfl (fun w hw => l04PairsX_ok v ys _ _ w ((Ld.old hys) w hw) (by first | omega | (simp only [tops_len, conts_len, bl, List.length_append, List.length_cons, List.length_nil] at *; omega)) (by first | assumption | omega | (try dsimp only at *; omega)) (by first | assumption | omega | (try dsimp only at *; omega)))) ?_)
 rintro _ _ rfl
 refine O.exi (fun r2A => O.exi (fun r2c => O.exi (fun r2 => O.sep (O.pur ?_))))
 rintro ⟨rfl, hr2_1⟩
 have hlr2 : r2.length = 256 := by rw [hr2_1]; exact usedL_len _
 refine O.m rfl (O.m rfl (Zc (O.m rfl (Zi (V.loop3 (β := Nat) (fun i => [(7, .int .i64 (i : Int))]) _ (fun i => []) _ (fun i => i ≤ 256 ∧ r1.take i = r2.take i) (fun i => 256 - i) 0 ⟨by omega, rfl⟩ (Ent.cons rfl (Ent.nil _)) (Ent.cons (t := 5) rfl (Ent.cons (t := 6) rfl (Ent.nil _))) (Sub.s [0,0] rfl) ?_)))))
 rintro i ⟨hi, he⟩
 refine Zj (O.m rfl (O.m rfl (O.q rfl (Pu.len rfl ut130 rfl) (O.q rfl (Pu.lss rfl rfl rfl) (Zf (V.condD rfl (fun c1 => ?_) (fun c1 => ?_)))))))
 ·refine Vk (Xn (Vs (Vb (Vs (V.draw mo (by kernel_rfl) (fun hwf => D.m 0 rfl (D.m 1 rfl (D.q 2 rfl (Pu.indexAddrS (i) rfl ut130 sz4 rfl rfl (by omega) (by omega) (fun w hw => Own.some hw (i := 1) (by exact rfl) (by omega))) ?_))))))))
  have e1 : i < r1.length := by omega
  refine D.q 3 rfl (Pu.load rfl pl4 rfl (Ld.rd (Ld.own 1 (by exact rfl)) (k := i) e1 rfl rfl)) (D.m 4 rfl (D.m 5 rfl (D.q 6 rfl (Pu.indexAddrS (i) rfl ut130 sz4 rfl rfl (by omega) (by omega) (fun w hw => Own.some hw (i := 0) (by exact rfl) (by omega))) ?_)))
  have e2 : i < r2.length := by omega
  refine D.q 7 rfl (Pu.load rfl pl4 rfl (Ld.rd (Ld.own 0 (by exact rfl)) (k := i) e2 rfl rfl)) (D.q 8 rfl (Pu.boolNeq ut4 rfl rfl rfl) (D.done hwf rfl (Xn (V.cond rfl (fun c2 => ?_) (fun c2 => ?_)))))
  ·exact Za (O.m rfl (Ze (Xq (Xr (Xr (Xq (Xr (X.ret1 rfl rfl (fun w hw => St.retP (boolF (by intro h; rw [← hr1_1, ← hr2_1] at h; subst h; simp at c2)) hw)))))))))
  ·exact Zg (O.m rfl (O.q rfl (Pu.add64 (r := ((i + 1 : Nat) : Int)) rfl (by omega) rfl rfl rfl) (O.m rfl (On (X.back3 (i + 1) ⟨by omega, by rw [take_snoc (by omega), take_snoc (by omega), he]; simp_all⟩ (by first | omega | (dsimp only; omega)) (Ent.cons rfl (Ent.nil _)) (Ent.cons (t := 5) rfl (Ent.cons (t := 6) rfl (Ent.nil _))) (Sub.s [0,0] rfl))))))
 ·exact Zd (O.m rfl (Ze (X.ret1 rfl rfl (fun w hw => St.retP (boolT (by rw [← hr1_1, ← hr2_1]; rw [List.take_of_length_le (by omega), List.take_of_length_le (by omega)] at he; exact he)) hw))))
set_option maxRecDepth 100000 in
set_option maxHeartbeats 1000000 in
theorem l04MadeT_ok (v_ : Int) (out : List B3) (in_ : List B3) (outA : Option Addr) (outc : Nat) (in_A : Option Addr) (in_c : Nat) (w : World) (hout : Rd B3C w outA out) (hin_ : Rd B3C w in_A in_) (lout : out.length ≤ 1099511627776) (lin_ : in_.length ≤ 1099511627776) (lo : out.length ≤ 1000) (li : in_.length ≤ 1000) : Does Tryz.prog 81 [.int .i64 v_, .slice outA out.length outc, .slice in_A in_.length in_c] w [] (fun r => [.exi fun (oA : Option Addr) => .exi fun (oc : Nat) => .exi fun (o : List B3) => .exi fun (iA : Option Addr) => .exi fun (ic : Nat) => .exi fun (i : List B3) => .sep (.pur (r = .agg #[.int .i64 v_, .slice oA o.length oc, .slice iA i.length ic] ∧ (o.Perm out ∧ SrtB o) ∧ (i.Perm in_ ∧ SrtB i))) (.sep (Own 81 B3C oA oc o) (Own 81 B3C iA ic i))]) := by
 refine Does.enter Tryz.func81 rfl rfl [(0, .int .i64 v_), (1, .slice outA out.length outc), (2, .slice in_A in_.length in_c)] rfl (Za (O.f rfl (Ef.alloc rfl zr35 rfl) ?_))
 rintro _ _ ⟨b1, rfl, rfl⟩
 refine Zb (O.m rfl (O.m rfl (O.f rfl (Ef.call1 call150 rfl rfl (fun w hw => l01Sort_ok  out _ _ w ((Ld.old hout) w hw) (by first | omega | (simp only [tops_len, conts_len, bl, List.length_append, List.length_cons, List.length_nil] at *; omega)) (by first | assumption | omega | (try dsimp only at *; omega)))) ?_)))
 rintro _ _ rfl
 refine O.exi (fun r1A => O.exi (fun r1c => O.exi (fun r1 => O.sep (O.pur ?_))))
 rintro ⟨rfl, hr1_1, hr1_2⟩
 refine O.m rfl (O.f rfl (Ef.call1 call150 rfl rfl (fun w hw => l01Sort_ok  in_ _ _ w ((Ld.old hin_) w hw) (by first | omega | (simp only [tops_len, conts_len, bl, List.length_append, List.length_cons, List.length_nil] at *; omega)) (by first | assumption | omega | (try dsimp only at *; omega)))) ?_)
 rintro _ _ rfl
 refine O.exi (fun r2A => O.exi (fun r2c => O.exi (fun r2 => O.sep (O.pur ?_))))
 rintro ⟨rfl, hr2_1, hr2_2⟩
 refine O.q rfl (Pu.buildS (cs := [.int .i64 v_, .slice r1A r1.length r1c, .slice r2A r2.length r2c]) rfl rfl ut35 zr35 (by kernel_rfl) rfl (by kernel_rfl)) (O.s rfl rfl (Ef.storeAll 2 rfl sz35 rfl rfl rfl rfl (by simp [Value.oneCell']) rfl) ?_)
 rintro _ _ rfl
 exact Ze (X.retCell rfl ag35 sz35 rfl rfl (Ld.whole 2 rfl) (fun w hw => St.mkExi r1A (St.mkExi r1c (St.mkExi r1 (St.mkExi r2A (St.mkExi r2c (St.mkExi r2 (St.unsep (St.addPur ⟨rfl, ⟨hr1_1, hr1_2⟩, ⟨hr2_1, hr2_2⟩⟩ (St.unsep (hw.sub (Sub.s [1,0] rfl))))))))))))
end Go.Proofs.YtgfpljeppfaolaaGreat
