/-
  Contracts, part 3.
-/
import Derived.Test.YtphgcnegmkafiaaKb2
set_option linter.unusedVariables false
set_option linter.unusedSimpArgs false
namespace Go.Proofs.Ytphgcnegmkafiaa
open Go Go.RowKit Go.Vc Go.Proofs
set_option maxRecDepth 100000 in
theorem put_true (g : Nat) (G : Int → Int → Int) (b : B3) (w0 : World) (H : List Assn) (hb : (0 ≤ b.1 ∧ b.1 < 15) ∧ (0 ≤ b.2.1 ∧ b.2.1 < 15) ∧ (0 ≤ b.2.2 ∧ b.2.2 < 15)) : Does Try.prog 127 [.pointer (some ⟨g, 0, none⟩), B3.v b, .bool true] w0 (Grid g G 173 :: H) (fun v => .pur (v = .tuple #[]) :: Grid g (tabPut G b) 173 :: H) := by
  refine Does.enter Try.func127 rfl rfl [(0, .pointer (some ⟨g, 0, none⟩)), (1, B3.v b), (2, .bool true)] rfl ?_
  refine V.seq ?_
  refine V.region ?_
  refine O.e rfl rfl rfl (Ef.box rfl rfl rfl) ?_
  rintro _ _ ⟨b1, rfl, rfl⟩
  refine O.nil ?_
  refine X.next ?_
  refine V.seq ?_
  refine V.region ?_
  refine O.p rfl rfl rfl (Pu.loadAgg rfl ag67 sz67 rfl rfl (Ld.whole 0 rfl)) ?_
  refine O.p rfl rfl rfl (Pu.move rfl rfl) ?_
  refine O.nil ?_
  refine X.next ?_
  refine V.block ?_
  refine V.unroll 3 ?_
  refine V.seq ?_
  refine V.region ?_
  refine O.p rfl rfl rfl (Pu.isT (by decide) (Pu.lss rfl rfl rfl)) ?_
  refine O.nil ?_
  refine X.next ?_
  refine V.seq ?_
  refine V.condT rfl ?_
  refine V.skip ?_
  refine X.next ?_
  refine V.seq ?_
  refine V.block ?_
  refine V.seq ?_
  refine V.region ?_
  refine O.p rfl rfl rfl (Pu.move rfl rfl) ?_
  refine O.p rfl rfl rfl (Pu.indexAgg 0 rfl Try.underlying67 sz2 pl2 rfl rfl (by decide) (by decide) rfl) ?_
  refine O.p rfl rfl rfl (Pu.assign rfl rfl) ?_
  refine O.p rfl rfl rfl (Pu.assign rfl rfl) ?_
  refine O.nil ?_
  refine X.next ?_
  refine V.seq ?_
  refine V.draw mo (by kernel_rfl) (fun hwf => ?_)
  refine D.p 0 rfl rfl rfl rfl rfl rfl (Pu.move rfl rfl) ?_
  refine D.p 1 rfl rfl rfl rfl rfl rfl (Pu.add64 (r := 1) (by decide) (by decide) rfl rfl rfl) ?_
  refine D.p 2 rfl rfl rfl rfl rfl rfl (Pu.rem64' (r := 1) (by decide) (by decide) (by decide) rfl rfl rfl) ?_
  refine D.p 3 rfl rfl rfl rfl rfl rfl (Pu.indexArr 1 1 rfl Try.underlying67 sz2 rfl rfl (by decide) (by decide) (by decide)) ?_
  refine D.p 4 rfl rfl rfl rfl rfl rfl (Pu.load rfl pl2 rfl (Ld.blk 0 rfl rfl)) ?_
  refine D.p 5 rfl rfl rfl rfl rfl rfl (Pu.move rfl rfl) ?_
  refine D.p 6 rfl rfl rfl rfl rfl rfl (Pu.add64 (r := 2) (by decide) (by decide) rfl rfl rfl) ?_
  refine D.p 7 rfl rfl rfl rfl rfl rfl (Pu.rem64' (r := 2) (by decide) (by decide) (by decide) rfl rfl rfl) ?_
  refine D.p 8 rfl rfl rfl rfl rfl rfl (Pu.indexArr 2 2 rfl Try.underlying67 sz2 rfl rfl (by decide) (by decide) (by decide)) ?_
  refine D.p 9 rfl rfl rfl rfl rfl rfl (Pu.load rfl pl2 rfl (Ld.blk 0 rfl rfl)) ?_
  refine D.p 10 rfl rfl rfl rfl rfl rfl (Pu.assign rfl rfl) ?_
  refine D.p 11 rfl rfl rfl rfl rfl rfl (Pu.assign rfl rfl) ?_
  refine D.done hwf rfl ?_
  refine X.next ?_
  refine V.seq ?_
  refine V.seq ?_
  refine V.region ?_
  refine O.p rfl rfl rfl (Pu.move rfl rfl) ?_
  refine O.p rfl rfl rfl (Pu.notT rfl rfl) ?_
  refine O.nil ?_
  refine X.next ?_
  refine V.condF rfl ?_
  refine V.skip ?_
  refine X.next ?_
  refine V.drawS mo (by kernel_rfl) (Sub.keep 0 rfl (Sub.nil _)) (fun hwf => ?_)
  refine D.p 0 rfl rfl rfl rfl rfl rfl (Pu.move rfl rfl) ?_
  refine D.p 1 rfl rfl rfl rfl rfl rfl (Pu.move rfl rfl) ?_
  refine D.p 2 rfl rfl rfl rfl rfl rfl (Pu.move rfl rfl) ?_
  refine D.p 3 rfl rfl rfl rfl rfl rfl (Pu.move rfl rfl) ?_
  refine D.p 4 rfl rfl rfl rfl rfl rfl (Pu.move rfl rfl) ?_
  refine D.p 5 rfl rfl rfl rfl rfl rfl (Pu.move rfl rfl) ?_
  refine D.p 6 rfl rfl rfl rfl rfl rfl (Pu.move rfl rfl) ?_
  refine D.p 7 rfl rfl rfl rfl rfl rfl (Pu.move rfl rfl) ?_
  refine D.p 8 rfl rfl rfl rfl rfl rfl (Pu.nilCheck rfl rfl) ?_
  refine D.p 9 rfl rfl rfl rfl rfl rfl (Pu.indexArr ((b.1).toNat) (0 + (b.1).toNat * 15) rfl Try.underlying173 sz171 rfl rfl (by omega) (by omega) rfl) ?_
  refine D.p 10 rfl rfl rfl rfl rfl rfl (Pu.indexArr ((b.2.1).toNat) (0 + (b.1).toNat * 15 + (b.2.1).toNat * 1) rfl Try.underlying171 sz2 rfl rfl (by omega) (by omega) rfl) ?_
  refine D.p 12 rfl rfl rfl rfl rfl rfl (Pu.nilCheck rfl rfl) ?_
  refine D.p 13 rfl rfl rfl rfl rfl rfl (Pu.indexArr ((b.2.1).toNat) (0 + (b.2.1).toNat * 15) rfl Try.underlying173 sz171 rfl rfl (by omega) (by omega) rfl) ?_
  refine D.p 14 rfl rfl rfl rfl rfl rfl (Pu.indexArr ((b.1).toNat) (0 + (b.2.1).toNat * 15 + (b.1).toNat * 1) rfl Try.underlying171 sz2 rfl rfl (by omega) (by omega) rfl) ?_
  refine D.eff hwf (e := 11) rfl rfl rfl rfl (Ef.storeGrid 1 (b.1) (b.2.1) rfl sz2 rfl rfl rfl (by omega) (by omega) (by omega)) rfl rfl rfl ?_
  rintro _ _ rfl hs
  refine ⟨fun w hw => hw.sub (Sub.keep 0 rfl (Sub.nil _)), ?_⟩
  refine D.eff hwf (e := 15) rfl rfl rfl rfl (Ef.storeGrid 1 (b.2.1) (b.1) rfl sz2 rfl rfl rfl (by omega) (by omega) (by omega)) rfl rfl rfl ?_
  rintro _ _ rfl hs
  refine ⟨fun w hw => hw.sub (Sub.keep 0 rfl (Sub.nil _)), ?_⟩
  refine D.done hwf rfl ?_
  refine X.blockNormal ?_
  refine X.next ?_
  refine V.region ?_
  refine O.p rfl rfl rfl (Pu.add64 (r := 1) (by decide) (by decide) rfl rfl rfl) ?_
  refine O.p rfl rfl rfl (Pu.move rfl rfl) ?_
  refine O.nil ?_
  refine X.again 2 ?_
  refine V.seq ?_
  refine V.region ?_
  refine O.p rfl rfl rfl (Pu.isT (by decide) (Pu.lss rfl rfl rfl)) ?_
  refine O.nil ?_
  refine X.next ?_
  refine V.seq ?_
  refine V.condT rfl ?_
  refine V.skip ?_
  refine X.next ?_
  refine V.seq ?_
  refine V.block ?_
  refine V.seq ?_
  refine V.region ?_
  refine O.p rfl rfl rfl (Pu.move rfl rfl) ?_
  refine O.p rfl rfl rfl (Pu.indexAgg 1 rfl Try.underlying67 sz2 pl2 rfl rfl (by decide) (by decide) rfl) ?_
  refine O.p rfl rfl rfl (Pu.assign rfl rfl) ?_
  refine O.p rfl rfl rfl (Pu.assign rfl rfl) ?_
  refine O.nil ?_
  refine X.next ?_
  refine V.seq ?_
  refine V.ent (Ent.cons (t := 0) rfl (Ent.cons (t := 2) rfl (Ent.cons (t := 4) rfl (Ent.cons (t := 6) rfl (Ent.cons (t := 7) rfl (Ent.cons (t := 10) rfl (Ent.cons (t := 11) rfl (Ent.nil _)))))))) ?_
  refine V.draw mo (by kernel_rfl) (fun hwf => ?_)
  refine D.p 0 rfl rfl rfl rfl rfl rfl (Pu.move rfl rfl) ?_
  refine D.p 1 rfl rfl rfl rfl rfl rfl (Pu.add64 (r := 2) (by decide) (by decide) rfl rfl rfl) ?_
  refine D.p 2 rfl rfl rfl rfl rfl rfl (Pu.rem64' (r := 2) (by decide) (by decide) (by decide) rfl rfl rfl) ?_
  refine D.p 3 rfl rfl rfl rfl rfl rfl (Pu.indexArr 2 2 rfl Try.underlying67 sz2 rfl rfl (by decide) (by decide) (by decide)) ?_
  refine D.p 4 rfl rfl rfl rfl rfl rfl (Pu.load rfl pl2 rfl (Ld.blk 0 rfl rfl)) ?_
  refine D.p 5 rfl rfl rfl rfl rfl rfl (Pu.move rfl rfl) ?_
  refine D.p 6 rfl rfl rfl rfl rfl rfl (Pu.add64 (r := 3) (by decide) (by decide) rfl rfl rfl) ?_
  refine D.p 7 rfl rfl rfl rfl rfl rfl (Pu.rem64' (r := 0) (by decide) (by decide) (by decide) rfl rfl rfl) ?_
  refine D.p 8 rfl rfl rfl rfl rfl rfl (Pu.indexArr 0 0 rfl Try.underlying67 sz2 rfl rfl (by decide) (by decide) (by decide)) ?_
  refine D.p 9 rfl rfl rfl rfl rfl rfl (Pu.load rfl pl2 rfl (Ld.blk 0 rfl rfl)) ?_
  refine D.p 10 rfl rfl rfl rfl rfl rfl (Pu.assign rfl rfl) ?_
  refine D.p 11 rfl rfl rfl rfl rfl rfl (Pu.assign rfl rfl) ?_
  refine D.done hwf rfl ?_
  refine X.next ?_
  refine V.seq ?_
  refine V.seq ?_
  refine V.region ?_
  refine O.p rfl rfl rfl (Pu.move rfl rfl) ?_
  refine O.p rfl rfl rfl (Pu.notT rfl rfl) ?_
  refine O.nil ?_
  refine X.next ?_
  refine V.condF rfl ?_
  refine V.skip ?_
  refine X.next ?_
  refine V.drawS mo (by kernel_rfl) (Sub.keep 0 rfl (Sub.nil _)) (fun hwf => ?_)
  refine D.p 0 rfl rfl rfl rfl rfl rfl (Pu.move rfl rfl) ?_
  refine D.p 1 rfl rfl rfl rfl rfl rfl (Pu.move rfl rfl) ?_
  refine D.p 2 rfl rfl rfl rfl rfl rfl (Pu.move rfl rfl) ?_
  refine D.p 3 rfl rfl rfl rfl rfl rfl (Pu.move rfl rfl) ?_
  refine D.p 4 rfl rfl rfl rfl rfl rfl (Pu.move rfl rfl) ?_
  refine D.p 5 rfl rfl rfl rfl rfl rfl (Pu.move rfl rfl) ?_
  refine D.p 6 rfl rfl rfl rfl rfl rfl (Pu.move rfl rfl) ?_
  refine D.p 7 rfl rfl rfl rfl rfl rfl (Pu.move rfl rfl) ?_
  refine D.p 8 rfl rfl rfl rfl rfl rfl (Pu.nilCheck rfl rfl) ?_
  refine D.p 9 rfl rfl rfl rfl rfl rfl (Pu.indexArr ((b.2.1).toNat) (0 + (b.2.1).toNat * 15) rfl Try.underlying173 sz171 rfl rfl (by omega) (by omega) rfl) ?_
  refine D.p 10 rfl rfl rfl rfl rfl rfl (Pu.indexArr ((b.2.2).toNat) (0 + (b.2.1).toNat * 15 + (b.2.2).toNat * 1) rfl Try.underlying171 sz2 rfl rfl (by omega) (by omega) rfl) ?_
  refine D.p 12 rfl rfl rfl rfl rfl rfl (Pu.nilCheck rfl rfl) ?_
  refine D.p 13 rfl rfl rfl rfl rfl rfl (Pu.indexArr ((b.2.2).toNat) (0 + (b.2.2).toNat * 15) rfl Try.underlying173 sz171 rfl rfl (by omega) (by omega) rfl) ?_
  refine D.p 14 rfl rfl rfl rfl rfl rfl (Pu.indexArr ((b.2.1).toNat) (0 + (b.2.2).toNat * 15 + (b.2.1).toNat * 1) rfl Try.underlying171 sz2 rfl rfl (by omega) (by omega) rfl) ?_
  refine D.eff hwf (e := 11) rfl rfl rfl rfl (Ef.storeGrid 1 (b.2.1) (b.2.2) rfl sz2 rfl rfl rfl (by omega) (by omega) (by omega)) rfl rfl rfl ?_
  rintro _ _ rfl hs
  refine ⟨fun w hw => hw.sub (Sub.keep 0 rfl (Sub.nil _)), ?_⟩
  refine D.eff hwf (e := 15) rfl rfl rfl rfl (Ef.storeGrid 1 (b.2.2) (b.2.1) rfl sz2 rfl rfl rfl (by omega) (by omega) (by omega)) rfl rfl rfl ?_
  rintro _ _ rfl hs
  refine ⟨fun w hw => hw.sub (Sub.keep 0 rfl (Sub.nil _)), ?_⟩
  refine D.done hwf rfl ?_
  refine X.blockNormal ?_
  refine X.next ?_
  refine V.region ?_
  refine O.p rfl rfl rfl (Pu.add64 (r := 2) (by decide) (by decide) rfl rfl rfl) ?_
  refine O.p rfl rfl rfl (Pu.move rfl rfl) ?_
  refine O.nil ?_
  refine X.again 1 ?_
  refine V.seq ?_
  refine V.region ?_
  refine O.p rfl rfl rfl (Pu.isT (by decide) (Pu.lss rfl rfl rfl)) ?_
  refine O.nil ?_
  refine X.next ?_
  refine V.seq ?_
  refine V.condT rfl ?_
  refine V.skip ?_
  refine X.next ?_
  refine V.seq ?_
  refine V.block ?_
  refine V.seq ?_
  refine V.region ?_
  refine O.p rfl rfl rfl (Pu.move rfl rfl) ?_
  refine O.p rfl rfl rfl (Pu.indexAgg 2 rfl Try.underlying67 sz2 pl2 rfl rfl (by decide) (by decide) rfl) ?_
  refine O.p rfl rfl rfl (Pu.assign rfl rfl) ?_
  refine O.p rfl rfl rfl (Pu.assign rfl rfl) ?_
  refine O.nil ?_
  refine X.next ?_
  refine V.seq ?_
  refine V.ent (Ent.cons (t := 0) rfl (Ent.cons (t := 2) rfl (Ent.cons (t := 4) rfl (Ent.cons (t := 6) rfl (Ent.cons (t := 7) rfl (Ent.cons (t := 10) rfl (Ent.cons (t := 11) rfl (Ent.nil _)))))))) ?_
  refine V.draw mo (by kernel_rfl) (fun hwf => ?_)
  refine D.p 0 rfl rfl rfl rfl rfl rfl (Pu.move rfl rfl) ?_
  refine D.p 1 rfl rfl rfl rfl rfl rfl (Pu.add64 (r := 3) (by decide) (by decide) rfl rfl rfl) ?_
  refine D.p 2 rfl rfl rfl rfl rfl rfl (Pu.rem64' (r := 0) (by decide) (by decide) (by decide) rfl rfl rfl) ?_
  refine D.p 3 rfl rfl rfl rfl rfl rfl (Pu.indexArr 0 0 rfl Try.underlying67 sz2 rfl rfl (by decide) (by decide) (by decide)) ?_
  refine D.p 4 rfl rfl rfl rfl rfl rfl (Pu.load rfl pl2 rfl (Ld.blk 0 rfl rfl)) ?_
  refine D.p 5 rfl rfl rfl rfl rfl rfl (Pu.move rfl rfl) ?_
  refine D.p 6 rfl rfl rfl rfl rfl rfl (Pu.add64 (r := 4) (by decide) (by decide) rfl rfl rfl) ?_
  refine D.p 7 rfl rfl rfl rfl rfl rfl (Pu.rem64' (r := 1) (by decide) (by decide) (by decide) rfl rfl rfl) ?_
  refine D.p 8 rfl rfl rfl rfl rfl rfl (Pu.indexArr 1 1 rfl Try.underlying67 sz2 rfl rfl (by decide) (by decide) (by decide)) ?_
  refine D.p 9 rfl rfl rfl rfl rfl rfl (Pu.load rfl pl2 rfl (Ld.blk 0 rfl rfl)) ?_
  refine D.p 10 rfl rfl rfl rfl rfl rfl (Pu.assign rfl rfl) ?_
  refine D.p 11 rfl rfl rfl rfl rfl rfl (Pu.assign rfl rfl) ?_
  refine D.done hwf rfl ?_
  refine X.next ?_
  refine V.seq ?_
  refine V.seq ?_
  refine V.region ?_
  refine O.p rfl rfl rfl (Pu.move rfl rfl) ?_
  refine O.p rfl rfl rfl (Pu.notT rfl rfl) ?_
  refine O.nil ?_
  refine X.next ?_
  refine V.condF rfl ?_
  refine V.skip ?_
  refine X.next ?_
  refine V.drawS mo (by kernel_rfl) (Sub.keep 0 rfl (Sub.nil _)) (fun hwf => ?_)
  refine D.p 0 rfl rfl rfl rfl rfl rfl (Pu.move rfl rfl) ?_
  refine D.p 1 rfl rfl rfl rfl rfl rfl (Pu.move rfl rfl) ?_
  refine D.p 2 rfl rfl rfl rfl rfl rfl (Pu.move rfl rfl) ?_
  refine D.p 3 rfl rfl rfl rfl rfl rfl (Pu.move rfl rfl) ?_
  refine D.p 4 rfl rfl rfl rfl rfl rfl (Pu.move rfl rfl) ?_
  refine D.p 5 rfl rfl rfl rfl rfl rfl (Pu.move rfl rfl) ?_
  refine D.p 6 rfl rfl rfl rfl rfl rfl (Pu.move rfl rfl) ?_
  refine D.p 7 rfl rfl rfl rfl rfl rfl (Pu.move rfl rfl) ?_
  refine D.p 8 rfl rfl rfl rfl rfl rfl (Pu.nilCheck rfl rfl) ?_
  refine D.p 9 rfl rfl rfl rfl rfl rfl (Pu.indexArr ((b.2.2).toNat) (0 + (b.2.2).toNat * 15) rfl Try.underlying173 sz171 rfl rfl (by omega) (by omega) rfl) ?_
  refine D.p 10 rfl rfl rfl rfl rfl rfl (Pu.indexArr ((b.1).toNat) (0 + (b.2.2).toNat * 15 + (b.1).toNat * 1) rfl Try.underlying171 sz2 rfl rfl (by omega) (by omega) rfl) ?_
  refine D.p 12 rfl rfl rfl rfl rfl rfl (Pu.nilCheck rfl rfl) ?_
  refine D.p 13 rfl rfl rfl rfl rfl rfl (Pu.indexArr ((b.1).toNat) (0 + (b.1).toNat * 15) rfl Try.underlying173 sz171 rfl rfl (by omega) (by omega) rfl) ?_
  refine D.p 14 rfl rfl rfl rfl rfl rfl (Pu.indexArr ((b.2.2).toNat) (0 + (b.1).toNat * 15 + (b.2.2).toNat * 1) rfl Try.underlying171 sz2 rfl rfl (by omega) (by omega) rfl) ?_
  refine D.eff hwf (e := 11) rfl rfl rfl rfl (Ef.storeGrid 1 (b.2.2) (b.1) rfl sz2 rfl rfl rfl (by omega) (by omega) (by omega)) rfl rfl rfl ?_
  rintro _ _ rfl hs
  refine ⟨fun w hw => hw.sub (Sub.keep 0 rfl (Sub.nil _)), ?_⟩
  refine D.eff hwf (e := 15) rfl rfl rfl rfl (Ef.storeGrid 1 (b.1) (b.2.2) rfl sz2 rfl rfl rfl (by omega) (by omega) (by omega)) rfl rfl rfl ?_
  rintro _ _ rfl hs
  refine ⟨fun w hw => hw.sub (Sub.keep 0 rfl (Sub.nil _)), ?_⟩
  refine D.done hwf rfl ?_
  refine X.blockNormal ?_
  refine X.next ?_
  refine V.region ?_
  refine O.p rfl rfl rfl (Pu.add64 (r := 3) (by decide) (by decide) rfl rfl rfl) ?_
  refine O.p rfl rfl rfl (Pu.move rfl rfl) ?_
  refine O.nil ?_
  refine X.again 0 ?_
  refine V.seq ?_
  refine V.region ?_
  refine O.p rfl rfl rfl (Pu.isF (by decide) (Pu.lss rfl rfl rfl)) ?_
  refine O.nil ?_
  refine X.next ?_
  refine V.seq ?_
  refine V.condF rfl ?_
  refine V.exit ?_
  refine X.thenExit ?_
  refine X.thenExit ?_
  refine X.blockHit ?_
  refine X.endBody ?_
  refine X.ret0 rfl ?_
  exact fun w hw => St.addPur rfl (hw.sub (Sub.keep 1 rfl (Sub.drop (Sub.refl _))))
set_option maxRecDepth 100000 in
theorem gridOf_ok (bs : List B3) (A : Option Addr) (c : Nat) (w : World) (hx : Rd B3C w A bs) (lx : bs.length ≤ 4611686018427387904) (hb : ∀ b ∈ bs, good 15 b) : Does Try.prog 108 [.slice A bs.length c] w [] (fun v => [.exi fun g : Option Nat => match g with | none => .pur (v = .tuple #[.pointer none, .bool false] ∧ ¬ fitsAt bs bs.length) | some g => .sep (.pur (v = .tuple #[.pointer (some ⟨g, 0, none⟩), .bool true] ∧ fitsAt bs bs.length)) (Grid g (tab bs) 173)]) := by
  refine Does.enter Try.func108 rfl rfl [(0, .slice A bs.length c)] rfl ?_
  refine V.seq ?_
  refine V.region ?_
  refine O.p rfl rfl rfl (Pu.assign rfl rfl) ?_
  refine O.p rfl rfl rfl (Pu.assign rfl rfl) ?_
  refine O.nil ?_
  refine X.next ?_
  refine V.seq ?_
  refine V.region ?_
  refine O.e rfl rfl rfl (Ef.call1 call125 rfl rfl (fun w hw => newGrid_ok _)) ?_
  rintro _ _ rfl
  refine O.exi (fun g1 => ?_)
  refine O.sep ?_
  refine O.pur ?_
  rintro rfl
  refine O.p rfl rfl rfl (Pu.assign rfl rfl) ?_
  refine O.nil ?_
  refine X.next ?_
  refine V.seq ?_
  refine V.seq ?_
  refine V.region ?_
  refine O.p rfl rfl rfl (Pu.move rfl rfl) ?_
  refine O.p rfl rfl rfl (Pu.len rfl Try.underlying28 rfl) ?_
  refine O.p rfl rfl rfl (Pu.move rfl rfl) ?_
  refine O.nil ?_
  refine X.next ?_
  refine V.block ?_
  refine V.loop2 (β := Nat) (fun k => [(10, .int .i64 (k : Int))]) _ (fun k => [Grid g1 (tab (bs.take k)) 173]) (fun k => k ≤ bs.length ∧ fitsAt bs k) (fun k => bs.length - k) 0 ⟨by omega, fitsAt_zero bs⟩ (Ent.cons rfl (Ent.nil _)) (Ent.cons (t := 4) rfl (Ent.cons (t := 8) rfl (Ent.cons (t := 9) rfl (Ent.nil _)))) (Sub.keep 0 rfl (Sub.nil _)) ?_
  rintro k ⟨hk, hf⟩
  refine V.seq ?_
  refine V.region ?_
  refine O.p rfl rfl rfl (Pu.lss rfl rfl rfl) ?_
  refine O.nil ?_
  refine X.next ?_
  refine V.seq ?_
  refine V.condD rfl (fun c1 => ?_) (fun c1 => ?_)
  · skip
    refine V.skip ?_
    refine X.next ?_
    refine V.seq ?_
    refine V.block ?_
    refine V.seq ?_
    refine V.region ?_
    refine O.p rfl rfl rfl (Pu.indexAddr (k) rfl Try.underlying28 sz67 rfl rfl (by omega) (by omega) (hx.some (by omega))) ?_
    have e1 : k < bs.length := by omega
    refine O.p rfl rfl rfl (Pu.loadAgg' (v := B3.v (bs[k]'e1)) rfl rfl ag67 sz67 rfl rfl (Ld.rds (Ld.old hx) (k := k) e1 rfl)) ?_
    refine O.e rfl rfl rfl (Ef.alloc rfl zr67 rfl) ?_
    rintro _ _ ⟨b1, rfl, rfl⟩
    refine O.s rfl rfl (Ef.storeAll 0 rfl sz67 rfl rfl rfl rfl (by simp [Value.oneCell']) rfl) ?_
    rintro _ _ rfl
    refine O.nil ?_
    refine X.next ?_
    refine V.seq ?_
    refine V.seq ?_
    refine V.region ?_
    refine O.p rfl rfl rfl (Pu.move rfl rfl) ?_
    refine O.p rfl rfl rfl (Pu.loadAgg rfl ag67 sz67 rfl rfl (Ld.whole 0 rfl)) ?_
    refine O.e rfl rfl rfl (Ef.callP call126 rfl rfl (fun w hw => isLeft_ok _ _ (bs[k]'e1) w (GridAt.of (i := 1) hw (by exact rfl)) (hb _ (List.getElem_mem e1)).pts)) ?_
    rintro _ _ ⟨rfl, rfl⟩
    refine O.p rfl rfl rfl (Pu.not rfl rfl) ?_
    refine O.nil ?_
    refine X.next ?_
    refine V.condNot rfl (fun c2 => ?_) (fun c2 => ?_)
    · skip
      refine V.seq ?_
      refine V.region ?_
      refine O.p rfl rfl rfl (Pu.assign rfl rfl) ?_
      refine O.p rfl rfl rfl (Pu.assign rfl rfl) ?_
      refine O.nil ?_
      refine X.next ?_
      refine V.ret ?_
      refine X.thenRet ?_
      refine X.blockRet ?_
      refine X.thenRet ?_
      refine X.thenRet ?_
      refine X.blockRet ?_
      refine X.thenRet ?_
      refine X.ret2 rfl rfl rfl ?_
      exact fun w hw => St.mkExi (none : Option Nat) (St.addPur ⟨rfl, fun h => c2 ((isLeft_fits (by omega) (fun b hb' => (hb b hb').three)).2 (fun j hj hjk => h k (by omega) (by omega) j hj hjk))⟩ (hw.sub (Sub.nil _)))
    · skip
      refine V.skip ?_
      refine X.next ?_
      refine V.region ?_
      refine O.p rfl rfl rfl (Pu.move rfl rfl) ?_
      refine O.p rfl rfl rfl (Pu.loadAgg rfl ag67 sz67 rfl rfl (Ld.whole 0 rfl)) ?_
      refine O.e rfl rfl rfl (Ef.callM 1 call127 rfl rfl rfl (fun H _ => put_true _ _ (bs[k]'e1) _ H (hb _ (List.getElem_mem e1)).pts)) ?_
      rintro _ _ ⟨rfl, rfl⟩
      refine O.nil ?_
      refine X.blockNormal ?_
      refine X.next ?_
      refine V.region ?_
      refine O.p rfl rfl rfl (Pu.add64 (r := ((k + 1 : Nat) : Int)) rfl (by omega) rfl rfl rfl) ?_
      refine O.p rfl rfl rfl (Pu.move rfl rfl) ?_
      refine O.nil ?_
      exact X.back2 (k + 1) ⟨by omega, fitsAt_succ (by omega) hf ((isLeft_fits (by omega) (fun b hb' => (hb b hb').three)).1 c2)⟩ (by omega) (Ent.cons rfl (Ent.nil _)) (Ent.cons (t := 4) rfl (Ent.cons (t := 8) rfl (Ent.cons (t := 9) rfl (Ent.nil _)))) (Sub.cons 1 rfl (fun w F h => by rw [tab_succ (by omega)]; exact h) (Sub.nil _))
  · skip
    refine V.exit ?_
    refine X.thenExit ?_
    refine X.thenExit ?_
    refine X.blockHit ?_
    refine X.next ?_
    refine V.seq ?_
    refine V.region ?_
    refine O.p rfl rfl rfl (Pu.move rfl rfl) ?_
    refine O.p rfl rfl rfl (Pu.assign rfl rfl) ?_
    refine O.p rfl rfl rfl (Pu.assign rfl rfl) ?_
    refine O.nil ?_
    refine X.next ?_
    refine V.ret ?_
    refine X.ret2 rfl rfl rfl ?_
    exact fun w hw => St.mkExi (some g1) (St.unsep (St.addPur ⟨rfl, fitsAt_len (by omega) hf⟩ (hw.sub (Sub.cons 0 rfl (fun w F h => by rwa [List.take_of_length_le (by omega)] at h) (Sub.nil _)))))
set_option maxRecDepth 100000 in
theorem areBlocks_ok (v : Int) (bs : List B3) (A : Option Addr) (c : Nat) (w : World) (hx : Rd B3C w A bs) (lx : bs.length ≤ 4611686018427387904) : Does Try.prog 77 [.int .i64 v, .slice A bs.length c] w [] (fun r => [.pur (r = .bool (decide (STS v bs)))]) := by
  refine Does.enter Try.func77 rfl rfl [(0, .int .i64 v), (1, .slice A bs.length c)] rfl ?_
  refine V.seq ?_
  refine V.region ?_
  refine O.p rfl rfl rfl (Pu.assign rfl rfl) ?_
  refine O.nil ?_
  refine X.next ?_
  refine V.seq ?_
  refine V.seq ?_
  refine V.region ?_
  refine O.p rfl rfl rfl (Pu.move rfl rfl) ?_
  refine O.e rfl rfl rfl (Ef.callP call105 rfl rfl (fun w hw => within_ok _ _ _ _)) ?_
  rintro _ _ ⟨rfl, rfl⟩
  refine O.p rfl rfl rfl (Pu.not rfl rfl) ?_
  refine O.p rfl rfl rfl (Pu.move rfl rfl) ?_
  refine O.splitN 12 rfl (fun c1 => ?_) (fun c1 => ?_)
  · skip
    refine O.gs rfl rfl rfl rfl rfl rfl ?_
    refine O.gs rfl rfl rfl rfl rfl rfl ?_
    refine O.gs rfl rfl rfl rfl rfl rfl ?_
    refine O.p rfl rfl rfl (Pu.pickT rfl rfl rfl) ?_
    refine O.nil ?_
    refine X.next ?_
    refine V.condT rfl ?_
    refine V.seq ?_
    refine V.region ?_
    refine O.p rfl rfl rfl (Pu.assign rfl rfl) ?_
    refine O.nil ?_
    refine X.next ?_
    refine V.ret ?_
    refine X.thenRet ?_
    refine X.ret1 rfl rfl ?_
    exact fun w hw => St.retP (boolF (fun h => c1 ⟨h.lo, h.hi⟩)) hw
  · skip
    refine O.gp rfl rfl rfl rfl rfl (Pu.move rfl rfl) ?_
    refine O.gp rfl rfl rfl rfl rfl (Pu.len rfl Try.underlying28 rfl) ?_
    refine O.gp rfl rfl rfl rfl rfl (Pu.gtr rfl rfl rfl) ?_
    refine O.p rfl rfl rfl (Pu.pickF rfl rfl rfl) ?_
    refine O.nil ?_
    refine X.next ?_
    refine V.condD rfl (fun c2 => ?_) (fun c2 => ?_)
    · skip
      refine V.seq ?_
      refine V.region ?_
      refine O.p rfl rfl rfl (Pu.assign rfl rfl) ?_
      refine O.nil ?_
      refine X.next ?_
      refine V.ret ?_
      refine X.thenRet ?_
      refine X.ret1 rfl rfl ?_
      exact fun w hw => St.retP (boolF (fun h => by have := h.few; omega)) hw
    · skip
      refine V.skip ?_
      refine X.next ?_
      refine V.seq ?_
      refine V.seq ?_
      refine V.region ?_
      refine O.p rfl rfl rfl (Pu.move rfl rfl) ?_
      refine O.p rfl rfl rfl (Pu.len rfl Try.underlying28 rfl) ?_
      refine O.p rfl rfl rfl (Pu.move rfl rfl) ?_
      refine O.nil ?_
      refine X.next ?_
      refine V.block ?_
      refine V.loop2 (β := Nat) (fun i => [(19, .int .i64 (i : Int))]) _ (fun i => []) (fun i => i ≤ bs.length ∧ ordAt v bs i) (fun i => bs.length - i) 0 ⟨by omega, ordAt_zero v bs⟩ (Ent.cons rfl (Ent.nil _)) (Ent.cons (t := 0) rfl (Ent.cons (t := 1) rfl (Ent.cons (t := 17) rfl (Ent.cons (t := 18) rfl (Ent.nil _))))) (Sub.nil _) ?_
      rintro i ⟨hi, hf⟩
      refine V.seq ?_
      refine V.region ?_
      refine O.p rfl rfl rfl (Pu.lss rfl rfl rfl) ?_
      refine O.nil ?_
      refine X.next ?_
      refine V.seq ?_
      refine V.condD rfl (fun c3 => ?_) (fun c3 => ?_)
      · skip
        refine V.skip ?_
        refine X.next ?_
        refine V.seq ?_
        refine V.block ?_
        refine V.seq ?_
        refine V.region ?_
        refine O.p rfl rfl rfl (Pu.move rfl rfl) ?_
        refine O.p rfl rfl rfl (Pu.indexAddr (i) rfl Try.underlying28 sz67 rfl rfl (by omega) (by omega) (hx.some (by omega))) ?_
        have e1 : i < bs.length := by omega
        refine O.p rfl rfl rfl (Pu.loadAgg' (v := B3.v (bs[i]'e1)) rfl rfl ag67 sz67 rfl rfl (Ld.rds (Ld.old hx) (k := i) e1 rfl)) ?_
        refine O.e rfl rfl rfl (Ef.alloc rfl zr67 rfl) ?_
        rintro _ _ ⟨b1, rfl, rfl⟩
        refine O.p rfl rfl rfl (Pu.assign rfl rfl) ?_
        refine O.s rfl rfl (Ef.storeAll 0 rfl sz67 rfl rfl rfl rfl (by simp [Value.oneCell']) rfl) ?_
        rintro _ _ rfl
        refine O.nil ?_
        refine X.next ?_
        refine V.seq ?_
        refine V.draw mo (by kernel_rfl) (fun hwf => ?_)
        refine D.p 0 rfl rfl rfl rfl rfl rfl (Pu.loadAgg rfl ag67 sz67 rfl rfl (Ld.whole 0 rfl)) ?_
        refine D.p 1 rfl rfl rfl rfl rfl rfl (Pu.move rfl rfl) ?_
        refine D.eff hwf (e := 2) rfl rfl rfl rfl (Ef.callP call106 rfl rfl (fun w hw => isBlock_ok _ _ _ (by omega))) rfl rfl rfl ?_
        rintro _ _ ⟨rfl, rfl⟩ hs
        refine ⟨fun w hw => hw, ?_⟩
        refine D.p 3 rfl rfl rfl rfl rfl rfl (Pu.not rfl rfl) ?_
        refine D.p 4 rfl rfl rfl rfl rfl rfl (Pu.move rfl rfl) ?_
        refine D.splitN 28 rfl (fun c4 => ?_) (fun c4 => ?_)
        · skip
          refine D.gs 5 rfl rfl rfl rfl rfl rfl rfl rfl rfl ?_
          refine D.gs 6 rfl rfl rfl rfl rfl rfl rfl rfl rfl ?_
          refine D.gs 7 rfl rfl rfl rfl rfl rfl rfl rfl rfl ?_
          refine D.gs 8 rfl rfl rfl rfl rfl rfl rfl rfl rfl ?_
          refine D.gs 9 rfl rfl rfl rfl rfl rfl rfl rfl rfl ?_
          refine D.gs 10 rfl rfl rfl rfl rfl rfl rfl rfl rfl ?_
          refine D.gs 11 rfl rfl rfl rfl rfl rfl rfl rfl rfl ?_
          refine D.gs 12 rfl rfl rfl rfl rfl rfl rfl rfl rfl ?_
          refine D.gs 13 rfl rfl rfl rfl rfl rfl rfl rfl rfl ?_
          refine D.gs 14 rfl rfl rfl rfl rfl rfl rfl rfl rfl ?_
          refine D.gs 15 rfl rfl rfl rfl rfl rfl rfl rfl rfl ?_
          refine D.gs 16 rfl rfl rfl rfl rfl rfl rfl rfl rfl ?_
          refine D.p 17 rfl rfl rfl rfl rfl rfl (Pu.pickT rfl rfl rfl) ?_
          refine D.done hwf rfl ?_
          refine X.next ?_
          refine V.condT rfl ?_
          refine V.seq ?_
          refine V.region ?_
          refine O.p rfl rfl rfl (Pu.assign rfl rfl) ?_
          refine O.nil ?_
          refine X.next ?_
          refine V.ret ?_
          refine X.blockRet ?_
          refine X.thenRet ?_
          refine X.thenRet ?_
          refine X.blockRet ?_
          refine X.thenRet ?_
          refine X.ret1 rfl rfl ?_
          exact fun w hw => St.retP (boolF (fun h => c4 (h.ord i (by omega) (by omega)).1)) hw
        · skip
          refine D.gp 5 rfl rfl rfl rfl rfl rfl rfl rfl (Pu.move rfl rfl) ?_
          refine D.gp 6 rfl rfl rfl rfl rfl rfl rfl rfl (Pu.gtr rfl rfl rfl) ?_
          refine D.gp 7 rfl rfl rfl rfl rfl rfl rfl rfl (Pu.move rfl rfl) ?_
          refine D.splitD 31 rfl (fun c5 => ?_) (fun c5 => ?_)
          · skip
            refine D.gp 8 rfl rfl rfl rfl rfl rfl rfl rfl (Pu.move rfl rfl) ?_
            refine D.gp 9 rfl rfl rfl rfl rfl rfl rfl rfl (Pu.move rfl rfl) ?_
            refine D.gp 10 rfl rfl rfl rfl rfl rfl rfl rfl (Pu.sub64 (r := ((i - 1 : Nat) : Int)) (by omega) (by omega) rfl rfl rfl) ?_
            refine D.gp 11 rfl rfl rfl rfl rfl rfl rfl rfl (Pu.indexAddr (i - 1) rfl Try.underlying28 sz67 rfl rfl (by omega) (by omega) (hx.some (by omega))) ?_
            have e2 : i - 1 < bs.length := by omega
            refine D.gp 12 rfl rfl rfl rfl rfl rfl rfl rfl (Pu.loadAgg' (v := B3.v (bs[i - 1]'e2)) rfl rfl ag67 sz67 rfl rfl (Ld.rds (Ld.old hx) (k := i - 1) e2 rfl)) ?_
            refine D.gp 13 rfl rfl rfl rfl rfl rfl rfl rfl (Pu.loadAgg rfl ag67 sz67 rfl rfl (Ld.whole 0 rfl)) ?_
            refine D.geff hwf (e := 14) rfl rfl rfl rfl rfl rfl (Ef.callP call107 rfl rfl (fun w hw => compare_ok _ _ _)) rfl rfl rfl ?_
            rintro _ _ ⟨rfl, rfl⟩ hs
            refine ⟨fun w hw => hw, ?_⟩
            refine D.gp 15 rfl rfl rfl rfl rfl rfl rfl rfl (Pu.geq rfl rfl rfl) ?_
            refine D.gp 16 rfl rfl rfl rfl rfl rfl rfl rfl (Pu.pickT rfl rfl rfl) ?_
            refine D.p 17 rfl rfl rfl rfl rfl rfl (Pu.pickF rfl rfl rfl) ?_
            refine D.done hwf rfl ?_
            refine X.next ?_
            refine V.condD rfl (fun c6 => ?_) (fun c6 => ?_)
            · skip
              refine V.seq ?_
              refine V.region ?_
              refine O.p rfl rfl rfl (Pu.assign rfl rfl) ?_
              refine O.nil ?_
              refine X.next ?_
              refine V.ret ?_
              refine X.blockRet ?_
              refine X.thenRet ?_
              refine X.thenRet ?_
              refine X.blockRet ?_
              refine X.thenRet ?_
              refine X.ret1 rfl rfl ?_
              exact fun w hw => St.retP (boolF (fun h => by have := (cmpL_bl _ _).2 ((h.ord i (by omega) (by omega)).2 (i - 1) (by omega) (by omega)); omega)) hw
            · skip
              refine V.skip ?_
              refine X.blockNormal ?_
              refine X.next ?_
              refine V.region ?_
              refine O.p rfl rfl rfl (Pu.add64 (r := ((i + 1 : Nat) : Int)) rfl (by omega) rfl rfl rfl) ?_
              refine O.p rfl rfl rfl (Pu.move rfl rfl) ?_
              refine O.nil ?_
              exact X.back2 (i + 1) ⟨by omega, ordAt_succ (by omega) hf (by assumption) (fun j hj e => by subst e; exact (cmpL_bl _ _).1 (by simp only [Nat.add_sub_cancel] at c6; omega))⟩ (by omega) (Ent.cons rfl (Ent.nil _)) (Ent.cons (t := 0) rfl (Ent.cons (t := 1) rfl (Ent.cons (t := 17) rfl (Ent.cons (t := 18) rfl (Ent.nil _))))) (Sub.nil _)
          · skip
            refine D.gs 8 rfl rfl rfl rfl rfl rfl rfl rfl rfl ?_
            refine D.gs 9 rfl rfl rfl rfl rfl rfl rfl rfl rfl ?_
            refine D.gs 10 rfl rfl rfl rfl rfl rfl rfl rfl rfl ?_
            refine D.gs 11 rfl rfl rfl rfl rfl rfl rfl rfl rfl ?_
            refine D.gs 12 rfl rfl rfl rfl rfl rfl rfl rfl rfl ?_
            refine D.gs 13 rfl rfl rfl rfl rfl rfl rfl rfl rfl ?_
            refine D.gs 14 rfl rfl rfl rfl rfl rfl rfl rfl rfl ?_
            refine D.gs 15 rfl rfl rfl rfl rfl rfl rfl rfl rfl ?_
            refine D.gp 16 rfl rfl rfl rfl rfl rfl rfl rfl (Pu.pickF rfl rfl rfl) ?_
            refine D.p 17 rfl rfl rfl rfl rfl rfl (Pu.pickF rfl rfl rfl) ?_
            refine D.done hwf rfl ?_
            refine X.next ?_
            refine V.condF rfl ?_
            refine V.skip ?_
            refine X.blockNormal ?_
            refine X.next ?_
            refine V.region ?_
            refine O.p rfl rfl rfl (Pu.add64 (r := ((i + 1 : Nat) : Int)) rfl (by omega) rfl rfl rfl) ?_
            refine O.p rfl rfl rfl (Pu.move rfl rfl) ?_
            refine O.nil ?_
            exact X.back2 (i + 1) ⟨by omega, ordAt_succ (by omega) hf (by assumption) (fun j hj e => by omega)⟩ (by omega) (Ent.cons rfl (Ent.nil _)) (Ent.cons (t := 0) rfl (Ent.cons (t := 1) rfl (Ent.cons (t := 17) rfl (Ent.cons (t := 18) rfl (Ent.nil _))))) (Sub.nil _)
      · skip
        refine V.exit ?_
        refine X.thenExit ?_
        refine X.thenExit ?_
        refine X.blockHit ?_
        refine X.next ?_
        refine V.seq ?_
        refine V.region ?_
        refine O.p rfl rfl rfl (Pu.move rfl rfl) ?_
        refine O.e rfl rfl rfl (Ef.call1 call108 rfl rfl (fun w hw => gridOf_ok bs _ _ w ((Ld.old hx) w hw) (by omega) (fun b hb => ((ordAt.good (by omega) hf) b hb).mono (by omega)))) ?_
        rintro v_ _ rfl; refine O.exi (fun g => ?_); rcases g with _ | g
        · skip
          refine O.pur ?_
          rintro ⟨rfl, hfit⟩
          refine O.p rfl rfl rfl (Pu.move rfl rfl) ?_
          refine O.p rfl rfl rfl (Pu.extract rfl rfl rfl) ?_
          refine O.p rfl rfl rfl (Pu.extract rfl rfl rfl) ?_
          refine O.p rfl rfl rfl (Pu.assign rfl rfl) ?_
          refine O.p rfl rfl rfl (Pu.assign rfl rfl) ?_
          refine O.nil ?_
          refine X.next ?_
          refine V.seq ?_
          refine V.region ?_
          refine O.p rfl rfl rfl (Pu.move rfl rfl) ?_
          refine O.p rfl rfl rfl (Pu.assign rfl rfl) ?_
          refine O.nil ?_
          refine X.next ?_
          refine V.ret ?_
          refine X.ret1 rfl rfl ?_
          exact fun w hw => St.retP (boolF (fun h => hfit h.fits)) hw
        · skip
          refine O.sep ?_
          refine O.pur ?_
          rintro ⟨rfl, hfit⟩
          refine O.p rfl rfl rfl (Pu.move rfl rfl) ?_
          refine O.p rfl rfl rfl (Pu.extract rfl rfl rfl) ?_
          refine O.p rfl rfl rfl (Pu.extract rfl rfl rfl) ?_
          refine O.p rfl rfl rfl (Pu.assign rfl rfl) ?_
          refine O.p rfl rfl rfl (Pu.assign rfl rfl) ?_
          refine O.nil ?_
          refine X.next ?_
          refine V.seq ?_
          refine V.region ?_
          refine O.p rfl rfl rfl (Pu.move rfl rfl) ?_
          refine O.p rfl rfl rfl (Pu.assign rfl rfl) ?_
          refine O.nil ?_
          refine X.next ?_
          refine V.ret ?_
          refine X.ret1 rfl rfl ?_
          exact fun w hw => St.retP (boolT ⟨c1.1, c1.2, by omega, ordAt_len (by omega) hf, hfit⟩) hw
set_option maxRecDepth 100000 in
theorem IsSystem_ok (v : Int) (bs : List B3) (A : Option Addr) (c : Nat) (w : World) (hx : Rd B3C w A bs) (lx : bs.length ≤ 4611686018427387904) : Does Try.prog 44 [.agg #[.int .i64 v, .slice A bs.length c]] w [] (fun r => [.pur (r = .bool (decide (STS v bs)))]) := by
  refine Does.enter Try.func44 rfl rfl [(0, .agg #[.int .i64 v, .slice A bs.length c])] rfl ?_
  refine V.seq ?_
  refine V.region ?_
  refine O.e rfl rfl rfl (Ef.box rfl rfl rfl) ?_
  rintro _ _ ⟨b1, rfl, rfl⟩
  refine O.p rfl rfl rfl (Pu.assign rfl rfl) ?_
  refine O.nil ?_
  refine X.next ?_
  refine V.seq ?_
  refine V.region ?_
  refine O.p rfl rfl rfl (Pu.fieldAddr 0 rfl Try.underlying30 rfl sz2 rfl rfl) ?_
  refine O.p rfl rfl rfl (Pu.load rfl pl2 rfl (Ld.blk 0 rfl rfl)) ?_
  refine O.p rfl rfl rfl (Pu.fieldAddr 1 rfl Try.underlying30 rfl sz28 rfl rfl) ?_
  refine O.p rfl rfl rfl (Pu.load rfl pl28 rfl (Ld.blk 0 rfl rfl)) ?_
  refine O.e rfl rfl rfl (Ef.callP call77 rfl rfl (fun w hw => areBlocks_ok _ bs _ _ w ((Ld.old hx) w hw) (by omega))) ?_
  rintro _ _ ⟨rfl, rfl⟩
  refine O.p rfl rfl rfl (Pu.assign rfl rfl) ?_
  refine O.nil ?_
  refine X.next ?_
  refine V.ret ?_
  refine X.ret1 rfl rfl ?_
  exact fun w hw => St.retP (rfl) hw
set_option maxRecDepth 100000 in
theorem szBlockS_ok (bs : List B3) (left : Int) (A : Option Addr) (c : Nat) (w : World) (hl : 0 ≤ left ∧ left ≤ 4611686018427387904) (lx : bs.length ≤ 9223372036854775807) : Does Try.prog 28 [.slice A bs.length c, .int .i64 left] w [] (fun v => [.pur (v = .int .i64 (roomLeft bs.length left))]) := by
  refine Does.enter Try.func28 rfl rfl [(0, .slice A bs.length c), (1, .int .i64 left)] rfl ?_
  refine V.seq ?_
  refine V.region ?_
  refine O.p rfl rfl rfl (Pu.assign rfl rfl) ?_
  refine O.nil ?_
  refine X.next ?_
  refine V.seq ?_
  refine V.region ?_
  refine O.p rfl rfl rfl (Pu.move rfl rfl) ?_
  refine O.p rfl rfl rfl (Pu.move rfl rfl) ?_
  refine O.p rfl rfl rfl (Pu.len rfl Try.underlying22 rfl) ?_
  refine O.p rfl rfl rfl (Pu.sub64 rfl (by omega) rfl rfl rfl) ?_
  refine O.p rfl rfl rfl (Pu.assign rfl rfl) ?_
  refine O.nil ?_
  refine X.next ?_
  refine V.seq ?_
  refine V.seq ?_
  refine V.region ?_
  refine O.p rfl rfl rfl (Pu.move rfl rfl) ?_
  refine O.p rfl rfl rfl (Pu.lss rfl rfl rfl) ?_
  refine O.nil ?_
  refine X.next ?_
  refine V.condD rfl (fun c1 => ?_) (fun c1 => ?_)
  · skip
    refine V.seq ?_
    refine V.region ?_
    refine O.p rfl rfl rfl (Pu.assign rfl rfl) ?_
    refine O.nil ?_
    refine X.next ?_
    refine V.ret ?_
    refine X.thenRet ?_
    refine X.ret1 rfl rfl ?_
    exact fun w hw => St.retP (iv (by unfold roomLeft; rw [if_pos c1])) hw
  · skip
    refine V.skip ?_
    refine X.next ?_
    refine V.seq ?_
    refine V.region ?_
    refine O.p rfl rfl rfl (Pu.move rfl rfl) ?_
    refine O.p rfl rfl rfl (Pu.assign rfl rfl) ?_
    refine O.nil ?_
    refine X.next ?_
    refine V.ret ?_
    refine X.ret1 rfl rfl ?_
    exact fun w hw => St.retP (iv (by unfold roomLeft; rw [if_neg c1])) hw
set_option maxRecDepth 100000 in
theorem szSystem_ok (v left : Int) (bs : List B3) (A : Option Addr) (c : Nat) (w : World) (hl : 0 ≤ left ∧ left ≤ 4611686018427387904) (lx : bs.length ≤ 9223372036854775807) : Does Try.prog 7 [.agg #[.int .i64 v, .slice A bs.length c], .int .i64 left] w [] (fun r => [.pur (r = .int .i64 (roomLeft bs.length left))]) := by
  refine Does.enter Try.func7 rfl rfl [(0, .agg #[.int .i64 v, .slice A bs.length c]), (1, .int .i64 left)] rfl ?_
  refine V.seq ?_
  refine V.region ?_
  refine O.e rfl rfl rfl (Ef.box rfl rfl rfl) ?_
  rintro _ _ ⟨b1, rfl, rfl⟩
  refine O.p rfl rfl rfl (Pu.assign rfl rfl) ?_
  refine O.nil ?_
  refine X.next ?_
  refine V.seq ?_
  refine V.region ?_
  refine O.p rfl rfl rfl (Pu.fieldAddr 1 rfl Try.underlying24 rfl sz22 rfl rfl) ?_
  refine O.p rfl rfl rfl (Pu.load rfl pl22 rfl (Ld.blk 0 rfl rfl)) ?_
  refine O.p rfl rfl rfl (Pu.move rfl rfl) ?_
  refine O.e rfl rfl rfl (Ef.callP call28 rfl rfl (fun w hw => szBlockS_ok bs _ _ _ w (by omega) (by omega))) ?_
  rintro _ _ ⟨rfl, rfl⟩
  refine O.p rfl rfl rfl (Pu.assign rfl rfl) ?_
  refine O.nil ?_
  refine X.next ?_
  refine V.seq ?_
  refine V.seq ?_
  refine V.region ?_
  refine O.p rfl rfl rfl (Pu.move rfl rfl) ?_
  refine O.p rfl rfl rfl (Pu.lss rfl rfl rfl) ?_
  refine O.nil ?_
  refine X.next ?_
  refine V.condD rfl (fun c1 => ?_) (fun c1 => ?_)
  · skip
    refine V.seq ?_
    refine V.region ?_
    refine O.p rfl rfl rfl (Pu.assign rfl rfl) ?_
    refine O.nil ?_
    refine X.next ?_
    refine V.ret ?_
    refine X.thenRet ?_
    refine X.ret1 rfl rfl ?_
    exact fun w hw => St.retP (iv (by unfold roomLeft at *; split at c1 <;> simp_all)) hw
  · skip
    refine V.skip ?_
    refine X.next ?_
    refine V.seq ?_
    refine V.region ?_
    refine O.p rfl rfl rfl (Pu.move rfl rfl) ?_
    refine O.p rfl rfl rfl (Pu.assign rfl rfl) ?_
    refine O.nil ?_
    refine X.next ?_
    refine V.ret ?_
    refine X.ret1 rfl rfl ?_
    exact fun w hw => St.retP (rfl) hw
set_option maxRecDepth 100000 in
theorem toBlock_ok (b : B3) (w : World) : Does Try.prog 63 [B3.v b] w [] (fun v => [.pur (v = B3.v b)]) := by
  refine Does.enter Try.func63 rfl rfl [(0, B3.v b)] rfl ?_
  refine V.seq ?_
  refine V.region ?_
  refine O.e rfl rfl rfl (Ef.box rfl rfl rfl) ?_
  rintro _ _ ⟨b1, rfl, rfl⟩
  refine O.e rfl rfl rfl (Ef.alloc rfl zr67 rfl) ?_
  rintro _ _ ⟨b2, rfl, rfl⟩
  refine O.nil ?_
  refine X.next ?_
  refine V.seq ?_
  refine V.region ?_
  refine O.e rfl rfl rfl (Ef.alloc rfl zr67 rfl) ?_
  rintro _ _ ⟨b3, rfl, rfl⟩
  refine O.nil ?_
  refine X.next ?_
  refine V.seq ?_
  refine V.seq ?_
  refine V.region ?_
  refine O.p rfl rfl rfl (Pu.assign rfl rfl) ?_
  refine O.nil ?_
  refine X.next ?_
  refine V.block ?_
  refine V.unroll 3 ?_
  refine V.seq ?_
  refine V.seq ?_
  refine V.region ?_
  refine O.p rfl rfl rfl (Pu.move rfl rfl) ?_
  refine O.p rfl rfl rfl (Pu.isT (by decide) (Pu.lss rfl rfl rfl)) ?_
  refine O.nil ?_
  refine X.next ?_
  refine V.condT rfl ?_
  refine V.skip ?_
  refine X.next ?_
  refine V.seq ?_
  refine V.block ?_
  refine V.region ?_
  refine O.p rfl rfl rfl (Pu.move rfl rfl) ?_
  refine O.p rfl rfl rfl (Pu.move rfl rfl) ?_
  refine O.p rfl rfl rfl (Pu.indexArr 0 0 rfl Try.underlying66 sz2 rfl rfl (by decide) (by decide) (by decide)) ?_
  refine O.p rfl rfl rfl (Pu.load rfl pl2 rfl (Ld.blk 2 rfl rfl)) ?_
  refine O.p rfl rfl rfl (Pu.indexArr 0 0 rfl Try.underlying67 sz2 rfl rfl (by decide) (by decide) (by decide)) ?_
  refine O.s rfl rfl (Ef.store1 (cs' := [_, _, _]) 0 rfl sz2 rfl rfl rfl rfl rfl (ltb rfl) rfl) ?_
  rintro _ _ rfl
  refine O.nil ?_
  refine X.blockNormal ?_
  refine X.next ?_
  refine V.region ?_
  refine O.p rfl rfl rfl (Pu.move rfl rfl) ?_
  refine O.p rfl rfl rfl (Pu.add64 (r := 1) (by decide) (by decide) rfl rfl rfl) ?_
  refine O.p rfl rfl rfl (Pu.assign rfl rfl) ?_
  refine O.nil ?_
  refine X.again 2 ?_
  refine V.seq ?_
  refine V.seq ?_
  refine V.region ?_
  refine O.p rfl rfl rfl (Pu.move rfl rfl) ?_
  refine O.p rfl rfl rfl (Pu.isT (by decide) (Pu.lss rfl rfl rfl)) ?_
  refine O.nil ?_
  refine X.next ?_
  refine V.condT rfl ?_
  refine V.skip ?_
  refine X.next ?_
  refine V.seq ?_
  refine V.block ?_
  refine V.region ?_
  refine O.p rfl rfl rfl (Pu.move rfl rfl) ?_
  refine O.p rfl rfl rfl (Pu.move rfl rfl) ?_
  refine O.p rfl rfl rfl (Pu.indexArr 1 1 rfl Try.underlying66 sz2 rfl rfl (by decide) (by decide) (by decide)) ?_
  refine O.p rfl rfl rfl (Pu.load rfl pl2 rfl (Ld.blk 2 rfl rfl)) ?_
  refine O.p rfl rfl rfl (Pu.indexArr 1 1 rfl Try.underlying67 sz2 rfl rfl (by decide) (by decide) (by decide)) ?_
  refine O.s rfl rfl (Ef.store1 (cs' := [_, _, _]) 0 rfl sz2 rfl rfl rfl rfl rfl (ltb rfl) rfl) ?_
  rintro _ _ rfl
  refine O.nil ?_
  refine X.blockNormal ?_
  refine X.next ?_
  refine V.region ?_
  refine O.p rfl rfl rfl (Pu.move rfl rfl) ?_
  refine O.p rfl rfl rfl (Pu.add64 (r := 2) (by decide) (by decide) rfl rfl rfl) ?_
  refine O.p rfl rfl rfl (Pu.assign rfl rfl) ?_
  refine O.nil ?_
  refine X.again 1 ?_
  refine V.seq ?_
  refine V.seq ?_
  refine V.region ?_
  refine O.p rfl rfl rfl (Pu.move rfl rfl) ?_
  refine O.p rfl rfl rfl (Pu.isT (by decide) (Pu.lss rfl rfl rfl)) ?_
  refine O.nil ?_
  refine X.next ?_
  refine V.condT rfl ?_
  refine V.skip ?_
  refine X.next ?_
  refine V.seq ?_
  refine V.block ?_
  refine V.region ?_
  refine O.p rfl rfl rfl (Pu.move rfl rfl) ?_
  refine O.p rfl rfl rfl (Pu.move rfl rfl) ?_
  refine O.p rfl rfl rfl (Pu.indexArr 2 2 rfl Try.underlying66 sz2 rfl rfl (by decide) (by decide) (by decide)) ?_
  refine O.p rfl rfl rfl (Pu.load rfl pl2 rfl (Ld.blk 2 rfl rfl)) ?_
  refine O.p rfl rfl rfl (Pu.indexArr 2 2 rfl Try.underlying67 sz2 rfl rfl (by decide) (by decide) (by decide)) ?_
  refine O.s rfl rfl (Ef.store1 (cs' := [_, _, _]) 0 rfl sz2 rfl rfl rfl rfl rfl (ltb rfl) rfl) ?_
  rintro _ _ rfl
  refine O.nil ?_
  refine X.blockNormal ?_
  refine X.next ?_
  refine V.region ?_
  refine O.p rfl rfl rfl (Pu.move rfl rfl) ?_
  refine O.p rfl rfl rfl (Pu.add64 (r := 3) (by decide) (by decide) rfl rfl rfl) ?_
  refine O.p rfl rfl rfl (Pu.assign rfl rfl) ?_
  refine O.nil ?_
  refine X.again 0 ?_
  refine V.seq ?_
  refine V.seq ?_
  refine V.region ?_
  refine O.p rfl rfl rfl (Pu.move rfl rfl) ?_
  refine O.p rfl rfl rfl (Pu.isF (by decide) (Pu.lss rfl rfl rfl)) ?_
  refine O.nil ?_
  refine X.next ?_
  refine V.condF rfl ?_
  refine V.exit ?_
  refine X.thenExit ?_
  refine X.thenExit ?_
  refine X.blockHit ?_
  refine X.next ?_
  refine V.seq ?_
  refine V.region ?_
  refine O.p rfl rfl rfl (Pu.loadAgg rfl ag67 sz67 rfl rfl (Ld.whole 0 rfl)) ?_
  refine O.s rfl rfl (Ef.storeAll 1 rfl sz67 rfl rfl rfl rfl (by simp [Value.oneCell']) rfl) ?_
  rintro _ _ rfl
  refine O.nil ?_
  refine X.next ?_
  refine V.ret ?_
  refine X.retCell rfl ag67 sz67 rfl rfl (Ld.whole 1 rfl) ?_
  exact fun w hw => St.retP (rfl) hw
set_option maxRecDepth 100000 in
theorem eqBlock_ok (a b : B3) (w : World) : Does Try.prog 68 [B3.v a, B3.v b] w [] (fun v => [.pur (v = .bool (decide (a = b)))]) := by
  refine Does.enter Try.func68 rfl rfl [(0, B3.v a), (1, B3.v b)] rfl ?_
  refine V.seq ?_
  refine V.region ?_
  refine O.e rfl rfl rfl (Ef.box rfl rfl rfl) ?_
  rintro _ _ ⟨b1, rfl, rfl⟩
  refine O.e rfl rfl rfl (Ef.box rfl rfl rfl) ?_
  rintro _ _ ⟨b2, rfl, rfl⟩
  refine O.p rfl rfl rfl (Pu.assign rfl rfl) ?_
  refine O.nil ?_
  refine X.next ?_
  refine V.seq ?_
  refine V.seq ?_
  refine V.region ?_
  refine O.p rfl rfl rfl (Pu.assign rfl rfl) ?_
  refine O.nil ?_
  refine X.next ?_
  refine V.block ?_
  refine V.unroll 3 ?_
  refine V.seq ?_
  refine V.seq ?_
  refine V.region ?_
  refine O.p rfl rfl rfl (Pu.move rfl rfl) ?_
  refine O.p rfl rfl rfl (Pu.isT (by decide) (Pu.lss rfl rfl rfl)) ?_
  refine O.nil ?_
  refine X.next ?_
  refine V.condT rfl ?_
  refine V.skip ?_
  refine X.next ?_
  refine V.seq ?_
  refine V.block ?_
  refine V.seq ?_
  refine V.draw mo (by kernel_rfl) (fun hwf => ?_)
  refine D.p 0 rfl rfl rfl rfl rfl rfl (Pu.move rfl rfl) ?_
  refine D.p 1 rfl rfl rfl rfl rfl rfl (Pu.indexArr 0 0 rfl Try.underlying67 sz2 rfl rfl (by decide) (by decide) (by decide)) ?_
  refine D.p 2 rfl rfl rfl rfl rfl rfl (Pu.load rfl pl2 rfl (Ld.blk 1 rfl rfl)) ?_
  refine D.p 3 rfl rfl rfl rfl rfl rfl (Pu.move rfl rfl) ?_
  refine D.p 4 rfl rfl rfl rfl rfl rfl (Pu.indexArr 0 0 rfl Try.underlying67 sz2 rfl rfl (by decide) (by decide) (by decide)) ?_
  refine D.p 5 rfl rfl rfl rfl rfl rfl (Pu.load rfl pl2 rfl (Ld.blk 0 rfl rfl)) ?_
  refine D.p 6 rfl rfl rfl rfl rfl rfl (Pu.neq rfl rfl rfl) ?_
  refine D.done hwf rfl ?_
  refine X.next ?_
  refine V.condNot rfl (fun c1 => ?_) (fun c1 => ?_)
  · skip
    refine V.seq ?_
    refine V.region ?_
    refine O.p rfl rfl rfl (Pu.assign rfl rfl) ?_
    refine O.nil ?_
    refine X.next ?_
    refine V.ret ?_
    refine X.blockRet ?_
    refine X.thenRet ?_
    refine X.thenRet ?_
    refine X.blockRet ?_
    refine X.thenRet ?_
    refine X.ret1 rfl rfl ?_
    exact fun w hw => St.retP (boolF (fun h => c1 (by rw [h]))) hw
  · skip
    refine V.skip ?_
    refine X.blockNormal ?_
    refine X.next ?_
    refine V.region ?_
    refine O.p rfl rfl rfl (Pu.move rfl rfl) ?_
    refine O.p rfl rfl rfl (Pu.add64 (r := 1) (by decide) (by decide) rfl rfl rfl) ?_
    refine O.p rfl rfl rfl (Pu.assign rfl rfl) ?_
    refine O.nil ?_
    refine X.again 2 ?_
    refine V.seq ?_
    refine V.seq ?_
    refine V.region ?_
    refine O.p rfl rfl rfl (Pu.move rfl rfl) ?_
    refine O.p rfl rfl rfl (Pu.isT (by decide) (Pu.lss rfl rfl rfl)) ?_
    refine O.nil ?_
    refine X.next ?_
    refine V.condT rfl ?_
    refine V.skip ?_
    refine X.next ?_
    refine V.seq ?_
    refine V.block ?_
    refine V.seq ?_
    refine V.ent (Ent.cons (t := 2) rfl (Ent.cons (t := 3) rfl (Ent.cons (t := 4) rfl (Ent.cons (t := 5) rfl (Ent.nil _))))) ?_
    refine V.draw mo (by kernel_rfl) (fun hwf => ?_)
    refine D.p 0 rfl rfl rfl rfl rfl rfl (Pu.move rfl rfl) ?_
    refine D.p 1 rfl rfl rfl rfl rfl rfl (Pu.indexArr 1 1 rfl Try.underlying67 sz2 rfl rfl (by decide) (by decide) (by decide)) ?_
    refine D.p 2 rfl rfl rfl rfl rfl rfl (Pu.load rfl pl2 rfl (Ld.blk 1 rfl rfl)) ?_
    refine D.p 3 rfl rfl rfl rfl rfl rfl (Pu.move rfl rfl) ?_
    refine D.p 4 rfl rfl rfl rfl rfl rfl (Pu.indexArr 1 1 rfl Try.underlying67 sz2 rfl rfl (by decide) (by decide) (by decide)) ?_
    refine D.p 5 rfl rfl rfl rfl rfl rfl (Pu.load rfl pl2 rfl (Ld.blk 0 rfl rfl)) ?_
    refine D.p 6 rfl rfl rfl rfl rfl rfl (Pu.neq rfl rfl rfl) ?_
    refine D.done hwf rfl ?_
    refine X.next ?_
    refine V.condNot rfl (fun c2 => ?_) (fun c2 => ?_)
    · skip
      refine V.seq ?_
      refine V.region ?_
      refine O.p rfl rfl rfl (Pu.assign rfl rfl) ?_
      refine O.nil ?_
      refine X.next ?_
      refine V.ret ?_
      refine X.blockRet ?_
      refine X.thenRet ?_
      refine X.thenRet ?_
      refine X.blockRet ?_
      refine X.thenRet ?_
      refine X.ret1 rfl rfl ?_
      exact fun w hw => St.retP (boolF (fun h => c2 (by rw [h]))) hw
    · skip
      refine V.skip ?_
      refine X.blockNormal ?_
      refine X.next ?_
      refine V.region ?_
      refine O.p rfl rfl rfl (Pu.move rfl rfl) ?_
      refine O.p rfl rfl rfl (Pu.add64 (r := 2) (by decide) (by decide) rfl rfl rfl) ?_
      refine O.p rfl rfl rfl (Pu.assign rfl rfl) ?_
      refine O.nil ?_
      refine X.again 1 ?_
      refine V.seq ?_
      refine V.seq ?_
      refine V.region ?_
      refine O.p rfl rfl rfl (Pu.move rfl rfl) ?_
      refine O.p rfl rfl rfl (Pu.isT (by decide) (Pu.lss rfl rfl rfl)) ?_
      refine O.nil ?_
      refine X.next ?_
      refine V.condT rfl ?_
      refine V.skip ?_
      refine X.next ?_
      refine V.seq ?_
      refine V.block ?_
      refine V.seq ?_
      refine V.ent (Ent.cons (t := 2) rfl (Ent.cons (t := 3) rfl (Ent.cons (t := 4) rfl (Ent.cons (t := 5) rfl (Ent.nil _))))) ?_
      refine V.draw mo (by kernel_rfl) (fun hwf => ?_)
      refine D.p 0 rfl rfl rfl rfl rfl rfl (Pu.move rfl rfl) ?_
      refine D.p 1 rfl rfl rfl rfl rfl rfl (Pu.indexArr 2 2 rfl Try.underlying67 sz2 rfl rfl (by decide) (by decide) (by decide)) ?_
      refine D.p 2 rfl rfl rfl rfl rfl rfl (Pu.load rfl pl2 rfl (Ld.blk 1 rfl rfl)) ?_
      refine D.p 3 rfl rfl rfl rfl rfl rfl (Pu.move rfl rfl) ?_
      refine D.p 4 rfl rfl rfl rfl rfl rfl (Pu.indexArr 2 2 rfl Try.underlying67 sz2 rfl rfl (by decide) (by decide) (by decide)) ?_
      refine D.p 5 rfl rfl rfl rfl rfl rfl (Pu.load rfl pl2 rfl (Ld.blk 0 rfl rfl)) ?_
      refine D.p 6 rfl rfl rfl rfl rfl rfl (Pu.neq rfl rfl rfl) ?_
      refine D.done hwf rfl ?_
      refine X.next ?_
      refine V.condNot rfl (fun c3 => ?_) (fun c3 => ?_)
      · skip
        refine V.seq ?_
        refine V.region ?_
        refine O.p rfl rfl rfl (Pu.assign rfl rfl) ?_
        refine O.nil ?_
        refine X.next ?_
        refine V.ret ?_
        refine X.blockRet ?_
        refine X.thenRet ?_
        refine X.thenRet ?_
        refine X.blockRet ?_
        refine X.thenRet ?_
        refine X.ret1 rfl rfl ?_
        exact fun w hw => St.retP (boolF (fun h => c3 (by rw [h]))) hw
      · skip
        refine V.skip ?_
        refine X.blockNormal ?_
        refine X.next ?_
        refine V.region ?_
        refine O.p rfl rfl rfl (Pu.move rfl rfl) ?_
        refine O.p rfl rfl rfl (Pu.add64 (r := 3) (by decide) (by decide) rfl rfl rfl) ?_
        refine O.p rfl rfl rfl (Pu.assign rfl rfl) ?_
        refine O.nil ?_
        refine X.again 0 ?_
        refine V.seq ?_
        refine V.seq ?_
        refine V.region ?_
        refine O.p rfl rfl rfl (Pu.move rfl rfl) ?_
        refine O.p rfl rfl rfl (Pu.isF (by decide) (Pu.lss rfl rfl rfl)) ?_
        refine O.nil ?_
        refine X.next ?_
        refine V.condF rfl ?_
        refine V.exit ?_
        refine X.thenExit ?_
        refine X.thenExit ?_
        refine X.blockHit ?_
        refine X.next ?_
        refine V.seq ?_
        refine V.region ?_
        refine O.p rfl rfl rfl (Pu.assign rfl rfl) ?_
        refine O.nil ?_
        refine X.next ?_
        refine V.ret ?_
        refine X.ret1 rfl rfl ?_
        exact fun w hw => St.retP (boolT (Prod.ext c1 (Prod.ext c2 c3))) hw
set_option maxRecDepth 100000 in
theorem eqBlockS_ok (xs ys : List B3) (A A2 : Option Addr) (c c2 : Nat) (w : World) (hx : Rd B3C w A xs) (hy : Rd B3C w A2 ys) (lx : xs.length ≤ 4611686018427387904) (ly : ys.length ≤ 4611686018427387904) : Does Try.prog 34 [.slice A xs.length c, .slice A2 ys.length c2] w [] (fun v => [.pur (v = .bool (decide (xs = ys)))]) := by
  refine Does.enter Try.func34 rfl rfl [(0, .slice A xs.length c), (1, .slice A2 ys.length c2)] rfl ?_
  refine V.seq ?_
  refine V.region ?_
  refine O.p rfl rfl rfl (Pu.assign rfl rfl) ?_
  refine O.nil ?_
  refine X.next ?_
  refine V.seq ?_
  refine V.seq ?_
  refine V.region ?_
  refine O.p rfl rfl rfl (Pu.move rfl rfl) ?_
  refine O.p rfl rfl rfl (Pu.len rfl Try.underlying28 rfl) ?_
  refine O.p rfl rfl rfl (Pu.move rfl rfl) ?_
  refine O.p rfl rfl rfl (Pu.len rfl Try.underlying28 rfl) ?_
  refine O.p rfl rfl rfl (Pu.neq rfl rfl rfl) ?_
  refine O.nil ?_
  refine X.next ?_
  refine V.condNot rfl (fun c1 => ?_) (fun c1 => ?_)
  · skip
    refine V.seq ?_
    refine V.region ?_
    refine O.p rfl rfl rfl (Pu.assign rfl rfl) ?_
    refine O.nil ?_
    refine X.next ?_
    refine V.ret ?_
    refine X.thenRet ?_
    refine X.ret1 rfl rfl ?_
    exact fun w hw => St.retP (boolF (fun h => c1 (by rw [h]))) hw
  · skip
    refine V.skip ?_
    refine X.next ?_
    refine V.seq ?_
    refine V.seq ?_
    refine V.region ?_
    refine O.p rfl rfl rfl (Pu.assign rfl rfl) ?_
    refine O.nil ?_
    refine X.next ?_
    refine V.block ?_
    refine V.loop2 (β := Nat) (fun k => [(5, .int .i64 (k : Int))]) _ (fun k => []) (fun k => k ≤ xs.length ∧ ∀ j (h1 : j < xs.length) (h2 : j < ys.length), j < k → xs[j] = ys[j]) (fun k => xs.length - k) 0 ⟨by omega, fun j _ _ h => by omega⟩ (Ent.cons rfl (Ent.nil _)) (Ent.cons (t := 0) rfl (Ent.cons (t := 1) rfl (Ent.nil _))) (Sub.nil _) ?_
    rintro k ⟨hk, he⟩
    refine V.seq ?_
    refine V.seq ?_
    refine V.region ?_
    refine O.p rfl rfl rfl (Pu.move rfl rfl) ?_
    refine O.p rfl rfl rfl (Pu.move rfl rfl) ?_
    refine O.p rfl rfl rfl (Pu.len rfl Try.underlying28 rfl) ?_
    refine O.p rfl rfl rfl (Pu.lss rfl rfl rfl) ?_
    refine O.nil ?_
    refine X.next ?_
    refine V.condD rfl (fun c2 => ?_) (fun c2 => ?_)
    · skip
      refine V.skip ?_
      refine X.next ?_
      refine V.seq ?_
      refine V.block ?_
      refine V.seq ?_
      refine V.draw mo (by kernel_rfl) (fun hwf => ?_)
      refine D.p 0 rfl rfl rfl rfl rfl rfl (Pu.move rfl rfl) ?_
      refine D.p 1 rfl rfl rfl rfl rfl rfl (Pu.move rfl rfl) ?_
      refine D.p 2 rfl rfl rfl rfl rfl rfl (Pu.indexAddr (k) rfl Try.underlying28 sz67 rfl rfl (by omega) (by omega) (hx.some (by omega))) ?_
      have e1 : k < xs.length := by omega
      refine D.p 3 rfl rfl rfl rfl rfl rfl (Pu.loadAgg' (v := B3.v (xs[k]'e1)) rfl rfl ag67 sz67 rfl rfl (Ld.rds (Ld.old hx) (k := k) e1 rfl)) ?_
      refine D.p 4 rfl rfl rfl rfl rfl rfl (Pu.move rfl rfl) ?_
      refine D.p 5 rfl rfl rfl rfl rfl rfl (Pu.move rfl rfl) ?_
      refine D.p 6 rfl rfl rfl rfl rfl rfl (Pu.indexAddr (k) rfl Try.underlying28 sz67 rfl rfl (by omega) (by omega) (hy.some (by omega))) ?_
      have e2 : k < ys.length := by omega
      refine D.p 7 rfl rfl rfl rfl rfl rfl (Pu.loadAgg' (v := B3.v (ys[k]'e2)) rfl rfl ag67 sz67 rfl rfl (Ld.rds (Ld.old hy) (k := k) e2 rfl)) ?_
      refine D.eff hwf (e := 8) rfl rfl rfl rfl (Ef.callP call68 rfl rfl (fun w hw => eqBlock_ok (xs[k]'e1) (ys[k]'e2) w)) rfl rfl rfl ?_
      rintro _ _ ⟨rfl, rfl⟩ hs
      refine ⟨fun w hw => hw, ?_⟩
      refine D.p 9 rfl rfl rfl rfl rfl rfl (Pu.not rfl rfl) ?_
      refine D.done hwf rfl ?_
      refine X.next ?_
      refine V.condNot rfl (fun c3 => ?_) (fun c3 => ?_)
      · skip
        refine V.seq ?_
        refine V.region ?_
        refine O.p rfl rfl rfl (Pu.assign rfl rfl) ?_
        refine O.nil ?_
        refine X.next ?_
        refine V.ret ?_
        refine X.blockRet ?_
        refine X.thenRet ?_
        refine X.thenRet ?_
        refine X.blockRet ?_
        refine X.thenRet ?_
        refine X.ret1 rfl rfl ?_
        exact fun w hw => St.retP (boolF (fun h => c3 (by simp [h]))) hw
      · skip
        refine V.skip ?_
        refine X.blockNormal ?_
        refine X.next ?_
        refine V.region ?_
        refine O.p rfl rfl rfl (Pu.move rfl rfl) ?_
        refine O.p rfl rfl rfl (Pu.add64 (r := ((k + 1 : Nat) : Int)) rfl (by omega) rfl rfl rfl) ?_
        refine O.p rfl rfl rfl (Pu.assign rfl rfl) ?_
        refine O.nil ?_
        exact X.back2 (k + 1) ⟨by omega, fun j h1 h2 hj => by by_cases e : j = k; (· subst e; exact c3); (· exact he j h1 h2 (by omega))⟩ (by omega) (Ent.cons rfl (Ent.nil _)) (Ent.cons (t := 0) rfl (Ent.cons (t := 1) rfl (Ent.nil _))) (Sub.nil _)
    · skip
      refine V.exit ?_
      refine X.thenExit ?_
      refine X.thenExit ?_
      refine X.blockHit ?_
      refine X.next ?_
      refine V.seq ?_
      refine V.region ?_
      refine O.p rfl rfl rfl (Pu.assign rfl rfl) ?_
      refine O.nil ?_
      refine X.next ?_
      refine V.ret ?_
      refine X.ret1 rfl rfl ?_
      exact fun w hw => St.retP (boolT (List.ext_getElem (by omega) (fun j h1 h2 => he j h1 h2 (by omega)))) hw
set_option maxRecDepth 100000 in
theorem toBlockS_ok (bs : List B3) (A : Option Addr) (c : Nat) (w : World) (hx : Rd B3C w A bs) (lx : bs.length ≤ 1099511627776) : Does Try.prog 32 [.slice A bs.length c] w [] (fun v => [.exi fun A' : Option Addr => .sep (.pur (A'.isSome = true ∧ v = .slice A' bs.length bs.length)) (Own 67 B3C A' bs.length bs)]) := by
  refine Does.enter Try.func32 rfl rfl [(0, .slice A bs.length c)] rfl ?_
  refine V.seq ?_
  refine V.region ?_
  refine O.p rfl rfl rfl (Pu.assign rfl rfl) ?_
  refine O.nil ?_
  refine X.next ?_
  refine V.seq ?_
  refine V.region ?_
  refine O.p rfl rfl rfl (Pu.move rfl rfl) ?_
  refine O.p rfl rfl rfl (Pu.len rfl Try.underlying22 rfl) ?_
  refine O.e rfl rfl rfl (Ef.make B3C ((0, 0, 0) : B3) rfl Try.underlying28 inf67 rfl rfl rfl rfl (by omega) (by omega)) ?_
  rintro _ _ ⟨A1, hA1, rfl, rfl⟩
  refine O.p rfl rfl rfl (Pu.assign rfl rfl) ?_
  refine O.nil ?_
  refine X.next ?_
  refine V.seq ?_
  refine V.seq ?_
  refine V.region ?_
  refine O.p rfl rfl rfl (Pu.assign rfl rfl) ?_
  refine O.nil ?_
  refine X.next ?_
  refine V.block ?_
  refine V.loop2 (β := Nat) (fun k => [(4, .int .i64 (k : Int))]) _ (fun k => [Own 67 B3C A1 bs.length (fill bs (0, 0, 0) k)]) (fun k => k ≤ bs.length) (fun k => bs.length - k) 0 (by omega) (Ent.cons rfl (Ent.nil _)) (Ent.cons (t := 0) rfl (Ent.cons (t := 2) rfl (Ent.cons (t := 3) rfl (Ent.nil _)))) (Sub.cons 0 rfl (fun w F h => by rw [fill_zero]; exact h) (Sub.nil _)) ?_
  rintro k hk
  refine V.seq ?_
  refine V.seq ?_
  refine V.region ?_
  refine O.p rfl rfl rfl (Pu.move rfl rfl) ?_
  refine O.p rfl rfl rfl (Pu.move rfl rfl) ?_
  refine O.p rfl rfl rfl (Pu.len rfl Try.underlying22 rfl) ?_
  refine O.p rfl rfl rfl (Pu.lss rfl rfl rfl) ?_
  refine O.nil ?_
  refine X.next ?_
  refine V.condD rfl (fun c1 => ?_) (fun c1 => ?_)
  · skip
    refine V.skip ?_
    refine X.next ?_
    refine V.seq ?_
    refine V.block ?_
    refine V.region ?_
    refine O.p rfl rfl rfl (Pu.move rfl rfl) ?_
    refine O.p rfl rfl rfl (Pu.move rfl rfl) ?_
    refine O.p rfl rfl rfl (Pu.move rfl rfl) ?_
    refine O.p rfl rfl rfl (Pu.move rfl rfl) ?_
    refine O.p rfl rfl rfl (Pu.indexAddr (k) rfl Try.underlying22 sz66 rfl rfl (by omega) (by omega) (hx.some (by omega))) ?_
    have e1 : k < bs.length := by omega
    refine O.p rfl rfl rfl (Pu.loadAgg' (v := B3.v (bs[k]'e1)) rfl rfl ag66 sz66 rfl rfl (Ld.rds (Ld.old hx) (k := k) e1 rfl)) ?_
    refine O.e rfl rfl rfl (Ef.callP call63 rfl rfl (fun w hw => toBlock_ok (bs[k]'e1) w)) ?_
    rintro _ _ ⟨rfl, rfl⟩
    refine O.p rfl rfl rfl (Pu.indexAddr (k) rfl Try.underlying28 sz67 rfl rfl (by omega) (by omega) hA1) ?_
    refine O.s rfl rfl (Ef.storeOwn 0 (k) (bs[k]'e1) rfl sz67 rfl rfl rfl rfl (by rw [fill_length (by omega)]; omega) rfl) ?_
    rintro _ _ rfl
    refine O.nil ?_
    refine X.blockNormal ?_
    refine X.next ?_
    refine V.region ?_
    refine O.p rfl rfl rfl (Pu.move rfl rfl) ?_
    refine O.p rfl rfl rfl (Pu.add64 (r := ((k + 1 : Nat) : Int)) rfl (by omega) rfl rfl rfl) ?_
    refine O.p rfl rfl rfl (Pu.assign rfl rfl) ?_
    refine O.nil ?_
    exact X.back2 (k + 1) (by omega) (by omega) (Ent.cons rfl (Ent.nil _)) (Ent.cons (t := 0) rfl (Ent.cons (t := 2) rfl (Ent.cons (t := 3) rfl (Ent.nil _)))) (Sub.cons 0 rfl (fun w F h => by rw [fill_set (by omega)] at h; exact h) (Sub.nil _))
  · skip
    refine V.exit ?_
    refine X.thenExit ?_
    refine X.thenExit ?_
    refine X.blockHit ?_
    refine X.next ?_
    refine V.seq ?_
    refine V.region ?_
    refine O.p rfl rfl rfl (Pu.move rfl rfl) ?_
    refine O.p rfl rfl rfl (Pu.assign rfl rfl) ?_
    refine O.nil ?_
    refine X.next ?_
    refine V.ret ?_
    refine X.ret1 rfl rfl ?_
    exact fun w hw => St.retX A1 ⟨hA1, rfl⟩ (hw.sub (Sub.cons 0 rfl (fun w F h => by rwa [fill_all (by omega)] at h) (Sub.nil _)))
set_option maxRecDepth 100000 in
theorem toSystem_ok (v : Int) (bs : List B3) (A : Option Addr) (c : Nat) (w : World) (hx : Rd B3C w A bs) (lx : bs.length ≤ 1099511627776) : Does Try.prog 9 [.agg #[.int .i64 v, .slice A bs.length c]] w [] (fun r => [.exi fun A' : Option Addr => .sep (.pur (A'.isSome = true ∧ r = .agg #[.int .i64 v, .slice A' bs.length bs.length])) (Own 67 B3C A' bs.length bs)]) := by
  refine Does.enter Try.func9 rfl rfl [(0, .agg #[.int .i64 v, .slice A bs.length c])] rfl ?_
  refine V.seq ?_
  refine V.region ?_
  refine O.e rfl rfl rfl (Ef.box rfl rfl rfl) ?_
  rintro _ _ ⟨b1, rfl, rfl⟩
  refine O.e rfl rfl rfl (Ef.alloc rfl zr30 rfl) ?_
  rintro _ _ ⟨b2, rfl, rfl⟩
  refine O.nil ?_
  refine X.next ?_
  refine V.seq ?_
  refine V.region ?_
  refine O.e rfl rfl rfl (Ef.alloc rfl zr30 rfl) ?_
  rintro _ _ ⟨b3, rfl, rfl⟩
  refine O.nil ?_
  refine X.next ?_
  refine V.seq ?_
  refine V.region ?_
  refine O.p rfl rfl rfl (Pu.fieldAddr 0 rfl Try.underlying24 rfl sz2 rfl rfl) ?_
  refine O.p rfl rfl rfl (Pu.load rfl pl2 rfl (Ld.blk 2 rfl rfl)) ?_
  refine O.p rfl rfl rfl (Pu.fieldAddr 0 rfl Try.underlying30 rfl sz2 rfl rfl) ?_
  refine O.s rfl rfl (Ef.store1 (cs' := [_, _]) 0 rfl sz2 rfl rfl rfl rfl rfl (ltb rfl) rfl) ?_
  rintro _ _ rfl
  refine O.nil ?_
  refine X.next ?_
  refine V.seq ?_
  refine V.region ?_
  refine O.p rfl rfl rfl (Pu.fieldAddr 1 rfl Try.underlying24 rfl sz22 rfl rfl) ?_
  refine O.p rfl rfl rfl (Pu.load rfl pl22 rfl (Ld.blk 2 rfl rfl)) ?_
  refine O.e rfl rfl rfl (Ef.call1 call32 rfl rfl (fun w hw => toBlockS_ok bs _ _ w ((Ld.old hx) w hw) (by omega))) ?_
  rintro _ _ rfl
  refine O.exi (fun A1 => ?_)
  refine O.sep ?_
  refine O.pur ?_
  rintro ⟨hA1, rfl⟩
  refine O.p rfl rfl rfl (Pu.fieldAddr 1 rfl Try.underlying30 rfl sz28 rfl rfl) ?_
  refine O.s rfl rfl (Ef.store1 (cs' := [_, _]) 1 rfl sz28 rfl rfl rfl rfl rfl (ltb rfl) rfl) ?_
  rintro _ _ rfl
  refine O.nil ?_
  refine X.next ?_
  refine V.seq ?_
  refine V.region ?_
  refine O.p rfl rfl rfl (Pu.loadAgg rfl ag30 sz30 rfl rfl (Ld.whole 1 rfl)) ?_
  refine O.s rfl rfl (Ef.storeAll 2 rfl sz30 rfl rfl rfl rfl (by simp [Value.oneCell']) rfl) ?_
  rintro _ _ rfl
  refine O.nil ?_
  refine X.next ?_
  refine V.ret ?_
  refine X.retCell rfl ag30 sz30 rfl rfl (Ld.whole 2 rfl) ?_
  exact fun w hw => St.retX A1 ⟨hA1, rfl⟩ (hw.sub (Sub.keep 0 rfl (Sub.nil _)))
set_option maxRecDepth 100000 in
theorem eqSystem_ok (v1 v2 : Int) (xs ys : List B3) (A A2 : Option Addr) (c c2 : Nat) (w : World) (hx : Rd B3C w A xs) (hy : Rd B3C w A2 ys) (lx : xs.length ≤ 4611686018427387904) (ly : ys.length ≤ 4611686018427387904) : Does Try.prog 11 [.agg #[.int .i64 v1, .slice A xs.length c], .agg #[.int .i64 v2, .slice A2 ys.length c2]] w [] (fun v => [.pur (v = .bool (decide (v1 = v2 ∧ xs = ys)))]) := by
  refine Does.enter Try.func11 rfl rfl [(0, .agg #[.int .i64 v1, .slice A xs.length c]), (1, .agg #[.int .i64 v2, .slice A2 ys.length c2])] rfl ?_
  refine V.seq ?_
  refine V.region ?_
  refine O.e rfl rfl rfl (Ef.box rfl rfl rfl) ?_
  rintro _ _ ⟨b1, rfl, rfl⟩
  refine O.e rfl rfl rfl (Ef.box rfl rfl rfl) ?_
  rintro _ _ ⟨b2, rfl, rfl⟩
  refine O.p rfl rfl rfl (Pu.assign rfl rfl) ?_
  refine O.nil ?_
  refine X.next ?_
  refine V.seq ?_
  refine V.seq ?_
  refine V.region ?_
  refine O.p rfl rfl rfl (Pu.fieldAddr 0 rfl Try.underlying30 rfl sz2 rfl rfl) ?_
  refine O.p rfl rfl rfl (Pu.load rfl pl2 rfl (Ld.blk 1 rfl rfl)) ?_
  refine O.p rfl rfl rfl (Pu.fieldAddr 0 rfl Try.underlying30 rfl sz2 rfl rfl) ?_
  refine O.p rfl rfl rfl (Pu.load rfl pl2 rfl (Ld.blk 0 rfl rfl)) ?_
  refine O.p rfl rfl rfl (Pu.neq rfl rfl rfl) ?_
  refine O.nil ?_
  refine X.next ?_
  refine V.condNot rfl (fun c1 => ?_) (fun c1 => ?_)
  · skip
    refine V.seq ?_
    refine V.region ?_
    refine O.p rfl rfl rfl (Pu.assign rfl rfl) ?_
    refine O.nil ?_
    refine X.next ?_
    refine V.ret ?_
    refine X.thenRet ?_
    refine X.ret1 rfl rfl ?_
    exact fun w hw => St.retP (boolF (fun h => c1 h.1)) hw
  · skip
    refine V.skip ?_
    refine X.next ?_
    refine V.seq ?_
    refine V.seq ?_
    refine V.region ?_
    refine O.p rfl rfl rfl (Pu.fieldAddr 1 rfl Try.underlying30 rfl sz28 rfl rfl) ?_
    refine O.p rfl rfl rfl (Pu.load rfl pl28 rfl (Ld.blk 1 rfl rfl)) ?_
    refine O.p rfl rfl rfl (Pu.fieldAddr 1 rfl Try.underlying30 rfl sz28 rfl rfl) ?_
    refine O.p rfl rfl rfl (Pu.load rfl pl28 rfl (Ld.blk 0 rfl rfl)) ?_
    refine O.e rfl rfl rfl (Ef.callP call34 rfl rfl (fun w hw => eqBlockS_ok xs ys _ _ _ _ w ((Ld.old hx) w hw) ((Ld.old hy) w hw) (by omega) (by omega))) ?_
    rintro _ _ ⟨rfl, rfl⟩
    refine O.p rfl rfl rfl (Pu.not rfl rfl) ?_
    refine O.nil ?_
    refine X.next ?_
    refine V.condNot rfl (fun c2 => ?_) (fun c2 => ?_)
    · skip
      refine V.seq ?_
      refine V.region ?_
      refine O.p rfl rfl rfl (Pu.assign rfl rfl) ?_
      refine O.nil ?_
      refine X.next ?_
      refine V.ret ?_
      refine X.thenRet ?_
      refine X.ret1 rfl rfl ?_
      exact fun w hw => St.retP (boolF (fun h => c2 h.2)) hw
    · skip
      refine V.skip ?_
      refine X.next ?_
      refine V.seq ?_
      refine V.region ?_
      refine O.p rfl rfl rfl (Pu.assign rfl rfl) ?_
      refine O.nil ?_
      refine X.next ?_
      refine V.ret ?_
      refine X.ret1 rfl rfl ?_
      exact fun w hw => St.retP (boolT ⟨c1, c2⟩) hw
set_option maxRecDepth 100000 in
theorem l01With_ok (b : B3) (p : Int) (w : World) : Does Try.prog 74 [B3.v b, .int .i64 p] w [] (fun v => [.pur (v = .bool (decide (has b p)))]) := by
  refine Does.enter Try.func74 rfl rfl [(0, B3.v b), (1, .int .i64 p)] rfl ?_
  refine V.seq ?_
  refine V.region ?_
  refine O.e rfl rfl rfl (Ef.box rfl rfl rfl) ?_
  rintro _ _ ⟨b1, rfl, rfl⟩
  refine O.p rfl rfl rfl (Pu.assign rfl rfl) ?_
  refine O.nil ?_
  refine X.next ?_
  refine V.seq ?_
  refine V.region ?_
  refine O.p rfl rfl rfl (Pu.indexArr 0 0 rfl Try.underlying67 sz2 rfl rfl (by decide) (by decide) (by decide)) ?_
  refine O.p rfl rfl rfl (Pu.load rfl pl2 rfl (Ld.blk 0 rfl rfl)) ?_
  refine O.p rfl rfl rfl (Pu.move rfl rfl) ?_
  refine O.p rfl rfl rfl (Pu.eql rfl rfl rfl) ?_
  refine O.p rfl rfl rfl (Pu.move rfl rfl) ?_
  refine O.splitD 9 rfl (fun c1 => ?_) (fun c1 => ?_)
  · skip
    refine O.gs rfl rfl rfl rfl rfl rfl ?_
    refine O.gs rfl rfl rfl rfl rfl rfl ?_
    refine O.gs rfl rfl rfl rfl rfl rfl ?_
    refine O.gs rfl rfl rfl rfl rfl rfl ?_
    refine O.p rfl rfl rfl (Pu.pickT rfl rfl rfl) ?_
    refine O.p rfl rfl rfl (Pu.move rfl rfl) ?_
    refine O.gs rfl rfl rfl rfl rfl rfl ?_
    refine O.gs rfl rfl rfl rfl rfl rfl ?_
    refine O.gs rfl rfl rfl rfl rfl rfl ?_
    refine O.gs rfl rfl rfl rfl rfl rfl ?_
    refine O.p rfl rfl rfl (Pu.pickT rfl rfl rfl) ?_
    refine O.p rfl rfl rfl (Pu.assign rfl rfl) ?_
    refine O.nil ?_
    refine X.next ?_
    refine V.ret ?_
    refine X.ret1 rfl rfl ?_
    exact fun w hw => St.retP (by first | exact boolT (.inl c1) | exact boolT (.inr (.inl c2)) | exact boolT (.inr (.inl c3)) | exact boolD (by unfold has; simp only [c1, c2, false_or])) hw
  · skip
    refine O.gp rfl rfl rfl rfl rfl (Pu.indexArr 1 1 rfl Try.underlying67 sz2 rfl rfl (by decide) (by decide) (by decide)) ?_
    refine O.gp rfl rfl rfl rfl rfl (Pu.load rfl pl2 rfl (Ld.blk 0 rfl rfl)) ?_
    refine O.gp rfl rfl rfl rfl rfl (Pu.move rfl rfl) ?_
    refine O.gp rfl rfl rfl rfl rfl (Pu.eql rfl rfl rfl) ?_
    refine O.p rfl rfl rfl (Pu.pickF rfl rfl rfl) ?_
    refine O.p rfl rfl rfl (Pu.move rfl rfl) ?_
    refine O.splitD 15 rfl (fun c2 => ?_) (fun c2 => ?_)
    · skip
      refine O.gs rfl rfl rfl rfl rfl rfl ?_
      refine O.gs rfl rfl rfl rfl rfl rfl ?_
      refine O.gs rfl rfl rfl rfl rfl rfl ?_
      refine O.gs rfl rfl rfl rfl rfl rfl ?_
      refine O.p rfl rfl rfl (Pu.pickT rfl rfl rfl) ?_
      refine O.p rfl rfl rfl (Pu.assign rfl rfl) ?_
      refine O.nil ?_
      refine X.next ?_
      refine V.ret ?_
      refine X.ret1 rfl rfl ?_
      exact fun w hw => St.retP (by first | exact boolT (.inl c1) | exact boolT (.inr (.inl c2)) | exact boolT (.inr (.inl c3)) | exact boolD (by unfold has; simp only [c1, c2, false_or])) hw
    · skip
      refine O.gp rfl rfl rfl rfl rfl (Pu.indexArr 2 2 rfl Try.underlying67 sz2 rfl rfl (by decide) (by decide) (by decide)) ?_
      refine O.gp rfl rfl rfl rfl rfl (Pu.load rfl pl2 rfl (Ld.blk 0 rfl rfl)) ?_
      refine O.gp rfl rfl rfl rfl rfl (Pu.move rfl rfl) ?_
      refine O.gp rfl rfl rfl rfl rfl (Pu.eql rfl rfl rfl) ?_
      refine O.p rfl rfl rfl (Pu.pickF rfl rfl rfl) ?_
      refine O.p rfl rfl rfl (Pu.assign rfl rfl) ?_
      refine O.nil ?_
      refine X.next ?_
      refine V.ret ?_
      refine X.ret1 rfl rfl ?_
      exact fun w hw => St.retP (by first | exact boolT (.inl c1) | exact boolT (.inr (.inl c2)) | exact boolT (.inr (.inl c3)) | exact boolD (by unfold has; simp only [c1, c2, false_or])) hw
/-- A list with its number: all that are such, or nothing. -/
def ResL (ok : Prop) (p : List Int → Prop) (l : List (List Int)) : Prop := (ok → IsList p l) ∧ (¬ ok → l = [])
theorem ResL.unique {ok : Prop} {p : List Int → Prop} {l m : List (List Int)} (h1 : ResL ok p l) (h2 : ResL ok p m) : l = m := by
  by_cases h : ok
  · exact (h1.1 h).unique (h2.1 h)
  · rw [h1.2 h, h2.2 h]
set_option maxRecDepth 100000 in
theorem has_ok (b : B3) (p : Int) (w : World) : Does Try.prog 113 [B3.v b, .int .i64 p] w [] (fun v => [.pur (v = .bool (decide (has b p)))]) := by
  refine Does.enter Try.func113 rfl rfl [(0, B3.v b), (1, .int .i64 p)] rfl ?_
  refine V.seq ?_
  refine V.region ?_
  refine O.e rfl rfl rfl (Ef.box rfl rfl rfl) ?_
  rintro _ _ ⟨b1, rfl, rfl⟩
  refine O.p rfl rfl rfl (Pu.assign rfl rfl) ?_
  refine O.nil ?_
  refine X.next ?_
  refine V.seq ?_
  refine V.region ?_
  refine O.p rfl rfl rfl (Pu.indexArr 0 0 rfl Try.underlying67 sz2 rfl rfl (by decide) (by decide) (by decide)) ?_
  refine O.p rfl rfl rfl (Pu.load rfl pl2 rfl (Ld.blk 0 rfl rfl)) ?_
  refine O.p rfl rfl rfl (Pu.move rfl rfl) ?_
  refine O.p rfl rfl rfl (Pu.eql rfl rfl rfl) ?_
  refine O.p rfl rfl rfl (Pu.move rfl rfl) ?_
  refine O.splitD 9 rfl (fun c1 => ?_) (fun c1 => ?_)
  · skip
    refine O.gs rfl rfl rfl rfl rfl rfl ?_
    refine O.gs rfl rfl rfl rfl rfl rfl ?_
    refine O.gs rfl rfl rfl rfl rfl rfl ?_
    refine O.gs rfl rfl rfl rfl rfl rfl ?_
    refine O.p rfl rfl rfl (Pu.pickT rfl rfl rfl) ?_
    refine O.p rfl rfl rfl (Pu.move rfl rfl) ?_
    refine O.gs rfl rfl rfl rfl rfl rfl ?_
    refine O.gs rfl rfl rfl rfl rfl rfl ?_
    refine O.gs rfl rfl rfl rfl rfl rfl ?_
    refine O.gs rfl rfl rfl rfl rfl rfl ?_
    refine O.p rfl rfl rfl (Pu.pickT rfl rfl rfl) ?_
    refine O.p rfl rfl rfl (Pu.assign rfl rfl) ?_
    refine O.nil ?_
    refine X.next ?_
    refine V.ret ?_
    refine X.ret1 rfl rfl ?_
    exact fun w hw => St.retP (by first | exact boolT (.inl c1) | exact boolT (.inr (.inl c2)) | exact boolT (.inr (.inl c3)) | exact boolD (by unfold has; simp only [c1, c2, false_or])) hw
  · skip
    refine O.gp rfl rfl rfl rfl rfl (Pu.indexArr 1 1 rfl Try.underlying67 sz2 rfl rfl (by decide) (by decide) (by decide)) ?_
    refine O.gp rfl rfl rfl rfl rfl (Pu.load rfl pl2 rfl (Ld.blk 0 rfl rfl)) ?_
    refine O.gp rfl rfl rfl rfl rfl (Pu.move rfl rfl) ?_
    refine O.gp rfl rfl rfl rfl rfl (Pu.eql rfl rfl rfl) ?_
    refine O.p rfl rfl rfl (Pu.pickF rfl rfl rfl) ?_
    refine O.p rfl rfl rfl (Pu.move rfl rfl) ?_
    refine O.splitD 15 rfl (fun c2 => ?_) (fun c2 => ?_)
    · skip
      refine O.gs rfl rfl rfl rfl rfl rfl ?_
      refine O.gs rfl rfl rfl rfl rfl rfl ?_
      refine O.gs rfl rfl rfl rfl rfl rfl ?_
      refine O.gs rfl rfl rfl rfl rfl rfl ?_
      refine O.p rfl rfl rfl (Pu.pickT rfl rfl rfl) ?_
      refine O.p rfl rfl rfl (Pu.assign rfl rfl) ?_
      refine O.nil ?_
      refine X.next ?_
      refine V.ret ?_
      refine X.ret1 rfl rfl ?_
      exact fun w hw => St.retP (by first | exact boolT (.inl c1) | exact boolT (.inr (.inl c2)) | exact boolT (.inr (.inl c3)) | exact boolD (by unfold has; simp only [c1, c2, false_or])) hw
    · skip
      refine O.gp rfl rfl rfl rfl rfl (Pu.indexArr 2 2 rfl Try.underlying67 sz2 rfl rfl (by decide) (by decide) (by decide)) ?_
      refine O.gp rfl rfl rfl rfl rfl (Pu.load rfl pl2 rfl (Ld.blk 0 rfl rfl)) ?_
      refine O.gp rfl rfl rfl rfl rfl (Pu.move rfl rfl) ?_
      refine O.gp rfl rfl rfl rfl rfl (Pu.eql rfl rfl rfl) ?_
      refine O.p rfl rfl rfl (Pu.pickF rfl rfl rfl) ?_
      refine O.p rfl rfl rfl (Pu.assign rfl rfl) ?_
      refine O.nil ?_
      refine X.next ?_
      refine V.ret ?_
      refine X.ret1 rfl rfl ?_
      exact fun w hw => St.retP (by first | exact boolT (.inl c1) | exact boolT (.inr (.inl c2)) | exact boolT (.inr (.inl c3)) | exact boolD (by unfold has; simp only [c1, c2, false_or])) hw
set_option maxRecDepth 100000 in
theorem meets_ok (b d : B3) (w : World) : Does Try.prog 109 [B3.v b, B3.v d] w [] (fun v => [.pur (v = .bool (decide (meets b d)))]) := by
  refine Does.enter Try.func109 rfl rfl [(0, B3.v b), (1, B3.v d)] rfl ?_
  refine V.seq ?_
  refine V.region ?_
  refine O.e rfl rfl rfl (Ef.box rfl rfl rfl) ?_
  rintro _ _ ⟨b1, rfl, rfl⟩
  refine O.e rfl rfl rfl (Ef.box rfl rfl rfl) ?_
  rintro _ _ ⟨b2, rfl, rfl⟩
  refine O.p rfl rfl rfl (Pu.assign rfl rfl) ?_
  refine O.nil ?_
  refine X.next ?_
  refine V.seq ?_
  refine V.region ?_
  refine O.p rfl rfl rfl (Pu.loadAgg rfl ag67 sz67 rfl rfl (Ld.whole 0 rfl)) ?_
  refine O.p rfl rfl rfl (Pu.indexArr 0 0 rfl Try.underlying67 sz2 rfl rfl (by decide) (by decide) (by decide)) ?_
  refine O.p rfl rfl rfl (Pu.load rfl pl2 rfl (Ld.blk 1 rfl rfl)) ?_
  refine O.e rfl rfl rfl (Ef.callP call113 rfl rfl (fun w hw => has_ok d _ w)) ?_
  rintro _ _ ⟨rfl, rfl⟩
  refine O.p rfl rfl rfl (Pu.move rfl rfl) ?_
  refine O.splitD 9 rfl (fun c1 => ?_) (fun c1 => ?_)
  · skip
    refine O.gs rfl rfl rfl rfl rfl rfl ?_
    refine O.gs rfl rfl rfl rfl rfl rfl ?_
    refine O.gs rfl rfl rfl rfl rfl rfl ?_
    refine O.gs rfl rfl rfl rfl rfl rfl ?_
    refine O.p rfl rfl rfl (Pu.pickT rfl rfl rfl) ?_
    refine O.p rfl rfl rfl (Pu.move rfl rfl) ?_
    refine O.gs rfl rfl rfl rfl rfl rfl ?_
    refine O.gs rfl rfl rfl rfl rfl rfl ?_
    refine O.gs rfl rfl rfl rfl rfl rfl ?_
    refine O.gs rfl rfl rfl rfl rfl rfl ?_
    refine O.p rfl rfl rfl (Pu.pickT rfl rfl rfl) ?_
    refine O.p rfl rfl rfl (Pu.assign rfl rfl) ?_
    refine O.nil ?_
    refine X.next ?_
    refine V.ret ?_
    refine X.ret1 rfl rfl ?_
    exact fun w hw => St.retP (by first | exact boolT (.inl c1) | exact boolT (.inr (.inl c2)) | exact boolT (.inr (.inl c3)) | exact boolD (by unfold meets; simp only [c1, c2, false_or])) hw
  · skip
    refine O.gp rfl rfl rfl rfl rfl (Pu.loadAgg rfl ag67 sz67 rfl rfl (Ld.whole 0 rfl)) ?_
    refine O.gp rfl rfl rfl rfl rfl (Pu.indexArr 1 1 rfl Try.underlying67 sz2 rfl rfl (by decide) (by decide) (by decide)) ?_
    refine O.gp rfl rfl rfl rfl rfl (Pu.load rfl pl2 rfl (Ld.blk 1 rfl rfl)) ?_
    refine O.ge rfl rfl rfl rfl rfl (Ef.callP call113 rfl rfl (fun w hw => has_ok d _ w)) ?_
    rintro _ _ ⟨rfl, rfl⟩
    refine O.p rfl rfl rfl (Pu.pickF rfl rfl rfl) ?_
    refine O.p rfl rfl rfl (Pu.move rfl rfl) ?_
    refine O.splitD 15 rfl (fun c2 => ?_) (fun c2 => ?_)
    · skip
      refine O.gs rfl rfl rfl rfl rfl rfl ?_
      refine O.gs rfl rfl rfl rfl rfl rfl ?_
      refine O.gs rfl rfl rfl rfl rfl rfl ?_
      refine O.gs rfl rfl rfl rfl rfl rfl ?_
      refine O.p rfl rfl rfl (Pu.pickT rfl rfl rfl) ?_
      refine O.p rfl rfl rfl (Pu.assign rfl rfl) ?_
      refine O.nil ?_
      refine X.next ?_
      refine V.ret ?_
      refine X.ret1 rfl rfl ?_
      exact fun w hw => St.retP (by first | exact boolT (.inl c1) | exact boolT (.inr (.inl c2)) | exact boolT (.inr (.inl c3)) | exact boolD (by unfold meets; simp only [c1, c2, false_or])) hw
    · skip
      refine O.gp rfl rfl rfl rfl rfl (Pu.loadAgg rfl ag67 sz67 rfl rfl (Ld.whole 0 rfl)) ?_
      refine O.gp rfl rfl rfl rfl rfl (Pu.indexArr 2 2 rfl Try.underlying67 sz2 rfl rfl (by decide) (by decide) (by decide)) ?_
      refine O.gp rfl rfl rfl rfl rfl (Pu.load rfl pl2 rfl (Ld.blk 1 rfl rfl)) ?_
      refine O.ge rfl rfl rfl rfl rfl (Ef.callP call113 rfl rfl (fun w hw => has_ok d _ w)) ?_
      rintro _ _ ⟨rfl, rfl⟩
      refine O.p rfl rfl rfl (Pu.pickF rfl rfl rfl) ?_
      refine O.p rfl rfl rfl (Pu.assign rfl rfl) ?_
      refine O.nil ?_
      refine X.next ?_
      refine V.ret ?_
      refine X.ret1 rfl rfl ?_
      exact fun w hw => St.retP (by first | exact boolT (.inl c1) | exact boolT (.inr (.inl c2)) | exact boolT (.inr (.inl c3)) | exact boolD (by unfold meets; simp only [c1, c2, false_or])) hw
set_option maxRecDepth 100000 in
theorem indexFuncB_ok (p : B3 → Prop) [DecidablePred p] (g : Nat) (caps : Array Value) (xs : List B3) (A : Option Addr) (c : Nat) (w : World) (hok : CallOk Try.prog g) (hx : Rd B3C w A xs) (lx : xs.length ≤ 9223372036854775807) (hf : ∀ k (hk : k < xs.length) w', Bel w.heap.size w w' → Does Try.prog g ([B3.v xs[k]] ++ caps.toList) w' [] (fun v => [.pur (v = .bool (decide (p xs[k])))])) : Does Try.prog 130 [.slice A xs.length c, .func (.func g) #[] caps] w [] (fun v => [.pur (v = .int .i64 (idxP p xs))]) := by
  refine Does.enter Try.func130 rfl rfl [(0, .slice A xs.length c), (1, .func (.func g) #[] caps)] rfl ?_
  refine V.seq ?_
  refine V.region ?_
  refine O.p rfl rfl rfl (Pu.assign rfl rfl) ?_
  refine O.nil ?_
  refine X.next ?_
  refine V.seq ?_
  refine V.seq ?_
  refine V.region ?_
  refine O.p rfl rfl rfl (Pu.move rfl rfl) ?_
  refine O.p rfl rfl rfl (Pu.len rfl Try.underlying28 rfl) ?_
  refine O.p rfl rfl rfl (Pu.move rfl rfl) ?_
  refine O.nil ?_
  refine X.next ?_
  refine V.block ?_
  refine V.loop2 (β := Nat) (fun k => [(8, .int .i64 (k : Int))]) _ (fun k => []) (fun k => k ≤ xs.length ∧ ∀ j (hj : j < xs.length), j < k → ¬ p xs[j]) (fun k => xs.length - k) 0 ⟨by omega, fun j hj h => by omega⟩ (Ent.cons rfl (Ent.nil _)) (Ent.cons (t := 0) rfl (Ent.cons (t := 1) rfl (Ent.cons (t := 7) rfl (Ent.nil _)))) (Sub.nil _) ?_
  rintro k ⟨hk, hn⟩
  refine V.seq ?_
  refine V.region ?_
  refine O.p rfl rfl rfl (Pu.lss rfl rfl rfl) ?_
  refine O.nil ?_
  refine X.next ?_
  refine V.seq ?_
  refine V.condD rfl (fun c1 => ?_) (fun c1 => ?_)
  · skip
    refine V.skip ?_
    refine X.next ?_
    refine V.seq ?_
    refine V.block ?_
    refine V.seq ?_
    refine V.region ?_
    refine O.p rfl rfl rfl (Pu.move rfl rfl) ?_
    refine O.p rfl rfl rfl (Pu.assign rfl rfl) ?_
    refine O.nil ?_
    refine X.next ?_
    refine V.seq ?_
    refine V.region ?_
    refine O.p rfl rfl rfl (Pu.move rfl rfl) ?_
    refine O.p rfl rfl rfl (Pu.move rfl rfl) ?_
    refine O.p rfl rfl rfl (Pu.move rfl rfl) ?_
    refine O.p rfl rfl rfl (Pu.indexAddr (k) rfl Try.underlying28 sz67 rfl rfl (by omega) (by omega) (hx.some (by omega))) ?_
    have e1 : k < xs.length := by omega
    refine O.p rfl rfl rfl (Pu.loadAgg' (v := B3.v (xs[k]'e1)) rfl rfl ag67 sz67 rfl rfl (Ld.rds (Ld.old hx) (k := k) e1 rfl)) ?_
    refine O.e rfl rfl rfl (Ef.callPV hok rfl rfl rfl (fun w' hw => hf k e1 w' hw.below)) ?_
    rintro _ _ ⟨rfl, rfl⟩
    refine O.nil ?_
    refine X.next ?_
    refine V.condD rfl (fun c2 => ?_) (fun c2 => ?_)
    · skip
      refine V.seq ?_
      refine V.region ?_
      refine O.p rfl rfl rfl (Pu.move rfl rfl) ?_
      refine O.p rfl rfl rfl (Pu.assign rfl rfl) ?_
      refine O.nil ?_
      refine X.next ?_
      refine V.ret ?_
      refine X.blockRet ?_
      refine X.thenRet ?_
      refine X.thenRet ?_
      refine X.blockRet ?_
      refine X.thenRet ?_
      refine X.ret1 rfl rfl ?_
      exact fun w hw => St.retP (iv (idxP_found e1 c2 hn).symm) hw
    · skip
      refine V.skip ?_
      refine X.blockNormal ?_
      refine X.next ?_
      refine V.region ?_
      refine O.p rfl rfl rfl (Pu.add64 (r := ((k + 1 : Nat) : Int)) rfl (by omega) rfl rfl rfl) ?_
      refine O.p rfl rfl rfl (Pu.move rfl rfl) ?_
      refine O.nil ?_
      exact X.back2 (k + 1) ⟨by omega, fun j hj h => by by_cases e : j = k; (· subst e; exact c2); (· exact hn j hj (by omega))⟩ (by omega) (Ent.cons rfl (Ent.nil _)) (Ent.cons (t := 0) rfl (Ent.cons (t := 1) rfl (Ent.cons (t := 7) rfl (Ent.nil _)))) (Sub.nil _)
  · skip
    refine V.exit ?_
    refine X.thenExit ?_
    refine X.thenExit ?_
    refine X.blockHit ?_
    refine X.next ?_
    refine V.seq ?_
    refine V.region ?_
    refine O.p rfl rfl rfl (Pu.assign rfl rfl) ?_
    refine O.nil ?_
    refine X.next ?_
    refine V.ret ?_
    refine X.ret1 rfl rfl ?_
    exact fun w hw => St.retP (iv (idxP_none (fun j hj => hn j hj (by omega))).symm) hw
set_option maxRecDepth 100000 in
theorem containsFuncB_ok (p : B3 → Prop) [DecidablePred p] (g : Nat) (caps : Array Value) (xs : List B3) (A : Option Addr) (c : Nat) (w : World) (hok : CallOk Try.prog g) (hx : Rd B3C w A xs) (lx : xs.length ≤ 9223372036854775807) (hf : ∀ k (hk : k < xs.length) w', Bel w.heap.size w w' → Does Try.prog g ([B3.v xs[k]] ++ caps.toList) w' [] (fun v => [.pur (v = .bool (decide (p xs[k])))])) : Does Try.prog 111 [.slice A xs.length c, .func (.func g) #[] caps] w [] (fun v => [.pur (v = .bool (decide (∃ x ∈ xs, p x)))]) := by
  refine Does.enter Try.func111 rfl rfl [(0, .slice A xs.length c), (1, .func (.func g) #[] caps)] rfl ?_
  refine V.seq ?_
  refine V.region ?_
  refine O.p rfl rfl rfl (Pu.assign rfl rfl) ?_
  refine O.nil ?_
  refine X.next ?_
  refine V.seq ?_
  refine V.region ?_
  refine O.p rfl rfl rfl (Pu.move rfl rfl) ?_
  refine O.p rfl rfl rfl (Pu.move rfl rfl) ?_
  refine O.e rfl rfl rfl (Ef.callP call130 rfl rfl (fun w hw => indexFuncB_ok p g caps xs _ _ w hok (Ld.old hx w hw) lx (fun k hk w' hb => hf k hk w' (hw.grow hb).below))) ?_
  rintro _ _ ⟨rfl, rfl⟩
  refine O.p rfl rfl rfl (Pu.geq rfl rfl rfl) ?_
  refine O.p rfl rfl rfl (Pu.assign rfl rfl) ?_
  refine O.nil ?_
  refine X.next ?_
  refine V.ret ?_
  refine X.ret1 rfl rfl ?_
  exact fun w hw => St.retP (boolD idxP_nonneg) hw
set_option maxRecDepth 100000 in
theorem indexFuncG_ok (p : Int → Prop) [DecidablePred p] (g : Nat) (caps : Array Value) (xs : List Int) (A : Option Addr) (c : Nat) (w : World) (hok : CallOk Try.prog g) (hx : Rd I64 w A xs) (lx : xs.length ≤ 9223372036854775807) (hf : ∀ k (hk : k < xs.length) w', Bel w.heap.size w w' → Does Try.prog g ([.int .i64 xs[k]] ++ caps.toList) w' [] (fun v => [.pur (v = .bool (decide (p xs[k])))])) : Does Try.prog 147 [.slice A xs.length c, .func (.func g) #[] caps] w [] (fun v => [.pur (v = .int .i64 (idxP p xs))]) := by
  refine Does.enter Try.func147 rfl rfl [(0, .slice A xs.length c), (1, .func (.func g) #[] caps)] rfl ?_
  refine V.seq ?_
  refine V.region ?_
  refine O.p rfl rfl rfl (Pu.assign rfl rfl) ?_
  refine O.nil ?_
  refine X.next ?_
  refine V.seq ?_
  refine V.seq ?_
  refine V.region ?_
  refine O.p rfl rfl rfl (Pu.move rfl rfl) ?_
  refine O.p rfl rfl rfl (Pu.len rfl Try.underlying152 rfl) ?_
  refine O.p rfl rfl rfl (Pu.move rfl rfl) ?_
  refine O.nil ?_
  refine X.next ?_
  refine V.block ?_
  refine V.loop2 (β := Nat) (fun k => [(8, .int .i64 (k : Int))]) _ (fun k => []) (fun k => k ≤ xs.length ∧ ∀ j (hj : j < xs.length), j < k → ¬ p xs[j]) (fun k => xs.length - k) 0 ⟨by omega, fun j hj h => by omega⟩ (Ent.cons rfl (Ent.nil _)) (Ent.cons (t := 0) rfl (Ent.cons (t := 1) rfl (Ent.cons (t := 7) rfl (Ent.nil _)))) (Sub.nil _) ?_
  rintro k ⟨hk, hn⟩
  refine V.seq ?_
  refine V.region ?_
  refine O.p rfl rfl rfl (Pu.lss rfl rfl rfl) ?_
  refine O.nil ?_
  refine X.next ?_
  refine V.seq ?_
  refine V.condD rfl (fun c1 => ?_) (fun c1 => ?_)
  · skip
    refine V.skip ?_
    refine X.next ?_
    refine V.seq ?_
    refine V.block ?_
    refine V.seq ?_
    refine V.region ?_
    refine O.p rfl rfl rfl (Pu.move rfl rfl) ?_
    refine O.p rfl rfl rfl (Pu.assign rfl rfl) ?_
    refine O.nil ?_
    refine X.next ?_
    refine V.seq ?_
    refine V.region ?_
    refine O.p rfl rfl rfl (Pu.move rfl rfl) ?_
    refine O.p rfl rfl rfl (Pu.move rfl rfl) ?_
    refine O.p rfl rfl rfl (Pu.move rfl rfl) ?_
    refine O.p rfl rfl rfl (Pu.indexAddr (k) rfl Try.underlying152 sz3 rfl rfl (by omega) (by omega) (hx.some (by omega))) ?_
    have e1 : k < xs.length := by omega
    refine O.p rfl rfl rfl (Pu.load rfl pl3 rfl (Ld.rd (Ld.old hx) (k := k) e1 rfl rfl)) ?_
    refine O.e rfl rfl rfl (Ef.callPV hok rfl rfl rfl (fun w' hw => hf k e1 w' hw.below)) ?_
    rintro _ _ ⟨rfl, rfl⟩
    refine O.nil ?_
    refine X.next ?_
    refine V.condD rfl (fun c2 => ?_) (fun c2 => ?_)
    · skip
      refine V.seq ?_
      refine V.region ?_
      refine O.p rfl rfl rfl (Pu.move rfl rfl) ?_
      refine O.p rfl rfl rfl (Pu.assign rfl rfl) ?_
      refine O.nil ?_
      refine X.next ?_
      refine V.ret ?_
      refine X.blockRet ?_
      refine X.thenRet ?_
      refine X.thenRet ?_
      refine X.blockRet ?_
      refine X.thenRet ?_
      refine X.ret1 rfl rfl ?_
      exact fun w hw => St.retP (iv (idxP_found e1 c2 hn).symm) hw
    · skip
      refine V.skip ?_
      refine X.blockNormal ?_
      refine X.next ?_
      refine V.region ?_
      refine O.p rfl rfl rfl (Pu.add64 (r := ((k + 1 : Nat) : Int)) rfl (by omega) rfl rfl rfl) ?_
      refine O.p rfl rfl rfl (Pu.move rfl rfl) ?_
      refine O.nil ?_
      exact X.back2 (k + 1) ⟨by omega, fun j hj h => by by_cases e : j = k; (· subst e; exact c2); (· exact hn j hj (by omega))⟩ (by omega) (Ent.cons rfl (Ent.nil _)) (Ent.cons (t := 0) rfl (Ent.cons (t := 1) rfl (Ent.cons (t := 7) rfl (Ent.nil _)))) (Sub.nil _)
  · skip
    refine V.exit ?_
    refine X.thenExit ?_
    refine X.thenExit ?_
    refine X.blockHit ?_
    refine X.next ?_
    refine V.seq ?_
    refine V.region ?_
    refine O.p rfl rfl rfl (Pu.assign rfl rfl) ?_
    refine O.nil ?_
    refine X.next ?_
    refine V.ret ?_
    refine X.ret1 rfl rfl ?_
    exact fun w hw => St.retP (iv (idxP_none (fun j hj => hn j hj (by omega))).symm) hw
set_option maxRecDepth 100000 in
theorem containsFuncG_ok (p : Int → Prop) [DecidablePred p] (g : Nat) (caps : Array Value) (xs : List Int) (A : Option Addr) (c : Nat) (w : World) (hok : CallOk Try.prog g) (hx : Rd I64 w A xs) (lx : xs.length ≤ 9223372036854775807) (hf : ∀ k (hk : k < xs.length) w', Bel w.heap.size w w' → Does Try.prog g ([.int .i64 xs[k]] ++ caps.toList) w' [] (fun v => [.pur (v = .bool (decide (p xs[k])))])) : Does Try.prog 128 [.slice A xs.length c, .func (.func g) #[] caps] w [] (fun v => [.pur (v = .bool (decide (∃ x ∈ xs, p x)))]) := by
  refine Does.enter Try.func128 rfl rfl [(0, .slice A xs.length c), (1, .func (.func g) #[] caps)] rfl ?_
  refine V.seq ?_
  refine V.region ?_
  refine O.p rfl rfl rfl (Pu.assign rfl rfl) ?_
  refine O.nil ?_
  refine X.next ?_
  refine V.seq ?_
  refine V.region ?_
  refine O.p rfl rfl rfl (Pu.move rfl rfl) ?_
  refine O.p rfl rfl rfl (Pu.move rfl rfl) ?_
  refine O.e rfl rfl rfl (Ef.callP call147 rfl rfl (fun w hw => indexFuncG_ok p g caps xs _ _ w hok (Ld.old hx w hw) lx (fun k hk w' hb => hf k hk w' (hw.grow hb).below))) ?_
  rintro _ _ ⟨rfl, rfl⟩
  refine O.p rfl rfl rfl (Pu.geq rfl rfl rfl) ?_
  refine O.p rfl rfl rfl (Pu.assign rfl rfl) ?_
  refine O.nil ?_
  refine X.next ?_
  refine V.ret ?_
  refine X.ret1 rfl rfl ?_
  exact fun w hw => St.retP (boolD idxP_nonneg) hw
set_option maxRecDepth 100000 in
set_option maxHeartbeats 1000000 in
theorem isPasch1_ok (n : Int) (w : World) : Does Try.prog 129 [.int .i64 n] w [] (fun r => [.pur (r = .bool (decide (2 < n)))]) := by
  refine Does.enter Try.func129 rfl rfl [(0, .int .i64 n)] rfl ?_
  refine V.seq ?_
  refine V.region ?_
  refine O.p rfl rfl rfl (Pu.assign rfl rfl) ?_
  refine O.nil ?_
  refine X.next ?_
  refine V.seq ?_
  refine V.region ?_
  refine O.p rfl rfl rfl (Pu.move rfl rfl) ?_
  refine O.p rfl rfl rfl (Pu.gtr rfl rfl rfl) ?_
  refine O.p rfl rfl rfl (Pu.assign rfl rfl) ?_
  refine O.nil ?_
  refine X.next ?_
  refine V.ret ?_
  refine X.ret1 rfl rfl ?_
  exact fun w hw => St.retP (boolD (Iff.rfl)) hw
set_option maxRecDepth 100000 in
set_option maxHeartbeats 1000000 in
theorem isPasch_ok (blocks : List B3) (blocksA : Option Addr) (blocksc : Nat) (w : World) (hblocks : Rd B3C w blocksA blocks) (lblocks : blocks.length ≤ 1099511627776) (hg : ∀ b ∈ blocks, good 15 b) (h4 : blocks.length = 4) : Does Try.prog 110 [.slice blocksA blocks.length blocksc] w [] (fun r => [.pur (r = .bool (decide (PasB blocks)))]) := by
  refine Does.enter Try.func110 rfl rfl [(0, .slice blocksA blocks.length blocksc)] rfl ?_
  refine V.seq ?_
  refine V.region ?_
  refine O.p rfl rfl rfl (Pu.assign rfl rfl) ?_
  refine O.nil ?_
  refine X.next ?_
  refine V.seq ?_
  refine V.region ?_
  refine O.e rfl rfl rfl (Ef.alloc rfl zr150 rfl) ?_
  rintro _ _ ⟨b1, rfl, rfl⟩
  refine O.nil ?_
  refine X.next ?_
  refine V.seq ?_
  refine V.region ?_
  refine O.p rfl rfl rfl (Pu.assign rfl rfl) ?_
  refine O.nil ?_
  refine X.next ?_
  refine V.seq ?_
  refine V.seq ?_
  refine V.region ?_
  refine O.p rfl rfl rfl (Pu.move rfl rfl) ?_
  refine O.p rfl rfl rfl (Pu.len rfl Try.underlying28 rfl) ?_
  refine O.p rfl rfl rfl (Pu.move rfl rfl) ?_
  refine O.nil ?_
  refine X.next ?_
  refine V.block ?_
  refine V.loop2 (β := Nat × Nat × (List Int)) (fun x => [(4, .int .i64 (x.1 : Int)), (11, .int .i64 (x.2.1 : Int))]) _ (fun x => [Blk b1 ((x.2.2).map (Value.int .i64)) 150]) (fun x => x.2.1 ≤ blocks.length ∧ x.2.2 = cntA ((blocks.take x.2.1).flatMap bl) ∧ x.1 = dist ((blocks.take x.2.1).flatMap bl)) (fun x => blocks.length - x.2.1) (0, 0, [0, 0, 0, 0, 0, 0, 0, 0, 0, 0, 0, 0, 0, 0, 0]) (by (try dsimp only); exact ⟨by omega, by simp [cntA, cN], by simp [dist, posL, cntA, cN]⟩) (Ent.cons rfl (Ent.cons rfl (Ent.nil _))) (Ent.cons (t := 3) rfl (Ent.cons (t := 9) rfl (Ent.cons (t := 10) rfl (Ent.nil _)))) (Sub.cons 0 rfl (fun w F h => h) (Sub.nil _)) ?_
  rintro ⟨points, k, cs⟩ ⟨hk, hcs, hpo⟩
  dsimp only at hk hcs hpo ⊢
  subst hcs
  subst hpo
  have hdl0 := dist_le ((blocks.take k).flatMap bl)
  refine V.seq ?_
  refine V.region ?_
  refine O.p rfl rfl rfl (Pu.lss rfl rfl rfl) ?_
  refine O.nil ?_
  refine X.next ?_
  refine V.seq ?_
  refine V.condD rfl (fun c1 => ?_) (fun c1 => ?_)
  · skip
    refine V.skip ?_
    refine X.next ?_
    refine V.seq ?_
    refine V.block ?_
    refine V.seq ?_
    refine V.region ?_
    refine O.p rfl rfl rfl (Pu.indexAddr (k) rfl Try.underlying28 sz67 rfl rfl (by omega) (by omega) (hblocks.some (by omega))) ?_
    have e1 : k < blocks.length := by omega
    refine O.p rfl rfl rfl (Pu.loadAgg' (v := B3.v (blocks[k]'e1)) rfl rfl ag67 sz67 rfl rfl (Ld.rds (Ld.old hblocks) (k := k) e1 rfl)) ?_
    refine O.e rfl rfl rfl (Ef.alloc rfl zr67 rfl) ?_
    rintro _ _ ⟨b2, rfl, rfl⟩
    refine O.s rfl rfl (Ef.storeAll 0 rfl sz67 rfl rfl rfl rfl (by simp [Value.oneCell']) rfl) ?_
    rintro _ _ rfl
    refine O.nil ?_
    refine X.next ?_
    refine V.seq ?_
    have hgk := hg _ (List.getElem_mem e1)
    unfold good at hgk
    have hfl := flat_len (blocks.take k)
    rw [List.length_take] at hfl
    refine V.region ?_
    refine O.p rfl rfl rfl (Pu.loadAgg' (v := B3.v (blocks[k]'e1)) rfl rfl ag67 sz67 rfl rfl (Ld.whole 0 rfl)) ?_
    refine O.p rfl rfl rfl (Pu.move rfl rfl) ?_
    refine O.nil ?_
    refine X.next ?_
    refine V.block ?_
    refine V.unroll 3 ?_
    refine V.seq ?_
    refine V.region ?_
    refine O.p rfl rfl rfl (Pu.isT (by decide) (Pu.lss rfl rfl rfl)) ?_
    refine O.nil ?_
    refine X.next ?_
    refine V.seq ?_
    refine V.condT rfl ?_
    refine V.skip ?_
    refine X.next ?_
    refine V.seq ?_
    refine V.block ?_
    refine V.seq ?_
    refine V.region ?_
    refine O.p rfl rfl rfl (Pu.indexAgg 0 rfl Try.underlying67 sz2 pl2 rfl rfl (by decide) (by decide) rfl) ?_
    refine O.p rfl rfl rfl (Pu.assign rfl rfl) ?_
    refine O.nil ?_
    refine X.next ?_
    refine V.seq ?_
    have hbd28 := cnt_bd (ps := ((blocks.take k).flatMap bl)) (by simp only [List.length_append, List.length_singleton, hfl]; omega) ((blocks[k]'e1).1).toNat
    refine V.region ?_
    refine O.p rfl rfl rfl (Pu.move rfl rfl) ?_
    refine O.p rfl rfl rfl (Pu.indexArr (((blocks[k]'e1).1).toNat) (0 + ((blocks[k]'e1).1).toNat * 1) rfl Try.underlying150 sz3 rfl rfl (by omega) (by omega) rfl) ?_
    refine O.p rfl rfl rfl (Pu.load rfl pl3 rfl (Ld.arrK (n := 15) (k := ((blocks[k]'e1).1).toNat) 1 rfl rfl (by omega) (by rfl))) ?_
    refine O.p rfl rfl rfl (Pu.add64 rfl (by omega) rfl rfl rfl) ?_
    refine O.p rfl rfl rfl (Pu.indexArr (((blocks[k]'e1).1).toNat) (0 + ((blocks[k]'e1).1).toNat * 1) rfl Try.underlying150 sz3 rfl rfl (by omega) (by omega) rfl) ?_
    refine O.s rfl rfl (Ef.storeArr (n := 15) (xs := (cntA ((blocks.take k).flatMap bl))) 1 (((blocks[k]'e1).1).toNat) rfl sz3 rfl rfl rfl rfl (by omega) (by rfl)) ?_
    rintro _ _ rfl
    refine O.map (fun w hw => hw.sub (Sub.keep 0 rfl (Sub.cons 0 rfl (fun w F h => by rw [cntA_set ((blocks.take k).flatMap bl) (by omega) (by omega)] at h; exact h) (Sub.nil _)))) ?_
    have hdl := dist_le ((blocks.take k).flatMap bl)
    refine O.nil ?_
    refine X.next ?_
    refine V.seq ?_
    refine V.region ?_
    refine O.p rfl rfl rfl (Pu.move rfl rfl) ?_
    refine O.p rfl rfl rfl (Pu.indexArr (((blocks[k]'e1).1).toNat) (0 + ((blocks[k]'e1).1).toNat * 1) rfl Try.underlying150 sz3 rfl rfl (by omega) (by omega) rfl) ?_
    refine O.p rfl rfl rfl (Pu.load rfl pl3 rfl (Ld.arrK (n := 15) (k := ((blocks[k]'e1).1).toNat) 1 rfl rfl (by omega) (by rfl))) ?_
    refine O.p rfl rfl rfl (Pu.eql rfl rfl rfl) ?_
    refine O.nil ?_
    refine X.next ?_
    refine V.cut2 [(4, .int .i64 ((dist (((blocks.take k).flatMap bl) ++ [(blocks[k]'e1).1]) : Nat) : Int))] (Ent.cons (t := 3) rfl (Ent.cons (t := 9) rfl (Ent.cons (t := 10) rfl (Ent.cons (t := 11) rfl (Ent.cons (t := 15) rfl (Ent.cons (t := 16) rfl (Ent.nil _))))))) (Sub.keep 0 rfl (Sub.keep 0 rfl (Sub.nil _))) ?_ ?_
    · skip
      refine V.condD rfl (fun c2 => ?_) (fun c2 => ?_)
      · skip
        refine V.region ?_
        refine O.p rfl rfl rfl (Pu.move rfl rfl) ?_
        refine O.p rfl rfl rfl (Pu.add64 (r := (((dist ((blocks.take k).flatMap bl)) + 1 : Nat) : Int)) rfl (by omega) rfl rfl rfl) ?_
        refine O.p rfl rfl rfl (Pu.assign rfl rfl) ?_
        refine O.nil ?_
        exact X.cut (Ent.cons' rfl (iv (by rw [dist_snoc ((blocks.take k).flatMap bl) (by omega) (by omega), if_pos ((cnt_one ((blocks.take k).flatMap bl) (by omega) (by omega)).1 c2)])) (Ent.nil _)) (Ent.cons (t := 3) rfl (Ent.cons (t := 9) rfl (Ent.cons (t := 10) rfl (Ent.cons (t := 11) rfl (Ent.cons (t := 15) rfl (Ent.cons (t := 16) rfl (Ent.nil _))))))) (Sub.keep 0 rfl (Sub.keep 0 rfl (Sub.nil _)))
      · skip
        refine V.skip ?_
        exact X.cut (Ent.cons' rfl (iv (by rw [dist_snoc ((blocks.take k).flatMap bl) (by omega) (by omega), if_neg (fun h => c2 ((cnt_one ((blocks.take k).flatMap bl) (by omega) (by omega)).2 h)), Nat.add_zero])) (Ent.nil _)) (Ent.cons (t := 3) rfl (Ent.cons (t := 9) rfl (Ent.cons (t := 10) rfl (Ent.cons (t := 11) rfl (Ent.cons (t := 15) rfl (Ent.cons (t := 16) rfl (Ent.nil _))))))) (Sub.keep 0 rfl (Sub.keep 0 rfl (Sub.nil _)))
    · skip
      refine X.blockNormal ?_
      refine X.next ?_
      refine V.region ?_
      refine O.p rfl rfl rfl (Pu.add64 (r := 1) (by decide) (by decide) rfl rfl rfl) ?_
      refine O.p rfl rfl rfl (Pu.move rfl rfl) ?_
      refine O.nil ?_
      refine X.again 2 ?_
      refine V.seq ?_
      refine V.region ?_
      refine O.p rfl rfl rfl (Pu.isT (by decide) (Pu.lss rfl rfl rfl)) ?_
      refine O.nil ?_
      refine X.next ?_
      refine V.seq ?_
      refine V.condT rfl ?_
      refine V.skip ?_
      refine X.next ?_
      refine V.seq ?_
      refine V.block ?_
      refine V.seq ?_
      refine V.region ?_
      refine O.p rfl rfl rfl (Pu.indexAgg 1 rfl Try.underlying67 sz2 pl2 rfl rfl (by decide) (by decide) rfl) ?_
      refine O.p rfl rfl rfl (Pu.assign rfl rfl) ?_
      refine O.nil ?_
      refine X.next ?_
      refine V.seq ?_
      have hbd52 := cnt_bd (ps := (((blocks.take k).flatMap bl) ++ [(blocks[k]'e1).1])) (by simp only [List.length_append, List.length_singleton, hfl]; omega) ((blocks[k]'e1).2.1).toNat
      refine V.region ?_
      refine O.p rfl rfl rfl (Pu.move rfl rfl) ?_
      refine O.p rfl rfl rfl (Pu.indexArr (((blocks[k]'e1).2.1).toNat) (0 + ((blocks[k]'e1).2.1).toNat * 1) rfl Try.underlying150 sz3 rfl rfl (by omega) (by omega) rfl) ?_
      refine O.p rfl rfl rfl (Pu.load rfl pl3 rfl (Ld.arrK (n := 15) (k := ((blocks[k]'e1).2.1).toNat) 1 rfl rfl (by omega) (by rfl))) ?_
      refine O.p rfl rfl rfl (Pu.add64 rfl (by omega) rfl rfl rfl) ?_
      refine O.p rfl rfl rfl (Pu.indexArr (((blocks[k]'e1).2.1).toNat) (0 + ((blocks[k]'e1).2.1).toNat * 1) rfl Try.underlying150 sz3 rfl rfl (by omega) (by omega) rfl) ?_
      refine O.s rfl rfl (Ef.storeArr (n := 15) (xs := (cntA (((blocks.take k).flatMap bl) ++ [(blocks[k]'e1).1]))) 1 (((blocks[k]'e1).2.1).toNat) rfl sz3 rfl rfl rfl rfl (by omega) (by rfl)) ?_
      rintro _ _ rfl
      refine O.map (fun w hw => hw.sub (Sub.keep 0 rfl (Sub.cons 0 rfl (fun w F h => by rw [cntA_set (((blocks.take k).flatMap bl) ++ [(blocks[k]'e1).1]) (by omega) (by omega)] at h; exact h) (Sub.nil _)))) ?_
      have hdl := dist_le (((blocks.take k).flatMap bl) ++ [(blocks[k]'e1).1])
      refine O.nil ?_
      refine X.next ?_
      refine V.seq ?_
      refine V.region ?_
      refine O.p rfl rfl rfl (Pu.move rfl rfl) ?_
      refine O.p rfl rfl rfl (Pu.indexArr (((blocks[k]'e1).2.1).toNat) (0 + ((blocks[k]'e1).2.1).toNat * 1) rfl Try.underlying150 sz3 rfl rfl (by omega) (by omega) rfl) ?_
      refine O.p rfl rfl rfl (Pu.load rfl pl3 rfl (Ld.arrK (n := 15) (k := ((blocks[k]'e1).2.1).toNat) 1 rfl rfl (by omega) (by rfl))) ?_
      refine O.p rfl rfl rfl (Pu.eql rfl rfl rfl) ?_
      refine O.nil ?_
      refine X.next ?_
      refine V.cut2 [(4, .int .i64 ((dist ((((blocks.take k).flatMap bl) ++ [(blocks[k]'e1).1]) ++ [(blocks[k]'e1).2.1]) : Nat) : Int))] (Ent.cons (t := 3) rfl (Ent.cons (t := 9) rfl (Ent.cons (t := 10) rfl (Ent.cons (t := 11) rfl (Ent.cons (t := 15) rfl (Ent.cons (t := 16) rfl (Ent.nil _))))))) (Sub.keep 0 rfl (Sub.keep 0 rfl (Sub.nil _))) ?_ ?_
      · skip
        refine V.condD rfl (fun c3 => ?_) (fun c3 => ?_)
        · skip
          refine V.region ?_
          refine O.p rfl rfl rfl (Pu.move rfl rfl) ?_
          refine O.p rfl rfl rfl (Pu.add64 (r := (((dist (((blocks.take k).flatMap bl) ++ [(blocks[k]'e1).1])) + 1 : Nat) : Int)) rfl (by omega) rfl rfl rfl) ?_
          refine O.p rfl rfl rfl (Pu.assign rfl rfl) ?_
          refine O.nil ?_
          exact X.cut (Ent.cons' rfl (iv (by rw [dist_snoc (((blocks.take k).flatMap bl) ++ [(blocks[k]'e1).1]) (by omega) (by omega), if_pos ((cnt_one (((blocks.take k).flatMap bl) ++ [(blocks[k]'e1).1]) (by omega) (by omega)).1 c3)])) (Ent.nil _)) (Ent.cons (t := 3) rfl (Ent.cons (t := 9) rfl (Ent.cons (t := 10) rfl (Ent.cons (t := 11) rfl (Ent.cons (t := 15) rfl (Ent.cons (t := 16) rfl (Ent.nil _))))))) (Sub.keep 0 rfl (Sub.keep 0 rfl (Sub.nil _)))
        · skip
          refine V.skip ?_
          exact X.cut (Ent.cons' rfl (iv (by rw [dist_snoc (((blocks.take k).flatMap bl) ++ [(blocks[k]'e1).1]) (by omega) (by omega), if_neg (fun h => c3 ((cnt_one (((blocks.take k).flatMap bl) ++ [(blocks[k]'e1).1]) (by omega) (by omega)).2 h)), Nat.add_zero])) (Ent.nil _)) (Ent.cons (t := 3) rfl (Ent.cons (t := 9) rfl (Ent.cons (t := 10) rfl (Ent.cons (t := 11) rfl (Ent.cons (t := 15) rfl (Ent.cons (t := 16) rfl (Ent.nil _))))))) (Sub.keep 0 rfl (Sub.keep 0 rfl (Sub.nil _)))
      · skip
        refine X.blockNormal ?_
        refine X.next ?_
        refine V.region ?_
        refine O.p rfl rfl rfl (Pu.add64 (r := 2) (by decide) (by decide) rfl rfl rfl) ?_
        refine O.p rfl rfl rfl (Pu.move rfl rfl) ?_
        refine O.nil ?_
        refine X.again 1 ?_
        refine V.seq ?_
        refine V.region ?_
        refine O.p rfl rfl rfl (Pu.isT (by decide) (Pu.lss rfl rfl rfl)) ?_
        refine O.nil ?_
        refine X.next ?_
        refine V.seq ?_
        refine V.condT rfl ?_
        refine V.skip ?_
        refine X.next ?_
        refine V.seq ?_
        refine V.block ?_
        refine V.seq ?_
        refine V.region ?_
        refine O.p rfl rfl rfl (Pu.indexAgg 2 rfl Try.underlying67 sz2 pl2 rfl rfl (by decide) (by decide) rfl) ?_
        refine O.p rfl rfl rfl (Pu.assign rfl rfl) ?_
        refine O.nil ?_
        refine X.next ?_
        refine V.seq ?_
        have hbd78 := cnt_bd (ps := ((((blocks.take k).flatMap bl) ++ [(blocks[k]'e1).1]) ++ [(blocks[k]'e1).2.1])) (by simp only [List.length_append, List.length_singleton, hfl]; omega) ((blocks[k]'e1).2.2).toNat
        refine V.region ?_
        refine O.p rfl rfl rfl (Pu.move rfl rfl) ?_
        refine O.p rfl rfl rfl (Pu.indexArr (((blocks[k]'e1).2.2).toNat) (0 + ((blocks[k]'e1).2.2).toNat * 1) rfl Try.underlying150 sz3 rfl rfl (by omega) (by omega) rfl) ?_
        refine O.p rfl rfl rfl (Pu.load rfl pl3 rfl (Ld.arrK (n := 15) (k := ((blocks[k]'e1).2.2).toNat) 1 rfl rfl (by omega) (by rfl))) ?_
        refine O.p rfl rfl rfl (Pu.add64 rfl (by omega) rfl rfl rfl) ?_
        refine O.p rfl rfl rfl (Pu.indexArr (((blocks[k]'e1).2.2).toNat) (0 + ((blocks[k]'e1).2.2).toNat * 1) rfl Try.underlying150 sz3 rfl rfl (by omega) (by omega) rfl) ?_
        refine O.s rfl rfl (Ef.storeArr (n := 15) (xs := (cntA ((((blocks.take k).flatMap bl) ++ [(blocks[k]'e1).1]) ++ [(blocks[k]'e1).2.1]))) 1 (((blocks[k]'e1).2.2).toNat) rfl sz3 rfl rfl rfl rfl (by omega) (by rfl)) ?_
        rintro _ _ rfl
        refine O.map (fun w hw => hw.sub (Sub.keep 0 rfl (Sub.cons 0 rfl (fun w F h => by rw [cntA_set ((((blocks.take k).flatMap bl) ++ [(blocks[k]'e1).1]) ++ [(blocks[k]'e1).2.1]) (by omega) (by omega)] at h; exact h) (Sub.nil _)))) ?_
        have hdl := dist_le ((((blocks.take k).flatMap bl) ++ [(blocks[k]'e1).1]) ++ [(blocks[k]'e1).2.1])
        refine O.nil ?_
        refine X.next ?_
        refine V.seq ?_
        refine V.region ?_
        refine O.p rfl rfl rfl (Pu.move rfl rfl) ?_
        refine O.p rfl rfl rfl (Pu.indexArr (((blocks[k]'e1).2.2).toNat) (0 + ((blocks[k]'e1).2.2).toNat * 1) rfl Try.underlying150 sz3 rfl rfl (by omega) (by omega) rfl) ?_
        refine O.p rfl rfl rfl (Pu.load rfl pl3 rfl (Ld.arrK (n := 15) (k := ((blocks[k]'e1).2.2).toNat) 1 rfl rfl (by omega) (by rfl))) ?_
        refine O.p rfl rfl rfl (Pu.eql rfl rfl rfl) ?_
        refine O.nil ?_
        refine X.next ?_
        refine V.cut2 [(4, .int .i64 ((dist (((((blocks.take k).flatMap bl) ++ [(blocks[k]'e1).1]) ++ [(blocks[k]'e1).2.1]) ++ [(blocks[k]'e1).2.2]) : Nat) : Int))] (Ent.cons (t := 3) rfl (Ent.cons (t := 9) rfl (Ent.cons (t := 10) rfl (Ent.cons (t := 11) rfl (Ent.cons (t := 15) rfl (Ent.cons (t := 16) rfl (Ent.nil _))))))) (Sub.keep 0 rfl (Sub.keep 0 rfl (Sub.nil _))) ?_ ?_
        · skip
          refine V.condD rfl (fun c4 => ?_) (fun c4 => ?_)
          · skip
            refine V.region ?_
            refine O.p rfl rfl rfl (Pu.move rfl rfl) ?_
            refine O.p rfl rfl rfl (Pu.add64 (r := (((dist ((((blocks.take k).flatMap bl) ++ [(blocks[k]'e1).1]) ++ [(blocks[k]'e1).2.1])) + 1 : Nat) : Int)) rfl (by omega) rfl rfl rfl) ?_
            refine O.p rfl rfl rfl (Pu.assign rfl rfl) ?_
            refine O.nil ?_
            exact X.cut (Ent.cons' rfl (iv (by rw [dist_snoc ((((blocks.take k).flatMap bl) ++ [(blocks[k]'e1).1]) ++ [(blocks[k]'e1).2.1]) (by omega) (by omega), if_pos ((cnt_one ((((blocks.take k).flatMap bl) ++ [(blocks[k]'e1).1]) ++ [(blocks[k]'e1).2.1]) (by omega) (by omega)).1 c4)])) (Ent.nil _)) (Ent.cons (t := 3) rfl (Ent.cons (t := 9) rfl (Ent.cons (t := 10) rfl (Ent.cons (t := 11) rfl (Ent.cons (t := 15) rfl (Ent.cons (t := 16) rfl (Ent.nil _))))))) (Sub.keep 0 rfl (Sub.keep 0 rfl (Sub.nil _)))
          · skip
            refine V.skip ?_
            exact X.cut (Ent.cons' rfl (iv (by rw [dist_snoc ((((blocks.take k).flatMap bl) ++ [(blocks[k]'e1).1]) ++ [(blocks[k]'e1).2.1]) (by omega) (by omega), if_neg (fun h => c4 ((cnt_one ((((blocks.take k).flatMap bl) ++ [(blocks[k]'e1).1]) ++ [(blocks[k]'e1).2.1]) (by omega) (by omega)).2 h)), Nat.add_zero])) (Ent.nil _)) (Ent.cons (t := 3) rfl (Ent.cons (t := 9) rfl (Ent.cons (t := 10) rfl (Ent.cons (t := 11) rfl (Ent.cons (t := 15) rfl (Ent.cons (t := 16) rfl (Ent.nil _))))))) (Sub.keep 0 rfl (Sub.keep 0 rfl (Sub.nil _)))
        · skip
          refine X.blockNormal ?_
          refine X.next ?_
          refine V.region ?_
          refine O.p rfl rfl rfl (Pu.add64 (r := 3) (by decide) (by decide) rfl rfl rfl) ?_
          refine O.p rfl rfl rfl (Pu.move rfl rfl) ?_
          refine O.nil ?_
          refine X.again 0 ?_
          refine V.seq ?_
          refine V.region ?_
          refine O.p rfl rfl rfl (Pu.isF (by decide) (Pu.lss rfl rfl rfl)) ?_
          refine O.nil ?_
          refine X.next ?_
          refine V.seq ?_
          refine V.condF rfl ?_
          refine V.exit ?_
          refine X.thenExit ?_
          refine X.thenExit ?_
          refine X.blockHit ?_
          refine X.blockNormal ?_
          refine X.next ?_
          refine V.region ?_
          refine O.p rfl rfl rfl (Pu.add64 (r := ((k + 1 : Nat) : Int)) rfl (by omega) rfl rfl rfl) ?_
          refine O.p rfl rfl rfl (Pu.move rfl rfl) ?_
          refine O.nil ?_
          exact X.back2 ((dist (((((blocks.take k).flatMap bl) ++ [(blocks[k]'e1).1]) ++ [(blocks[k]'e1).2.1]) ++ [(blocks[k]'e1).2.2])), k + 1, (cntA (((((blocks.take k).flatMap bl) ++ [(blocks[k]'e1).1]) ++ [(blocks[k]'e1).2.1]) ++ [(blocks[k]'e1).2.2]))) (by (try dsimp only); exact ⟨by omega, by rw [flat_snoc _ e1], by rw [flat_snoc _ e1]⟩) (by first | omega | (dsimp only; omega)) (Ent.cons rfl (Ent.cons rfl (Ent.nil _))) (Ent.cons (t := 3) rfl (Ent.cons (t := 9) rfl (Ent.cons (t := 10) rfl (Ent.nil _)))) (Sub.keep 1 rfl (Sub.nil _))
  · skip
    refine V.exit ?_
    refine X.thenExit ?_
    refine X.thenExit ?_
    refine X.blockHit ?_
    refine X.next ?_
    refine V.seq ?_
    refine V.region ?_
    refine O.p rfl rfl rfl (Pu.move rfl rfl) ?_
    refine O.p rfl rfl rfl (Pu.eql rfl rfl rfl) ?_
    refine O.p rfl rfl rfl (Pu.move rfl rfl) ?_
    refine O.splitD 34 rfl (fun c5 => ?_) (fun c5 => ?_)
    · skip
      refine O.gp rfl rfl rfl rfl rfl (Pu.slicePtr rfl Try.underlying150 sz3 rfl) ?_
      refine O.ge rfl rfl rfl rfl rfl (Ef.callP call128 rfl rfl (fun w hw => containsFuncG_ok (fun n => 2 < n) 129 _ (cntA ((blocks.take k).flatMap bl)) _ _ w call129 ((Ld.arr 0 rfl rfl) w hw) (by rw [cntA_len]; omega) (fun k hk w' hb => isPasch1_ok _ w'))) ?_
      rintro _ _ ⟨rfl, rfl⟩
      refine O.gp rfl rfl rfl rfl rfl (Pu.not rfl rfl) ?_
      refine O.p rfl rfl rfl (Pu.pickT rfl rfl rfl) ?_
      refine O.p rfl rfl rfl (Pu.assign rfl rfl) ?_
      refine O.nil ?_
      refine X.next ?_
      refine V.ret ?_
      refine X.ret1 rfl rfl ?_
      exact fun w hw => St.retP ((by rw [← decide_not]; try exact boolD (by have e : k = blocks.length := (by omega); subst e; simp only [List.take_length] at *; have h := six_iff (flat_pts hg) (by rw [flat_len]; omega); exact ⟨fun h2 => h.1 ⟨by omega, h2⟩, fun h2 => (h.2 h2).2⟩))) hw
    · skip
      refine O.gs rfl rfl rfl rfl rfl rfl ?_
      refine O.gs rfl rfl rfl rfl rfl rfl ?_
      refine O.gs rfl rfl rfl rfl rfl rfl ?_
      refine O.p rfl rfl rfl (Pu.pickF rfl rfl rfl) ?_
      refine O.p rfl rfl rfl (Pu.assign rfl rfl) ?_
      refine O.nil ?_
      refine X.next ?_
      refine V.ret ?_
      refine X.ret1 rfl rfl ?_
      exact fun w hw => St.retP (boolF (by have e : k = blocks.length := (by omega); subst e; simp only [List.take_length] at *; have h := six_iff (flat_pts hg) (by rw [flat_len]; omega); exact fun h2 => c5 (by have := (h.2 h2).1; omega))) hw
end Go.Proofs.Ytphgcnegmkafiaa
