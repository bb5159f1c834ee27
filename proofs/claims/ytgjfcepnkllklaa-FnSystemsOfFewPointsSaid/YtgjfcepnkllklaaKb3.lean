/-
  Contracts, part 3.
-/
import Derived.Test.YtgjfcepnkllklaaKb2
set_option linter.unusedVariables false
set_option linter.unusedSimpArgs false
namespace Go.Proofs.Ytgjfcepnkllklaa
open Go Go.RowKit Go.Vc Go.Proofs
set_option maxRecDepth 100000 in
theorem put_true (g : Nat) (G : Int → Int → Int) (b : B3) (w0 : World) (H : List Assn) (hb : (0 ≤ b.1 ∧ b.1 < 15) ∧ (0 ≤ b.2.1 ∧ b.2.1 < 15) ∧ (0 ≤ b.2.2 ∧ b.2.2 < 15)) : Does Try.prog 81 [.pointer (some ⟨g, 0, none⟩), B3.v b, .bool true] w0 (Grid g G 122 :: H) (fun v => .pur (v = .tuple #[]) :: Grid g (tabPut G b) 122 :: H) := by
  refine Does.enter Try.func81 rfl rfl [(0, .pointer (some ⟨g, 0, none⟩)), (1, B3.v b), (2, .bool true)] rfl ?_
  refine V.seq ?_
  refine V.region ?_
  refine O.e rfl rfl rfl (Ef.box rfl rfl rfl) ?_
  rintro _ _ ⟨b1, rfl, rfl⟩
  refine O.nil ?_
  refine X.next ?_
  refine V.seq ?_
  refine V.region ?_
  refine O.p rfl rfl rfl (Pu.loadAgg rfl ag56 sz56 rfl rfl (Ld.whole 0 rfl)) ?_
  refine O.p rfl rfl rfl (Pu.move rfl rfl) ?_
  refine O.nil ?_
  refine X.next ?_
  refine V.block ?_
  refine V.unroll 3 ?_
  refine V.seq ?_
  refine V.region ?_
  refine O.p rfl rfl rfl (Pu.isT (by decide) (Pu.lss rfl rfl rfl)) ?_
  refine O.nil ?_
  refine X.next ?_
  refine V.seq ?_
  refine V.condT rfl ?_
  refine V.skip ?_
  refine X.next ?_
  refine V.seq ?_
  refine V.block ?_
  refine V.seq ?_
  refine V.region ?_
  refine O.p rfl rfl rfl (Pu.move rfl rfl) ?_
  refine O.p rfl rfl rfl (Pu.indexAgg 0 rfl Try.underlying56 sz2 pl2 rfl rfl (by decide) (by decide) rfl) ?_
  refine O.p rfl rfl rfl (Pu.assign rfl rfl) ?_
  refine O.p rfl rfl rfl (Pu.assign rfl rfl) ?_
  refine O.nil ?_
  refine X.next ?_
  refine V.seq ?_
  refine V.draw mo (by kernel_rfl) (fun hwf => ?_)
  refine D.p 0 rfl rfl rfl rfl rfl rfl (Pu.move rfl rfl) ?_
  refine D.p 1 rfl rfl rfl rfl rfl rfl (Pu.add64 (r := 1) (by decide) (by decide) rfl rfl rfl) ?_
  refine D.p 2 rfl rfl rfl rfl rfl rfl (Pu.rem64' (r := 1) (by decide) (by decide) (by decide) rfl rfl rfl) ?_
  refine D.p 3 rfl rfl rfl rfl rfl rfl (Pu.indexArr 1 1 rfl Try.underlying56 sz2 rfl rfl (by decide) (by decide) (by decide)) ?_
  refine D.p 4 rfl rfl rfl rfl rfl rfl (Pu.load rfl pl2 rfl (Ld.blk 0 rfl rfl)) ?_
  refine D.p 5 rfl rfl rfl rfl rfl rfl (Pu.move rfl rfl) ?_
  refine D.p 6 rfl rfl rfl rfl rfl rfl (Pu.add64 (r := 2) (by decide) (by decide) rfl rfl rfl) ?_
  refine D.p 7 rfl rfl rfl rfl rfl rfl (Pu.rem64' (r := 2) (by decide) (by decide) (by decide) rfl rfl rfl) ?_
  refine D.p 8 rfl rfl rfl rfl rfl rfl (Pu.indexArr 2 2 rfl Try.underlying56 sz2 rfl rfl (by decide) (by decide) (by decide)) ?_
  refine D.p 9 rfl rfl rfl rfl rfl rfl (Pu.load rfl pl2 rfl (Ld.blk 0 rfl rfl)) ?_
  refine D.p 10 rfl rfl rfl rfl rfl rfl (Pu.assign rfl rfl) ?_
  refine D.p 11 rfl rfl rfl rfl rfl rfl (Pu.assign rfl rfl) ?_
  refine D.done hwf rfl ?_
  refine X.next ?_
  refine V.seq ?_
  refine V.seq ?_
  refine V.region ?_
  refine O.p rfl rfl rfl (Pu.move rfl rfl) ?_
  refine O.p rfl rfl rfl (Pu.notT rfl rfl) ?_
  refine O.nil ?_
  refine X.next ?_
  refine V.condF rfl ?_
  refine V.skip ?_
  refine X.next ?_
  refine V.drawS mo (by kernel_rfl) (Sub.keep 0 rfl (Sub.nil _)) (fun hwf => ?_)
  refine D.p 0 rfl rfl rfl rfl rfl rfl (Pu.move rfl rfl) ?_
  refine D.p 1 rfl rfl rfl rfl rfl rfl (Pu.move rfl rfl) ?_
  refine D.p 2 rfl rfl rfl rfl rfl rfl (Pu.move rfl rfl) ?_
  refine D.p 3 rfl rfl rfl rfl rfl rfl (Pu.move rfl rfl) ?_
  refine D.p 4 rfl rfl rfl rfl rfl rfl (Pu.move rfl rfl) ?_
  refine D.p 5 rfl rfl rfl rfl rfl rfl (Pu.move rfl rfl) ?_
  refine D.p 6 rfl rfl rfl rfl rfl rfl (Pu.move rfl rfl) ?_
  refine D.p 7 rfl rfl rfl rfl rfl rfl (Pu.move rfl rfl) ?_
  refine D.p 8 rfl rfl rfl rfl rfl rfl (Pu.nilCheck rfl rfl) ?_
  refine D.p 9 rfl rfl rfl rfl rfl rfl (Pu.indexArr ((b.1).toNat) (0 + (b.1).toNat * 15) rfl Try.underlying122 sz117 rfl rfl (by omega) (by omega) rfl) ?_
  refine D.p 10 rfl rfl rfl rfl rfl rfl (Pu.indexArr ((b.2.1).toNat) (0 + (b.1).toNat * 15 + (b.2.1).toNat * 1) rfl Try.underlying117 sz2 rfl rfl (by omega) (by omega) rfl) ?_
  refine D.p 12 rfl rfl rfl rfl rfl rfl (Pu.nilCheck rfl rfl) ?_
  refine D.p 13 rfl rfl rfl rfl rfl rfl (Pu.indexArr ((b.2.1).toNat) (0 + (b.2.1).toNat * 15) rfl Try.underlying122 sz117 rfl rfl (by omega) (by omega) rfl) ?_
  refine D.p 14 rfl rfl rfl rfl rfl rfl (Pu.indexArr ((b.1).toNat) (0 + (b.2.1).toNat * 15 + (b.1).toNat * 1) rfl Try.underlying117 sz2 rfl rfl (by omega) (by omega) rfl) ?_
  refine D.eff hwf (e := 11) rfl rfl rfl rfl (Ef.storeGrid 1 (b.1) (b.2.1) rfl sz2 rfl rfl rfl (by omega) (by omega) (by omega)) rfl rfl rfl ?_
  rintro _ _ rfl hs
  refine ⟨fun w hw => hw.sub (Sub.keep 0 rfl (Sub.nil _)), ?_⟩
  refine D.eff hwf (e := 15) rfl rfl rfl rfl (Ef.storeGrid 1 (b.2.1) (b.1) rfl sz2 rfl rfl rfl (by omega) (by omega) (by omega)) rfl rfl rfl ?_
  rintro _ _ rfl hs
  refine ⟨fun w hw => hw.sub (Sub.keep 0 rfl (Sub.nil _)), ?_⟩
  refine D.done hwf rfl ?_
  refine X.blockNormal ?_
  refine X.next ?_
  refine V.region ?_
  refine O.p rfl rfl rfl (Pu.add64 (r := 1) (by decide) (by decide) rfl rfl rfl) ?_
  refine O.p rfl rfl rfl (Pu.move rfl rfl) ?_
  refine O.nil ?_
  refine X.again 2 ?_
  refine V.seq ?_
  refine V.region ?_
  refine O.p rfl rfl rfl (Pu.isT (by decide) (Pu.lss rfl rfl rfl)) ?_
  refine O.nil ?_
  refine X.next ?_
  refine V.seq ?_
  refine V.condT rfl ?_
  refine V.skip ?_
  refine X.next ?_
  refine V.seq ?_
  refine V.block ?_
  refine V.seq ?_
  refine V.region ?_
  refine O.p rfl rfl rfl (Pu.move rfl rfl) ?_
  refine O.p rfl rfl rfl (Pu.indexAgg 1 rfl Try.underlying56 sz2 pl2 rfl rfl (by decide) (by decide) rfl) ?_
  refine O.p rfl rfl rfl (Pu.assign rfl rfl) ?_
  refine O.p rfl rfl rfl (Pu.assign rfl rfl) ?_
  refine O.nil ?_
  refine X.next ?_
  refine V.seq ?_
  refine V.ent (Ent.cons (t := 0) rfl (Ent.cons (t := 2) rfl (Ent.cons (t := 4) rfl (Ent.cons (t := 6) rfl (Ent.cons (t := 7) rfl (Ent.cons (t := 10) rfl (Ent.cons (t := 11) rfl (Ent.nil _)))))))) ?_
  refine V.draw mo (by kernel_rfl) (fun hwf => ?_)
  refine D.p 0 rfl rfl rfl rfl rfl rfl (Pu.move rfl rfl) ?_
  refine D.p 1 rfl rfl rfl rfl rfl rfl (Pu.add64 (r := 2) (by decide) (by decide) rfl rfl rfl) ?_
  refine D.p 2 rfl rfl rfl rfl rfl rfl (Pu.rem64' (r := 2) (by decide) (by decide) (by decide) rfl rfl rfl) ?_
  refine D.p 3 rfl rfl rfl rfl rfl rfl (Pu.indexArr 2 2 rfl Try.underlying56 sz2 rfl rfl (by decide) (by decide) (by decide)) ?_
  refine D.p 4 rfl rfl rfl rfl rfl rfl (Pu.load rfl pl2 rfl (Ld.blk 0 rfl rfl)) ?_
  refine D.p 5 rfl rfl rfl rfl rfl rfl (Pu.move rfl rfl) ?_
  refine D.p 6 rfl rfl rfl rfl rfl rfl (Pu.add64 (r := 3) (by decide) (by decide) rfl rfl rfl) ?_
  refine D.p 7 rfl rfl rfl rfl rfl rfl (Pu.rem64' (r := 0) (by decide) (by decide) (by decide) rfl rfl rfl) ?_
  refine D.p 8 rfl rfl rfl rfl rfl rfl (Pu.indexArr 0 0 rfl Try.underlying56 sz2 rfl rfl (by decide) (by decide) (by decide)) ?_
  refine D.p 9 rfl rfl rfl rfl rfl rfl (Pu.load rfl pl2 rfl (Ld.blk 0 rfl rfl)) ?_
  refine D.p 10 rfl rfl rfl rfl rfl rfl (Pu.assign rfl rfl) ?_
  refine D.p 11 rfl rfl rfl rfl rfl rfl (Pu.assign rfl rfl) ?_
  refine D.done hwf rfl ?_
  refine X.next ?_
  refine V.seq ?_
  refine V.seq ?_
  refine V.region ?_
  refine O.p rfl rfl rfl (Pu.move rfl rfl) ?_
  refine O.p rfl rfl rfl (Pu.notT rfl rfl) ?_
  refine O.nil ?_
  refine X.next ?_
  refine V.condF rfl ?_
  refine V.skip ?_
  refine X.next ?_
  refine V.drawS mo (by kernel_rfl) (Sub.keep 0 rfl (Sub.nil _)) (fun hwf => ?_)
  refine D.p 0 rfl rfl rfl rfl rfl rfl (Pu.move rfl rfl) ?_
  refine D.p 1 rfl rfl rfl rfl rfl rfl (Pu.move rfl rfl) ?_
  refine D.p 2 rfl rfl rfl rfl rfl rfl (Pu.move rfl rfl) ?_
  refine D.p 3 rfl rfl rfl rfl rfl rfl (Pu.move rfl rfl) ?_
  refine D.p 4 rfl rfl rfl rfl rfl rfl (Pu.move rfl rfl) ?_
  refine D.p 5 rfl rfl rfl rfl rfl rfl (Pu.move rfl rfl) ?_
  refine D.p 6 rfl rfl rfl rfl rfl rfl (Pu.move rfl rfl) ?_
  refine D.p 7 rfl rfl rfl rfl rfl rfl (Pu.move rfl rfl) ?_
  refine D.p 8 rfl rfl rfl rfl rfl rfl (Pu.nilCheck rfl rfl) ?_
  refine D.p 9 rfl rfl rfl rfl rfl rfl (Pu.indexArr ((b.2.1).toNat) (0 + (b.2.1).toNat * 15) rfl Try.underlying122 sz117 rfl rfl (by omega) (by omega) rfl) ?_
  refine D.p 10 rfl rfl rfl rfl rfl rfl (Pu.indexArr ((b.2.2).toNat) (0 + (b.2.1).toNat * 15 + (b.2.2).toNat * 1) rfl Try.underlying117 sz2 rfl rfl (by omega) (by omega) rfl) ?_
  refine D.p 12 rfl rfl rfl rfl rfl rfl (Pu.nilCheck rfl rfl) ?_
  refine D.p 13 rfl rfl rfl rfl rfl rfl (Pu.indexArr ((b.2.2).toNat) (0 + (b.2.2).toNat * 15) rfl Try.underlying122 sz117 rfl rfl (by omega) (by omega) rfl) ?_
  refine D.p 14 rfl rfl rfl rfl rfl rfl (Pu.indexArr ((b.2.1).toNat) (0 + (b.2.2).toNat * 15 + (b.2.1).toNat * 1) rfl Try.underlying117 sz2 rfl rfl (by omega) (by omega) rfl) ?_
  refine D.eff hwf (e := 11) rfl rfl rfl rfl (Ef.storeGrid 1 (b.2.1) (b.2.2) rfl sz2 rfl rfl rfl (by omega) (by omega) (by omega)) rfl rfl rfl ?_
  rintro _ _ rfl hs
  refine ⟨fun w hw => hw.sub (Sub.keep 0 rfl (Sub.nil _)), ?_⟩
  refine D.eff hwf (e := 15) rfl rfl rfl rfl (Ef.storeGrid 1 (b.2.2) (b.2.1) rfl sz2 rfl rfl rfl (by omega) (by omega) (by omega)) rfl rfl rfl ?_
  rintro _ _ rfl hs
  refine ⟨fun w hw => hw.sub (Sub.keep 0 rfl (Sub.nil _)), ?_⟩
  refine D.done hwf rfl ?_
  refine X.blockNormal ?_
  refine X.next ?_
  refine V.region ?_
  refine O.p rfl rfl rfl (Pu.add64 (r := 2) (by decide) (by decide) rfl rfl rfl) ?_
  refine O.p rfl rfl rfl (Pu.move rfl rfl) ?_
  refine O.nil ?_
  refine X.again 1 ?_
  refine V.seq ?_
  refine V.region ?_
  refine O.p rfl rfl rfl (Pu.isT (by decide) (Pu.lss rfl rfl rfl)) ?_
  refine O.nil ?_
  refine X.next ?_
  refine V.seq ?_
  refine V.condT rfl ?_
  refine V.skip ?_
  refine X.next ?_
  refine V.seq ?_
  refine V.block ?_
  refine V.seq ?_
  refine V.region ?_
  refine O.p rfl rfl rfl (Pu.move rfl rfl) ?_
  refine O.p rfl rfl rfl (Pu.indexAgg 2 rfl Try.underlying56 sz2 pl2 rfl rfl (by decide) (by decide) rfl) ?_
  refine O.p rfl rfl rfl (Pu.assign rfl rfl) ?_
  refine O.p rfl rfl rfl (Pu.assign rfl rfl) ?_
  refine O.nil ?_
  refine X.next ?_
  refine V.seq ?_
  refine V.ent (Ent.cons (t := 0) rfl (Ent.cons (t := 2) rfl (Ent.cons (t := 4) rfl (Ent.cons (t := 6) rfl (Ent.cons (t := 7) rfl (Ent.cons (t := 10) rfl (Ent.cons (t := 11) rfl (Ent.nil _)))))))) ?_
  refine V.draw mo (by kernel_rfl) (fun hwf => ?_)
  refine D.p 0 rfl rfl rfl rfl rfl rfl (Pu.move rfl rfl) ?_
  refine D.p 1 rfl rfl rfl rfl rfl rfl (Pu.add64 (r := 3) (by decide) (by decide) rfl rfl rfl) ?_
  refine D.p 2 rfl rfl rfl rfl rfl rfl (Pu.rem64' (r := 0) (by decide) (by decide) (by decide) rfl rfl rfl) ?_
  refine D.p 3 rfl rfl rfl rfl rfl rfl (Pu.indexArr 0 0 rfl Try.underlying56 sz2 rfl rfl (by decide) (by decide) (by decide)) ?_
  refine D.p 4 rfl rfl rfl rfl rfl rfl (Pu.load rfl pl2 rfl (Ld.blk 0 rfl rfl)) ?_
  refine D.p 5 rfl rfl rfl rfl rfl rfl (Pu.move rfl rfl) ?_
  refine D.p 6 rfl rfl rfl rfl rfl rfl (Pu.add64 (r := 4) (by decide) (by decide) rfl rfl rfl) ?_
  refine D.p 7 rfl rfl rfl rfl rfl rfl (Pu.rem64' (r := 1) (by decide) (by decide) (by decide) rfl rfl rfl) ?_
  refine D.p 8 rfl rfl rfl rfl rfl rfl (Pu.indexArr 1 1 rfl Try.underlying56 sz2 rfl rfl (by decide) (by decide) (by decide)) ?_
  refine D.p 9 rfl rfl rfl rfl rfl rfl (Pu.load rfl pl2 rfl (Ld.blk 0 rfl rfl)) ?_
  refine D.p 10 rfl rfl rfl rfl rfl rfl (Pu.assign rfl rfl) ?_
  refine D.p 11 rfl rfl rfl rfl rfl rfl (Pu.assign rfl rfl) ?_
  refine D.done hwf rfl ?_
  refine X.next ?_
  refine V.seq ?_
  refine V.seq ?_
  refine V.region ?_
  refine O.p rfl rfl rfl (Pu.move rfl rfl) ?_
  refine O.p rfl rfl rfl (Pu.notT rfl rfl) ?_
  refine O.nil ?_
  refine X.next ?_
  refine V.condF rfl ?_
  refine V.skip ?_
  refine X.next ?_
  refine V.drawS mo (by kernel_rfl) (Sub.keep 0 rfl (Sub.nil _)) (fun hwf => ?_)
  refine D.p 0 rfl rfl rfl rfl rfl rfl (Pu.move rfl rfl) ?_
  refine D.p 1 rfl rfl rfl rfl rfl rfl (Pu.move rfl rfl) ?_
  refine D.p 2 rfl rfl rfl rfl rfl rfl (Pu.move rfl rfl) ?_
  refine D.p 3 rfl rfl rfl rfl rfl rfl (Pu.move rfl rfl) ?_
  refine D.p 4 rfl rfl rfl rfl rfl rfl (Pu.move rfl rfl) ?_
  refine D.p 5 rfl rfl rfl rfl rfl rfl (Pu.move rfl rfl) ?_
  refine D.p 6 rfl rfl rfl rfl rfl rfl (Pu.move rfl rfl) ?_
  refine D.p 7 rfl rfl rfl rfl rfl rfl (Pu.move rfl rfl) ?_
  refine D.p 8 rfl rfl rfl rfl rfl rfl (Pu.nilCheck rfl rfl) ?_
  refine D.p 9 rfl rfl rfl rfl rfl rfl (Pu.indexArr ((b.2.2).toNat) (0 + (b.2.2).toNat * 15) rfl Try.underlying122 sz117 rfl rfl (by omega) (by omega) rfl) ?_
  refine D.p 10 rfl rfl rfl rfl rfl rfl (Pu.indexArr ((b.1).toNat) (0 + (b.2.2).toNat * 15 + (b.1).toNat * 1) rfl Try.underlying117 sz2 rfl rfl (by omega) (by omega) rfl) ?_
  refine D.p 12 rfl rfl rfl rfl rfl rfl (Pu.nilCheck rfl rfl) ?_
  refine D.p 13 rfl rfl rfl rfl rfl rfl (Pu.indexArr ((b.1).toNat) (0 + (b.1).toNat * 15) rfl Try.underlying122 sz117 rfl rfl (by omega) (by omega) rfl) ?_
  refine D.p 14 rfl rfl rfl rfl rfl rfl (Pu.indexArr ((b.2.2).toNat) (0 + (b.1).toNat * 15 + (b.2.2).toNat * 1) rfl Try.underlying117 sz2 rfl rfl (by omega) (by omega) rfl) ?_
  refine D.eff hwf (e := 11) rfl rfl rfl rfl (Ef.storeGrid 1 (b.2.2) (b.1) rfl sz2 rfl rfl rfl (by omega) (by omega) (by omega)) rfl rfl rfl ?_
  rintro _ _ rfl hs
  refine ⟨fun w hw => hw.sub (Sub.keep 0 rfl (Sub.nil _)), ?_⟩
  refine D.eff hwf (e := 15) rfl rfl rfl rfl (Ef.storeGrid 1 (b.1) (b.2.2) rfl sz2 rfl rfl rfl (by omega) (by omega) (by omega)) rfl rfl rfl ?_
  rintro _ _ rfl hs
  refine ⟨fun w hw => hw.sub (Sub.keep 0 rfl (Sub.nil _)), ?_⟩
  refine D.done hwf rfl ?_
  refine X.blockNormal ?_
  refine X.next ?_
  refine V.region ?_
  refine O.p rfl rfl rfl (Pu.add64 (r := 3) (by decide) (by decide) rfl rfl rfl) ?_
  refine O.p rfl rfl rfl (Pu.move rfl rfl) ?_
  refine O.nil ?_
  refine X.again 0 ?_
  refine V.seq ?_
  refine V.region ?_
  refine O.p rfl rfl rfl (Pu.isF (by decide) (Pu.lss rfl rfl rfl)) ?_
  refine O.nil ?_
  refine X.next ?_
  refine V.seq ?_
  refine V.condF rfl ?_
  refine V.exit ?_
  refine X.thenExit ?_
  refine X.thenExit ?_
  refine X.blockHit ?_
  refine X.endBody ?_
  refine X.ret0 rfl ?_
  exact fun w hw => St.addPur rfl (hw.sub (Sub.keep 1 rfl (Sub.drop (Sub.refl _))))
set_option maxRecDepth 100000 in
theorem put_false (g : Nat) (G : Int → Int → Int) (b : B3) (w0 : World) (H : List Assn) (hb : (0 ≤ b.1 ∧ b.1 < 15) ∧ (0 ≤ b.2.1 ∧ b.2.1 < 15) ∧ (0 ≤ b.2.2 ∧ b.2.2 < 15)) : Does Try.prog 81 [.pointer (some ⟨g, 0, none⟩), B3.v b, .bool false] w0 (Grid g G 122 :: H) (fun v => .pur (v = .tuple #[]) :: Grid g (tabDel G b) 122 :: H) := by
  refine Does.enter Try.func81 rfl rfl [(0, .pointer (some ⟨g, 0, none⟩)), (1, B3.v b), (2, .bool false)] rfl ?_
  refine V.seq ?_
  refine V.region ?_
  refine O.e rfl rfl rfl (Ef.box rfl rfl rfl) ?_
  rintro _ _ ⟨b1, rfl, rfl⟩
  refine O.nil ?_
  refine X.next ?_
  refine V.seq ?_
  refine V.region ?_
  refine O.p rfl rfl rfl (Pu.loadAgg rfl ag56 sz56 rfl rfl (Ld.whole 0 rfl)) ?_
  refine O.p rfl rfl rfl (Pu.move rfl rfl) ?_
  refine O.nil ?_
  refine X.next ?_
  refine V.block ?_
  refine V.unroll 3 ?_
  refine V.seq ?_
  refine V.region ?_
  refine O.p rfl rfl rfl (Pu.isT (by decide) (Pu.lss rfl rfl rfl)) ?_
  refine O.nil ?_
  refine X.next ?_
  refine V.seq ?_
  refine V.condT rfl ?_
  refine V.skip ?_
  refine X.next ?_
  refine V.seq ?_
  refine V.block ?_
  refine V.seq ?_
  refine V.region ?_
  refine O.p rfl rfl rfl (Pu.move rfl rfl) ?_
  refine O.p rfl rfl rfl (Pu.indexAgg 0 rfl Try.underlying56 sz2 pl2 rfl rfl (by decide) (by decide) rfl) ?_
  refine O.p rfl rfl rfl (Pu.assign rfl rfl) ?_
  refine O.p rfl rfl rfl (Pu.assign rfl rfl) ?_
  refine O.nil ?_
  refine X.next ?_
  refine V.seq ?_
  refine V.draw mo (by kernel_rfl) (fun hwf => ?_)
  refine D.p 0 rfl rfl rfl rfl rfl rfl (Pu.move rfl rfl) ?_
  refine D.p 1 rfl rfl rfl rfl rfl rfl (Pu.add64 (r := 1) (by decide) (by decide) rfl rfl rfl) ?_
  refine D.p 2 rfl rfl rfl rfl rfl rfl (Pu.rem64' (r := 1) (by decide) (by decide) (by decide) rfl rfl rfl) ?_
  refine D.p 3 rfl rfl rfl rfl rfl rfl (Pu.indexArr 1 1 rfl Try.underlying56 sz2 rfl rfl (by decide) (by decide) (by decide)) ?_
  refine D.p 4 rfl rfl rfl rfl rfl rfl (Pu.load rfl pl2 rfl (Ld.blk 0 rfl rfl)) ?_
  refine D.p 5 rfl rfl rfl rfl rfl rfl (Pu.move rfl rfl) ?_
  refine D.p 6 rfl rfl rfl rfl rfl rfl (Pu.add64 (r := 2) (by decide) (by decide) rfl rfl rfl) ?_
  refine D.p 7 rfl rfl rfl rfl rfl rfl (Pu.rem64' (r := 2) (by decide) (by decide) (by decide) rfl rfl rfl) ?_
  refine D.p 8 rfl rfl rfl rfl rfl rfl (Pu.indexArr 2 2 rfl Try.underlying56 sz2 rfl rfl (by decide) (by decide) (by decide)) ?_
  refine D.p 9 rfl rfl rfl rfl rfl rfl (Pu.load rfl pl2 rfl (Ld.blk 0 rfl rfl)) ?_
  refine D.p 10 rfl rfl rfl rfl rfl rfl (Pu.assign rfl rfl) ?_
  refine D.p 11 rfl rfl rfl rfl rfl rfl (Pu.assign rfl rfl) ?_
  refine D.done hwf rfl ?_
  refine X.next ?_
  refine V.seq ?_
  refine V.seq ?_
  refine V.region ?_
  refine O.p rfl rfl rfl (Pu.move rfl rfl) ?_
  refine O.p rfl rfl rfl (Pu.notF rfl rfl) ?_
  refine O.nil ?_
  refine X.next ?_
  refine V.condT rfl ?_
  refine V.seq ?_
  refine V.drawS mo (by kernel_rfl) (Sub.keep 0 rfl (Sub.nil _)) (fun hwf => ?_)
  refine D.p 0 rfl rfl rfl rfl rfl rfl (Pu.move rfl rfl) ?_
  refine D.p 1 rfl rfl rfl rfl rfl rfl (Pu.move rfl rfl) ?_
  refine D.p 2 rfl rfl rfl rfl rfl rfl (Pu.move rfl rfl) ?_
  refine D.p 3 rfl rfl rfl rfl rfl rfl (Pu.move rfl rfl) ?_
  refine D.p 4 rfl rfl rfl rfl rfl rfl (Pu.move rfl rfl) ?_
  refine D.p 5 rfl rfl rfl rfl rfl rfl (Pu.move rfl rfl) ?_
  refine D.p 6 rfl rfl rfl rfl rfl rfl (Pu.nilCheck rfl rfl) ?_
  refine D.p 7 rfl rfl rfl rfl rfl rfl (Pu.indexArr ((b.1).toNat) (0 + (b.1).toNat * 15) rfl Try.underlying122 sz117 rfl rfl (by omega) (by omega) rfl) ?_
  refine D.p 8 rfl rfl rfl rfl rfl rfl (Pu.indexArr ((b.2.1).toNat) (0 + (b.1).toNat * 15 + (b.2.1).toNat * 1) rfl Try.underlying117 sz2 rfl rfl (by omega) (by omega) rfl) ?_
  refine D.p 10 rfl rfl rfl rfl rfl rfl (Pu.nilCheck rfl rfl) ?_
  refine D.p 11 rfl rfl rfl rfl rfl rfl (Pu.indexArr ((b.2.1).toNat) (0 + (b.2.1).toNat * 15) rfl Try.underlying122 sz117 rfl rfl (by omega) (by omega) rfl) ?_
  refine D.p 12 rfl rfl rfl rfl rfl rfl (Pu.indexArr ((b.1).toNat) (0 + (b.2.1).toNat * 15 + (b.1).toNat * 1) rfl Try.underlying117 sz2 rfl rfl (by omega) (by omega) rfl) ?_
  refine D.eff hwf (e := 9) rfl rfl rfl rfl (Ef.storeGrid 1 (b.1) (b.2.1) rfl sz2 rfl rfl rfl (by omega) (by omega) (by omega)) rfl rfl rfl ?_
  rintro _ _ rfl hs
  refine ⟨fun w hw => hw.sub (Sub.keep 0 rfl (Sub.nil _)), ?_⟩
  refine D.eff hwf (e := 13) rfl rfl rfl rfl (Ef.storeGrid 1 (b.2.1) (b.1) rfl sz2 rfl rfl rfl (by omega) (by omega) (by omega)) rfl rfl rfl ?_
  rintro _ _ rfl hs
  refine ⟨fun w hw => hw.sub (Sub.keep 0 rfl (Sub.nil _)), ?_⟩
  refine D.done hwf rfl ?_
  refine X.next ?_
  refine V.exit ?_
  refine X.thenExit ?_
  refine X.blockHit ?_
  refine X.next ?_
  refine V.region ?_
  refine O.p rfl rfl rfl (Pu.add64 (r := 1) (by decide) (by decide) rfl rfl rfl) ?_
  refine O.p rfl rfl rfl (Pu.move rfl rfl) ?_
  refine O.nil ?_
  refine X.again 2 ?_
  refine V.seq ?_
  refine V.region ?_
  refine O.p rfl rfl rfl (Pu.isT (by decide) (Pu.lss rfl rfl rfl)) ?_
  refine O.nil ?_
  refine X.next ?_
  refine V.seq ?_
  refine V.condT rfl ?_
  refine V.skip ?_
  refine X.next ?_
  refine V.seq ?_
  refine V.block ?_
  refine V.seq ?_
  refine V.region ?_
  refine O.p rfl rfl rfl (Pu.move rfl rfl) ?_
  refine O.p rfl rfl rfl (Pu.indexAgg 1 rfl Try.underlying56 sz2 pl2 rfl rfl (by decide) (by decide) rfl) ?_
  refine O.p rfl rfl rfl (Pu.assign rfl rfl) ?_
  refine O.p rfl rfl rfl (Pu.assign rfl rfl) ?_
  refine O.nil ?_
  refine X.next ?_
  refine V.seq ?_
  refine V.ent (Ent.cons (t := 0) rfl (Ent.cons (t := 2) rfl (Ent.cons (t := 4) rfl (Ent.cons (t := 6) rfl (Ent.cons (t := 7) rfl (Ent.cons (t := 10) rfl (Ent.cons (t := 11) rfl (Ent.nil _)))))))) ?_
  refine V.draw mo (by kernel_rfl) (fun hwf => ?_)
  refine D.p 0 rfl rfl rfl rfl rfl rfl (Pu.move rfl rfl) ?_
  refine D.p 1 rfl rfl rfl rfl rfl rfl (Pu.add64 (r := 2) (by decide) (by decide) rfl rfl rfl) ?_
  refine D.p 2 rfl rfl rfl rfl rfl rfl (Pu.rem64' (r := 2) (by decide) (by decide) (by decide) rfl rfl rfl) ?_
  refine D.p 3 rfl rfl rfl rfl rfl rfl (Pu.indexArr 2 2 rfl Try.underlying56 sz2 rfl rfl (by decide) (by decide) (by decide)) ?_
  refine D.p 4 rfl rfl rfl rfl rfl rfl (Pu.load rfl pl2 rfl (Ld.blk 0 rfl rfl)) ?_
  refine D.p 5 rfl rfl rfl rfl rfl rfl (Pu.move rfl rfl) ?_
  refine D.p 6 rfl rfl rfl rfl rfl rfl (Pu.add64 (r := 3) (by decide) (by decide) rfl rfl rfl) ?_
  refine D.p 7 rfl rfl rfl rfl rfl rfl (Pu.rem64' (r := 0) (by decide) (by decide) (by decide) rfl rfl rfl) ?_
  refine D.p 8 rfl rfl rfl rfl rfl rfl (Pu.indexArr 0 0 rfl Try.underlying56 sz2 rfl rfl (by decide) (by decide) (by decide)) ?_
  refine D.p 9 rfl rfl rfl rfl rfl rfl (Pu.load rfl pl2 rfl (Ld.blk 0 rfl rfl)) ?_
  refine D.p 10 rfl rfl rfl rfl rfl rfl (Pu.assign rfl rfl) ?_
  refine D.p 11 rfl rfl rfl rfl rfl rfl (Pu.assign rfl rfl) ?_
  refine D.done hwf rfl ?_
  refine X.next ?_
  refine V.seq ?_
  refine V.seq ?_
  refine V.region ?_
  refine O.p rfl rfl rfl (Pu.move rfl rfl) ?_
  refine O.p rfl rfl rfl (Pu.notF rfl rfl) ?_
  refine O.nil ?_
  refine X.next ?_
  refine V.condT rfl ?_
  refine V.seq ?_
  refine V.drawS mo (by kernel_rfl) (Sub.keep 0 rfl (Sub.nil _)) (fun hwf => ?_)
  refine D.p 0 rfl rfl rfl rfl rfl rfl (Pu.move rfl rfl) ?_
  refine D.p 1 rfl rfl rfl rfl rfl rfl (Pu.move rfl rfl) ?_
  refine D.p 2 rfl rfl rfl rfl rfl rfl (Pu.move rfl rfl) ?_
  refine D.p 3 rfl rfl rfl rfl rfl rfl (Pu.move rfl rfl) ?_
  refine D.p 4 rfl rfl rfl rfl rfl rfl (Pu.move rfl rfl) ?_
  refine D.p 5 rfl rfl rfl rfl rfl rfl (Pu.move rfl rfl) ?_
  refine D.p 6 rfl rfl rfl rfl rfl rfl (Pu.nilCheck rfl rfl) ?_
  refine D.p 7 rfl rfl rfl rfl rfl rfl (Pu.indexArr ((b.2.1).toNat) (0 + (b.2.1).toNat * 15) rfl Try.underlying122 sz117 rfl rfl (by omega) (by omega) rfl) ?_
  refine D.p 8 rfl rfl rfl rfl rfl rfl (Pu.indexArr ((b.2.2).toNat) (0 + (b.2.1).toNat * 15 + (b.2.2).toNat * 1) rfl Try.underlying117 sz2 rfl rfl (by omega) (by omega) rfl) ?_
  refine D.p 10 rfl rfl rfl rfl rfl rfl (Pu.nilCheck rfl rfl) ?_
  refine D.p 11 rfl rfl rfl rfl rfl rfl (Pu.indexArr ((b.2.2).toNat) (0 + (b.2.2).toNat * 15) rfl Try.underlying122 sz117 rfl rfl (by omega) (by omega) rfl) ?_
  refine D.p 12 rfl rfl rfl rfl rfl rfl (Pu.indexArr ((b.2.1).toNat) (0 + (b.2.2).toNat * 15 + (b.2.1).toNat * 1) rfl Try.underlying117 sz2 rfl rfl (by omega) (by omega) rfl) ?_
  refine D.eff hwf (e := 9) rfl rfl rfl rfl (Ef.storeGrid 1 (b.2.1) (b.2.2) rfl sz2 rfl rfl rfl (by omega) (by omega) (by omega)) rfl rfl rfl ?_
  rintro _ _ rfl hs
  refine ⟨fun w hw => hw.sub (Sub.keep 0 rfl (Sub.nil _)), ?_⟩
  refine D.eff hwf (e := 13) rfl rfl rfl rfl (Ef.storeGrid 1 (b.2.2) (b.2.1) rfl sz2 rfl rfl rfl (by omega) (by omega) (by omega)) rfl rfl rfl ?_
  rintro _ _ rfl hs
  refine ⟨fun w hw => hw.sub (Sub.keep 0 rfl (Sub.nil _)), ?_⟩
  refine D.done hwf rfl ?_
  refine X.next ?_
  refine V.exit ?_
  refine X.thenExit ?_
  refine X.blockHit ?_
  refine X.next ?_
  refine V.region ?_
  refine O.p rfl rfl rfl (Pu.add64 (r := 2) (by decide) (by decide) rfl rfl rfl) ?_
  refine O.p rfl rfl rfl (Pu.move rfl rfl) ?_
  refine O.nil ?_
  refine X.again 1 ?_
  refine V.seq ?_
  refine V.region ?_
  refine O.p rfl rfl rfl (Pu.isT (by decide) (Pu.lss rfl rfl rfl)) ?_
  refine O.nil ?_
  refine X.next ?_
  refine V.seq ?_
  refine V.condT rfl ?_
  refine V.skip ?_
  refine X.next ?_
  refine V.seq ?_
  refine V.block ?_
  refine V.seq ?_
  refine V.region ?_
  refine O.p rfl rfl rfl (Pu.move rfl rfl) ?_
  refine O.p rfl rfl rfl (Pu.indexAgg 2 rfl Try.underlying56 sz2 pl2 rfl rfl (by decide) (by decide) rfl) ?_
  refine O.p rfl rfl rfl (Pu.assign rfl rfl) ?_
  refine O.p rfl rfl rfl (Pu.assign rfl rfl) ?_
  refine O.nil ?_
  refine X.next ?_
  refine V.seq ?_
  refine V.ent (Ent.cons (t := 0) rfl (Ent.cons (t := 2) rfl (Ent.cons (t := 4) rfl (Ent.cons (t := 6) rfl (Ent.cons (t := 7) rfl (Ent.cons (t := 10) rfl (Ent.cons (t := 11) rfl (Ent.nil _)))))))) ?_
  refine V.draw mo (by kernel_rfl) (fun hwf => ?_)
  refine D.p 0 rfl rfl rfl rfl rfl rfl (Pu.move rfl rfl) ?_
  refine D.p 1 rfl rfl rfl rfl rfl rfl (Pu.add64 (r := 3) (by decide) (by decide) rfl rfl rfl) ?_
  refine D.p 2 rfl rfl rfl rfl rfl rfl (Pu.rem64' (r := 0) (by decide) (by decide) (by decide) rfl rfl rfl) ?_
  refine D.p 3 rfl rfl rfl rfl rfl rfl (Pu.indexArr 0 0 rfl Try.underlying56 sz2 rfl rfl (by decide) (by decide) (by decide)) ?_
  refine D.p 4 rfl rfl rfl rfl rfl rfl (Pu.load rfl pl2 rfl (Ld.blk 0 rfl rfl)) ?_
  refine D.p 5 rfl rfl rfl rfl rfl rfl (Pu.move rfl rfl) ?_
  refine D.p 6 rfl rfl rfl rfl rfl rfl (Pu.add64 (r := 4) (by decide) (by decide) rfl rfl rfl) ?_
  refine D.p 7 rfl rfl rfl rfl rfl rfl (Pu.rem64' (r := 1) (by decide) (by decide) (by decide) rfl rfl rfl) ?_
  refine D.p 8 rfl rfl rfl rfl rfl rfl (Pu.indexArr 1 1 rfl Try.underlying56 sz2 rfl rfl (by decide) (by decide) (by decide)) ?_
  refine D.p 9 rfl rfl rfl rfl rfl rfl (Pu.load rfl pl2 rfl (Ld.blk 0 rfl rfl)) ?_
  refine D.p 10 rfl rfl rfl rfl rfl rfl (Pu.assign rfl rfl) ?_
  refine D.p 11 rfl rfl rfl rfl rfl rfl (Pu.assign rfl rfl) ?_
  refine D.done hwf rfl ?_
  refine X.next ?_
  refine V.seq ?_
  refine V.seq ?_
  refine V.region ?_
  refine O.p rfl rfl rfl (Pu.move rfl rfl) ?_
  refine O.p rfl rfl rfl (Pu.notF rfl rfl) ?_
  refine O.nil ?_
  refine X.next ?_
  refine V.condT rfl ?_
  refine V.seq ?_
  refine V.drawS mo (by kernel_rfl) (Sub.keep 0 rfl (Sub.nil _)) (fun hwf => ?_)
  refine D.p 0 rfl rfl rfl rfl rfl rfl (Pu.move rfl rfl) ?_
  refine D.p 1 rfl rfl rfl rfl rfl rfl (Pu.move rfl rfl) ?_
  refine D.p 2 rfl rfl rfl rfl rfl rfl (Pu.move rfl rfl) ?_
  refine D.p 3 rfl rfl rfl rfl rfl rfl (Pu.move rfl rfl) ?_
  refine D.p 4 rfl rfl rfl rfl rfl rfl (Pu.move rfl rfl) ?_
  refine D.p 5 rfl rfl rfl rfl rfl rfl (Pu.move rfl rfl) ?_
  refine D.p 6 rfl rfl rfl rfl rfl rfl (Pu.nilCheck rfl rfl) ?_
  refine D.p 7 rfl rfl rfl rfl rfl rfl (Pu.indexArr ((b.2.2).toNat) (0 + (b.2.2).toNat * 15) rfl Try.underlying122 sz117 rfl rfl (by omega) (by omega) rfl) ?_
  refine D.p 8 rfl rfl rfl rfl rfl rfl (Pu.indexArr ((b.1).toNat) (0 + (b.2.2).toNat * 15 + (b.1).toNat * 1) rfl Try.underlying117 sz2 rfl rfl (by omega) (by omega) rfl) ?_
  refine D.p 10 rfl rfl rfl rfl rfl rfl (Pu.nilCheck rfl rfl) ?_
  refine D.p 11 rfl rfl rfl rfl rfl rfl (Pu.indexArr ((b.1).toNat) (0 + (b.1).toNat * 15) rfl Try.underlying122 sz117 rfl rfl (by omega) (by omega) rfl) ?_
  refine D.p 12 rfl rfl rfl rfl rfl rfl (Pu.indexArr ((b.2.2).toNat) (0 + (b.1).toNat * 15 + (b.2.2).toNat * 1) rfl Try.underlying117 sz2 rfl rfl (by omega) (by omega) rfl) ?_
  refine D.eff hwf (e := 9) rfl rfl rfl rfl (Ef.storeGrid 1 (b.2.2) (b.1) rfl sz2 rfl rfl rfl (by omega) (by omega) (by omega)) rfl rfl rfl ?_
  rintro _ _ rfl hs
  refine ⟨fun w hw => hw.sub (Sub.keep 0 rfl (Sub.nil _)), ?_⟩
  refine D.eff hwf (e := 13) rfl rfl rfl rfl (Ef.storeGrid 1 (b.1) (b.2.2) rfl sz2 rfl rfl rfl (by omega) (by omega) (by omega)) rfl rfl rfl ?_
  rintro _ _ rfl hs
  refine ⟨fun w hw => hw.sub (Sub.keep 0 rfl (Sub.nil _)), ?_⟩
  refine D.done hwf rfl ?_
  refine X.next ?_
  refine V.exit ?_
  refine X.thenExit ?_
  refine X.blockHit ?_
  refine X.next ?_
  refine V.region ?_
  refine O.p rfl rfl rfl (Pu.add64 (r := 3) (by decide) (by decide) rfl rfl rfl) ?_
  refine O.p rfl rfl rfl (Pu.move rfl rfl) ?_
  refine O.nil ?_
  refine X.again 0 ?_
  refine V.seq ?_
  refine V.region ?_
  refine O.p rfl rfl rfl (Pu.isF (by decide) (Pu.lss rfl rfl rfl)) ?_
  refine O.nil ?_
  refine X.next ?_
  refine V.seq ?_
  refine V.condF rfl ?_
  refine V.exit ?_
  refine X.thenExit ?_
  refine X.thenExit ?_
  refine X.blockHit ?_
  refine X.endBody ?_
  refine X.ret0 rfl ?_
  exact fun w hw => St.addPur rfl (hw.sub (Sub.keep 1 rfl (Sub.drop (Sub.refl _))))
set_option maxRecDepth 100000 in
theorem gridOf_ok (bs : List B3) (A : Option Addr) (c : Nat) (w : World) (hx : Rd B3C w A bs) (lx : bs.length ≤ 4611686018427387904) (hb : ∀ b ∈ bs, good 15 b) : Does Try.prog 78 [.slice A bs.length c] w [] (fun v => [.exi fun g : Option Nat => match g with | none => .pur (v = .tuple #[.pointer none, .bool false] ∧ ¬ fitsAt bs bs.length) | some g => .sep (.pur (v = .tuple #[.pointer (some ⟨g, 0, none⟩), .bool true] ∧ fitsAt bs bs.length)) (Grid g (tab bs) 122)]) := by
  refine Does.enter Try.func78 rfl rfl [(0, .slice A bs.length c)] rfl ?_
  refine V.seq ?_
  refine V.region ?_
  refine O.p rfl rfl rfl (Pu.assign rfl rfl) ?_
  refine O.p rfl rfl rfl (Pu.assign rfl rfl) ?_
  refine O.nil ?_
  refine X.next ?_
  refine V.seq ?_
  refine V.region ?_
  refine O.e rfl rfl rfl (Ef.call1 call89 rfl rfl (fun w hw => newGrid_ok _)) ?_
  rintro _ _ rfl
  refine O.exi (fun g1 => ?_)
  refine O.sep ?_
  refine O.pur ?_
  rintro rfl
  refine O.p rfl rfl rfl (Pu.assign rfl rfl) ?_
  refine O.nil ?_
  refine X.next ?_
  refine V.seq ?_
  refine V.seq ?_
  refine V.region ?_
  refine O.p rfl rfl rfl (Pu.move rfl rfl) ?_
  refine O.p rfl rfl rfl (Pu.len rfl Try.underlying24 rfl) ?_
  refine O.p rfl rfl rfl (Pu.move rfl rfl) ?_
  refine O.nil ?_
  refine X.next ?_
  refine V.block ?_
  refine V.loop2 (β := Nat) (fun k => [(10, .int .i64 (k : Int))]) _ (fun k => [Grid g1 (tab (bs.take k)) 122]) (fun k => k ≤ bs.length ∧ fitsAt bs k) (fun k => bs.length - k) 0 ⟨by omega, fitsAt_zero bs⟩ (Ent.cons rfl (Ent.nil _)) (Ent.cons (t := 4) rfl (Ent.cons (t := 8) rfl (Ent.cons (t := 9) rfl (Ent.nil _)))) (Sub.keep 0 rfl (Sub.nil _)) ?_
  rintro k ⟨hk, hf⟩
  refine V.seq ?_
  refine V.region ?_
  refine O.p rfl rfl rfl (Pu.lss rfl rfl rfl) ?_
  refine O.nil ?_
  refine X.next ?_
  refine V.seq ?_
  refine V.condD rfl (fun c1 => ?_) (fun c1 => ?_)
  · skip
    refine V.skip ?_
    refine X.next ?_
    refine V.seq ?_
    refine V.block ?_
    refine V.seq ?_
    refine V.region ?_
    refine O.p rfl rfl rfl (Pu.indexAddr (k) rfl Try.underlying24 sz56 rfl rfl (by omega) (by omega) (hx.some (by omega))) ?_
    have e1 : k < bs.length := by omega
    refine O.p rfl rfl rfl (Pu.loadAgg' (v := B3.v (bs[k]'e1)) rfl rfl ag56 sz56 rfl rfl (Ld.rds (Ld.old hx) (k := k) e1 rfl)) ?_
    refine O.e rfl rfl rfl (Ef.alloc rfl zr56 rfl) ?_
    rintro _ _ ⟨b1, rfl, rfl⟩
    refine O.s rfl rfl (Ef.storeAll 0 rfl sz56 rfl rfl rfl rfl (by simp [Value.oneCell']) rfl) ?_
    rintro _ _ rfl
    refine O.nil ?_
    refine X.next ?_
    refine V.seq ?_
    refine V.seq ?_
    refine V.region ?_
    refine O.p rfl rfl rfl (Pu.move rfl rfl) ?_
    refine O.p rfl rfl rfl (Pu.loadAgg rfl ag56 sz56 rfl rfl (Ld.whole 0 rfl)) ?_
    refine O.e rfl rfl rfl (Ef.callP call80 rfl rfl (fun w hw => isLeft_ok _ _ (bs[k]'e1) w (GridAt.of (i := 1) hw (by exact rfl)) (hb _ (List.getElem_mem e1)).pts)) ?_
    rintro _ _ ⟨rfl, rfl⟩
    refine O.p rfl rfl rfl (Pu.not rfl rfl) ?_
    refine O.nil ?_
    refine X.next ?_
    refine V.condNot rfl (fun c2 => ?_) (fun c2 => ?_)
    · skip
      refine V.seq ?_
      refine V.region ?_
      refine O.p rfl rfl rfl (Pu.assign rfl rfl) ?_
      refine O.p rfl rfl rfl (Pu.assign rfl rfl) ?_
      refine O.nil ?_
      refine X.next ?_
      refine V.ret ?_
      refine X.thenRet ?_
      refine X.blockRet ?_
      refine X.thenRet ?_
      refine X.thenRet ?_
      refine X.blockRet ?_
      refine X.thenRet ?_
      refine X.ret2 rfl rfl rfl ?_
      exact fun w hw => St.mkExi (none : Option Nat) (St.addPur ⟨rfl, fun h => c2 ((isLeft_fits (by omega) (fun b hb' => (hb b hb').three)).2 (fun j hj hjk => h k (by omega) (by omega) j hj hjk))⟩ (hw.sub (Sub.nil _)))
    · skip
      refine V.skip ?_
      refine X.next ?_
      refine V.region ?_
      refine O.p rfl rfl rfl (Pu.move rfl rfl) ?_
      refine O.p rfl rfl rfl (Pu.loadAgg rfl ag56 sz56 rfl rfl (Ld.whole 0 rfl)) ?_
      refine O.e rfl rfl rfl (Ef.callM 1 call81 rfl rfl rfl (fun H _ => put_true _ _ (bs[k]'e1) _ H (hb _ (List.getElem_mem e1)).pts)) ?_
      rintro _ _ ⟨rfl, rfl⟩
      refine O.nil ?_
      refine X.blockNormal ?_
      refine X.next ?_
      refine V.region ?_
      refine O.p rfl rfl rfl (Pu.add64 (r := ((k + 1 : Nat) : Int)) rfl (by omega) rfl rfl rfl) ?_
      refine O.p rfl rfl rfl (Pu.move rfl rfl) ?_
      refine O.nil ?_
      exact X.back2 (k + 1) ⟨by omega, fitsAt_succ (by omega) hf ((isLeft_fits (by omega) (fun b hb' => (hb b hb').three)).1 c2)⟩ (by omega) (Ent.cons rfl (Ent.nil _)) (Ent.cons (t := 4) rfl (Ent.cons (t := 8) rfl (Ent.cons (t := 9) rfl (Ent.nil _)))) (Sub.cons 1 rfl (fun w F h => by rw [tab_succ (by omega)]; exact h) (Sub.nil _))
  · skip
    refine V.exit ?_
    refine X.thenExit ?_
    refine X.thenExit ?_
    refine X.blockHit ?_
    refine X.next ?_
    refine V.seq ?_
    refine V.region ?_
    refine O.p rfl rfl rfl (Pu.move rfl rfl) ?_
    refine O.p rfl rfl rfl (Pu.assign rfl rfl) ?_
    refine O.p rfl rfl rfl (Pu.assign rfl rfl) ?_
    refine O.nil ?_
    refine X.next ?_
    refine V.ret ?_
    refine X.ret2 rfl rfl rfl ?_
    exact fun w hw => St.mkExi (some g1) (St.unsep (St.addPur ⟨rfl, fitsAt_len (by omega) hf⟩ (hw.sub (Sub.cons 0 rfl (fun w F h => by rwa [List.take_of_length_le (by omega)] at h) (Sub.nil _)))))
set_option maxRecDepth 100000 in
theorem areBlocks_ok (v : Int) (bs : List B3) (A : Option Addr) (c : Nat) (w : World) (hx : Rd B3C w A bs) (lx : bs.length ≤ 4611686018427387904) : Does Try.prog 64 [.int .i64 v, .slice A bs.length c] w [] (fun r => [.pur (r = .bool (decide (STS v bs)))]) := by
  refine Does.enter Try.func64 rfl rfl [(0, .int .i64 v), (1, .slice A bs.length c)] rfl ?_
  refine V.seq ?_
  refine V.region ?_
  refine O.p rfl rfl rfl (Pu.assign rfl rfl) ?_
  refine O.nil ?_
  refine X.next ?_
  refine V.seq ?_
  refine V.seq ?_
  refine V.region ?_
  refine O.p rfl rfl rfl (Pu.move rfl rfl) ?_
  refine O.e rfl rfl rfl (Ef.callP call37 rfl rfl (fun w hw => within_ok _ _ _ _)) ?_
  rintro _ _ ⟨rfl, rfl⟩
  refine O.p rfl rfl rfl (Pu.not rfl rfl) ?_
  refine O.p rfl rfl rfl (Pu.move rfl rfl) ?_
  refine O.splitN 12 rfl (fun c1 => ?_) (fun c1 => ?_)
  · skip
    refine O.gs rfl rfl rfl rfl rfl rfl ?_
    refine O.gs rfl rfl rfl rfl rfl rfl ?_
    refine O.gs rfl rfl rfl rfl rfl rfl ?_
    refine O.p rfl rfl rfl (Pu.pickT rfl rfl rfl) ?_
    refine O.nil ?_
    refine X.next ?_
    refine V.condT rfl ?_
    refine V.seq ?_
    refine V.region ?_
    refine O.p rfl rfl rfl (Pu.assign rfl rfl) ?_
    refine O.nil ?_
    refine X.next ?_
    refine V.ret ?_
    refine X.thenRet ?_
    refine X.ret1 rfl rfl ?_
    exact fun w hw => St.retP (boolF (fun h => c1 ⟨h.lo, h.hi⟩)) hw
  · skip
    refine O.gp rfl rfl rfl rfl rfl (Pu.move rfl rfl) ?_
    refine O.gp rfl rfl rfl rfl rfl (Pu.len rfl Try.underlying24 rfl) ?_
    refine O.gp rfl rfl rfl rfl rfl (Pu.gtr rfl rfl rfl) ?_
    refine O.p rfl rfl rfl (Pu.pickF rfl rfl rfl) ?_
    refine O.nil ?_
    refine X.next ?_
    refine V.condD rfl (fun c2 => ?_) (fun c2 => ?_)
    · skip
      refine V.seq ?_
      refine V.region ?_
      refine O.p rfl rfl rfl (Pu.assign rfl rfl) ?_
      refine O.nil ?_
      refine X.next ?_
      refine V.ret ?_
      refine X.thenRet ?_
      refine X.ret1 rfl rfl ?_
      exact fun w hw => St.retP (boolF (fun h => by have := h.few; omega)) hw
    · skip
      refine V.skip ?_
      refine X.next ?_
      refine V.seq ?_
      refine V.seq ?_
      refine V.region ?_
      refine O.p rfl rfl rfl (Pu.move rfl rfl) ?_
      refine O.p rfl rfl rfl (Pu.len rfl Try.underlying24 rfl) ?_
      refine O.p rfl rfl rfl (Pu.move rfl rfl) ?_
      refine O.nil ?_
      refine X.next ?_
      refine V.block ?_
      refine V.loop2 (β := Nat) (fun i => [(19, .int .i64 (i : Int))]) _ (fun i => []) (fun i => i ≤ bs.length ∧ ordAt v bs i) (fun i => bs.length - i) 0 ⟨by omega, ordAt_zero v bs⟩ (Ent.cons rfl (Ent.nil _)) (Ent.cons (t := 0) rfl (Ent.cons (t := 1) rfl (Ent.cons (t := 17) rfl (Ent.cons (t := 18) rfl (Ent.nil _))))) (Sub.nil _) ?_
      rintro i ⟨hi, hf⟩
      refine V.seq ?_
      refine V.region ?_
      refine O.p rfl rfl rfl (Pu.lss rfl rfl rfl) ?_
      refine O.nil ?_
      refine X.next ?_
      refine V.seq ?_
      refine V.condD rfl (fun c3 => ?_) (fun c3 => ?_)
      · skip
        refine V.skip ?_
        refine X.next ?_
        refine V.seq ?_
        refine V.block ?_
        refine V.seq ?_
        refine V.region ?_
        refine O.p rfl rfl rfl (Pu.move rfl rfl) ?_
        refine O.p rfl rfl rfl (Pu.indexAddr (i) rfl Try.underlying24 sz56 rfl rfl (by omega) (by omega) (hx.some (by omega))) ?_
        have e1 : i < bs.length := by omega
        refine O.p rfl rfl rfl (Pu.loadAgg' (v := B3.v (bs[i]'e1)) rfl rfl ag56 sz56 rfl rfl (Ld.rds (Ld.old hx) (k := i) e1 rfl)) ?_
        refine O.e rfl rfl rfl (Ef.alloc rfl zr56 rfl) ?_
        rintro _ _ ⟨b1, rfl, rfl⟩
        refine O.p rfl rfl rfl (Pu.assign rfl rfl) ?_
        refine O.s rfl rfl (Ef.storeAll 0 rfl sz56 rfl rfl rfl rfl (by simp [Value.oneCell']) rfl) ?_
        rintro _ _ rfl
        refine O.nil ?_
        refine X.next ?_
        refine V.seq ?_
        refine V.draw mo (by kernel_rfl) (fun hwf => ?_)
        refine D.p 0 rfl rfl rfl rfl rfl rfl (Pu.loadAgg rfl ag56 sz56 rfl rfl (Ld.whole 0 rfl)) ?_
        refine D.p 1 rfl rfl rfl rfl rfl rfl (Pu.move rfl rfl) ?_
        refine D.eff hwf (e := 2) rfl rfl rfl rfl (Ef.callP call76 rfl rfl (fun w hw => isBlock_ok _ _ _ (by omega))) rfl rfl rfl ?_
        rintro _ _ ⟨rfl, rfl⟩ hs
        refine ⟨fun w hw => hw, ?_⟩
        refine D.p 3 rfl rfl rfl rfl rfl rfl (Pu.not rfl rfl) ?_
        refine D.p 4 rfl rfl rfl rfl rfl rfl (Pu.move rfl rfl) ?_
        refine D.splitN 28 rfl (fun c4 => ?_) (fun c4 => ?_)
        · skip
          refine D.gs 5 rfl rfl rfl rfl rfl rfl rfl rfl rfl ?_
          refine D.gs 6 rfl rfl rfl rfl rfl rfl rfl rfl rfl ?_
          refine D.gs 7 rfl rfl rfl rfl rfl rfl rfl rfl rfl ?_
          refine D.gs 8 rfl rfl rfl rfl rfl rfl rfl rfl rfl ?_
          refine D.gs 9 rfl rfl rfl rfl rfl rfl rfl rfl rfl ?_
          refine D.gs 10 rfl rfl rfl rfl rfl rfl rfl rfl rfl ?_
          refine D.gs 11 rfl rfl rfl rfl rfl rfl rfl rfl rfl ?_
          refine D.gs 12 rfl rfl rfl rfl rfl rfl rfl rfl rfl ?_
          refine D.gs 13 rfl rfl rfl rfl rfl rfl rfl rfl rfl ?_
          refine D.gs 14 rfl rfl rfl rfl rfl rfl rfl rfl rfl ?_
          refine D.gs 15 rfl rfl rfl rfl rfl rfl rfl rfl rfl ?_
          refine D.gs 16 rfl rfl rfl rfl rfl rfl rfl rfl rfl ?_
          refine D.p 17 rfl rfl rfl rfl rfl rfl (Pu.pickT rfl rfl rfl) ?_
          refine D.done hwf rfl ?_
          refine X.next ?_
          refine V.condT rfl ?_
          refine V.seq ?_
          refine V.region ?_
          refine O.p rfl rfl rfl (Pu.assign rfl rfl) ?_
          refine O.nil ?_
          refine X.next ?_
          refine V.ret ?_
          refine X.blockRet ?_
          refine X.thenRet ?_
          refine X.thenRet ?_
          refine X.blockRet ?_
          refine X.thenRet ?_
          refine X.ret1 rfl rfl ?_
          exact fun w hw => St.retP (boolF (fun h => c4 (h.ord i (by omega) (by omega)).1)) hw
        · skip
          refine D.gp 5 rfl rfl rfl rfl rfl rfl rfl rfl (Pu.move rfl rfl) ?_
          refine D.gp 6 rfl rfl rfl rfl rfl rfl rfl rfl (Pu.gtr rfl rfl rfl) ?_
          refine D.gp 7 rfl rfl rfl rfl rfl rfl rfl rfl (Pu.move rfl rfl) ?_
          refine D.splitD 31 rfl (fun c5 => ?_) (fun c5 => ?_)
          · skip
            refine D.gp 8 rfl rfl rfl rfl rfl rfl rfl rfl (Pu.move rfl rfl) ?_
            refine D.gp 9 rfl rfl rfl rfl rfl rfl rfl rfl (Pu.move rfl rfl) ?_
            refine D.gp 10 rfl rfl rfl rfl rfl rfl rfl rfl (Pu.sub64 (r := ((i - 1 : Nat) : Int)) (by omega) (by omega) rfl rfl rfl) ?_
            refine D.gp 11 rfl rfl rfl rfl rfl rfl rfl rfl (Pu.indexAddr (i - 1) rfl Try.underlying24 sz56 rfl rfl (by omega) (by omega) (hx.some (by omega))) ?_
            have e2 : i - 1 < bs.length := by omega
            refine D.gp 12 rfl rfl rfl rfl rfl rfl rfl rfl (Pu.loadAgg' (v := B3.v (bs[i - 1]'e2)) rfl rfl ag56 sz56 rfl rfl (Ld.rds (Ld.old hx) (k := i - 1) e2 rfl)) ?_
            refine D.gp 13 rfl rfl rfl rfl rfl rfl rfl rfl (Pu.loadAgg rfl ag56 sz56 rfl rfl (Ld.whole 0 rfl)) ?_
            refine D.geff hwf (e := 14) rfl rfl rfl rfl rfl rfl (Ef.callP call77 rfl rfl (fun w hw => compare_ok _ _ _)) rfl rfl rfl ?_
            rintro _ _ ⟨rfl, rfl⟩ hs
            refine ⟨fun w hw => hw, ?_⟩
            refine D.gp 15 rfl rfl rfl rfl rfl rfl rfl rfl (Pu.geq rfl rfl rfl) ?_
            refine D.gp 16 rfl rfl rfl rfl rfl rfl rfl rfl (Pu.pickT rfl rfl rfl) ?_
            refine D.p 17 rfl rfl rfl rfl rfl rfl (Pu.pickF rfl rfl rfl) ?_
            refine D.done hwf rfl ?_
            refine X.next ?_
            refine V.condD rfl (fun c6 => ?_) (fun c6 => ?_)
            · skip
              refine V.seq ?_
              refine V.region ?_
              refine O.p rfl rfl rfl (Pu.assign rfl rfl) ?_
              refine O.nil ?_
              refine X.next ?_
              refine V.ret ?_
              refine X.blockRet ?_
              refine X.thenRet ?_
              refine X.thenRet ?_
              refine X.blockRet ?_
              refine X.thenRet ?_
              refine X.ret1 rfl rfl ?_
              exact fun w hw => St.retP (boolF (fun h => by have := (cmpL_bl _ _).2 ((h.ord i (by omega) (by omega)).2 (i - 1) (by omega) (by omega)); omega)) hw
            · skip
              refine V.skip ?_
              refine X.blockNormal ?_
              refine X.next ?_
              refine V.region ?_
              refine O.p rfl rfl rfl (Pu.add64 (r := ((i + 1 : Nat) : Int)) rfl (by omega) rfl rfl rfl) ?_
              refine O.p rfl rfl rfl (Pu.move rfl rfl) ?_
              refine O.nil ?_
              exact X.back2 (i + 1) ⟨by omega, ordAt_succ (by omega) hf (by assumption) (fun j hj e => by subst e; exact (cmpL_bl _ _).1 (by simp only [Nat.add_sub_cancel] at c6; omega))⟩ (by omega) (Ent.cons rfl (Ent.nil _)) (Ent.cons (t := 0) rfl (Ent.cons (t := 1) rfl (Ent.cons (t := 17) rfl (Ent.cons (t := 18) rfl (Ent.nil _))))) (Sub.nil _)
          · skip
            refine D.gs 8 rfl rfl rfl rfl rfl rfl rfl rfl rfl ?_
            refine D.gs 9 rfl rfl rfl rfl rfl rfl rfl rfl rfl ?_
            refine D.gs 10 rfl rfl rfl rfl rfl rfl rfl rfl rfl ?_
            refine D.gs 11 rfl rfl rfl rfl rfl rfl rfl rfl rfl ?_
            refine D.gs 12 rfl rfl rfl rfl rfl rfl rfl rfl rfl ?_
            refine D.gs 13 rfl rfl rfl rfl rfl rfl rfl rfl rfl ?_
            refine D.gs 14 rfl rfl rfl rfl rfl rfl rfl rfl rfl ?_
            refine D.gs 15 rfl rfl rfl rfl rfl rfl rfl rfl rfl ?_
            refine D.gp 16 rfl rfl rfl rfl rfl rfl rfl rfl (Pu.pickF rfl rfl rfl) ?_
            refine D.p 17 rfl rfl rfl rfl rfl rfl (Pu.pickF rfl rfl rfl) ?_
            refine D.done hwf rfl ?_
            refine X.next ?_
            refine V.condF rfl ?_
            refine V.skip ?_
            refine X.blockNormal ?_
            refine X.next ?_
            refine V.region ?_
            refine O.p rfl rfl rfl (Pu.add64 (r := ((i + 1 : Nat) : Int)) rfl (by omega) rfl rfl rfl) ?_
            refine O.p rfl rfl rfl (Pu.move rfl rfl) ?_
            refine O.nil ?_
            exact X.back2 (i + 1) ⟨by omega, ordAt_succ (by omega) hf (by assumption) (fun j hj e => by omega)⟩ (by omega) (Ent.cons rfl (Ent.nil _)) (Ent.cons (t := 0) rfl (Ent.cons (t := 1) rfl (Ent.cons (t := 17) rfl (Ent.cons (t := 18) rfl (Ent.nil _))))) (Sub.nil _)
      · skip
        refine V.exit ?_
        refine X.thenExit ?_
        refine X.thenExit ?_
        refine X.blockHit ?_
        refine X.next ?_
        refine V.seq ?_
        refine V.region ?_
        refine O.p rfl rfl rfl (Pu.move rfl rfl) ?_
        refine O.e rfl rfl rfl (Ef.call1 call78 rfl rfl (fun w hw => gridOf_ok bs _ _ w ((Ld.old hx) w hw) (by omega) (fun b hb => ((ordAt.good (by omega) hf) b hb).mono (by omega)))) ?_
        rintro v_ _ rfl; refine O.exi (fun g => ?_); rcases g with _ | g
        · skip
          refine O.pur ?_
          rintro ⟨rfl, hfit⟩
          refine O.p rfl rfl rfl (Pu.move rfl rfl) ?_
          refine O.p rfl rfl rfl (Pu.extract rfl rfl rfl) ?_
          refine O.p rfl rfl rfl (Pu.extract rfl rfl rfl) ?_
          refine O.p rfl rfl rfl (Pu.assign rfl rfl) ?_
          refine O.p rfl rfl rfl (Pu.assign rfl rfl) ?_
          refine O.nil ?_
          refine X.next ?_
          refine V.seq ?_
          refine V.region ?_
          refine O.p rfl rfl rfl (Pu.move rfl rfl) ?_
          refine O.p rfl rfl rfl (Pu.assign rfl rfl) ?_
          refine O.nil ?_
          refine X.next ?_
          refine V.ret ?_
          refine X.ret1 rfl rfl ?_
          exact fun w hw => St.retP (boolF (fun h => hfit h.fits)) hw
        · skip
          refine O.sep ?_
          refine O.pur ?_
          rintro ⟨rfl, hfit⟩
          refine O.p rfl rfl rfl (Pu.move rfl rfl) ?_
          refine O.p rfl rfl rfl (Pu.extract rfl rfl rfl) ?_
          refine O.p rfl rfl rfl (Pu.extract rfl rfl rfl) ?_
          refine O.p rfl rfl rfl (Pu.assign rfl rfl) ?_
          refine O.p rfl rfl rfl (Pu.assign rfl rfl) ?_
          refine O.nil ?_
          refine X.next ?_
          refine V.seq ?_
          refine V.region ?_
          refine O.p rfl rfl rfl (Pu.move rfl rfl) ?_
          refine O.p rfl rfl rfl (Pu.assign rfl rfl) ?_
          refine O.nil ?_
          refine X.next ?_
          refine V.ret ?_
          refine X.ret1 rfl rfl ?_
          exact fun w hw => St.retP (boolT ⟨c1.1, c1.2, by omega, ordAt_len (by omega) hf, hfit⟩) hw
set_option maxRecDepth 100000 in
theorem IsSystem_ok (v : Int) (bs : List B3) (A : Option Addr) (c : Nat) (w : World) (hx : Rd B3C w A bs) (lx : bs.length ≤ 4611686018427387904) : Does Try.prog 46 [.agg #[.int .i64 v, .slice A bs.length c]] w [] (fun r => [.pur (r = .bool (decide (STS v bs)))]) := by
  refine Does.enter Try.func46 rfl rfl [(0, .agg #[.int .i64 v, .slice A bs.length c])] rfl ?_
  refine V.seq ?_
  refine V.region ?_
  refine O.e rfl rfl rfl (Ef.box rfl rfl rfl) ?_
  rintro _ _ ⟨b1, rfl, rfl⟩
  refine O.p rfl rfl rfl (Pu.assign rfl rfl) ?_
  refine O.nil ?_
  refine X.next ?_
  refine V.seq ?_
  refine V.region ?_
  refine O.p rfl rfl rfl (Pu.fieldAddr 0 rfl Try.underlying26 rfl sz2 rfl rfl) ?_
  refine O.p rfl rfl rfl (Pu.load rfl pl2 rfl (Ld.blk 0 rfl rfl)) ?_
  refine O.p rfl rfl rfl (Pu.fieldAddr 1 rfl Try.underlying26 rfl sz24 rfl rfl) ?_
  refine O.p rfl rfl rfl (Pu.load rfl pl24 rfl (Ld.blk 0 rfl rfl)) ?_
  refine O.e rfl rfl rfl (Ef.callP call64 rfl rfl (fun w hw => areBlocks_ok _ bs _ _ w ((Ld.old hx) w hw) (by omega))) ?_
  rintro _ _ ⟨rfl, rfl⟩
  refine O.p rfl rfl rfl (Pu.assign rfl rfl) ?_
  refine O.nil ?_
  refine X.next ?_
  refine V.ret ?_
  refine X.ret1 rfl rfl ?_
  exact fun w hw => St.retP (rfl) hw
set_option maxRecDepth 100000 in
theorem l01Own_ok (xs : List Int) (A : Option Addr) (c : Nat) (w : World) (hx : Rd I64 w A xs) (hA : A.isSome = true) (lx : xs.length ≤ 1099511627776) : Does Try.prog 63 [.slice A xs.length c] w [] (fun v => [.exi fun p : (Option Addr × Nat) × List Int => .sep (.pur (v = .slice p.1.1 p.2.length p.1.2 ∧ p.2 = xs)) (Own 2 I64 p.1.1 p.1.2 p.2)]) := by
  refine Does.enter Try.func63 rfl rfl [(0, .slice A xs.length c)] rfl ?_
  refine V.seq ?_
  refine V.region ?_
  refine O.p rfl rfl rfl (Pu.assign rfl rfl) ?_
  refine O.nil ?_
  refine X.next ?_
  refine V.seq ?_
  refine V.region ?_
  refine O.e rfl rfl rfl (Ef.build I64 ([] : List Int) rfl Try.underlying34 inf2 rfl rfl rfl (by first | decide | (simp; done)) (by kernel_rfl)) ?_
  rintro _ _ ⟨A1, hA1, rfl, rfl⟩
  refine O.p rfl rfl rfl (Pu.move rfl rfl) ?_
  refine O.e rfl rfl rfl (Ef.append (xs := ([] : List Int)) (ys := xs) 0 rfl Try.underlying34 inf2 rfl rfl rfl rfl rfl rfl hA (Ld.old hx) (by simp only [List.length_append, List.length_cons, List.length_nil] at *; omega) (by decide)) ?_
  rintro _ _ ⟨A2, k1, rfl, rfl, hA2⟩
  replace hA2 := hA2 (.inl hA1)
  refine O.p rfl rfl rfl (Pu.assign rfl rfl) ?_
  refine O.nil ?_
  refine X.next ?_
  refine V.ret ?_
  refine X.ret1 rfl rfl ?_
  exact fun w hw => St.retX ((A2, k1), [] ++ xs) ⟨rfl, rfl⟩ (hw.sub (Sub.keep 0 rfl (Sub.nil _)))
set_option maxRecDepth 100000 in
theorem l01With_ok (b : B3) (p : Int) (w : World) : Does Try.prog 93 [B3.v b, .int .i64 p] w [] (fun v => [.pur (v = .bool (decide (has b p)))]) := by
  refine Does.enter Try.func93 rfl rfl [(0, B3.v b), (1, .int .i64 p)] rfl ?_
  refine V.seq ?_
  refine V.region ?_
  refine O.e rfl rfl rfl (Ef.box rfl rfl rfl) ?_
  rintro _ _ ⟨b1, rfl, rfl⟩
  refine O.p rfl rfl rfl (Pu.assign rfl rfl) ?_
  refine O.nil ?_
  refine X.next ?_
  refine V.seq ?_
  refine V.region ?_
  refine O.p rfl rfl rfl (Pu.indexArr 0 0 rfl Try.underlying56 sz2 rfl rfl (by decide) (by decide) (by decide)) ?_
  refine O.p rfl rfl rfl (Pu.load rfl pl2 rfl (Ld.blk 0 rfl rfl)) ?_
  refine O.p rfl rfl rfl (Pu.move rfl rfl) ?_
  refine O.p rfl rfl rfl (Pu.eql rfl rfl rfl) ?_
  refine O.p rfl rfl rfl (Pu.move rfl rfl) ?_
  refine O.splitD 9 rfl (fun c1 => ?_) (fun c1 => ?_)
  · skip
    refine O.gs rfl rfl rfl rfl rfl rfl ?_
    refine O.gs rfl rfl rfl rfl rfl rfl ?_
    refine O.gs rfl rfl rfl rfl rfl rfl ?_
    refine O.gs rfl rfl rfl rfl rfl rfl ?_
    refine O.p rfl rfl rfl (Pu.pickT rfl rfl rfl) ?_
    refine O.p rfl rfl rfl (Pu.move rfl rfl) ?_
    refine O.gs rfl rfl rfl rfl rfl rfl ?_
    refine O.gs rfl rfl rfl rfl rfl rfl ?_
    refine O.gs rfl rfl rfl rfl rfl rfl ?_
    refine O.gs rfl rfl rfl rfl rfl rfl ?_
    refine O.p rfl rfl rfl (Pu.pickT rfl rfl rfl) ?_
    refine O.p rfl rfl rfl (Pu.assign rfl rfl) ?_
    refine O.nil ?_
    refine X.next ?_
    refine V.ret ?_
    refine X.ret1 rfl rfl ?_
    exact fun w hw => St.retP (by first | exact boolT (.inl c1) | exact boolT (.inr (.inl c2)) | exact boolT (.inr (.inl c3)) | exact boolD (by unfold has; simp only [c1, c2, false_or])) hw
  · skip
    refine O.gp rfl rfl rfl rfl rfl (Pu.indexArr 1 1 rfl Try.underlying56 sz2 rfl rfl (by decide) (by decide) (by decide)) ?_
    refine O.gp rfl rfl rfl rfl rfl (Pu.load rfl pl2 rfl (Ld.blk 0 rfl rfl)) ?_
    refine O.gp rfl rfl rfl rfl rfl (Pu.move rfl rfl) ?_
    refine O.gp rfl rfl rfl rfl rfl (Pu.eql rfl rfl rfl) ?_
    refine O.p rfl rfl rfl (Pu.pickF rfl rfl rfl) ?_
    refine O.p rfl rfl rfl (Pu.move rfl rfl) ?_
    refine O.splitD 15 rfl (fun c2 => ?_) (fun c2 => ?_)
    · skip
      refine O.gs rfl rfl rfl rfl rfl rfl ?_
      refine O.gs rfl rfl rfl rfl rfl rfl ?_
      refine O.gs rfl rfl rfl rfl rfl rfl ?_
      refine O.gs rfl rfl rfl rfl rfl rfl ?_
      refine O.p rfl rfl rfl (Pu.pickT rfl rfl rfl) ?_
      refine O.p rfl rfl rfl (Pu.assign rfl rfl) ?_
      refine O.nil ?_
      refine X.next ?_
      refine V.ret ?_
      refine X.ret1 rfl rfl ?_
      exact fun w hw => St.retP (by first | exact boolT (.inl c1) | exact boolT (.inr (.inl c2)) | exact boolT (.inr (.inl c3)) | exact boolD (by unfold has; simp only [c1, c2, false_or])) hw
    · skip
      refine O.gp rfl rfl rfl rfl rfl (Pu.indexArr 2 2 rfl Try.underlying56 sz2 rfl rfl (by decide) (by decide) (by decide)) ?_
      refine O.gp rfl rfl rfl rfl rfl (Pu.load rfl pl2 rfl (Ld.blk 0 rfl rfl)) ?_
      refine O.gp rfl rfl rfl rfl rfl (Pu.move rfl rfl) ?_
      refine O.gp rfl rfl rfl rfl rfl (Pu.eql rfl rfl rfl) ?_
      refine O.p rfl rfl rfl (Pu.pickF rfl rfl rfl) ?_
      refine O.p rfl rfl rfl (Pu.assign rfl rfl) ?_
      refine O.nil ?_
      refine X.next ?_
      refine V.ret ?_
      refine X.ret1 rfl rfl ?_
      exact fun w hw => St.retP (by first | exact boolT (.inl c1) | exact boolT (.inr (.inl c2)) | exact boolT (.inr (.inl c3)) | exact boolD (by unfold has; simp only [c1, c2, false_or])) hw
/-- A list with its number: all that are such, or nothing. -/
def ResL (ok : Prop) (p : List Int → Prop) (l : List (List Int)) : Prop := (ok → IsList p l) ∧ (¬ ok → l = [])
theorem ResL.unique {ok : Prop} {p : List Int → Prop} {l m : List (List Int)} (h1 : ResL ok p l) (h2 : ResL ok p m) : l = m := by
  by_cases h : ok
  · exact (h1.1 h).unique (h2.1 h)
  · rw [h1.2 h, h2.2 h]
set_option maxRecDepth 100000 in
set_option maxHeartbeats 1000000 in
theorem l01Third_ok (v : Int) (bs : List B3) (a : Int) (b : Int) (A : Option Addr) (c : Nat) (w : World) (hx : Rd B3C w A bs) (lx : bs.length ≤ 4611686018427387904) (hg : ∀ d ∈ bs, good 15 d) (hpa : 0 ≤ a ∧ a ≤ 15) (hpb : 0 ≤ b ∧ b ≤ 15) : Does Try.prog 91 [.agg #[.int .i64 v, .slice A bs.length c], .int .i64 a, .int .i64 b] w [] (fun r => [.pur (r = .int .i64 (third bs a b))]) := by
  refine Does.enter Try.func91 rfl rfl [(0, .agg #[.int .i64 v, .slice A bs.length c]), (1, .int .i64 a), (2, .int .i64 b)] rfl ?_
  refine V.seq ?_
  refine V.region ?_
  refine O.e rfl rfl rfl (Ef.box rfl rfl rfl) ?_
  rintro _ _ ⟨b1, rfl, rfl⟩
  refine O.p rfl rfl rfl (Pu.assign rfl rfl) ?_
  refine O.nil ?_
  refine X.next ?_
  refine V.seq ?_
  refine V.seq ?_
  refine V.region ?_
  refine O.p rfl rfl rfl (Pu.assign rfl rfl) ?_
  refine O.nil ?_
  refine X.next ?_
  refine V.block ?_
  refine V.loop3 (β := Nat) (fun i => [(7, .int .i64 (i : Int))]) _ (fun i => []) _ (fun i => i ≤ bs.length ∧ ∀ j (hj : j < bs.length), j < i → ¬ (has bs[j] a ∧ has bs[j] b)) (fun i => bs.length - i) 0 ⟨by omega, fun j hj h => by omega⟩ (Ent.cons rfl (Ent.nil _)) (Ent.cons (t := 1) rfl (Ent.cons (t := 2) rfl (Ent.cons (t := 3) rfl (Ent.nil _)))) (Sub.keep 0 rfl (Sub.nil _)) ?_
  rintro i ⟨hi, hn⟩
  refine V.seq ?_
  refine V.seq ?_
  refine V.region ?_
  refine O.p rfl rfl rfl (Pu.move rfl rfl) ?_
  refine O.p rfl rfl rfl (Pu.fieldAddr 1 rfl Try.underlying26 rfl sz24 rfl rfl) ?_
  refine O.p rfl rfl rfl (Pu.load rfl pl24 rfl (Ld.blk 0 rfl rfl)) ?_
  refine O.p rfl rfl rfl (Pu.len rfl Try.underlying24 rfl) ?_
  refine O.p rfl rfl rfl (Pu.lss rfl rfl rfl) ?_
  refine O.nil ?_
  refine X.next ?_
  refine V.condD rfl (fun c1 => ?_) (fun c1 => ?_)
  · skip
    refine V.skip ?_
    refine X.next ?_
    refine V.seq ?_
    refine V.block ?_
    refine V.seq ?_
    refine V.region ?_
    refine O.p rfl rfl rfl (Pu.fieldAddr 1 rfl Try.underlying26 rfl sz24 rfl rfl) ?_
    refine O.p rfl rfl rfl (Pu.load rfl pl24 rfl (Ld.blk 0 rfl rfl)) ?_
    refine O.p rfl rfl rfl (Pu.move rfl rfl) ?_
    refine O.p rfl rfl rfl (Pu.indexAddr (i) rfl Try.underlying24 sz56 rfl rfl (by omega) (by omega) (hx.some (by omega))) ?_
    have e1 : i < bs.length := by omega
    refine O.p rfl rfl rfl (Pu.loadAgg' (v := B3.v (bs[i]'e1)) rfl rfl ag56 sz56 rfl rfl (Ld.rds (Ld.old hx) (k := i) e1 rfl)) ?_
    refine O.e rfl rfl rfl (Ef.alloc rfl zr56 rfl) ?_
    rintro _ _ ⟨b2, rfl, rfl⟩
    refine O.s rfl rfl (Ef.storeAll 0 rfl sz56 rfl rfl rfl rfl (by simp [Value.oneCell']) rfl) ?_
    rintro _ _ rfl
    refine O.nil ?_
    refine X.next ?_
    refine V.seq ?_
    refine V.region ?_
    refine O.p rfl rfl rfl (Pu.loadAgg' (v := B3.v (bs[i]'e1)) rfl rfl ag56 sz56 rfl rfl (Ld.whole 0 rfl)) ?_
    refine O.p rfl rfl rfl (Pu.move rfl rfl) ?_
    refine O.e rfl rfl rfl (Ef.callP call93 rfl rfl (fun w hw => l01With_ok (bs[i]'e1) _ w)) ?_
    rintro _ _ ⟨rfl, rfl⟩
    refine O.p rfl rfl rfl (Pu.move rfl rfl) ?_
    refine O.splitD 24 rfl (fun c2 => ?_) (fun c2 => ?_)
    · skip
      refine O.gp rfl rfl rfl rfl rfl (Pu.loadAgg' (v := B3.v (bs[i]'e1)) rfl rfl ag56 sz56 rfl rfl (Ld.whole 0 rfl)) ?_
      refine O.gp rfl rfl rfl rfl rfl (Pu.move rfl rfl) ?_
      refine O.ge rfl rfl rfl rfl rfl (Ef.callP call93 rfl rfl (fun w hw => l01With_ok (bs[i]'e1) _ w)) ?_
      rintro _ _ ⟨rfl, rfl⟩
      refine O.p rfl rfl rfl (Pu.pickT rfl rfl rfl) ?_
      refine O.nil ?_
      refine X.next ?_
      refine V.condD rfl (fun c3 => ?_) (fun c3 => ?_)
      · skip
        have hgi := hg _ (List.getElem_mem e1)
        unfold good at hgi
        refine V.seq ?_
        refine V.region ?_
        refine O.p rfl rfl rfl (Pu.indexArr 0 0 rfl Try.underlying56 sz2 rfl rfl (by decide) (by decide) (by decide)) ?_
        refine O.p rfl rfl rfl (Pu.load rfl pl2 rfl (Ld.blk 0 rfl rfl)) ?_
        refine O.p rfl rfl rfl (Pu.indexArr 1 1 rfl Try.underlying56 sz2 rfl rfl (by decide) (by decide) (by decide)) ?_
        refine O.p rfl rfl rfl (Pu.load rfl pl2 rfl (Ld.blk 0 rfl rfl)) ?_
        refine O.p rfl rfl rfl (Pu.add64 rfl (by omega) rfl rfl rfl) ?_
        refine O.p rfl rfl rfl (Pu.indexArr 2 2 rfl Try.underlying56 sz2 rfl rfl (by decide) (by decide) (by decide)) ?_
        refine O.p rfl rfl rfl (Pu.load rfl pl2 rfl (Ld.blk 0 rfl rfl)) ?_
        refine O.p rfl rfl rfl (Pu.add64 rfl (by omega) rfl rfl rfl) ?_
        refine O.p rfl rfl rfl (Pu.move rfl rfl) ?_
        refine O.p rfl rfl rfl (Pu.sub64 rfl (by omega) rfl rfl rfl) ?_
        refine O.p rfl rfl rfl (Pu.move rfl rfl) ?_
        refine O.p rfl rfl rfl (Pu.sub64 rfl (by omega) rfl rfl rfl) ?_
        refine O.p rfl rfl rfl (Pu.assign rfl rfl) ?_
        refine O.nil ?_
        refine X.next ?_
        refine V.ret ?_
        refine X.blockRet ?_
        refine X.thenRet ?_
        refine X.thenRet ?_
        refine X.blockRet ?_
        refine X.thenRet ?_
        refine X.ret1 rfl rfl ?_
        exact fun w hw => St.retP (iv ((third_found e1 c2 c3 hn).2.symm)) hw
      · skip
        refine V.skip ?_
        refine X.blockNormal ?_
        refine X.next ?_
        refine V.region ?_
        refine O.p rfl rfl rfl (Pu.move rfl rfl) ?_
        refine O.p rfl rfl rfl (Pu.add64 (r := ((i + 1 : Nat) : Int)) rfl (by omega) rfl rfl rfl) ?_
        refine O.p rfl rfl rfl (Pu.assign rfl rfl) ?_
        refine O.nil ?_
        exact X.back3 (i + 1) ⟨by omega, fun j hj h hh => by by_cases e : j = i; (· subst e; exact c3 hh.2); (· exact hn j hj (by omega) hh)⟩ (by first | omega | (dsimp only; omega)) (Ent.cons rfl (Ent.nil _)) (Ent.cons (t := 1) rfl (Ent.cons (t := 2) rfl (Ent.cons (t := 3) rfl (Ent.nil _)))) (Sub.keep 1 rfl (Sub.nil _))
    · skip
      refine O.gs rfl rfl rfl rfl rfl rfl ?_
      refine O.gs rfl rfl rfl rfl rfl rfl ?_
      refine O.gs rfl rfl rfl rfl rfl rfl ?_
      refine O.p rfl rfl rfl (Pu.pickF rfl rfl rfl) ?_
      refine O.nil ?_
      refine X.next ?_
      refine V.condF rfl ?_
      refine V.skip ?_
      refine X.blockNormal ?_
      refine X.next ?_
      refine V.region ?_
      refine O.p rfl rfl rfl (Pu.move rfl rfl) ?_
      refine O.p rfl rfl rfl (Pu.add64 (r := ((i + 1 : Nat) : Int)) rfl (by omega) rfl rfl rfl) ?_
      refine O.p rfl rfl rfl (Pu.assign rfl rfl) ?_
      refine O.nil ?_
      exact X.back3 (i + 1) ⟨by omega, fun j hj h hh => by by_cases e : j = i; (· subst e; exact c2 hh.1); (· exact hn j hj (by omega) hh)⟩ (by first | omega | (dsimp only; omega)) (Ent.cons rfl (Ent.nil _)) (Ent.cons (t := 1) rfl (Ent.cons (t := 2) rfl (Ent.cons (t := 3) rfl (Ent.nil _)))) (Sub.keep 1 rfl (Sub.nil _))
  · skip
    refine V.exit ?_
    refine X.thenExit ?_
    refine X.thenExit ?_
    refine X.blockHit ?_
    refine X.next ?_
    refine V.seq ?_
    refine V.region ?_
    refine O.p rfl rfl rfl (Pu.assign rfl rfl) ?_
    refine O.nil ?_
    refine X.next ?_
    refine V.ret ?_
    refine X.ret1 rfl rfl ?_
    exact fun w hw => St.retP (iv ((third_none (fun j hj => hn j hj (by omega))).2.symm)) hw
set_option maxRecDepth 100000 in
theorem cloneB_ok (xs : List B3) (A : Option Addr) (c : Nat) (w : World) (hx : Rd B3C w A xs) (lx : xs.length ≤ 1099511627776) : Does Try.prog 51 [.slice A xs.length c] w [] (fun v => [.exi fun p : (Option Addr × Nat) × List B3 => .sep (.pur (v = .slice p.1.1 p.2.length p.1.2 ∧ p.2 = xs)) (Own 56 B3C p.1.1 p.1.2 p.2)]) := by
  refine Does.enter Try.func51 rfl rfl [(0, .slice A xs.length c)] rfl ?_
  refine V.seq ?_
  refine V.region ?_
  refine O.p rfl rfl rfl (Pu.assign rfl rfl) ?_
  refine O.nil ?_
  refine X.next ?_
  refine V.seq ?_
  refine V.seq ?_
  refine V.region ?_
  refine O.p rfl rfl rfl (Pu.move rfl rfl) ?_
  refine O.p rfl rfl rfl (Pu.eqlNil Try.underlying24 rfl rfl rfl) ?_
  refine O.nil ?_
  refine X.next ?_
  refine V.cond rfl (fun c1 => ?_) (fun c1 => ?_)
  · skip
    refine V.seq ?_
    refine V.region ?_
    refine O.p rfl rfl rfl (Pu.assign rfl rfl) ?_
    refine O.nil ?_
    refine X.next ?_
    refine V.ret ?_
    refine X.thenRet ?_
    refine X.ret1 rfl rfl ?_
    exact fun w hw => St.retX ((none, 0), []) ⟨rfl, (Rd.none hx (none_of c1)).symm⟩ (St.addNil hw)
  · skip
    refine V.skip ?_
    refine X.next ?_
    refine V.seq ?_
    refine V.region ?_
    refine O.e rfl rfl rfl (Ef.build B3C ([] : List B3) rfl Try.underlying24 inf56 rfl rfl rfl (by first | decide | (simp; done)) (by kernel_rfl)) ?_
    rintro _ _ ⟨A1, hA1, rfl, rfl⟩
    refine O.p rfl rfl rfl (Pu.move rfl rfl) ?_
    refine O.e rfl rfl rfl (Ef.append (xs := ([] : List B3)) (ys := xs) 0 rfl Try.underlying24 inf56 rfl rfl rfl rfl rfl rfl (some_of c1) (Ld.old hx) (by simp only [List.length_append, List.length_cons, List.length_nil] at *; omega) (by decide)) ?_
    rintro _ _ ⟨A2, k1, rfl, rfl, hA2⟩
    replace hA2 := hA2 (.inl hA1)
    refine O.p rfl rfl rfl (Pu.assign rfl rfl) ?_
    refine O.nil ?_
    refine X.next ?_
    refine V.ret ?_
    refine X.ret1 rfl rfl ?_
    exact fun w hw => St.retX ((A2, k1), [] ++ xs) ⟨rfl, rfl⟩ (hw.sub (Sub.keep 0 rfl (Sub.nil _)))
set_option maxRecDepth 100000 in
set_option maxHeartbeats 1000000 in
theorem indexBl_ok (s : List B3) (y : B3) (sA : Option Addr) (sc : Nat) (w : World) (hs : Rd B3C w sA s) (ls : s.length ≤ 1099511627776) : Does Try.prog 70 [.slice sA s.length sc, B3.v y] w [] (fun r => [.pur (r = .int .i64 (idxP (fun x => y = x) s))]) := by
  refine Does.enter Try.func70 rfl rfl [(0, .slice sA s.length sc), (1, B3.v y)] rfl ?_
  refine V.seq ?_
  refine V.region ?_
  refine O.e rfl rfl rfl (Ef.box rfl rfl rfl) ?_
  rintro _ _ ⟨b1, rfl, rfl⟩
  refine O.p rfl rfl rfl (Pu.assign rfl rfl) ?_
  refine O.nil ?_
  refine X.next ?_
  refine V.seq ?_
  refine V.seq ?_
  refine V.region ?_
  refine O.p rfl rfl rfl (Pu.move rfl rfl) ?_
  refine O.p rfl rfl rfl (Pu.len rfl Try.underlying24 rfl) ?_
  refine O.p rfl rfl rfl (Pu.move rfl rfl) ?_
  refine O.nil ?_
  refine X.next ?_
  refine V.block ?_
  refine V.loop3 (β := Nat) (fun i => [(8, .int .i64 (i : Int))]) _ (fun i => []) _ (fun i => i ≤ s.length ∧ ∀ j (hj : j < s.length), j < i → ¬ y = s[j]) (fun i => s.length - i) 0 ⟨by omega, fun j hj h => by omega⟩ (Ent.cons rfl (Ent.nil _)) (Ent.cons (t := 0) rfl (Ent.cons (t := 3) rfl (Ent.cons (t := 7) rfl (Ent.nil _)))) (Sub.keep 0 rfl (Sub.nil _)) ?_
  rintro i ⟨hi, hn⟩
  refine V.seq ?_
  refine V.region ?_
  refine O.p rfl rfl rfl (Pu.lss rfl rfl rfl) ?_
  refine O.nil ?_
  refine X.next ?_
  refine V.seq ?_
  refine V.condD rfl (fun c1 => ?_) (fun c1 => ?_)
  · skip
    refine V.skip ?_
    refine X.next ?_
    refine V.seq ?_
    refine V.block ?_
    refine V.seq ?_
    refine V.region ?_
    refine O.p rfl rfl rfl (Pu.move rfl rfl) ?_
    refine O.p rfl rfl rfl (Pu.assign rfl rfl) ?_
    refine O.nil ?_
    refine X.next ?_
    refine V.seq ?_
    refine V.draw mo (by kernel_rfl) (fun hwf => ?_)
    refine D.p 0 rfl rfl rfl rfl rfl rfl (Pu.loadAgg' (v := B3.v y) rfl rfl ag56 sz56 rfl rfl (Ld.whole 0 rfl)) ?_
    refine D.p 1 rfl rfl rfl rfl rfl rfl (Pu.move rfl rfl) ?_
    refine D.p 2 rfl rfl rfl rfl rfl rfl (Pu.move rfl rfl) ?_
    refine D.p 3 rfl rfl rfl rfl rfl rfl (Pu.indexAddr (i) rfl Try.underlying24 sz56 rfl rfl (by omega) (by omega) (hs.some (by omega))) ?_
    have e1 : i < s.length := by omega
    refine D.p 4 rfl rfl rfl rfl rfl rfl (Pu.loadAgg' (v := B3.v (s[i]'e1)) rfl rfl ag56 sz56 rfl rfl (Ld.rds (Ld.old hs) (k := i) e1 rfl)) ?_
    refine D.p 5 rfl rfl rfl rfl rfl rfl (Pu.eqlB3 Try.underlying56 Try.underlying2 sz2 (by kernel_rfl) rfl rfl rfl) ?_
    refine D.done hwf rfl ?_
    refine X.next ?_
    refine V.condD rfl (fun c2 => ?_) (fun c2 => ?_)
    · skip
      refine V.seq ?_
      refine V.region ?_
      refine O.p rfl rfl rfl (Pu.move rfl rfl) ?_
      refine O.p rfl rfl rfl (Pu.assign rfl rfl) ?_
      refine O.nil ?_
      refine X.next ?_
      refine V.ret ?_
      refine X.blockRet ?_
      refine X.thenRet ?_
      refine X.thenRet ?_
      refine X.blockRet ?_
      refine X.thenRet ?_
      refine X.ret1 rfl rfl ?_
      exact fun w hw => St.retP (iv ((idxP_found (p := fun x => y = x) e1 c2 hn).symm)) hw
    · skip
      refine V.skip ?_
      refine X.blockNormal ?_
      refine X.next ?_
      refine V.region ?_
      refine O.p rfl rfl rfl (Pu.add64 (r := ((i + 1 : Nat) : Int)) rfl (by omega) rfl rfl rfl) ?_
      refine O.p rfl rfl rfl (Pu.move rfl rfl) ?_
      refine O.nil ?_
      exact X.back3 (i + 1) ⟨by omega, fun j hj h => by by_cases e : j = i; (· subst e; exact c2); (· exact hn j hj (by omega))⟩ (by first | omega | (dsimp only; omega)) (Ent.cons rfl (Ent.nil _)) (Ent.cons (t := 0) rfl (Ent.cons (t := 3) rfl (Ent.cons (t := 7) rfl (Ent.nil _)))) (Sub.keep 0 rfl (Sub.nil _))
  · skip
    refine V.exit ?_
    refine X.thenExit ?_
    refine X.thenExit ?_
    refine X.blockHit ?_
    refine X.next ?_
    refine V.seq ?_
    refine V.region ?_
    refine O.p rfl rfl rfl (Pu.assign rfl rfl) ?_
    refine O.nil ?_
    refine X.next ?_
    refine V.ret ?_
    refine X.ret1 rfl rfl ?_
    exact fun w hw => St.retP (iv ((idxP_none (p := fun x => y = x) (fun j hj => hn j hj (by omega))).symm)) hw
set_option maxRecDepth 100000 in
set_option maxHeartbeats 1000000 in
theorem containsBl_ok (s : List B3) (y : B3) (sA : Option Addr) (sc : Nat) (w : World) (hs : Rd B3C w sA s) (ls : s.length ≤ 1099511627776) : Does Try.prog 55 [.slice sA s.length sc, B3.v y] w [] (fun r => [.pur (r = .bool (decide (y ∈ s)))]) := by
  refine Does.enter Try.func55 rfl rfl [(0, .slice sA s.length sc), (1, B3.v y)] rfl ?_
  refine V.seq ?_
  refine V.region ?_
  refine O.e rfl rfl rfl (Ef.box rfl rfl rfl) ?_
  rintro _ _ ⟨b1, rfl, rfl⟩
  refine O.p rfl rfl rfl (Pu.assign rfl rfl) ?_
  refine O.nil ?_
  refine X.next ?_
  refine V.seq ?_
  refine V.region ?_
  refine O.p rfl rfl rfl (Pu.move rfl rfl) ?_
  refine O.p rfl rfl rfl (Pu.loadAgg' (v := B3.v y) rfl rfl ag56 sz56 rfl rfl (Ld.whole 0 rfl)) ?_
  refine O.e rfl rfl rfl (Ef.callP call70 rfl rfl (fun w hw => indexBl_ok  s y _ _ w ((Ld.old hs) w hw) (by first | omega | (simp only [tops_len, conts_len, bl, List.length_append, List.length_cons, List.length_nil] at *; omega)) )) ?_
  rintro _ _ ⟨rfl, rfl⟩
  refine O.p rfl rfl rfl (Pu.geq rfl rfl rfl) ?_
  refine O.p rfl rfl rfl (Pu.assign rfl rfl) ?_
  refine O.nil ?_
  refine X.next ?_
  refine V.ret ?_
  refine X.ret1 rfl rfl ?_
  exact fun w hw => St.retP (boolD (idxP_nonneg.trans ⟨fun ⟨x, hx, e⟩ => e ▸ hx, fun h => ⟨y, h, rfl⟩⟩)) hw
set_option maxRecDepth 100000 in
set_option maxHeartbeats 1000000 in
theorem next_ok (cb gb v : Nat) (G : Int → Int → Int) (m : Nat) (S F : Value) (a : Nat) (w : World) (hc : RdB w cb [.int .i64 (v : Int), .pointer (some ⟨gb, 0, none⟩), S, F]) (hG : GridAt w gb G 122) (hv : v ≤ 15) (ha : a ≤ v) (hrel : Rel v G m) (hrows : ∀ i j, i < a → i < j → j < v → usd m i j = true) : Does Try.prog 79 [.pointer (some ⟨cb, 0, none⟩), .int .i64 (a : Int)] w [] (fun r => [.exi fun (i : Nat) => .exi fun (j : Nat) => .pur (r = .tuple #[.int .i64 (i : Int), .int .i64 (j : Int), .bool (decide ((nextM v m).isSome = true))] ∧ ∀ p q, nextM v m = some (p, q) → i = p ∧ j = q ∧ IsNext v m p q)]) := by
  refine Does.enter Try.func79 rfl rfl [(0, .pointer (some ⟨cb, 0, none⟩)), (1, .int .i64 (a : Int))] rfl ?_
  refine V.seq ?_
  refine V.region ?_
  refine O.p rfl rfl rfl (Pu.assign rfl rfl) ?_
  refine O.p rfl rfl rfl (Pu.assign rfl rfl) ?_
  refine O.p rfl rfl rfl (Pu.assign rfl rfl) ?_
  refine O.nil ?_
  refine X.next ?_
  refine V.seq ?_
  refine V.block ?_
  refine V.loop2 (β := Nat) (fun x => [(1, .int .i64 (x : Int))]) _ (fun x => []) (fun x => x ≤ v ∧ ∀ i j, i < x → i < j → j < v → usd m i j = true) (fun x => v - x) a ⟨ha, hrows⟩ (Ent.cons rfl (Ent.nil _)) (Ent.cons (t := 0) rfl (Ent.nil _)) (Sub.nil _) ?_
  rintro x ⟨hx, hr⟩
  refine V.seq ?_
  refine V.seq ?_
  refine V.region ?_
  refine O.p rfl rfl rfl (Pu.move rfl rfl) ?_
  refine O.p rfl rfl rfl (Pu.move rfl rfl) ?_
  refine O.p rfl rfl rfl (Pu.nilCheck rfl rfl) ?_
  refine O.p rfl rfl rfl (Pu.fieldAddr 0 rfl Try.underlying92 rfl sz2 rfl rfl) ?_
  refine O.p rfl rfl rfl (Pu.load rfl pl2 rfl (Ld.rdb hc rfl)) ?_
  refine O.p rfl rfl rfl (Pu.lss rfl rfl rfl) ?_
  refine O.nil ?_
  refine X.next ?_
  refine V.condD rfl (fun c1 => ?_) (fun c1 => ?_)
  · skip
    refine V.skip ?_
    refine X.next ?_
    refine V.seq ?_
    refine V.block ?_
    refine V.seq ?_
    refine V.region ?_
    refine O.p rfl rfl rfl (Pu.move rfl rfl) ?_
    refine O.p rfl rfl rfl (Pu.add64 (r := ((x + 1 : Nat) : Int)) rfl (by omega) rfl rfl rfl) ?_
    refine O.p rfl rfl rfl (Pu.assign rfl rfl) ?_
    refine O.nil ?_
    refine X.next ?_
    refine V.block ?_
    refine V.loop2 (β := Nat) (fun y => [(7, .int .i64 (y : Int))]) _ (fun y => []) (fun y => x < y ∧ y ≤ v ∧ ∀ j, x < j → j < y → usd m x j = true) (fun y => v - y) (x + 1) ⟨by omega, by omega, fun j h1 h2 => by omega⟩ (Ent.cons rfl (Ent.nil _)) (Ent.cons (t := 0) rfl (Ent.cons (t := 1) rfl (Ent.nil _))) (Sub.nil _) ?_
    rintro y ⟨hy0, hy1, hy2⟩
    refine V.seq ?_
    refine V.seq ?_
    refine V.region ?_
    refine O.p rfl rfl rfl (Pu.move rfl rfl) ?_
    refine O.p rfl rfl rfl (Pu.move rfl rfl) ?_
    refine O.p rfl rfl rfl (Pu.nilCheck rfl rfl) ?_
    refine O.p rfl rfl rfl (Pu.fieldAddr 0 rfl Try.underlying92 rfl sz2 rfl rfl) ?_
    refine O.p rfl rfl rfl (Pu.load rfl pl2 rfl (Ld.rdb hc rfl)) ?_
    refine O.p rfl rfl rfl (Pu.lss rfl rfl rfl) ?_
    refine O.nil ?_
    refine X.next ?_
    refine V.condD rfl (fun c2 => ?_) (fun c2 => ?_)
    · skip
      refine V.skip ?_
      refine X.next ?_
      refine V.seq ?_
      refine V.block ?_
      refine V.seq ?_
      refine V.region ?_
      refine O.p rfl rfl rfl (Pu.move rfl rfl) ?_
      refine O.p rfl rfl rfl (Pu.nilCheck rfl rfl) ?_
      refine O.p rfl rfl rfl (Pu.fieldAddr 1 rfl Try.underlying92 rfl sz89 rfl rfl) ?_
      refine O.p rfl rfl rfl (Pu.load rfl pl89 rfl (Ld.rdb hc rfl)) ?_
      refine O.p rfl rfl rfl (Pu.move rfl rfl) ?_
      refine O.p rfl rfl rfl (Pu.move rfl rfl) ?_
      refine O.p rfl rfl rfl (Pu.nilCheck rfl rfl) ?_
      refine O.p rfl rfl rfl (Pu.indexArr (x) (0 + x * 15) rfl Try.underlying122 sz117 rfl rfl (by omega) (by omega) rfl) ?_
      refine O.p rfl rfl rfl (Pu.indexArr (y) (0 + x * 15 + y * 1) rfl Try.underlying117 sz2 rfl rfl (by omega) (by omega) rfl) ?_
      refine O.p rfl rfl rfl (Pu.load rfl pl2 rfl (Ld.gridOld (x := (↑x : Int)) (y := (↑y : Int)) hG (by omega) (by omega) (by omega))) ?_
      refine O.p rfl rfl rfl (Pu.eql rfl rfl rfl) ?_
      refine O.nil ?_
      refine X.next ?_
      refine V.condD rfl (fun c3 => ?_) (fun c3 => ?_)
      · skip
        have hI : IsNext v m x y := ⟨by omega, by omega, (hrel x y (by omega) (by omega) (by omega)).1 c3, hy2, hr⟩
        have hnx := nextM_some hI
        refine V.seq ?_
        refine V.region ?_
        refine O.p rfl rfl rfl (Pu.move rfl rfl) ?_
        refine O.p rfl rfl rfl (Pu.move rfl rfl) ?_
        refine O.p rfl rfl rfl (Pu.assign rfl rfl) ?_
        refine O.p rfl rfl rfl (Pu.assign rfl rfl) ?_
        refine O.p rfl rfl rfl (Pu.assign rfl rfl) ?_
        refine O.nil ?_
        refine X.next ?_
        refine V.ret ?_
        refine X.blockRet ?_
        refine X.thenRet ?_
        refine X.thenRet ?_
        refine X.blockRet ?_
        refine X.blockRet ?_
        refine X.thenRet ?_
        refine X.thenRet ?_
        refine X.blockRet ?_
        refine X.thenRet ?_
        refine X.ret3 rfl rfl rfl rfl ?_
        exact fun w hw => St.mkExi x (St.mkExi y (St.addPur ⟨(by have e : decide ((nextM v m).isSome = true) = true := decide_eq_true (by rw [hnx]; rfl); rw [e]), fun p q h => by rw [hnx] at h; obtain ⟨rfl, rfl⟩ := Prod.mk.inj (Option.some.inj h); exact ⟨rfl, rfl, hI⟩⟩ (hw.sub (Sub.nil _))))
      · skip
        refine V.skip ?_
        refine X.blockNormal ?_
        refine X.next ?_
        refine V.region ?_
        refine O.p rfl rfl rfl (Pu.move rfl rfl) ?_
        refine O.p rfl rfl rfl (Pu.add64 (r := ((y + 1 : Nat) : Int)) rfl (by omega) rfl rfl rfl) ?_
        refine O.p rfl rfl rfl (Pu.assign rfl rfl) ?_
        refine O.nil ?_
        exact X.back2 (y + 1) ⟨by omega, by omega, fun j h1 h2 => by by_cases e : j = y; (· subst e; cases hu : usd m x j with | true => rfl | false => exact absurd ((hrel x j (by omega) (by omega) (by omega)).2 hu) c3); (· exact hy2 j h1 (by omega))⟩ (by first | omega | (dsimp only; omega)) (Ent.cons rfl (Ent.nil _)) (Ent.cons (t := 0) rfl (Ent.cons (t := 1) rfl (Ent.nil _))) (Sub.nil _)
    · skip
      refine V.exit ?_
      refine X.thenExit ?_
      refine X.thenExit ?_
      refine X.blockHit ?_
      refine X.blockNormal ?_
      refine X.next ?_
      refine V.region ?_
      refine O.p rfl rfl rfl (Pu.move rfl rfl) ?_
      refine O.p rfl rfl rfl (Pu.add64 (r := ((x + 1 : Nat) : Int)) rfl (by omega) rfl rfl rfl) ?_
      refine O.p rfl rfl rfl (Pu.assign rfl rfl) ?_
      refine O.nil ?_
      exact X.back2 (x + 1) ⟨by omega, fun i j h1 h2 h3 => by by_cases e : i = x; (· subst e; exact hy2 j h2 (by omega)); (· exact hr i j (by omega) h2 h3)⟩ (by first | omega | (dsimp only; omega)) (Ent.cons rfl (Ent.nil _)) (Ent.cons (t := 0) rfl (Ent.nil _)) (Sub.nil _)
  · skip
    have hnx := nextM_none (v := v) (m := m) (fun i j h1 h2 => hr i j (by omega) h1 h2)
    refine V.exit ?_
    refine X.thenExit ?_
    refine X.thenExit ?_
    refine X.blockHit ?_
    refine X.next ?_
    refine V.seq ?_
    refine V.region ?_
    refine O.p rfl rfl rfl (Pu.assign rfl rfl) ?_
    refine O.p rfl rfl rfl (Pu.assign rfl rfl) ?_
    refine O.p rfl rfl rfl (Pu.assign rfl rfl) ?_
    refine O.nil ?_
    refine X.next ?_
    refine V.ret ?_
    refine X.ret3 rfl rfl rfl rfl ?_
    exact fun w hw => St.mkExi 0 (St.mkExi 0 (St.addPur ⟨(by have e : decide ((nextM v m).isSome = true) = false := decide_eq_false (by rw [hnx]; decide); rw [e]; first | done | rfl), fun p q h => by rw [hnx] at h; cases h⟩ (hw.sub (Sub.nil _))))
def L_from (n : Nat) : Prop := ∀ (cb gb v gf : Nat) (caps : Array Value) (E : List (List B3) → Assn) (cont : Nat → Bool) (okL : List B3 → Prop) (M m : Nat) (xs : List B3) (l : List (List B3)) (a : Nat) (w0 : World) (H : List Assn) (hok : CallOk Try.prog gf) (hcb : CallB Try.prog w0 56 gf caps E cont okL M) (hv : v ≤ 15) (ha : a ≤ v) (hrows : ∀ i j, i < a → i < j → j < v → usd m i j = true) (hn : leftN v m ≤ n) (hM : l.length + (runC cont l.length (leaf xs (compM n v m))).length ≤ M) (hMM : M ≤ 1000000) (hokl : ∀ q ∈ leaf xs (compM n v m), okL q) (hxs : xs.length + n ≤ 1000), Does Try.prog 67 [.pointer (some ⟨cb, 0, none⟩), .int .i64 (a : Int)] w0 (CompK 92 56 122 cb gb v (.func (.func gf) #[] caps) E m xs l :: H) (fun r => [.sep (.pur (r = .bool (decide (goesC cont l.length (leaf xs (compM n v m)) = true)))) (CompK 92 56 122 cb gb v (.func (.func gf) #[] caps) E m xs (l ++ runC cont l.length (leaf xs (compM n v m))))] ++ H)
set_option maxRecDepth 100000 in
set_option maxHeartbeats 1000000 in
theorem from_step (n : Nat) (ih : ∀ n', n' < n → L_from n') (cb gb v gf : Nat) (caps : Array Value) (E : List (List B3) → Assn) (cont : Nat → Bool) (okL : List B3 → Prop) (M m : Nat) (xs : List B3) (l : List (List B3)) (a : Nat) (w0 : World) (H : List Assn) (hok : CallOk Try.prog gf) (hcb : CallB Try.prog w0 56 gf caps E cont okL M) (hv : v ≤ 15) (ha : a ≤ v) (hrows : ∀ i j, i < a → i < j → j < v → usd m i j = true) (hn : leftN v m ≤ n) (hM : l.length + (runC cont l.length (leaf xs (compM n v m))).length ≤ M) (hMM : M ≤ 1000000) (hokl : ∀ q ∈ leaf xs (compM n v m), okL q) (hxs : xs.length + n ≤ 1000) : Does Try.prog 67 [.pointer (some ⟨cb, 0, none⟩), .int .i64 (a : Int)] w0 (CompK 92 56 122 cb gb v (.func (.func gf) #[] caps) E m xs l :: H) (fun r => [.sep (.pur (r = .bool (decide (goesC cont l.length (leaf xs (compM n v m)) = true)))) (CompK 92 56 122 cb gb v (.func (.func gf) #[] caps) E m xs (l ++ runC cont l.length (leaf xs (compM n v m))))] ++ H) := by
  refine Does.enter Try.func67 rfl rfl [(0, .pointer (some ⟨cb, 0, none⟩)), (1, .int .i64 (a : Int))] rfl ?_
  refine V.seq ?_
  refine V.region ?_
  refine O.p rfl rfl rfl (Pu.assign rfl rfl) ?_
  refine O.nil ?_
  refine X.next ?_
  refine V.seq ?_
  refine V.compK (fun xA1 xk1 G1 hrel1 => ?_)
  refine V.region ?_
  refine O.p rfl rfl rfl (Pu.move rfl rfl) ?_
  refine O.p rfl rfl rfl (Pu.move rfl rfl) ?_
  refine O.e rfl rfl rfl (Ef.call1 call79 rfl rfl (fun w hw => next_ok  cb gb v G1 m _ _ a w (Blk.rdb hw (i := 0) (by exact rfl)) (GridAt.of (i := 1) hw (by exact rfl))  (by first | assumption | omega | (try dsimp only at *; omega)) (by first | assumption | omega | (try dsimp only at *; omega)) (by first | assumption | omega | (try dsimp only at *; omega)) (by first | assumption | omega | (try dsimp only at *; omega)))) ?_
  rintro _ _ rfl
  refine O.exi (fun i1 => ?_)
  refine O.exi (fun j1 => ?_)
  refine O.pur ?_
  rintro ⟨rfl, hi1_1⟩
  refine O.p rfl rfl rfl (Pu.move rfl rfl) ?_
  refine O.p rfl rfl rfl (Pu.extract rfl rfl rfl) ?_
  refine O.p rfl rfl rfl (Pu.extract rfl rfl rfl) ?_
  refine O.p rfl rfl rfl (Pu.extract rfl rfl rfl) ?_
  refine O.p rfl rfl rfl (Pu.assign rfl rfl) ?_
  refine O.p rfl rfl rfl (Pu.assign rfl rfl) ?_
  refine O.p rfl rfl rfl (Pu.assign rfl rfl) ?_
  refine O.nil ?_
  refine X.next ?_
  refine V.seq ?_
  refine V.seq ?_
  refine V.region ?_
  refine O.p rfl rfl rfl (Pu.move rfl rfl) ?_
  refine O.p rfl rfl rfl (Pu.not rfl rfl) ?_
  refine O.nil ?_
  refine X.next ?_
  refine V.condNot rfl (fun c1 => ?_) (fun c1 => ?_)
  · skip
    have hnone : nextM v m = none := by cases h : nextM v m with | none => rfl | some q => rw [h] at c1; exact absurd rfl c1
    refine V.seq ?_
    refine V.ent (Ent.cons (t := 0) rfl (Ent.cons (t := 1) rfl (Ent.cons (t := 5) rfl (Ent.nil _)))) ?_
    refine V.drawS mo (by kernel_rfl) (Sub.keep 0 rfl (Sub.drop (Sub.drop (Sub.drop (Sub.refl _))))) (fun hwf => ?_)
    refine D.p 0 rfl rfl rfl rfl rfl rfl (Pu.move rfl rfl) ?_
    refine D.p 1 rfl rfl rfl rfl rfl rfl (Pu.nilCheck rfl rfl) ?_
    refine D.p 2 rfl rfl rfl rfl rfl rfl (Pu.fieldAddr 3 rfl Try.underlying92 rfl sz76 rfl rfl) ?_
    refine D.p 3 rfl rfl rfl rfl rfl rfl (Pu.load rfl pl76 rfl (Ld.blk 0 rfl rfl)) ?_
    refine D.p 4 rfl rfl rfl rfl rfl rfl (Pu.move rfl rfl) ?_
    refine D.p 5 rfl rfl rfl rfl rfl rfl (Pu.nilCheck rfl rfl) ?_
    refine D.p 6 rfl rfl rfl rfl rfl rfl (Pu.fieldAddr 2 rfl Try.underlying92 rfl sz24 rfl rfl) ?_
    refine D.p 7 rfl rfl rfl rfl rfl rfl (Pu.load rfl pl24 rfl (Ld.blk 0 rfl rfl)) ?_
    refine D.eff hwf (e := 8) rfl rfl rfl rfl (Ef.callV rfl rfl hok rfl (Does.pre (fun w hw => hw.sub (Sub.keep 2 rfl (Sub.keep 2 rfl (Sub.keep 0 rfl (Sub.keep 0 rfl (Sub.refl _)))))) (hcb l xs _ _ _ (by rw [leaf_none hnone, runC_one] at hM; simp only [List.length_singleton] at hM; omega) (hokl _ (by rw [leaf_none hnone]; exact List.mem_singleton.2 rfl))))) rfl rfl rfl ?_
    rintro _ _ rfl hs
    refine ⟨fun w hw => hw.tail.sub (Sub.keep 0 rfl (Sub.drop (Sub.refl _))), ?_⟩
    refine D.sep ?_
    refine D.pur1 ?_
    rintro rfl
    refine D.sep ?_
    refine D.p 9 rfl rfl rfl rfl rfl rfl (Pu.assign rfl rfl) ?_
    refine D.done hwf rfl ?_
    refine X.next ?_
    refine V.ret ?_
    refine X.thenRet ?_
    refine X.map (fun w hw => CompK.mk hrel1 (hw.sub (Sub.keep 2 rfl (Sub.keep 2 rfl (Sub.keep 0 rfl (Sub.keep 0 rfl (Sub.refl _))))))) ?_
    refine X.ret1 rfl rfl ?_
    exact fun w hw => St.unsep (St.addPur (boolE (by rw [leaf_none hnone, goesC_one])) (hw.sub (Sub.cons 0 rfl (fun w F h => by rw [leaf_none hnone, runC_one]; exact h) (Sub.refl _))))
  · skip
    obtain ⟨⟨x, y⟩, hxy⟩ := Option.isSome_iff_exists.1 c1
    obtain ⟨e1, e2, hI⟩ := hi1_1 x y hxy
    subst e1 e2
    have hn0 := left_pos hI hn
    have hcm := comp_some' hxy hn0
    rw [hcm] at hM hokl
    have hab := hI.ab
    have hbv := hI.bv
    refine V.skip ?_
    refine X.next ?_
    refine V.seq ?_
    refine V.seq ?_
    refine V.map (fun w hw => CompK.mk hrel1 (hw.sub (Sub.keep 0 rfl (Sub.keep 0 rfl (Sub.keep 0 rfl (Sub.keep 0 rfl (Sub.refl _))))))) ?_
    refine V.region ?_
    refine O.p rfl rfl rfl (Pu.move rfl rfl) ?_
    refine O.p rfl rfl rfl (Pu.add64 (r := ((j1 + 1 : Nat) : Int)) rfl (by omega) rfl rfl rfl) ?_
    refine O.p rfl rfl rfl (Pu.assign rfl rfl) ?_
    refine O.nil ?_
    refine X.next ?_
    refine V.block ?_
    refine V.loop3 (β := Nat × (List (List B3))) (fun x => [(7, .int .i64 (x.1 : Int))]) _ (fun x => [CompK 92 56 122 cb gb v (.func (.func gf) #[] caps) E m xs x.2]) _ (fun x => j1 < x.1 ∧ x.1 ≤ v ∧ goesC cont l.length (leaf xs (compJ (n - 1) v m i1 j1 x.1)) = true ∧ x.2 = l ++ (leaf xs (compJ (n - 1) v m i1 j1 x.1))) (fun x => v - x.1) (j1 + 1, l) (by (try dsimp only); exact ⟨by omega, by omega, by rw [compJ_low (by omega)]; rfl, by rw [compJ_low (by omega)]; simp [leaf]⟩) (Ent.cons rfl (Ent.nil _)) (Ent.cons (t := 0) rfl (Ent.cons (t := 1) rfl (Ent.cons (t := 5) rfl (Ent.nil _)))) (Sub.keep 0 rfl (Sub.refl _)) ?_
    rintro ⟨p, l2⟩ ⟨hp0, hp, hgo, hl2⟩
    dsimp only at hp0 hp hgo hl2 ⊢
    refine V.seq ?_
    refine V.seq ?_
    refine V.compK (fun xA2 xk2 G2 hrel2 => ?_)
    refine V.region ?_
    refine O.p rfl rfl rfl (Pu.move rfl rfl) ?_
    refine O.p rfl rfl rfl (Pu.move rfl rfl) ?_
    refine O.p rfl rfl rfl (Pu.nilCheck rfl rfl) ?_
    refine O.p rfl rfl rfl (Pu.fieldAddr 0 rfl Try.underlying92 rfl sz2 rfl rfl) ?_
    refine O.p rfl rfl rfl (Pu.load rfl pl2 rfl (Ld.blk 0 rfl rfl)) ?_
    refine O.p rfl rfl rfl (Pu.lss rfl rfl rfl) ?_
    refine O.nil ?_
    refine X.next ?_
    refine V.condD rfl (fun c2 => ?_) (fun c2 => ?_)
    · skip
      refine V.skip ?_
      refine X.next ?_
      refine V.seq ?_
      refine V.block ?_
      refine V.seq ?_
      refine V.region ?_
      refine O.p rfl rfl rfl (Pu.move rfl rfl) ?_
      refine O.p rfl rfl rfl (Pu.move rfl rfl) ?_
      refine O.p rfl rfl rfl (Pu.move rfl rfl) ?_
      refine O.p rfl rfl rfl (Pu.buildA (cs := [.int .i64 (↑i1 : Int), .int .i64 (↑j1 : Int), .int .i64 (↑p : Int)]) (v := B3.v ((↑i1 : Int), (↑j1 : Int), (↑p : Int))) rfl rfl Try.underlying56 zr56 sz2 rfl (by kernel_rfl)) ?_
      refine O.e rfl rfl rfl (Ef.alloc rfl zr56 rfl) ?_
      rintro _ _ ⟨b1, rfl, rfl⟩
      refine O.s rfl rfl (Ef.storeAll 0 rfl sz56 rfl rfl rfl rfl (by simp [Value.oneCell']) rfl) ?_
      rintro _ _ rfl
      refine O.nil ?_
      refine X.next ?_
      refine V.seq ?_
      refine V.seq ?_
      refine V.draw mo (by kernel_rfl) (fun hwf => ?_)
      refine D.p 0 rfl rfl rfl rfl rfl rfl (Pu.move rfl rfl) ?_
      refine D.p 1 rfl rfl rfl rfl rfl rfl (Pu.nilCheck rfl rfl) ?_
      refine D.p 2 rfl rfl rfl rfl rfl rfl (Pu.fieldAddr 1 rfl Try.underlying92 rfl sz89 rfl rfl) ?_
      refine D.p 3 rfl rfl rfl rfl rfl rfl (Pu.load rfl pl89 rfl (Ld.blk 1 rfl rfl)) ?_
      refine D.p 4 rfl rfl rfl rfl rfl rfl (Pu.loadAgg' (v := B3.v (b3N i1 j1 p)) rfl rfl ag56 sz56 rfl rfl (Ld.whole 0 rfl)) ?_
      refine D.eff hwf (e := 5) rfl rfl rfl rfl (Ef.callP call80 rfl rfl (fun w hw => isLeft_ok _ _ (b3N i1 j1 p) w (GridAt.of (i := 2) hw (by exact rfl)) (by unfold b3N; simp only; omega))) rfl rfl rfl ?_
      rintro _ _ ⟨rfl, rfl⟩ hs
      refine ⟨fun w hw => hw, ?_⟩
      refine D.p 6 rfl rfl rfl rfl rfl rfl (Pu.not rfl rfl) ?_
      refine D.done hwf rfl ?_
      refine X.next ?_
      refine V.condNot rfl (fun c3 => ?_) (fun c3 => ?_)
      · skip
        rw [rel_left hrel2 (by omega) (by omega) (by omega) hI.left] at c3
        refine V.exit ?_
        refine X.thenExit ?_
        refine X.blockHit ?_
        refine X.next ?_
        refine V.region ?_
        refine O.p rfl rfl rfl (Pu.move rfl rfl) ?_
        refine O.p rfl rfl rfl (Pu.add64 (r := ((p + 1 : Nat) : Int)) rfl (by omega) rfl rfl rfl) ?_
        refine O.p rfl rfl rfl (Pu.assign rfl rfl) ?_
        refine O.nil ?_
        refine X.map (fun w hw => CompK.mk hrel2 (hw.sub (Sub.keep 1 rfl (Sub.keep 1 rfl (Sub.keep 1 rfl (Sub.keep 1 rfl (Sub.keep 0 rfl (Sub.refl _)))))))) ?_
        exact X.back3 (p + 1, l2) (by (try dsimp only); exact ⟨by omega, by omega, by rw [compJ_no (by simpa using c3)]; exact hgo, by rw [compJ_no (by simpa using c3)]; exact hl2⟩) (by first | omega | (dsimp only; omega)) (Ent.cons rfl (Ent.nil _)) (Ent.cons (t := 0) rfl (Ent.cons (t := 1) rfl (Ent.cons (t := 5) rfl (Ent.nil _)))) (Sub.keep 0 rfl (Sub.drop (Sub.refl _)))
      · skip
        rw [rel_left hrel2 (by omega) (by omega) (by omega) hI.left] at c3
        have hlp := leftN_put (v := v) (m := m) (a := i1) (b := j1) (c := p) (by omega) (by omega) (by omega) (by omega) hI.ab hI.bv hI.left
        have hsM := step_M2 hgo c3 (by omega) hM hl2
        have hll := congrArg List.length hl2
        rw [List.length_append] at hll
        refine V.skip ?_
        refine X.next ?_
        refine V.seq ?_
        refine V.drawS mo (by kernel_rfl) (Sub.keep 1 rfl (Sub.keep 0 rfl (Sub.drop (Sub.drop (Sub.drop (Sub.refl _)))))) (fun hwf => ?_)
        refine D.p 0 rfl rfl rfl rfl rfl rfl (Pu.move rfl rfl) ?_
        refine D.p 1 rfl rfl rfl rfl rfl rfl (Pu.nilCheck rfl rfl) ?_
        refine D.p 2 rfl rfl rfl rfl rfl rfl (Pu.fieldAddr 1 rfl Try.underlying92 rfl sz89 rfl rfl) ?_
        refine D.p 3 rfl rfl rfl rfl rfl rfl (Pu.load rfl pl89 rfl (Ld.blk 0 rfl rfl)) ?_
        refine D.p 4 rfl rfl rfl rfl rfl rfl (Pu.loadAgg' (v := B3.v (b3N i1 j1 p)) rfl rfl ag56 sz56 rfl rfl (Ld.whole 1 rfl)) ?_
        refine D.eff hwf (e := 5) rfl rfl rfl rfl (Ef.callM 2 call81 rfl rfl rfl (fun H _ => put_true _ _ (b3N i1 j1 p) _ H (by unfold b3N; simp only; omega))) rfl rfl rfl ?_
        rintro _ _ ⟨rfl, rfl⟩ hs
        refine ⟨fun w hw => hw.sub (Sub.keep 1 rfl (Sub.keep 0 rfl (Sub.drop (Sub.drop (Sub.drop (Sub.refl _)))))), ?_⟩
        refine D.done hwf rfl ?_
        refine X.next ?_
        refine V.seq ?_
        refine V.drawS mo (by kernel_rfl) (Sub.keep 1 rfl (Sub.keep 0 rfl (Sub.drop (Sub.drop (Sub.drop (Sub.refl _)))))) (fun hwf => ?_)
        refine D.p 0 rfl rfl rfl rfl rfl rfl (Pu.move rfl rfl) ?_
        refine D.p 1 rfl rfl rfl rfl rfl rfl (Pu.move rfl rfl) ?_
        refine D.p 2 rfl rfl rfl rfl rfl rfl (Pu.nilCheck rfl rfl) ?_
        refine D.p 3 rfl rfl rfl rfl rfl rfl (Pu.fieldAddr 2 rfl Try.underlying92 rfl sz24 rfl rfl) ?_
        refine D.p 4 rfl rfl rfl rfl rfl rfl (Pu.load rfl pl24 rfl (Ld.blk 0 rfl rfl)) ?_
        refine D.p 5 rfl rfl rfl rfl rfl rfl (Pu.loadAgg' (v := B3.v (b3N i1 j1 p)) rfl rfl ag56 sz56 rfl rfl (Ld.whole 1 rfl)) ?_
        refine D.p 8 rfl rfl rfl rfl rfl rfl (Pu.nilCheck rfl rfl) ?_
        refine D.p 9 rfl rfl rfl rfl rfl rfl (Pu.fieldAddr 2 rfl Try.underlying92 rfl sz24 rfl rfl) ?_
        refine D.eff hwf (e := 6) rfl rfl rfl rfl (Ef.build B3C ([(b3N i1 j1 p)] : List B3) rfl Try.underlying24 inf56 rfl rfl rfl (by first | decide | (simp; done)) (by kernel_rfl)) rfl rfl rfl ?_
        rintro _ _ ⟨A1, hA1, rfl, rfl⟩ hs
        refine ⟨fun w hw => hw.sub (Sub.keep 2 rfl (Sub.keep 1 rfl (Sub.drop (Sub.drop (Sub.drop (Sub.drop (Sub.refl _))))))), ?_⟩
        refine D.eff hwf (e := 7) rfl rfl rfl rfl (Ef.append (xs := xs) (ys := ([(b3N i1 j1 p)] : List B3)) 4 rfl Try.underlying24 inf56 rfl rfl rfl rfl rfl rfl hA1 (Ld.own 0 (by exact rfl)) (by simp only [List.length_append, List.length_cons, List.length_nil] at *; omega) (by decide)) rfl rfl rfl ?_
        rintro _ _ ⟨A2, k1, rfl, rfl, hA2⟩ hs
        replace hA2 := hA2 (.inr (by simp))
        refine ⟨fun w hw => hw.sub (Sub.keep 2 rfl (Sub.keep 1 rfl (Sub.drop (Sub.drop (Sub.drop (Sub.drop (Sub.refl _))))))), ?_⟩
        refine D.effX (Hs' := []) hwf (e := 10) rfl rfl rfl rfl (Ef.store1 (cs' := [_, _, _, _]) 2 rfl sz24 rfl rfl rfl rfl rfl (ltb rfl) rfl) rfl [8] rfl (List.forall_mem_cons.2 ⟨⟨63, _, rfl, rfl, Det.of rfl rfl rfl (Pu.nilCheck rfl rfl)⟩, List.forall_mem_nil _⟩) ?_
        rintro _ _ rfl
        refine ⟨fun w hw => hw.sub (Sub.nil _), ?_⟩
        refine D.done hwf rfl ?_
        refine X.next ?_
        refine V.seq ?_
        refine V.map (fun w hw => CompK.mk (rel_put hrel2 (by omega) (by omega) (by omega) hv) (hw.sub (Sub.keep 2 rfl (Sub.keep 2 rfl (Sub.keep 2 rfl (Sub.keep 2 rfl (Sub.keep 0 rfl (Sub.keep 0 rfl (Sub.refl _))))))))) ?_
        refine V.region ?_
        refine O.p rfl rfl rfl (Pu.move rfl rfl) ?_
        refine O.p rfl rfl rfl (Pu.move rfl rfl) ?_
        refine O.e rfl rfl rfl (Ef.call call67 rfl rfl (Does.pre (fun w hw => hw.sub (Sub.keep 0 rfl (Sub.keep 0 rfl (Sub.keep 0 rfl (Sub.refl _))))) (ih (n - 1) (by omega)  cb gb v gf caps E cont okL M (putM m i1 j1 p) (xs ++ [(b3N i1 j1 p)]) l2 i1 w0 _   hok hcb hv (by omega) (fun i j h1 h2 h3 => (usd_put (by omega) (by omega) (by omega) (by omega) (by omega)).2 (.inl (hI.rows i j h1 h2 h3))) (by omega) hsM hMM (step_ok c3 (by omega) hokl) (by simp only [List.length_append, List.length_singleton]; omega)))) ?_
        rintro _ _ rfl
        refine O.sep ?_
        refine O.pur ?_
        rintro rfl
        refine O.p rfl rfl rfl (Pu.assign rfl rfl) ?_
        refine O.nil ?_
        refine X.next ?_
        refine V.seq ?_
        refine V.compK (fun xA3 xk3 G3 hrel3 => ?_)
        refine V.drawS mo (by kernel_rfl) (Sub.keep 0 rfl (Sub.keep 4 rfl (Sub.drop (Sub.drop (Sub.drop (Sub.drop (Sub.refl _))))))) (fun hwf => ?_)
        refine D.p 0 rfl rfl rfl rfl rfl rfl (Pu.move rfl rfl) ?_
        refine D.p 1 rfl rfl rfl rfl rfl rfl (Pu.nilCheck rfl rfl) ?_
        refine D.p 2 rfl rfl rfl rfl rfl rfl (Pu.fieldAddr 1 rfl Try.underlying92 rfl sz89 rfl rfl) ?_
        refine D.p 3 rfl rfl rfl rfl rfl rfl (Pu.load rfl pl89 rfl (Ld.blk 0 rfl rfl)) ?_
        refine D.p 4 rfl rfl rfl rfl rfl rfl (Pu.loadAgg' (v := B3.v (b3N i1 j1 p)) rfl rfl ag56 sz56 rfl rfl (Ld.whole 1 rfl)) ?_
        refine D.eff hwf (e := 5) rfl rfl rfl rfl (Ef.callM 1 call81 rfl rfl rfl (fun H _ => put_false _ _ (b3N i1 j1 p) _ H (by unfold b3N; simp only; omega))) rfl rfl rfl ?_
        rintro _ _ ⟨rfl, rfl⟩ hs
        refine ⟨fun w hw => hw.sub (Sub.keep 0 rfl (Sub.keep 4 rfl (Sub.drop (Sub.drop (Sub.drop (Sub.drop (Sub.refl _))))))), ?_⟩
        refine D.done hwf rfl ?_
        refine X.next ?_
        refine V.seq ?_
        have hxb : (xs ++ [b3N i1 j1 p]).length = xs.length + 1 := by simp
        refine V.fact (fun w hw => Own.cap hw (i := 2) rfl) (fun hcap => ?_)
        refine V.draw mo (by kernel_rfl) (fun hwf => ?_)
        refine D.p 0 rfl rfl rfl rfl rfl rfl (Pu.move rfl rfl) ?_
        refine D.p 1 rfl rfl rfl rfl rfl rfl (Pu.move rfl rfl) ?_
        refine D.p 2 rfl rfl rfl rfl rfl rfl (Pu.nilCheck rfl rfl) ?_
        refine D.p 3 rfl rfl rfl rfl rfl rfl (Pu.fieldAddr 2 rfl Try.underlying92 rfl sz24 rfl rfl) ?_
        refine D.p 4 rfl rfl rfl rfl rfl rfl (Pu.load rfl pl24 rfl (Ld.blk 0 rfl rfl)) ?_
        refine D.p 5 rfl rfl rfl rfl rfl rfl (Pu.move rfl rfl) ?_
        refine D.p 6 rfl rfl rfl rfl rfl rfl (Pu.nilCheck rfl rfl) ?_
        refine D.p 7 rfl rfl rfl rfl rfl rfl (Pu.fieldAddr 2 rfl Try.underlying92 rfl sz24 rfl rfl) ?_
        refine D.p 8 rfl rfl rfl rfl rfl rfl (Pu.load rfl pl24 rfl (Ld.blk 0 rfl rfl)) ?_
        refine D.p 9 rfl rfl rfl rfl rfl rfl (Pu.len rfl Try.underlying24 rfl) ?_
        refine D.p 10 rfl rfl rfl rfl rfl rfl (Pu.sub64 rfl (by omega) rfl rfl rfl) ?_
        refine D.p 11 rfl rfl rfl rfl rfl rfl (Pu.sliceH ((((↑((xs ++ [(b3N i1 j1 p)]).length) : Int) - (1 : Int))).toNat) rfl Try.underlying24 sz56 rfl rfl (by omega) (by omega)) ?_
        refine D.p 12 rfl rfl rfl rfl rfl rfl (Pu.nilCheck rfl rfl) ?_
        refine D.p 13 rfl rfl rfl rfl rfl rfl (Pu.fieldAddr 2 rfl Try.underlying92 rfl sz24 rfl rfl) ?_
        refine D.effX (Hs' := []) hwf (e := 14) rfl rfl rfl rfl (Ef.store1 (cs' := [_, _, _, _]) 0 rfl sz24 rfl rfl rfl rfl rfl (ltb rfl) rfl) rfl [12] rfl (List.forall_mem_cons.2 ⟨⟨86, _, rfl, rfl, Det.of rfl rfl rfl (Pu.nilCheck rfl rfl)⟩, List.forall_mem_nil _⟩) ?_
        rintro _ _ rfl
        refine ⟨fun w hw => hw.sub (Sub.nil _), ?_⟩
        refine D.done hwf rfl ?_
        refine X.next ?_
        refine V.seq ?_
        refine V.region ?_
        refine O.p rfl rfl rfl (Pu.move rfl rfl) ?_
        refine O.p rfl rfl rfl (Pu.not rfl rfl) ?_
        refine O.nil ?_
        refine X.next ?_
        refine V.condNot rfl (fun c4 => ?_) (fun c4 => ?_)
        · skip
          refine V.seq ?_
          refine V.map (fun w hw => CompK.mk' (rel_del hrel3 (by omega) (by omega) (by omega) hv hI.left c3) (by simp only [List.length_append, List.length_singleton]; omega) (hw.sub (Sub.keep 0 rfl (Sub.keep 0 rfl (Sub.keep 0 rfl (Sub.keep 0 rfl (Sub.keep 0 rfl (Sub.keep 0 rfl (Sub.refl _))))))))) ?_
          refine V.region ?_
          refine O.p rfl rfl rfl (Pu.assign rfl rfl) ?_
          refine O.nil ?_
          refine X.next ?_
          refine V.ret ?_
          refine X.blockRet ?_
          refine X.thenRet ?_
          refine X.thenRet ?_
          refine X.blockRet ?_
          refine X.thenRet ?_
          refine X.ret1 rfl rfl ?_
          exact fun w hw => St.unsep (St.addPur (boolF (by rw [hcm, (step_stop hgo c3 (by omega) (by rw [hl2, List.length_append] at c4; exact c4)).1]; decide)) (hw.sub (Sub.cons 0 rfl (fun w F h => by rw [hcm, (step_stop hgo c3 (by omega) (by rw [hl2, List.length_append] at c4; exact c4)).2, ← List.append_assoc, ← hl2, ← hll]; exact h) (Sub.drop (Sub.drop (Sub.refl _))))))
        · skip
          refine V.skip ?_
          refine X.blockNormal ?_
          refine X.next ?_
          refine V.region ?_
          refine O.p rfl rfl rfl (Pu.move rfl rfl) ?_
          refine O.p rfl rfl rfl (Pu.add64 (r := ((p + 1 : Nat) : Int)) rfl (by omega) rfl rfl rfl) ?_
          refine O.p rfl rfl rfl (Pu.assign rfl rfl) ?_
          refine O.nil ?_
          refine X.map (fun w hw => CompK.mk' (rel_del hrel3 (by omega) (by omega) (by omega) hv hI.left c3) (by simp only [List.length_append, List.length_singleton]; omega) (hw.sub (Sub.keep 0 rfl (Sub.keep 0 rfl (Sub.keep 0 rfl (Sub.keep 0 rfl (Sub.keep 0 rfl (Sub.keep 0 rfl (Sub.refl _))))))))) ?_
          exact X.back3 (p + 1, (l2 ++ runC cont l2.length (leaf (xs ++ [(b3N i1 j1 p)]) (compM (n - 1) v (putM m i1 j1 p))))) (by (try dsimp only); exact ⟨by omega, by omega, step_go hgo c3 (by rw [hl2, List.length_append] at c4; exact c4), by rw [hl2, leaf_step c3, runC_all (by rw [hl2] at c4; exact c4), List.append_assoc]⟩) (by first | omega | (dsimp only; omega)) (Ent.cons rfl (Ent.nil _)) (Ent.cons (t := 0) rfl (Ent.cons (t := 1) rfl (Ent.cons (t := 5) rfl (Ent.nil _)))) (Sub.keep 0 rfl (Sub.drop (Sub.drop (Sub.refl _))))
    · skip
      refine V.exit ?_
      refine X.thenExit ?_
      refine X.thenExit ?_
      refine X.blockHit ?_
      refine X.next ?_
      refine V.seq ?_
      refine V.map (fun w hw => CompK.mk hrel2 (hw.sub (Sub.keep 0 rfl (Sub.keep 0 rfl (Sub.keep 0 rfl (Sub.keep 0 rfl (Sub.refl _))))))) ?_
      refine V.region ?_
      refine O.p rfl rfl rfl (Pu.assign rfl rfl) ?_
      refine O.nil ?_
      refine X.next ?_
      refine V.ret ?_
      refine X.ret1 rfl rfl ?_
      exact fun w hw => St.unsep (St.addPur (boolT (by have e : p = v := (by omega); subst e; rw [hcm]; exact hgo)) (hw.sub (Sub.cons 0 rfl (fun w F h => by have e : p = v := (by omega); subst e; rw [hcm, runC_all hgo, ← hl2]; exact h) (Sub.refl _))))
theorem from_ok (n : Nat) : L_from n := by
  induction n using Nat.strongRecOn with
  | _ n ih => exact fun cb gb v gf caps E cont okL M m xs l a w0 H hok hcb hv ha hrows hn hM hMM hokl hxs => from_step n ih cb gb v gf caps E cont okL M m xs l a w0 H hok hcb hv ha hrows hn hM hMM hokl hxs
theorem zr92 : Zr Try.prog 92 (.agg #[.int .i64 0, .pointer none, .slice none 0 0, .nilFunc]) := by unfold Zr; kernel_rfl
theorem gridFit_ok (bs : List B3) (A : Option Addr) (c : Nat) (w : World) (hx : Rd B3C w A bs) (lx : bs.length ≤ 4611686018427387904) (hb : ∀ b ∈ bs, good 15 b) (hft : fitsAt bs bs.length) : Does Try.prog 78 [.slice A bs.length c] w [] (fun v => [.exi fun g : Nat => .sep (.pur (v = .tuple #[.pointer (some ⟨g, 0, none⟩), .bool true])) (Grid g (tab bs) 122)]) :=
  (gridOf_ok bs A c w hx lx hb).mono (fun v w hs => by
    obtain ⟨g, hs⟩ := hs.exi
    rcases g with _ | g
    · exact absurd hft hs.pur.1.2
    · have h := hs.sep.pur
      exact St.mkExi g (St.unsep (St.addPur h.1.1 h.2)))
set_option maxRecDepth 100000 in
set_option maxHeartbeats 1000000 in
theorem sysGrid_ok (v : Int) (bs : List B3) (A : Option Addr) (c : Nat) (w : World) (hx : Rd B3C w A bs) (lx : bs.length ≤ 4611686018427387904) (hb : ∀ b ∈ bs, good 15 b) (hft : fitsAt bs bs.length) : Does Try.prog 66 [.agg #[.int .i64 v, .slice A bs.length c]] w [] (fun r => [.exi fun (g : Nat) => .sep (.pur (r = .pointer (some ⟨g, 0, none⟩))) (Grid g (tab bs) 122)]) := by
  refine Does.enter Try.func66 rfl rfl [(0, .agg #[.int .i64 v, .slice A bs.length c])] rfl ?_
  refine V.seq ?_
  refine V.region ?_
  refine O.e rfl rfl rfl (Ef.box rfl rfl rfl) ?_
  rintro _ _ ⟨b1, rfl, rfl⟩
  refine O.p rfl rfl rfl (Pu.assign rfl rfl) ?_
  refine O.nil ?_
  refine X.next ?_
  refine V.seq ?_
  refine V.region ?_
  refine O.p rfl rfl rfl (Pu.fieldAddr 1 rfl Try.underlying26 rfl sz24 rfl rfl) ?_
  refine O.p rfl rfl rfl (Pu.load rfl pl24 rfl (Ld.blk 0 rfl rfl)) ?_
  refine O.e rfl rfl rfl (Ef.call1 call78 rfl rfl (fun w hw => gridFit_ok bs _ _ w ((Ld.old hx) w hw) (by omega) hb hft)) ?_
  rintro _ _ rfl
  refine O.exi (fun g1 => ?_)
  refine O.sep ?_
  refine O.pur ?_
  rintro rfl
  refine O.p rfl rfl rfl (Pu.move rfl rfl) ?_
  refine O.p rfl rfl rfl (Pu.extract rfl rfl rfl) ?_
  refine O.p rfl rfl rfl (Pu.extract rfl rfl rfl) ?_
  refine O.p rfl rfl rfl (Pu.assign rfl rfl) ?_
  refine O.p rfl rfl rfl (Pu.assign rfl rfl) ?_
  refine O.nil ?_
  refine X.next ?_
  refine V.seq ?_
  refine V.region ?_
  refine O.p rfl rfl rfl (Pu.move rfl rfl) ?_
  refine O.p rfl rfl rfl (Pu.assign rfl rfl) ?_
  refine O.nil ?_
  refine X.next ?_
  refine V.ret ?_
  refine X.ret1 rfl rfl ?_
  exact fun w hw => St.mkExi g1 (St.unsep (St.addPur rfl (hw.sub (Sub.keep 0 rfl (Sub.nil _)))))
set_option maxRecDepth 100000 in
set_option maxHeartbeats 1000000 in
theorem complete_ok (v : Nat) (bs : List B3) (gf : Nat) (caps : Array Value) (E : List (List B3) → Assn) (cont : Nat → Bool) (okL : List B3 → Prop) (M n m : Nat) (l : List (List B3)) (A : Option Addr) (c : Nat) (w0 : World) (H : List Assn) (hx : ∀ w, St w0 H w → Rd B3C w A bs) (lx : bs.length ≤ 4611686018427387904) (hb : ∀ b ∈ bs, good 15 b) (hft : fitsAt bs bs.length) (hv : v ≤ 15) (hrel : Rel v (tab bs) m) (hok : CallOk Try.prog gf) (hcb : CallB Try.prog w0 56 gf caps E cont okL M) (hn : leftN v m ≤ n) (hM : l.length + (runC cont l.length (leaf bs (compM n v m))).length ≤ M) (hMM : M ≤ 1000000) (hokl : ∀ q ∈ leaf bs (compM n v m), okL q) (hxs : bs.length + n ≤ 1000) : Does Try.prog 49 [.agg #[.int .i64 (v : Int), .slice A bs.length c], .func (.func gf) #[] caps] w0 (E l :: H) (fun r => [.sep (.pur (r = .tuple #[])) (E (l ++ runC cont l.length (leaf bs (compM n v m))))] ++ H) := by
  refine Does.enter Try.func49 rfl rfl [(0, .agg #[.int .i64 (v : Int), .slice A bs.length c]), (1, .func (.func gf) #[] caps)] rfl ?_
  refine V.seq ?_
  refine V.region ?_
  refine O.e rfl rfl rfl (Ef.box rfl rfl rfl) ?_
  rintro _ _ ⟨b1, rfl, rfl⟩
  refine O.nil ?_
  refine X.next ?_
  refine V.seq ?_
  refine V.drawS mo (by kernel_rfl) (Sub.keep 0 rfl (Sub.keep 0 rfl (Sub.refl _))) (fun hwf => ?_)
  refine D.p 0 rfl rfl rfl rfl rfl rfl (Pu.fieldAddr 0 rfl Try.underlying26 rfl sz2 rfl rfl) ?_
  refine D.p 1 rfl rfl rfl rfl rfl rfl (Pu.load rfl pl2 rfl (Ld.blk 0 rfl rfl)) ?_
  refine D.p 2 rfl rfl rfl rfl rfl rfl (Pu.loadAgg rfl ag26 sz26 rfl rfl (Ld.whole 0 rfl)) ?_
  refine D.p 4 rfl rfl rfl rfl rfl rfl (Pu.fieldAddr 1 rfl Try.underlying26 rfl sz24 rfl rfl) ?_
  refine D.p 5 rfl rfl rfl rfl rfl rfl (Pu.load rfl pl24 rfl (Ld.blk 0 rfl rfl)) ?_
  refine D.p 7 rfl rfl rfl rfl rfl rfl (Pu.move rfl rfl) ?_
  refine D.eff hwf (e := 3) rfl rfl rfl rfl (Ef.call1 call66 rfl rfl (fun w hw => sysGrid_ok  (↑v : Int) bs _ _ w ((fun w hw => hx w (hw.sub (Sub.drop (Sub.drop (Sub.refl _))))) w hw) (by first | omega | (simp only [tops_len, conts_len, bl, List.length_append, List.length_cons, List.length_nil] at *; omega)) (by first | assumption | omega | (try dsimp only at *; omega)) (by first | assumption | omega | (try dsimp only at *; omega)))) rfl rfl rfl ?_
  rintro _ _ rfl hs
  refine ⟨fun w hw => hs w hw.tail, ?_⟩
  refine D.exi (fun g1 => ?_)
  refine D.sep ?_
  refine D.pur1 ?_
  rintro rfl
  refine D.eff hwf (e := 6) rfl rfl rfl rfl (Ef.call1 call51 rfl rfl (fun w hw => cloneB_ok bs _ _ w ((fun w hw => hx w (hw.sub (Sub.drop (Sub.drop (Sub.drop (Sub.refl _)))))) w hw) (by first | omega | (simp only [tops_len] at *; omega)))) rfl rfl rfl ?_
  rintro _ _ rfl hs
  refine ⟨fun w hw => hs w hw.tail, ?_⟩
  refine D.exi (fun p1 => ?_)
  refine D.sep ?_
  refine D.pur1 ?_
  rintro ⟨rfl, hp1⟩
  refine D.p 8 rfl rfl rfl rfl rfl rfl (Pu.buildS (cs := [.int .i64 (↑v : Int), .pointer (some ⟨g1, 0, none⟩), .slice p1.1.1 p1.2.length p1.1.2, .func (.func gf) #[] caps]) rfl rfl Try.underlying92 zr92 (by kernel_rfl) rfl (by kernel_rfl)) ?_
  refine D.eff hwf (e := 9) rfl rfl rfl rfl (Ef.box rfl rfl rfl) rfl rfl rfl ?_
  rintro _ _ ⟨b2, rfl, rfl⟩ hs
  refine ⟨fun w hw => hw.sub (Sub.keep 3 rfl (Sub.keep 3 rfl (Sub.drop (Sub.drop (Sub.drop (Sub.refl _)))))), ?_⟩
  refine D.p 10 rfl rfl rfl rfl rfl rfl (Pu.assign rfl rfl) ?_
  refine D.done hwf rfl ?_
  refine X.next ?_
  refine V.map (fun w hw => CompK.mk (T := 92) (eT := 56) (gT := 122) (v := v) (m := m) (xs := bs) hrel (by have h := hw.sub (Sub.keep 0 rfl (Sub.keep 1 rfl (Sub.keep 0 rfl (Sub.keep 1 rfl (Sub.keep 0 rfl (Sub.refl _)))))); rw [hp1] at h; exact h)) ?_
  refine V.region ?_
  refine O.p rfl rfl rfl (Pu.move rfl rfl) ?_
  refine O.e rfl rfl rfl (Ef.call call67 rfl rfl (Does.pre (fun w hw => hw.sub (Sub.keep 0 rfl (Sub.keep 0 rfl (Sub.refl _)))) (from_ok n  b2 g1 v gf caps E cont okL M m bs l 0 w0 _   hok hcb (by omega) (by omega) (fun i j h => by omega) hn hM hMM hokl hxs))) ?_
  rintro _ _ rfl
  refine O.sep ?_
  refine O.pur ?_
  rintro rfl
  refine O.nil ?_
  refine X.endBody ?_
  refine X.compK (fun xA1 xk1 G1 hrel1 => ?_)
  refine X.ret0 rfl ?_
  exact fun w hw => St.unsep (St.addPur rfl (hw.sub (Sub.keep 3 rfl (Sub.drop (Sub.drop (Sub.drop (Sub.drop (Sub.refl _))))))))
set_option maxRecDepth 100000 in
set_option maxHeartbeats 1000000 in
theorem systemsOf1_ok (list : List B3) (v : Int) (b0 b1 : Nat) (l : List (List B3)) (listA : Option Addr) (listc : Nat) (w0 : World) (H : List Assn) (hl : l.length ≤ 2000) (hxs : list.length ≤ 1000) : Does Try.prog 50 [.slice listA list.length listc, .pointer (some ⟨b0, 0, none⟩), .pointer (some ⟨b1, 0, none⟩)] w0 (Own 56 B3C listA listc list :: SysE 26 56 52 2 v b0 b1 l :: H) (fun r => [.sep (.pur (r = .bool true)) (.sep (Own 56 B3C listA listc list) (SysE 26 56 52 2 v b0 b1 (l ++ [list])))] ++ H) := by
  refine Does.enter Try.func50 rfl rfl [(0, .slice listA list.length listc), (1, .pointer (some ⟨b0, 0, none⟩)), (2, .pointer (some ⟨b1, 0, none⟩))] rfl ?_
  refine V.seq ?_
  refine V.region ?_
  refine O.p rfl rfl rfl (Pu.assign rfl rfl) ?_
  refine O.nil ?_
  refine X.next ?_
  refine V.seq ?_
  refine V.map (fun w hw => hw.sub (Sub.keep 1 rfl (Sub.keep 0 rfl (Sub.refl _)))) ?_
  refine V.sysE (fun yA1 yk1 ps1 hps1 => ?_)
  refine V.fact (RowsA.len 3 rfl) (fun hn_ps1 => ?_)
  have htl_ps1 := tops_len ps1
  have hcl := conts_len ps1
  have hpl : ps1.length = l.length := by rw [← hcl, hps1]
  refine V.drawS mo (by kernel_rfl) (Sub.keep 0 rfl (Sub.keep 0 rfl (Sub.drop (Sub.drop (Sub.drop (Sub.refl _)))))) (fun hwf => ?_)
  refine D.p 0 rfl rfl rfl rfl rfl rfl (Pu.load rfl pl52 rfl (Ld.blk 0 rfl rfl)) ?_
  refine D.p 1 rfl rfl rfl rfl rfl rfl (Pu.load rfl pl2 rfl (Ld.blk 1 rfl rfl)) ?_
  refine D.p 2 rfl rfl rfl rfl rfl rfl (Pu.move rfl rfl) ?_
  refine D.eff hwf (e := 3) rfl rfl rfl rfl (Ef.call1 call51 rfl rfl (fun w hw => cloneB_ok list _ _ w ((Ld.own 4 (by exact rfl)) w hw) (by first | omega | (simp only [tops_len] at *; omega)))) rfl rfl rfl ?_
  rintro _ _ rfl hs
  refine ⟨fun w hw => hs w hw.tail, ?_⟩
  refine D.exi (fun p1 => ?_)
  refine D.sep ?_
  refine D.pur1 ?_
  rintro ⟨rfl, hp1⟩
  refine D.p 4 rfl rfl rfl rfl rfl rfl (Pu.buildS (cs := [.int .i64 v, .slice p1.1.1 p1.2.length p1.1.2]) rfl rfl Try.underlying26 zr26 (by kernel_rfl) rfl (by kernel_rfl)) ?_
  refine D.eff hwf (e := 5) rfl rfl rfl rfl (Ef.build (SyC v) ([⟨p1.1.1, p1.2.length, p1.1.2⟩] : List Sl) rfl Try.underlying52 inf26 rfl rfl rfl (by first | decide | (simp; done)) (by kernel_rfl)) rfl rfl rfl ?_
  rintro _ _ ⟨A1, hA1, rfl, rfl⟩ hs
  refine ⟨fun w hw => hw.sub (Sub.keep 2 rfl (Sub.keep 2 rfl (Sub.drop (Sub.drop (Sub.drop (Sub.drop (Sub.drop (Sub.refl _)))))))), ?_⟩
  refine D.eff hwf (e := 6) rfl rfl rfl rfl (Ef.append (xs := (tops ps1)) (ys := ([⟨p1.1.1, p1.2.length, p1.1.2⟩] : List Sl)) 4 rfl Try.underlying52 inf26 rfl rfl rfl rfl rfl rfl hA1 (Ld.own 0 (by exact rfl)) (by simp only [List.length_append, List.length_cons, List.length_nil] at *; omega) (by decide)) rfl rfl rfl ?_
  rintro _ _ ⟨A2, k1, rfl, rfl, hA2⟩ hs
  replace hA2 := hA2 (.inr (by simp))
  refine ⟨fun w hw => hw.sub (Sub.keep 2 rfl (Sub.keep 2 rfl (Sub.drop (Sub.drop (Sub.drop (Sub.drop (Sub.drop (Sub.refl _)))))))), ?_⟩
  refine D.effX (Hs' := []) hwf (e := 7) rfl rfl rfl rfl (Ef.store1 (cs' := [_]) 2 rfl sz52 rfl rfl rfl rfl rfl (ltb rfl) rfl) rfl [] rfl (List.forall_mem_nil _) ?_
  rintro _ _ rfl
  refine ⟨fun w hw => hw.sub (Sub.nil _), ?_⟩
  refine D.done hwf rfl ?_
  refine X.map (fun w hw => snoc_heap (ps := ps1) (xs := p1.2) (hw.sub (Sub.keep 4 rfl (Sub.keep 4 rfl (Sub.keep 1 rfl (Sub.keep 0 rfl (Sub.keep 0 rfl (Sub.keep 0 rfl (Sub.keep 0 rfl (Sub.refl _)))))))))) ?_
  refine X.next ?_
  refine V.seq ?_
  refine V.region ?_
  refine O.p rfl rfl rfl (Pu.assign rfl rfl) ?_
  refine O.nil ?_
  refine X.next ?_
  refine V.ret ?_
  refine X.map (fun w hw => SysE.mk (l := l ++ [list]) (by rw [conts_append, hps1]; exact congrArg (fun q => l ++ [q]) hp1) (hw.sub (Sub.cons 3 rfl (fun w F h => by rw [tops_append]; exact h) (Sub.keep 3 rfl (Sub.keep 0 rfl (Sub.keep 0 rfl (Sub.keep 0 rfl (Sub.keep 0 rfl (Sub.refl _))))))))) ?_
  refine X.ret1 rfl rfl ?_
  exact fun w hw => St.unsep (St.addPur rfl (St.unsep (hw.sub (Sub.keep 2 rfl (Sub.keep 0 rfl (Sub.drop (Sub.refl _)))))))
theorem systemsOf1_call (v : Int) (b0 b1 : Nat) (w0 : World) : CallB Try.prog w0 56 50 #[.pointer (some ⟨b0, 0, none⟩), .pointer (some ⟨b1, 0, none⟩)] (SysE 26 56 52 2 v b0 b1) (fun _ => true) (fun xs => xs.length ≤ 1000) 2000 :=
  fun l xs A k H hl hx => systemsOf1_ok xs v b0 b1 l A k w0 H (by omega) hx
set_option maxRecDepth 100000 in
set_option maxHeartbeats 1000000 in
theorem systemsOf_ok (n : Nat) (pv : Nat) (w : World) (hv : pv ≤ 15) (hn : leftN pv 0 ≤ n) (hM : (compM n pv 0).length ≤ 1000) (hxs : n ≤ 1000) : Does Try.prog 28 [.int .i64 (pv : Int)] w [] (fun rv_ => [.exi fun (rA : Option Addr) => .exi fun (rc : Nat) => .exi fun (r : List (Sl × List B3)) => .sep (.pur (rv_ = .slice rA (tops r).length rc ∧ conts r = compM n pv 0)) (.sep (Own 26 (SyC (pv:Int)) rA rc (tops r)) (RowsA 56 B3C r))]) := by
  refine Does.enter Try.func28 rfl rfl [(0, .int .i64 (pv : Int))] rfl ?_
  refine V.seq ?_
  refine V.region ?_
  refine O.e rfl rfl rfl (Ef.box rfl rfl rfl) ?_
  rintro _ _ ⟨b1, rfl, rfl⟩
  refine O.p rfl rfl rfl (Pu.assign rfl rfl) ?_
  refine O.nil ?_
  refine X.next ?_
  refine V.seq ?_
  refine V.region ?_
  refine O.e rfl rfl rfl (Ef.alloc rfl zr52 rfl) ?_
  rintro _ _ ⟨b2, rfl, rfl⟩
  refine O.nil ?_
  refine X.next ?_
  refine V.seq ?_
  refine V.region ?_
  refine O.p rfl rfl rfl (Pu.load rfl pl2 rfl (Ld.blk 1 rfl rfl)) ?_
  refine O.p rfl rfl rfl (Pu.buildS (cs := [.int .i64 (↑pv : Int), .slice none 0 0]) rfl rfl Try.underlying26 zr26 (by kernel_rfl) rfl (by kernel_rfl)) ?_
  refine O.p rfl rfl rfl (Pu.makeFunc rfl rfl) ?_
  refine O.map (fun w hw => SysE.mk (sT := 26) (bT := 56) (v := (pv : Int)) (l := []) (ps := []) rfl ((St.addNil (T := 26) (C := SyC (pv : Int)) (RowsA.nil (T := 56) (C := B3C) hw)).sub (Sub.keep 2 rfl (Sub.keep 2 rfl (Sub.keep 0 rfl (Sub.keep 0 rfl (Sub.nil _))))))) ?_
  refine O.e rfl rfl rfl (Ef.call call49 rfl rfl (Does.pre (fun w hw => hw.sub (Sub.keep 0 rfl (Sub.nil _))) (complete_ok  pv ([]) (50) (#[.pointer (some ⟨b2, 0, none⟩), .pointer (some ⟨b1, 0, none⟩)]) (SysE 26 56 52 2 (pv:Int) b2 b1) (fun _ => true) (fun xs => xs.length ≤ 1000) 2000 n 0 ([]) _ _ w _ (fun w hw => Rd.nil _ _ _) (by first | omega | (simp only [tops_len, conts_len, bl, List.length_append, List.length_cons, List.length_nil] at *; omega)) (by simp) fitsAt_nil hv rel_nil (call50) (systemsOf1_call _ _ _ _) hn (by rw [runC_all goesC_true, leaf_len]; simp only [List.length_nil]; omega) (by decide) (fun q hq => Nat.le_trans (leaf_nil_len hq) hxs) (by simp only [List.length_nil]; omega)))) ?_
  rintro _ _ rfl
  refine O.sep ?_
  refine O.pur ?_
  rintro rfl
  refine O.nil ?_
  refine X.next ?_
  refine V.seq ?_
  refine V.sysE (fun yA1 yk1 ps1 hps1 => ?_)
  refine V.fact (RowsA.len 3 rfl) (fun hn_ps1 => ?_)
  have htl_ps1 := tops_len ps1
  refine V.region ?_
  refine O.p rfl rfl rfl (Pu.load rfl pl52 rfl (Ld.blk 0 rfl rfl)) ?_
  refine O.p rfl rfl rfl (Pu.assign rfl rfl) ?_
  refine O.nil ?_
  refine X.next ?_
  refine V.ret ?_
  refine X.ret1 rfl rfl ?_
  exact fun w hw => St.mkExi yA1 (St.mkExi yk1 (St.mkExi ps1 (St.unsep (St.addPur ⟨(by first | rfl | (simp only [tops_append]; done) | (simp only [tops_append]; rfl)), by rw [hps1, runC_all goesC_true]; simp [leaf]⟩ (St.unsep (hw.sub (Sub.keep 2 rfl (Sub.keep 2 rfl (Sub.nil _)))))))))
end Go.Proofs.Ytgjfcepnkllklaa
