/-
  The list of classes.
-/
import Derived.Test.YtjpfngmoabnffaaG
import Derived.Test.YtjpfngmoabnffaaPureCls
import Derived.Test.YtjpfngmoabnffaaI
import Derived.Test.YtjpfngmoabnffaaJ
set_option linter.unusedVariables false
set_option linter.unusedSimpArgs false
namespace Go.Proofs.Ytjpfngmoabnffaa
open Go Go.RowKit Go.Vc Go.Proofs
set_option maxRecDepth 100000 in
theorem classesI_ok (v : Int) (bs : List B3) (A : Option Addr) (c : Nat) (w : World) (hx : Rd B3C w A bs) (hS : STS v bs) : Does Try.prog 75 [.agg #[.int .i64 v, .slice A bs.length c]] w [] (fun r => [.exi fun p : (Option Addr × Nat) × List (Sl × List Int) => .sep (.pur (r = .slice p.1.1 (tops p.2).length p.1.2 ∧ IsList (Cls v bs) (conts p.2) ∧ p.2.length ≤ 52521875)) (.sep (Own 43 SlC p.1.1 p.1.2 (tops p.2)) (RowsA 2 I64 p.2))]) := by
  refine Does.enter Try.func75 rfl rfl [(0, .agg #[.int .i64 v, .slice A bs.length c])] rfl ?_
  refine V.seq ?_
  have hb := hS.good
  have hlo := hS.lo
  have hhi := hS.hi
  refine V.region ?_
  refine O.e rfl rfl rfl (Ef.box rfl rfl rfl) ?_
  rintro _ _ ⟨b1, rfl, rfl⟩
  refine O.p rfl rfl rfl (Pu.assign rfl rfl) ?_
  refine O.nil ?_
  refine X.next ?_
  refine V.seq ?_
  refine V.seq ?_
  refine V.region ?_
  refine O.p rfl rfl rfl (Pu.fieldAddr 0 rfl Try.underlying30 rfl sz2 rfl rfl) ?_
  refine O.p rfl rfl rfl (Pu.load rfl pl2 rfl (Ld.blk 0 rfl rfl)) ?_
  refine O.p rfl rfl rfl (Pu.rem64 (by omega) (by omega) rfl rfl rfl) ?_
  refine O.p rfl rfl rfl (Pu.neq rfl rfl rfl) ?_
  refine O.nil ?_
  refine X.next ?_
  refine V.condNot rfl (fun c1 => ?_) (fun c1 => ?_)
  · skip
    refine V.seq ?_
    refine V.region ?_
    refine O.p rfl rfl rfl (Pu.assign rfl rfl) ?_
    refine O.nil ?_
    refine X.next ?_
    refine V.ret ?_
    refine X.thenRet ?_
    refine X.ret1 rfl rfl ?_
    exact fun w hw => St.mkExi ((none, 0), []) (St.unsep (St.addPur ⟨rfl, cls_none hb (by omega) c1, by simp⟩ (St.unsep ((RowsA.nil (T := 2) (C := I64) (St.addNil (T := 43) (C := SlC) (hw.sub (Sub.nil _)))).perm (List.Perm.swap _ _ _)))))
  · skip
    refine V.skip ?_
    refine X.next ?_
    refine V.seq ?_
    have h35 : 35 ^ (v / 3).toNat ≤ 35 ^ 5 := Nat.pow_le_pow_right (by decide) (by omega)
    refine V.map (fun w hw => (St.addNil (T := 43) (C := SlC) (RowsA.nil (T := 2) (C := I64) (St.addNil (T := 2) (C := I64) hw)))) ?_
    refine V.region ?_
    refine O.p rfl rfl rfl (Pu.loadAgg rfl ag30 sz30 rfl rfl (Ld.whole 3 rfl)) ?_
    refine O.p rfl rfl rfl (Pu.fieldAddr 0 rfl Try.underlying30 rfl sz2 rfl rfl) ?_
    refine O.p rfl rfl rfl (Pu.load rfl pl2 rfl (Ld.blk 3 rfl rfl)) ?_
    refine O.p rfl rfl rfl (Pu.quoN ((v / 3).toNat) (by omega) (by omega) (by omega) (by omega) rfl rfl rfl) ?_
    refine O.e rfl rfl rfl (Ef.call call145 rfl rfl (Does.pre (fun w hw => hw.sub (Sub.keep 0 rfl (Sub.keep 0 rfl (Sub.keep 0 rfl (Sub.keep 0 rfl (Sub.nil _)))))) (disjoint_ok (v / 3).toNat _ bs [] [] _ none none _ 0 0 _ w _ hx hS.few dj_nil (by simp) (by omega) (by simp only [List.length_nil]; omega)))) ?_
    rintro _ _ rfl
    refine O.exi (fun p1 => ?_)
    refine O.sep ?_
    refine O.pur ?_
    rintro ⟨rfl, hp1_1, hp1_2⟩
    refine O.sep ?_
    refine O.p rfl rfl rfl (Pu.assign rfl rfl) ?_
    refine O.nil ?_
    refine X.next ?_
    refine V.ret ?_
    refine X.ret1 rfl rfl ?_
    exact fun w hw => St.mkExi p1 (St.unsep (St.addPur ⟨rfl, by obtain ⟨ls, h1, h2⟩ := hp1_1; rw [h1]; exact cls_ext hb (by omega) (by omega) h2, by simp only [List.length_nil] at hp1_2; omega⟩ (St.unsep (hw.sub (Sub.keep 0 rfl (Sub.keep 0 rfl (Sub.nil _)))))))
end Go.Proofs.Ytjpfngmoabnffaa
