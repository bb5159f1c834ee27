/-
  All systems of few points.
-/
import Derived.Test.YtjpfngmoabnffaaD3
set_option linter.unusedVariables false
set_option linter.unusedSimpArgs false
namespace Go.Proofs.Ytjpfngmoabnffaa
open Go Go.RowKit Go.Vc Go.Proofs
set_option maxRecDepth 100000 in
set_option maxHeartbeats 1000000 in
theorem systemsOf1_ok (list : List B3) (v : Int) (b0 b1 : Nat) (l : List (List B3)) (listA : Option Addr) (listc : Nat) (w0 : World) (H : List Assn) (hl : l.length ≤ 2000) (hxs : list.length ≤ 1000) : Does Try.prog 137 [.slice listA list.length listc, .pointer (some ⟨b0, 0, none⟩), .pointer (some ⟨b1, 0, none⟩)] w0 (Own 75 B3C listA listc list :: SysE 30 75 70 2 v b0 b1 l :: H) (fun r => [.sep (.pur (r = .bool true)) (.sep (Own 75 B3C listA listc list) (SysE 30 75 70 2 v b0 b1 (l ++ [list])))] ++ H) := by
  refine Does.enter Try.func137 rfl rfl [(0, .slice listA list.length listc), (1, .pointer (some ⟨b0, 0, none⟩)), (2, .pointer (some ⟨b1, 0, none⟩))] rfl ?_
  refine V.seq ?_
  refine V.region ?_
  refine O.p rfl rfl rfl (Pu.assign rfl rfl) ?_
  refine O.nil ?_
  refine X.next ?_
  refine V.seq ?_
  refine V.map (fun w hw => hw.sub (Sub.keep 1 rfl (Sub.keep 0 rfl (Sub.refl _)))) ?_
  refine V.sysE (fun yA1 yk1 ps1 hps1 => ?_)
  refine V.fact (RowsA.len 3 rfl) (fun hn_ps1 => ?_)
  have htl_ps1 := tops_len ps1
  have hcl := conts_len ps1
  have hpl : ps1.length = l.length := by rw [← hcl, hps1]
  refine V.drawS mo (by kernel_rfl) (Sub.keep 0 rfl (Sub.keep 0 rfl (Sub.drop (Sub.drop (Sub.drop (Sub.refl _)))))) (fun hwf => ?_)
  refine D.p 0 rfl rfl rfl rfl rfl rfl (Pu.load rfl pl70 rfl (Ld.blk 0 rfl rfl)) ?_
  refine D.p 1 rfl rfl rfl rfl rfl rfl (Pu.load rfl pl2 rfl (Ld.blk 1 rfl rfl)) ?_
  refine D.p 2 rfl rfl rfl rfl rfl rfl (Pu.move rfl rfl) ?_
  refine D.eff hwf (e := 3) rfl rfl rfl rfl (Ef.call1 call138 rfl rfl (fun w hw => cloneB_ok list _ _ w ((Ld.own 4 (by exact rfl)) w hw) (by first | omega | (simp only [tops_len] at *; omega)))) rfl rfl rfl ?_
  rintro _ _ rfl hs
  refine ⟨fun w hw => hs w hw.tail, ?_⟩
  refine D.exi (fun p1 => ?_)
  refine D.sep ?_
  refine D.pur1 ?_
  rintro ⟨rfl, hp1⟩
  refine D.p 4 rfl rfl rfl rfl rfl rfl (Pu.buildS (cs := [.int .i64 v, .slice p1.1.1 p1.2.length p1.1.2]) rfl rfl Try.underlying30 zr30 (by kernel_rfl) rfl (by kernel_rfl)) ?_
  refine D.eff hwf (e := 5) rfl rfl rfl rfl (Ef.build (SyC v) ([⟨p1.1.1, p1.2.length, p1.1.2⟩] : List Sl) rfl Try.underlying70 inf30 rfl rfl rfl (by first | decide | (simp; done)) (by kernel_rfl)) rfl rfl rfl ?_
  rintro _ _ ⟨A1, hA1, rfl, rfl⟩ hs
  refine ⟨fun w hw => hw.sub (Sub.keep 2 rfl (Sub.keep 2 rfl (Sub.drop (Sub.drop (Sub.drop (Sub.drop (Sub.drop (Sub.refl _)))))))), ?_⟩
  refine D.eff hwf (e := 6) rfl rfl rfl rfl (Ef.append (xs := (tops ps1)) (ys := ([⟨p1.1.1, p1.2.length, p1.1.2⟩] : List Sl)) 4 rfl Try.underlying70 inf30 rfl rfl rfl rfl rfl rfl hA1 (Ld.own 0 (by exact rfl)) (by simp only [List.length_append, List.length_cons, List.length_nil] at *; omega) (by decide)) rfl rfl rfl ?_
  rintro _ _ ⟨A2, k1, rfl, rfl, hA2⟩ hs
  replace hA2 := hA2 (.inr (by simp))
  refine ⟨fun w hw => hw.sub (Sub.keep 2 rfl (Sub.keep 2 rfl (Sub.drop (Sub.drop (Sub.drop (Sub.drop (Sub.drop (Sub.refl _)))))))), ?_⟩
  refine D.effX (Hs' := []) hwf (e := 7) rfl rfl rfl rfl (Ef.store1 (cs' := [_]) 2 rfl sz70 rfl rfl rfl rfl rfl (ltb rfl) rfl) rfl [] rfl (List.forall_mem_nil _) ?_
  rintro _ _ rfl
  refine ⟨fun w hw => hw.sub (Sub.nil _), ?_⟩
  refine D.done hwf rfl ?_
  refine X.map (fun w hw => snoc_heap (ps := ps1) (xs := p1.2) (hw.sub (Sub.keep 4 rfl (Sub.keep 4 rfl (Sub.keep 1 rfl (Sub.keep 0 rfl (Sub.keep 0 rfl (Sub.keep 0 rfl (Sub.keep 0 rfl (Sub.refl _)))))))))) ?_
  refine X.next ?_
  refine V.seq ?_
  refine V.region ?_
  refine O.p rfl rfl rfl (Pu.assign rfl rfl) ?_
  refine O.nil ?_
  refine X.next ?_
  refine V.ret ?_
  refine X.map (fun w hw => SysE.mk (l := l ++ [list]) (by rw [conts_append, hps1]; exact congrArg (fun q => l ++ [q]) hp1) (hw.sub (Sub.cons 3 rfl (fun w F h => by rw [tops_append]; exact h) (Sub.keep 3 rfl (Sub.keep 0 rfl (Sub.keep 0 rfl (Sub.keep 0 rfl (Sub.keep 0 rfl (Sub.refl _))))))))) ?_
  refine X.ret1 rfl rfl ?_
  exact fun w hw => St.unsep (St.addPur rfl (St.unsep (hw.sub (Sub.keep 2 rfl (Sub.keep 0 rfl (Sub.drop (Sub.refl _)))))))

theorem systemsOf1_call (v : Int) (b0 b1 : Nat) (w0 : World) : CallB Try.prog w0 75 137 #[.pointer (some ⟨b0, 0, none⟩), .pointer (some ⟨b1, 0, none⟩)] (SysE 30 75 70 2 v b0 b1) (fun _ => true) (fun xs => xs.length ≤ 1000) 2000 :=
  fun l xs A k H hl hx => systemsOf1_ok xs v b0 b1 l A k w0 H (by omega) hx

set_option maxRecDepth 100000 in
set_option maxHeartbeats 1000000 in
theorem systemsOf_ok (n : Nat) (pv : Nat) (w : World) (hv : pv ≤ 15) (hn : leftN pv 0 ≤ n) (hM : (compM n pv 0).length ≤ 1000) (hxs : n ≤ 1000) : Does Try.prog 66 [.int .i64 (pv : Int)] w [] (fun rv_ => [.exi fun (rA : Option Addr) => .exi fun (rc : Nat) => .exi fun (r : List (Sl × List B3)) => .sep (.pur (rv_ = .slice rA (tops r).length rc ∧ conts r = compM n pv 0)) (.sep (Own 30 (SyC (pv:Int)) rA rc (tops r)) (RowsA 75 B3C r))]) := by
  refine Does.enter Try.func66 rfl rfl [(0, .int .i64 (pv : Int))] rfl ?_
  refine V.seq ?_
  refine V.region ?_
  refine O.e rfl rfl rfl (Ef.box rfl rfl rfl) ?_
  rintro _ _ ⟨b1, rfl, rfl⟩
  refine O.p rfl rfl rfl (Pu.assign rfl rfl) ?_
  refine O.nil ?_
  refine X.next ?_
  refine V.seq ?_
  refine V.region ?_
  refine O.e rfl rfl rfl (Ef.alloc rfl zr70 rfl) ?_
  rintro _ _ ⟨b2, rfl, rfl⟩
  refine O.nil ?_
  refine X.next ?_
  refine V.seq ?_
  refine V.region ?_
  refine O.p rfl rfl rfl (Pu.load rfl pl2 rfl (Ld.blk 1 rfl rfl)) ?_
  refine O.p rfl rfl rfl (Pu.buildS (cs := [.int .i64 (↑pv : Int), .slice none 0 0]) rfl rfl Try.underlying30 zr30 (by kernel_rfl) rfl (by kernel_rfl)) ?_
  refine O.p rfl rfl rfl (Pu.makeFunc rfl rfl) ?_
  refine O.map (fun w hw => SysE.mk (sT := 30) (bT := 75) (v := (pv : Int)) (l := []) (ps := []) rfl ((St.addNil (T := 30) (C := SyC (pv : Int)) (RowsA.nil (T := 75) (C := B3C) hw)).sub (Sub.keep 2 rfl (Sub.keep 2 rfl (Sub.keep 0 rfl (Sub.keep 0 rfl (Sub.nil _))))))) ?_
  refine O.e rfl rfl rfl (Ef.call call136 rfl rfl (Does.pre (fun w hw => hw.sub (Sub.keep 0 rfl (Sub.nil _))) (complete_ok  pv ([]) (137) (#[.pointer (some ⟨b2, 0, none⟩), .pointer (some ⟨b1, 0, none⟩)]) (SysE 30 75 70 2 (pv:Int) b2 b1) (fun _ => true) (fun xs => xs.length ≤ 1000) 2000 n 0 ([]) _ _ w _ (fun w hw => Rd.nil _ _ _) (by first | omega | (simp only [tops_len, conts_len, bl, List.length_append, List.length_cons, List.length_nil] at *; omega)) (by simp) fitsAt_nil hv rel_nil (call137) (systemsOf1_call _ _ _ _) hn (by rw [runC_all goesC_true, leaf_len]; simp only [List.length_nil]; omega) (by decide) (fun q hq => Nat.le_trans (leaf_nil_len hq) hxs) (by simp only [List.length_nil]; omega)))) ?_
  rintro _ _ rfl
  refine O.sep ?_
  refine O.pur ?_
  rintro rfl
  refine O.nil ?_
  refine X.next ?_
  refine V.seq ?_
  refine V.sysE (fun yA1 yk1 ps1 hps1 => ?_)
  refine V.fact (RowsA.len 3 rfl) (fun hn_ps1 => ?_)
  have htl_ps1 := tops_len ps1
  refine V.region ?_
  refine O.p rfl rfl rfl (Pu.load rfl pl70 rfl (Ld.blk 0 rfl rfl)) ?_
  refine O.p rfl rfl rfl (Pu.assign rfl rfl) ?_
  refine O.nil ?_
  refine X.next ?_
  refine V.ret ?_
  refine X.ret1 rfl rfl ?_
  exact fun w hw => St.mkExi yA1 (St.mkExi yk1 (St.mkExi ps1 (St.unsep (St.addPur ⟨(by first | rfl | (simp only [tops_append]; done) | (simp only [tops_append]; rfl)), by rw [hps1, runC_all goesC_true]; simp [leaf]⟩ (St.unsep (hw.sub (Sub.keep 2 rfl (Sub.keep 2 rfl (Sub.nil _)))))))))
end Go.Proofs.Ytjpfngmoabnffaa
