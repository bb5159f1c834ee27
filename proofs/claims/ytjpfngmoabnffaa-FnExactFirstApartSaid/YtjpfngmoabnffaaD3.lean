/-
  Completions of a system.
-/
import Derived.Test.YtjpfngmoabnffaaD2
import Derived.Test.YtjpfngmoabnffaaZ1
import Derived.Test.YtjpfngmoabnffaaVcSys
set_option linter.unusedVariables false
set_option linter.unusedSimpArgs false
namespace Go.Proofs.Ytjpfngmoabnffaa
open Go Go.RowKit Go.Vc Go.Proofs
theorem zr189 : Zr Try.prog 189 (.agg #[.int .i64 0, .pointer none, .slice none 0 0, .nilFunc]) := by unfold Zr; kernel_rfl

theorem gridFit_ok (bs : List B3) (A : Option Addr) (c : Nat) (w : World) (hx : Rd B3C w A bs) (lx : bs.length ≤ 4611686018427387904) (hb : ∀ b ∈ bs, good 15 b) (hft : fitsAt bs bs.length) : Does Try.prog 182 [.slice A bs.length c] w [] (fun v => [.exi fun g : Nat => .sep (.pur (v = .tuple #[.pointer (some ⟨g, 0, none⟩), .bool true])) (Grid g (tab bs) 222)]) :=
  (gridOf_ok bs A c w hx lx hb).mono (fun v w hs => by
    obtain ⟨g, hs⟩ := hs.exi
    rcases g with _ | g
    · exact absurd hft hs.pur.1.2
    · have h := hs.sep.pur
      exact St.mkExi g (St.unsep (St.addPur h.1.1 h.2)))

set_option maxRecDepth 100000 in
set_option maxHeartbeats 1000000 in
theorem sysGrid_ok (v : Int) (bs : List B3) (A : Option Addr) (c : Nat) (w : World) (hx : Rd B3C w A bs) (lx : bs.length ≤ 4611686018427387904) (hb : ∀ b ∈ bs, good 15 b) (hft : fitsAt bs bs.length) : Does Try.prog 117 [.agg #[.int .i64 v, .slice A bs.length c]] w [] (fun r => [.exi fun (g : Nat) => .sep (.pur (r = .pointer (some ⟨g, 0, none⟩))) (Grid g (tab bs) 222)]) := by
  refine Does.enter Try.func117 rfl rfl [(0, .agg #[.int .i64 v, .slice A bs.length c])] rfl ?_
  refine V.seq ?_
  refine V.region ?_
  refine O.e rfl rfl rfl (Ef.box rfl rfl rfl) ?_
  rintro _ _ ⟨b1, rfl, rfl⟩
  refine O.p rfl rfl rfl (Pu.assign rfl rfl) ?_
  refine O.nil ?_
  refine X.next ?_
  refine V.seq ?_
  refine V.region ?_
  refine O.p rfl rfl rfl (Pu.fieldAddr 1 rfl Try.underlying30 rfl sz28 rfl rfl) ?_
  refine O.p rfl rfl rfl (Pu.load rfl pl28 rfl (Ld.blk 0 rfl rfl)) ?_
  refine O.e rfl rfl rfl (Ef.call1 call182 rfl rfl (fun w hw => gridFit_ok bs _ _ w ((Ld.old hx) w hw) (by omega) hb hft)) ?_
  rintro _ _ rfl
  refine O.exi (fun g1 => ?_)
  refine O.sep ?_
  refine O.pur ?_
  rintro rfl
  refine O.p rfl rfl rfl (Pu.move rfl rfl) ?_
  refine O.p rfl rfl rfl (Pu.extract rfl rfl rfl) ?_
  refine O.p rfl rfl rfl (Pu.extract rfl rfl rfl) ?_
  refine O.p rfl rfl rfl (Pu.assign rfl rfl) ?_
  refine O.p rfl rfl rfl (Pu.assign rfl rfl) ?_
  refine O.nil ?_
  refine X.next ?_
  refine V.seq ?_
  refine V.region ?_
  refine O.p rfl rfl rfl (Pu.move rfl rfl) ?_
  refine O.p rfl rfl rfl (Pu.assign rfl rfl) ?_
  refine O.nil ?_
  refine X.next ?_
  refine V.ret ?_
  refine X.ret1 rfl rfl ?_
  exact fun w hw => St.mkExi g1 (St.unsep (St.addPur rfl (hw.sub (Sub.keep 0 rfl (Sub.nil _)))))

set_option maxRecDepth 100000 in
set_option maxHeartbeats 1000000 in
theorem complete_ok (v : Nat) (bs : List B3) (gf : Nat) (caps : Array Value) (E : List (List B3) → Assn) (cont : Nat → Bool) (okL : List B3 → Prop) (M n m : Nat) (l : List (List B3)) (A : Option Addr) (c : Nat) (w0 : World) (H : List Assn) (hx : ∀ w, St w0 H w → Rd B3C w A bs) (lx : bs.length ≤ 4611686018427387904) (hb : ∀ b ∈ bs, good 15 b) (hft : fitsAt bs bs.length) (hv : v ≤ 15) (hrel : Rel v (tab bs) m) (hok : CallOk Try.prog gf) (hcb : CallB Try.prog w0 75 gf caps E cont okL M) (hn : leftN v m ≤ n) (hM : l.length + (runC cont l.length (leaf bs (compM n v m))).length ≤ M) (hMM : M ≤ 1000000) (hokl : ∀ q ∈ leaf bs (compM n v m), okL q) (hxs : bs.length + n ≤ 1000) : Does Try.prog 136 [.agg #[.int .i64 (v : Int), .slice A bs.length c], .func (.func gf) #[] caps] w0 (E l :: H) (fun r => [.sep (.pur (r = .tuple #[])) (E (l ++ runC cont l.length (leaf bs (compM n v m))))] ++ H) := by
  refine Does.enter Try.func136 rfl rfl [(0, .agg #[.int .i64 (v : Int), .slice A bs.length c]), (1, .func (.func gf) #[] caps)] rfl ?_
  refine V.seq ?_
  refine V.region ?_
  refine O.e rfl rfl rfl (Ef.box rfl rfl rfl) ?_
  rintro _ _ ⟨b1, rfl, rfl⟩
  refine O.nil ?_
  refine X.next ?_
  refine V.seq ?_
  refine V.drawS mo (by kernel_rfl) (Sub.keep 0 rfl (Sub.keep 0 rfl (Sub.refl _))) (fun hwf => ?_)
  refine D.p 0 rfl rfl rfl rfl rfl rfl (Pu.fieldAddr 0 rfl Try.underlying30 rfl sz2 rfl rfl) ?_
  refine D.p 1 rfl rfl rfl rfl rfl rfl (Pu.load rfl pl2 rfl (Ld.blk 0 rfl rfl)) ?_
  refine D.p 2 rfl rfl rfl rfl rfl rfl (Pu.loadAgg rfl ag30 sz30 rfl rfl (Ld.whole 0 rfl)) ?_
  refine D.p 4 rfl rfl rfl rfl rfl rfl (Pu.fieldAddr 1 rfl Try.underlying30 rfl sz28 rfl rfl) ?_
  refine D.p 5 rfl rfl rfl rfl rfl rfl (Pu.load rfl pl28 rfl (Ld.blk 0 rfl rfl)) ?_
  refine D.p 7 rfl rfl rfl rfl rfl rfl (Pu.move rfl rfl) ?_
  refine D.eff hwf (e := 3) rfl rfl rfl rfl (Ef.call1 call117 rfl rfl (fun w hw => sysGrid_ok  (↑v : Int) bs _ _ w ((fun w hw => hx w (hw.sub (Sub.drop (Sub.drop (Sub.refl _))))) w hw) (by first | omega | (simp only [tops_len, conts_len, bl, List.length_append, List.length_cons, List.length_nil] at *; omega)) (by first | assumption | omega | (try dsimp only at *; omega)) (by first | assumption | omega | (try dsimp only at *; omega)))) rfl rfl rfl ?_
  rintro _ _ rfl hs
  refine ⟨fun w hw => hs w hw.tail, ?_⟩
  refine D.exi (fun g1 => ?_)
  refine D.sep ?_
  refine D.pur1 ?_
  rintro rfl
  refine D.eff hwf (e := 6) rfl rfl rfl rfl (Ef.call1 call138 rfl rfl (fun w hw => cloneB_ok bs _ _ w ((fun w hw => hx w (hw.sub (Sub.drop (Sub.drop (Sub.drop (Sub.refl _)))))) w hw) (by first | omega | (simp only [tops_len] at *; omega)))) rfl rfl rfl ?_
  rintro _ _ rfl hs
  refine ⟨fun w hw => hs w hw.tail, ?_⟩
  refine D.exi (fun p1 => ?_)
  refine D.sep ?_
  refine D.pur1 ?_
  rintro ⟨rfl, hp1⟩
  refine D.p 8 rfl rfl rfl rfl rfl rfl (Pu.buildS (cs := [.int .i64 (↑v : Int), .pointer (some ⟨g1, 0, none⟩), .slice p1.1.1 p1.2.length p1.1.2, .func (.func gf) #[] caps]) rfl rfl Try.underlying189 zr189 (by kernel_rfl) rfl (by kernel_rfl)) ?_
  refine D.eff hwf (e := 9) rfl rfl rfl rfl (Ef.box rfl rfl rfl) rfl rfl rfl ?_
  rintro _ _ ⟨b2, rfl, rfl⟩ hs
  refine ⟨fun w hw => hw.sub (Sub.keep 3 rfl (Sub.keep 3 rfl (Sub.drop (Sub.drop (Sub.drop (Sub.refl _)))))), ?_⟩
  refine D.p 10 rfl rfl rfl rfl rfl rfl (Pu.assign rfl rfl) ?_
  refine D.done hwf rfl ?_
  refine X.next ?_
  refine V.map (fun w hw => CompK.mk (T := 189) (eT := 75) (gT := 222) (v := v) (m := m) (xs := bs) hrel (by have h := hw.sub (Sub.keep 0 rfl (Sub.keep 1 rfl (Sub.keep 0 rfl (Sub.keep 1 rfl (Sub.keep 0 rfl (Sub.refl _)))))); rw [hp1] at h; exact h)) ?_
  refine V.region ?_
  refine O.p rfl rfl rfl (Pu.move rfl rfl) ?_
  refine O.e rfl rfl rfl (Ef.call call196 rfl rfl (Does.pre (fun w hw => hw.sub (Sub.keep 0 rfl (Sub.keep 0 rfl (Sub.refl _)))) (from_ok n  b2 g1 v gf caps E cont okL M m bs l 0 w0 _   hok hcb (by omega) (by omega) (fun i j h => by omega) hn hM hMM hokl hxs))) ?_
  rintro _ _ rfl
  refine O.sep ?_
  refine O.pur ?_
  rintro rfl
  refine O.nil ?_
  refine X.endBody ?_
  refine X.compK (fun xA1 xk1 G1 hrel1 => ?_)
  refine X.ret0 rfl ?_
  exact fun w hw => St.unsep (St.addPur rfl (hw.sub (Sub.keep 3 rfl (Sub.drop (Sub.drop (Sub.drop (Sub.drop (Sub.refl _))))))))
end Go.Proofs.Ytjpfngmoabnffaa
