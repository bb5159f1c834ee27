/-
  Lists of lists without some.
-/
import Derived.Test.YtjpfngmoabnffaaZ1
import Derived.Test.YtjpfngmoabnffaaVcSub2
set_option linter.unusedVariables false
set_option linter.unusedSimpArgs false
namespace Go.Proofs.Ytjpfngmoabnffaa
open Go Go.RowKit Go.Vc Go.Proofs
set_option maxRecDepth 100000 in
set_option maxHeartbeats 1000000 in
theorem indexFuncS_ok (s : List (Sl × List Int)) (p : Sl × List Int → Prop) [DecidablePred p] (gf : Nat) (caps : Array Value) (sA : Option Addr) (sc : Nat) (w : World) (hs : RdL I64 w sA s) (ls : s.length ≤ 1099511627776) (hok : CallOk Try.prog gf) (hf : ∀ (k : Nat) (hk : k < s.length) w', Below w.heap.size w w' → Does Try.prog gf ([.slice (s[k]).1.A (s[k]).2.length (s[k]).1.c] ++ caps.toList) w' [] (fun v => [.pur (v = .bool (decide (p s[k])))])) : Does Try.prog 144 [.slice sA (tops s).length sc, .func (.func gf) #[] caps] w [] (fun r => [.pur (r = .int .i64 (idxP p s))]) := by
  refine Does.enter Try.func144 rfl rfl [(0, .slice sA (tops s).length sc), (1, .func (.func gf) #[] caps)] rfl ?_
  have htl := tops_len s
  refine V.seq ?_
  refine V.region ?_
  refine O.p rfl rfl rfl (Pu.assign rfl rfl) ?_
  refine O.nil ?_
  refine X.next ?_
  refine V.seq ?_
  refine V.seq ?_
  refine V.region ?_
  refine O.p rfl rfl rfl (Pu.move rfl rfl) ?_
  refine O.p rfl rfl rfl (Pu.len rfl Try.underlying34 rfl) ?_
  refine O.p rfl rfl rfl (Pu.move rfl rfl) ?_
  refine O.nil ?_
  refine X.next ?_
  refine V.block ?_
  refine V.loop2 (β := Nat) (fun i => [(8, .int .i64 (i : Int))]) _ (fun i => []) (fun i => i ≤ s.length ∧ ∀ j (hj : j < s.length), j < i → ¬ p s[j]) (fun i => s.length - i) 0 ⟨by omega, fun j hj h => by omega⟩ (Ent.cons rfl (Ent.nil _)) (Ent.cons (t := 0) rfl (Ent.cons (t := 1) rfl (Ent.cons (t := 7) rfl (Ent.nil _)))) (Sub.nil _) ?_
  rintro i ⟨hi, hn⟩
  refine V.seq ?_
  refine V.region ?_
  refine O.p rfl rfl rfl (Pu.lss rfl rfl rfl) ?_
  refine O.nil ?_
  refine X.next ?_
  refine V.seq ?_
  refine V.condD rfl (fun c1 => ?_) (fun c1 => ?_)
  · skip
    refine V.skip ?_
    refine X.next ?_
    refine V.seq ?_
    refine V.block ?_
    refine V.seq ?_
    refine V.region ?_
    refine O.p rfl rfl rfl (Pu.move rfl rfl) ?_
    refine O.p rfl rfl rfl (Pu.assign rfl rfl) ?_
    refine O.nil ?_
    refine X.next ?_
    refine V.seq ?_
    refine V.region ?_
    refine O.p rfl rfl rfl (Pu.move rfl rfl) ?_
    refine O.p rfl rfl rfl (Pu.move rfl rfl) ?_
    refine O.p rfl rfl rfl (Pu.move rfl rfl) ?_
    refine O.p rfl rfl rfl (Pu.indexAddr (i) rfl Try.underlying34 sz43 rfl rfl (by omega) (by omega) (hs.top.some (by omega))) ?_
    have e1 : i < s.length := by have := tops_len s; omega
    refine O.p rfl rfl rfl (Pu.load rfl pl43 rfl (Ld.row (Ld.old hs.top) hs.len e1 rfl)) ?_
    refine O.e rfl rfl rfl (Ef.callPV hok rfl rfl rfl (fun w' hw => hf i (by have := tops_len s; omega) w' hw.below)) ?_
    rintro _ _ ⟨rfl, rfl⟩
    refine O.nil ?_
    refine X.next ?_
    refine V.condD rfl (fun c2 => ?_) (fun c2 => ?_)
    · skip
      refine V.seq ?_
      refine V.region ?_
      refine O.p rfl rfl rfl (Pu.move rfl rfl) ?_
      refine O.p rfl rfl rfl (Pu.assign rfl rfl) ?_
      refine O.nil ?_
      refine X.next ?_
      refine V.ret ?_
      refine X.blockRet ?_
      refine X.thenRet ?_
      refine X.thenRet ?_
      refine X.blockRet ?_
      refine X.thenRet ?_
      refine X.ret1 rfl rfl ?_
      exact fun w hw => St.retP (iv ((idxP_found (by omega) c2 hn).symm)) hw
    · skip
      refine V.skip ?_
      refine X.blockNormal ?_
      refine X.next ?_
      refine V.region ?_
      refine O.p rfl rfl rfl (Pu.add64 (r := ((i + 1 : Nat) : Int)) rfl (by omega) rfl rfl rfl) ?_
      refine O.p rfl rfl rfl (Pu.move rfl rfl) ?_
      refine O.nil ?_
      exact X.back2 (i + 1) ⟨by omega, fun j hj h => by by_cases e : j = i; (· subst e; exact c2); (· exact hn j hj (by omega))⟩ (by first | omega | (dsimp only; omega)) (Ent.cons rfl (Ent.nil _)) (Ent.cons (t := 0) rfl (Ent.cons (t := 1) rfl (Ent.cons (t := 7) rfl (Ent.nil _)))) (Sub.nil _)
  · skip
    refine V.exit ?_
    refine X.thenExit ?_
    refine X.thenExit ?_
    refine X.blockHit ?_
    refine X.next ?_
    refine V.seq ?_
    refine V.region ?_
    refine O.p rfl rfl rfl (Pu.assign rfl rfl) ?_
    refine O.nil ?_
    refine X.next ?_
    refine V.ret ?_
    refine X.ret1 rfl rfl ?_
    exact fun w hw => St.retP (iv ((idxP_none (fun j hj => hn j hj (by omega))).symm)) hw

set_option maxRecDepth 100000 in
set_option maxHeartbeats 1000000 in
theorem deleteS_ok (s : List (Sl × List Int)) (p : Sl × List Int → Prop) [DecidablePred p] (gf : Nat) (caps : Array Value) (sA : Option Addr) (sc : Nat) (w0 : World) (H : List Assn) (hok : CallOk Try.prog gf) (ls : s.length ≤ 1099511627776) (hn_s : LenOk s) (hf : ∀ (k : Nat) (hk : k < s.length) (zs : List Sl) w', St w0 (Own 43 SlC sA sc zs :: RowsA 2 I64 s :: H) w' → Does Try.prog gf ([(s[k]).1.v] ++ caps.toList) w' [] (fun v => [.pur (v = .bool (decide (p s[k])))])) : Does Try.prog 74 [.slice sA (tops s).length sc, .func (.func gf) #[] caps] w0 (Own 43 SlC sA sc (tops s) :: RowsA 2 I64 s :: H) (fun rv_ => [.exi fun (rA : Option Addr) => .exi fun (rc : Nat) => .exi fun (r : List Sl) => .sep (.pur (rv_ = .slice rA r.length rc ∧ r = tops (s.filter fun x => !decide (p x)))) (.sep (Own 43 SlC rA rc r) (RowsA 2 I64 s))] ++ H) := by
  refine Does.enter Try.func74 rfl rfl [(0, .slice sA (tops s).length sc), (1, .func (.func gf) #[] caps)] rfl ?_
  have htl := tops_len s
  refine V.seq ?_
  refine V.region ?_
  refine O.p rfl rfl rfl (Pu.assign rfl rfl) ?_
  refine O.nil ?_
  refine X.next ?_
  refine V.seq ?_
  refine V.region ?_
  refine O.p rfl rfl rfl (Pu.move rfl rfl) ?_
  refine O.p rfl rfl rfl (Pu.move rfl rfl) ?_
  refine O.e rfl rfl rfl (Ef.callP call144 rfl rfl (fun w hw => indexFuncS_ok s p gf caps _ _ w (Ld.ll 0 1 (by exact rfl) (by exact rfl) w hw) (by omega) hok (fun k hk w' hb => by rw [← hn_s.sl hk]; exact hf k hk _ w' (hw.grow hb)))) ?_
  rintro _ _ ⟨rfl, rfl⟩
  refine O.p rfl rfl rfl (Pu.assign rfl rfl) ?_
  refine O.nil ?_
  refine X.next ?_
  refine V.seq ?_
  refine V.seq ?_
  refine V.region ?_
  refine O.p rfl rfl rfl (Pu.move rfl rfl) ?_
  refine O.p rfl rfl rfl (Pu.eql rfl rfl rfl) ?_
  refine O.nil ?_
  refine X.next ?_
  refine V.condD rfl (fun c1 => ?_) (fun c1 => ?_)
  · skip
    refine V.seq ?_
    refine V.region ?_
    refine O.p rfl rfl rfl (Pu.move rfl rfl) ?_
    refine O.p rfl rfl rfl (Pu.assign rfl rfl) ?_
    refine O.nil ?_
    refine X.next ?_
    refine V.ret ?_
    refine X.thenRet ?_
    refine X.ret1 rfl rfl ?_
    exact fun w hw => St.mkExi sA (St.mkExi sc (St.mkExi (tops s) (St.unsep (St.addPur ⟨rfl, congrArg tops (keep_none (idxP_not c1)).symm⟩ (St.unsep (hw.sub (Sub.keep 0 rfl (Sub.keep 0 rfl (Sub.refl _)))))))))
  · skip
    obtain ⟨i0, hi0, q1, q2, q3⟩ := idxP_at c1
    have qj : (idxP p s + 1).toNat = i0 + 1 := by omega
    have qi : (idxP p s).toNat = i0 := by omega
    have qm := movL_start q3 hi0 q2
    refine V.skip ?_
    refine X.next ?_
    refine V.seq ?_
    refine V.seq ?_
    refine V.region ?_
    refine O.p rfl rfl rfl (Pu.move rfl rfl) ?_
    refine O.p rfl rfl rfl (Pu.add64 rfl (by omega) rfl rfl rfl) ?_
    refine O.p rfl rfl rfl (Pu.assign rfl rfl) ?_
    refine O.nil ?_
    refine X.next ?_
    refine V.block ?_
    refine V.loop3 (β := Nat × Nat × (List Sl)) (fun x => [(5, .int .i64 (x.1 : Int)), (6, .int .i64 (x.2.1 : Int))]) _ (fun x => [Own 43 SlC sA sc x.2.2]) _ (fun x => i0 < x.2.1 ∧ x.2.1 ≤ s.length ∧ x.1 = (keptL p s x.2.1).length ∧ x.2.2 = tops (movL p s x.2.1)) (fun x => s.length - x.2.1) (((idxP p s)).toNat, (((idxP p s) + (1 : Int))).toNat, (tops s)) (by (try dsimp only); exact ⟨by omega, by omega, by rw [qj, qm.2]; exact qi, by rw [qj]; exact congrArg tops qm.1⟩) (Ent.cons' rfl (iv (by (try dsimp only); omega)) (Ent.cons' rfl (iv (by (try dsimp only); omega)) (Ent.nil _))) (Ent.cons (t := 0) rfl (Ent.cons (t := 1) rfl (Ent.nil _))) (Sub.keep 0 rfl (Sub.keep 0 rfl (Sub.refl _))) ?_
    rintro ⟨i, j, z⟩ ⟨hj0, hj, hi, hz⟩
    dsimp only at hj0 hj hi hz ⊢
    subst hz
    have hml := movL_len (p := p) (ps := s) (j := j)
    have htm := tops_len (movL p s j)
    have hkl := keptL_le (p := p) (ps := s) (j := j)
    refine V.seq ?_
    refine V.seq ?_
    refine V.region ?_
    refine O.p rfl rfl rfl (Pu.move rfl rfl) ?_
    refine O.p rfl rfl rfl (Pu.move rfl rfl) ?_
    refine O.p rfl rfl rfl (Pu.len rfl Try.underlying34 rfl) ?_
    refine O.p rfl rfl rfl (Pu.lss rfl rfl rfl) ?_
    refine O.nil ?_
    refine X.next ?_
    refine V.condD rfl (fun c2 => ?_) (fun c2 => ?_)
    · skip
      refine V.skip ?_
      refine X.next ?_
      refine V.seq ?_
      refine V.block ?_
      refine V.seq ?_
      refine V.region ?_
      refine O.p rfl rfl rfl (Pu.move rfl rfl) ?_
      refine O.p rfl rfl rfl (Pu.move rfl rfl) ?_
      refine O.p rfl rfl rfl (Pu.indexAddrS (j) rfl Try.underlying34 sz43 rfl rfl (by omega) (by omega) (fun w hw => Own.some hw (i := 0) (by exact rfl) (by omega))) ?_
      have e1 : j < (tops (movL p s j)).length := by omega
      refine O.p rfl rfl rfl (Pu.load rfl pl43 rfl (Ld.rd (Ld.own 0 (by exact rfl)) (k := j) e1 rfl rfl)) ?_
      refine O.p rfl rfl rfl (Pu.assign rfl rfl) ?_
      refine O.nil ?_
      refine X.next ?_
      refine V.seq ?_
      refine V.region ?_
      refine O.p rfl rfl rfl (Pu.move rfl rfl) ?_
      refine O.p rfl rfl rfl (Pu.move rfl rfl) ?_
      refine O.e rfl rfl rfl (Ef.callPV hok rfl rfl rfl (fun w' hw => by rw [topm_get (by omega)]; exact hf j (by omega) _ w' (hw.sub (Sub.keep 0 rfl (Sub.keep 0 rfl (Sub.refl _)))))) ?_
      rintro _ _ ⟨rfl, rfl⟩
      refine O.p rfl rfl rfl (Pu.not rfl rfl) ?_
      refine O.nil ?_
      refine X.next ?_
      refine V.condNot rfl (fun c3 => ?_) (fun c3 => ?_)
      · skip
        refine V.seq ?_
        refine V.region ?_
        refine O.p rfl rfl rfl (Pu.move rfl rfl) ?_
        refine O.p rfl rfl rfl (Pu.move rfl rfl) ?_
        refine O.p rfl rfl rfl (Pu.move rfl rfl) ?_
        refine O.p rfl rfl rfl (Pu.indexAddrS (i) rfl Try.underlying34 sz43 rfl rfl (by omega) (by omega) (fun w hw => Own.some hw (i := 0) (by exact rfl) (by omega))) ?_
        refine O.s rfl rfl (Ef.storeOwn 0 (i) ((tops (movL p s j))[j]'e1) rfl sz43 rfl rfl rfl rfl (by rw [tops_len, movL_len]; omega) rfl) ?_
        rintro _ _ rfl
        refine O.nil ?_
        refine X.next ?_
        refine V.region ?_
        refine O.p rfl rfl rfl (Pu.move rfl rfl) ?_
        refine O.p rfl rfl rfl (Pu.add64 (r := ((i + 1 : Nat) : Int)) rfl (by omega) rfl rfl rfl) ?_
        refine O.p rfl rfl rfl (Pu.assign rfl rfl) ?_
        refine O.nil ?_
        refine X.blockNormal ?_
        refine X.next ?_
        refine V.region ?_
        refine O.p rfl rfl rfl (Pu.move rfl rfl) ?_
        refine O.p rfl rfl rfl (Pu.add64 (r := ((j + 1 : Nat) : Int)) rfl (by omega) rfl rfl rfl) ?_
        refine O.p rfl rfl rfl (Pu.assign rfl rfl) ?_
        refine O.nil ?_
        exact X.back3 (i + 1, j + 1, ((tops (movL p s j)).set (i) ((tops (movL p s j))[j]'e1))) (by (try dsimp only); exact ⟨by omega, by omega, by rw [keptL_no (by omega) c3, List.length_append, hi]; rfl, by rw [topm_get (by omega), hi]; exact topm_no (by omega) c3⟩) (by first | omega | (dsimp only; omega)) (Ent.cons rfl (Ent.cons rfl (Ent.nil _))) (Ent.cons (t := 0) rfl (Ent.cons (t := 1) rfl (Ent.nil _))) (Sub.keep 0 rfl (Sub.keep 0 rfl (Sub.refl _)))
      · skip
        refine V.skip ?_
        refine X.blockNormal ?_
        refine X.next ?_
        refine V.region ?_
        refine O.p rfl rfl rfl (Pu.move rfl rfl) ?_
        refine O.p rfl rfl rfl (Pu.add64 (r := ((j + 1 : Nat) : Int)) rfl (by omega) rfl rfl rfl) ?_
        refine O.p rfl rfl rfl (Pu.assign rfl rfl) ?_
        refine O.nil ?_
        exact X.back3 (i, j + 1, (tops (movL p s j))) (by (try dsimp only); exact ⟨by omega, by omega, by rw [keptL_yes (by omega) c3]; exact hi, congrArg tops (movL_yes (by omega) c3)⟩) (by first | omega | (dsimp only; omega)) (Ent.cons rfl (Ent.cons rfl (Ent.nil _))) (Ent.cons (t := 0) rfl (Ent.cons (t := 1) rfl (Ent.nil _))) (Sub.keep 0 rfl (Sub.keep 0 rfl (Sub.refl _)))
    · skip
      refine V.exit ?_
      refine X.thenExit ?_
      refine X.thenExit ?_
      refine X.blockHit ?_
      refine X.next ?_
      refine V.seq ?_
      refine V.fact (fun w hw => Own.cap hw (i := 0) rfl) (fun hcap => ?_)
      refine V.region ?_
      refine O.p rfl rfl rfl (Pu.move rfl rfl) ?_
      refine O.p rfl rfl rfl (Pu.move rfl rfl) ?_
      refine O.p rfl rfl rfl (Pu.sliceL i rfl Try.underlying34 sz43 rfl rfl (by omega) (by omega)) ?_
      refine O.s rfl rfl (Ef.clearTail (xs := (tops (movL p s j))) (y := (⟨none, 0, 0⟩ : Sl)) 0 i rfl Try.underlying34 inf43 rfl rfl rfl rfl (by rw [htm, hml]; exact htl) (by omega)) ?_
      rintro _ _ ⟨rfl, rfl⟩
      refine O.nil ?_
      refine X.next ?_
      refine V.seq ?_
      refine V.region ?_
      refine O.p rfl rfl rfl (Pu.move rfl rfl) ?_
      refine O.p rfl rfl rfl (Pu.move rfl rfl) ?_
      refine O.p rfl rfl rfl (Pu.sliceH i rfl Try.underlying34 sz43 rfl rfl (by omega) (by omega)) ?_
      refine O.p rfl rfl rfl (Pu.assign rfl rfl) ?_
      refine O.nil ?_
      refine X.next ?_
      refine V.ret ?_
      refine X.ret1 rfl rfl ?_
      exact fun w hw => St.mkExi sA (St.mkExi sc (St.mkExi (tops (s.filter fun x => !decide (p x))) (St.unsep (St.addPur ⟨by rw [← keptL_end (p := p) (ps := s) (j := j) (by omega), tops_len, ← hi], rfl⟩ (St.unsep (hw.sub (Sub.cons 0 rfl (fun w F h => by have h2 := Own.takeP i w F h; rw [List.take_append_of_le_length (by rw [List.length_take]; omega), List.take_take, Nat.min_self, hi, topm_take, keptL_end (by omega)] at h2; exact h2) (Sub.keep 0 rfl (Sub.refl _)))))))))
end Go.Proofs.Ytjpfngmoabnffaa
