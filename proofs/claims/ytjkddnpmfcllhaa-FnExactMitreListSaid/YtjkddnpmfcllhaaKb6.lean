/-
  Contracts, part 6.
-/
import Derived.Test.YtjkddnpmfcllhaaKb5
set_option linter.unusedVariables false
set_option linter.unusedSimpArgs false
namespace Go.Proofs.Ytjkddnpmfcllhaa
open Go Go.RowKit Go.Vc Go.Proofs
def layR_ren : Go.Shelf.Ren := ⟨fun | 6 => 52 | 15 => 85 | 14 => 84 | 28 => 115 | 29 => 116 | 20 => 107 | 21 => 108 | 22 => 109 | 23 => 110 | 24 => 111 | 25 => 112 | 26 => 113 | 27 => 114 | 46 => 131 | 47 => 132 | 48 => 133 | 49 => 134 | 50 => 135 | 57 => 142 | n => n, fun | 22 => 34 | 24 => 52 | 25 => 68 | 3 => 3 | 39 => 112 | 0 => 0 | 53 => 139 | 55 => 84 | 4 => 4 | 46 => 132 | 45 => 131 | 50 => 136 | 5 => 5 | 9 => 9 | 66 => 155 | 70 => 159 | 76 => 166 | 77 => 167 | n => n, fun | n => n⟩
theorem layR : SlLaysF.n6 Try.prog layR_ren where
  mixed := by kernel_rfl
  f6 := ⟨Try.f52.name, by decide, Try.func52.trans (congrArg some (by kernel_rfl))⟩
  f14 := ⟨Try.f84.name, by decide, Try.func84.trans (congrArg some (by kernel_rfl))⟩
  f15 := Try.func85.trans (congrArg some (by kernel_rfl))
  f20 := ⟨Try.f107.name, by decide, Try.func107.trans (congrArg some (by kernel_rfl))⟩
  f21 := ⟨Try.f108.name, by decide, Try.func108.trans (congrArg some (by kernel_rfl))⟩
  f22 := ⟨Try.f109.name, by decide, Try.func109.trans (congrArg some (by kernel_rfl))⟩
  f23 := ⟨Try.f110.name, by decide, Try.func110.trans (congrArg some (by kernel_rfl))⟩
  f24 := ⟨Try.f111.name, by decide, Try.func111.trans (congrArg some (by kernel_rfl))⟩
  f25 := ⟨Try.f112.name, by decide, Try.func112.trans (congrArg some (by kernel_rfl))⟩
  f26 := ⟨Try.f113.name, by decide, Try.func113.trans (congrArg some (by kernel_rfl))⟩
  f27 := ⟨Try.f114.name, by decide, Try.func114.trans (congrArg some (by kernel_rfl))⟩
  f28 := Try.func115.trans (congrArg some (by kernel_rfl))
  f29 := Try.func116.trans (congrArg some (by kernel_rfl))
  f46 := ⟨Try.f131.name, by decide, Try.func131.trans (congrArg some (by kernel_rfl))⟩
  f47 := Try.func132.trans (congrArg some (by kernel_rfl))
  f48 := Try.func133.trans (congrArg some (by kernel_rfl))
  f49 := ⟨Try.f134.name, by decide, Try.func134.trans (congrArg some (by kernel_rfl))⟩
  f50 := ⟨Try.f135.name, by decide, Try.func135.trans (congrArg some (by kernel_rfl))⟩
  f57 := ⟨Try.f142.name, by decide, Try.func142.trans (congrArg some (by kernel_rfl))⟩
  t0 := Try.underlying0
  a0 := Try.isAgg0
  z0 := Try.sizeOf0
  v0 := Try.zeroValue0
  t3 := Try.underlying3
  a3 := Try.isAgg3
  z3 := Try.sizeOf3
  v3 := Try.zeroValue3
  t4 := Try.underlying4
  a4 := Try.isAgg4
  z4 := Try.sizeOf4
  v4 := Try.zeroValue4
  t5 := Try.underlying5
  a5 := Try.isAgg5
  z5 := Try.sizeOf5
  v5 := Try.zeroValue5
  t9 := Try.underlying9
  a9 := Try.isAgg9
  z9 := Try.sizeOf9
  v9 := Try.zeroValue9
  t22 := Try.underlying34
  a22 := Try.isAgg34
  z22 := Try.sizeOf34
  v22 := Try.zeroValue34
  a24 := Try.isAgg52
  z24 := Try.sizeOf52
  t25 := Try.underlying68
  a25 := Try.isAgg68
  z25 := Try.sizeOf68
  v25 := Try.zeroValue68
  t39 := Try.underlying112
  a39 := Try.isAgg112
  z39 := Try.sizeOf112
  v39 := Try.zeroValue112
  t45 := Try.underlying131
  a45 := Try.isAgg131
  z45 := Try.sizeOf131
  v45 := Try.zeroValue131
  t46 := Try.underlying132
  a46 := Try.isAgg132
  z46 := Try.sizeOf132
  v46 := Try.zeroValue132
  t50 := Try.underlying136
  a50 := Try.isAgg136
  z50 := Try.sizeOf136
  v50 := Try.zeroValue136
  t53 := Try.underlying139
  a53 := Try.isAgg139
  z53 := Try.sizeOf139
  v53 := Try.zeroValue139
  t55 := Try.underlying84
  a55 := Try.isAgg84
  z55 := Try.sizeOf84
  v55 := Try.zeroValue84
  t66 := Try.underlying155
  a66 := Try.isAgg155
  z66 := Try.sizeOf155
  v66 := Try.zeroValue155
  t70 := Try.underlying159
  a70 := Try.isAgg159
  z70 := Try.sizeOf159
  v70 := Try.zeroValue159
  t76 := Try.underlying166
  a76 := Try.isAgg166
  z76 := Try.sizeOf166
  v76 := Try.zeroValue166
  t77 := Try.underlying167
  a77 := Try.isAgg167
  z77 := Try.sizeOf167
  v77 := Try.zeroValue167
theorem sortRC_ok (s : List (Sl × List Int)) (sA : Option Addr) (sc : Nat) (w0 : World) (H : List Assn) (ls : s.length ≤ 1099511627776) (hl : ∀ q ∈ conts s, q.length ≤ 1000) : Does Try.prog 52 [.slice sA (tops s).length sc, .func (.func 40) #[] #[]] w0 (Own 52 SlC sA sc (tops s) :: RowsA 2 I64 s :: H) (fun v => [.exi fun ys : List (Sl × List Int) => .sep (.pur (v = .tuple #[] ∧ ys.Perm s ∧ (conts ys).Pairwise fun x y => ¬ ltL y x)) (.sep (Own 52 SlC sA sc (tops ys)) (RowsA 2 I64 ys))] ++ H) :=
  sortRows_does layR cmpL swoL call40 (fun W x y hx hy hW h1 h2 l1 l2 => slicesCompare_ok x.2 y.2 _ _ _ _ W h1 h2 (by have := hl _ (List.mem_map_of_mem hx); omega) (by have := hl _ (List.mem_map_of_mem hy); omega)) (by omega)
set_option maxRecDepth 100000 in
set_option maxHeartbeats 1000000 in
theorem equalRows_ok (s1 : List Int) (s2 : List Int) (s1A : Option Addr) (s1c : Nat) (s2A : Option Addr) (s2c : Nat) (w : World) (hs1 : Rd I64 w s1A s1) (hs2 : Rd I64 w s2A s2) (ls1 : s1.length ≤ 1099511627776) (ls2 : s2.length ≤ 1099511627776) : Does Try.prog 54 [.slice s1A s1.length s1c, .slice s2A s2.length s2c] w [] (fun r => [.pur (r = .bool (decide (s1 = s2)))]) := by
  refine Does.enter Try.func54 rfl rfl [(0, .slice s1A s1.length s1c), (1, .slice s2A s2.length s2c)] rfl ?_
  refine V.seq ?_
  refine V.region ?_
  refine O.p rfl rfl rfl (Pu.assign rfl rfl) ?_
  refine O.nil ?_
  refine X.next ?_
  refine V.seq ?_
  refine V.seq ?_
  refine V.region ?_
  refine O.p rfl rfl rfl (Pu.move rfl rfl) ?_
  refine O.p rfl rfl rfl (Pu.len rfl Try.underlying52 rfl) ?_
  refine O.p rfl rfl rfl (Pu.move rfl rfl) ?_
  refine O.p rfl rfl rfl (Pu.len rfl Try.underlying52 rfl) ?_
  refine O.p rfl rfl rfl (Pu.neq rfl rfl rfl) ?_
  refine O.nil ?_
  refine X.next ?_
  refine V.condNot rfl (fun c1 => ?_) (fun c1 => ?_)
  · skip
    refine V.seq ?_
    refine V.region ?_
    refine O.p rfl rfl rfl (Pu.assign rfl rfl) ?_
    refine O.nil ?_
    refine X.next ?_
    refine V.ret ?_
    refine X.thenRet ?_
    refine X.ret1 rfl rfl ?_
    exact fun w hw => St.retP (boolF (fun h => c1 (by rw [h]))) hw
  · skip
    refine V.skip ?_
    refine X.next ?_
    refine V.seq ?_
    refine V.seq ?_
    refine V.region ?_
    refine O.p rfl rfl rfl (Pu.move rfl rfl) ?_
    refine O.p rfl rfl rfl (Pu.len rfl Try.underlying52 rfl) ?_
    refine O.p rfl rfl rfl (Pu.move rfl rfl) ?_
    refine O.nil ?_
    refine X.next ?_
    refine V.block ?_
    refine V.loop2 (β := Nat) (fun i => [(13, .int .i64 (i : Int))]) _ (fun i => []) (fun i => i ≤ s1.length ∧ s1.take i = s2.take i) (fun i => s1.length - i) 0 ⟨by omega, rfl⟩ (Ent.cons rfl (Ent.nil _)) (Ent.cons (t := 0) rfl (Ent.cons (t := 1) rfl (Ent.cons (t := 12) rfl (Ent.nil _)))) (Sub.nil _) ?_
    rintro i ⟨hi, he⟩
    refine V.seq ?_
    refine V.region ?_
    refine O.p rfl rfl rfl (Pu.lss rfl rfl rfl) ?_
    refine O.nil ?_
    refine X.next ?_
    refine V.seq ?_
    refine V.condD rfl (fun c2 => ?_) (fun c2 => ?_)
    · skip
      refine V.skip ?_
      refine X.next ?_
      refine V.seq ?_
      refine V.block ?_
      refine V.seq ?_
      refine V.region ?_
      refine O.p rfl rfl rfl (Pu.move rfl rfl) ?_
      refine O.p rfl rfl rfl (Pu.assign rfl rfl) ?_
      refine O.nil ?_
      refine X.next ?_
      refine V.seq ?_
      refine V.draw mo (by kernel_rfl) (fun hwf => ?_)
      refine D.p 0 rfl rfl rfl rfl rfl rfl (Pu.move rfl rfl) ?_
      refine D.p 1 rfl rfl rfl rfl rfl rfl (Pu.move rfl rfl) ?_
      refine D.p 2 rfl rfl rfl rfl rfl rfl (Pu.indexAddr (i) rfl Try.underlying52 sz2 rfl rfl (by omega) (by omega) (hs1.some (by omega))) ?_
      have e1 : i < s1.length := by omega
      refine D.p 3 rfl rfl rfl rfl rfl rfl (Pu.load rfl pl2 rfl (Ld.rd (Ld.old hs1) (k := i) e1 rfl rfl)) ?_
      refine D.p 4 rfl rfl rfl rfl rfl rfl (Pu.move rfl rfl) ?_
      refine D.p 5 rfl rfl rfl rfl rfl rfl (Pu.move rfl rfl) ?_
      refine D.p 6 rfl rfl rfl rfl rfl rfl (Pu.indexAddr (i) rfl Try.underlying52 sz2 rfl rfl (by omega) (by omega) (hs2.some (by omega))) ?_
      have e2 : i < s2.length := by omega
      refine D.p 7 rfl rfl rfl rfl rfl rfl (Pu.load rfl pl2 rfl (Ld.rd (Ld.old hs2) (k := i) e2 rfl rfl)) ?_
      refine D.p 8 rfl rfl rfl rfl rfl rfl (Pu.neq rfl rfl rfl) ?_
      refine D.done hwf rfl ?_
      refine X.next ?_
      refine V.condNot rfl (fun c3 => ?_) (fun c3 => ?_)
      · skip
        refine V.seq ?_
        refine V.region ?_
        refine O.p rfl rfl rfl (Pu.assign rfl rfl) ?_
        refine O.nil ?_
        refine X.next ?_
        refine V.ret ?_
        refine X.blockRet ?_
        refine X.thenRet ?_
        refine X.thenRet ?_
        refine X.blockRet ?_
        refine X.thenRet ?_
        refine X.ret1 rfl rfl ?_
        exact fun w hw => St.retP (boolF (fun h => c3 (by subst h; rfl))) hw
      · skip
        refine V.skip ?_
        refine X.blockNormal ?_
        refine X.next ?_
        refine V.region ?_
        refine O.p rfl rfl rfl (Pu.add64 (r := ((i + 1 : Nat) : Int)) rfl (by omega) rfl rfl rfl) ?_
        refine O.p rfl rfl rfl (Pu.move rfl rfl) ?_
        refine O.nil ?_
        exact X.back2 (i + 1) ⟨by omega, by rw [take_snoc (by omega), take_snoc (by omega), he]; simp_all⟩ (by first | omega | (dsimp only; omega)) (Ent.cons rfl (Ent.nil _)) (Ent.cons (t := 0) rfl (Ent.cons (t := 1) rfl (Ent.cons (t := 12) rfl (Ent.nil _)))) (Sub.nil _)
    · skip
      refine V.exit ?_
      refine X.thenExit ?_
      refine X.thenExit ?_
      refine X.blockHit ?_
      refine X.next ?_
      refine V.seq ?_
      refine V.region ?_
      refine O.p rfl rfl rfl (Pu.assign rfl rfl) ?_
      refine O.nil ?_
      refine X.next ?_
      refine V.ret ?_
      refine X.ret1 rfl rfl ?_
      exact fun w hw => St.retP (boolT (by rw [List.take_of_length_le (by omega), List.take_of_length_le (by omega)] at he; exact he)) hw
set_option maxRecDepth 100000 in
set_option maxHeartbeats 1000000 in
theorem compactR_ok (s : List (Sl × List Int)) (sA : Option Addr) (sc : Nat) (w0 : World) (H : List Assn) (ls : s.length ≤ 1099511627776) (hl : ∀ q ∈ conts s, q.length ≤ 1000) : Does Try.prog 53 [.slice sA (tops s).length sc, .func (.func 54) #[] #[]] w0 (Own 52 SlC sA sc (tops s) :: RowsA 2 I64 s :: H) (fun rv_ => [.exi fun (rA : Option Addr) => .exi fun (rc : Nat) => .exi fun (r : List (Sl × List Int)) => .sep (.pur (rv_ = .slice rA (tops r).length rc ∧ r = kpt s s.length)) (.sep (Own 52 SlC rA rc (tops r)) (RowsA 2 I64 r))] ++ H) := by
  refine Does.enter Try.func53 rfl rfl [(0, .slice sA (tops s).length sc), (1, .func (.func 54) #[] #[])] rfl ?_
  refine V.fact (RowsA.len 1 rfl) (fun hn_s => ?_)
  have htl := tops_len s
  refine V.seq ?_
  refine V.region ?_
  refine O.p rfl rfl rfl (Pu.assign rfl rfl) ?_
  refine O.nil ?_
  refine X.next ?_
  refine V.seq ?_
  refine V.seq ?_
  refine V.region ?_
  refine O.p rfl rfl rfl (Pu.move rfl rfl) ?_
  refine O.p rfl rfl rfl (Pu.len rfl Try.underlying34 rfl) ?_
  refine O.p rfl rfl rfl (Pu.lss rfl rfl rfl) ?_
  refine O.nil ?_
  refine X.next ?_
  refine V.condD rfl (fun c1 => ?_) (fun c1 => ?_)
  · skip
    refine V.seq ?_
    refine V.region ?_
    refine O.p rfl rfl rfl (Pu.move rfl rfl) ?_
    refine O.p rfl rfl rfl (Pu.assign rfl rfl) ?_
    refine O.nil ?_
    refine X.next ?_
    refine V.ret ?_
    refine X.thenRet ?_
    refine X.ret1 rfl rfl ?_
    exact fun w hw => St.mkExi sA (St.mkExi sc (St.mkExi s (St.unsep (St.addPur ⟨(by first | rfl | (simp only [tops_append]; done) | (simp only [tops_append]; rfl)), (by rw [kpt_all (fun j hj => .inl (by omega)) (Nat.le_refl _), List.take_length])⟩ (St.unsep (hw.sub (Sub.keep 0 rfl (Sub.keep 0 rfl (Sub.refl _)))))))))
  · skip
    refine V.skip ?_
    refine X.next ?_
    refine V.seq ?_
    refine V.seq ?_
    refine V.region ?_
    refine O.p rfl rfl rfl (Pu.assign rfl rfl) ?_
    refine O.nil ?_
    refine X.next ?_
    refine V.block ?_
    refine V.loop3 (β := Nat) (fun k => [(5, .int .i64 (k : Int))]) _ (fun k => []) _ (fun k => 1 ≤ k ∧ k ≤ s.length ∧ ∀ j, j < k → keepA s j) (fun k => s.length - k) 1 ⟨by omega, by omega, fun j h => .inl (by omega)⟩ (Ent.cons rfl (Ent.nil _)) (Ent.cons (t := 0) rfl (Ent.cons (t := 1) rfl (Ent.nil _))) (Sub.keep 0 rfl (Sub.keep 0 rfl (Sub.refl _))) ?_
    rintro k ⟨h1, hk, hkp⟩
    refine V.seq ?_
    refine V.seq ?_
    refine V.region ?_
    refine O.p rfl rfl rfl (Pu.move rfl rfl) ?_
    refine O.p rfl rfl rfl (Pu.move rfl rfl) ?_
    refine O.p rfl rfl rfl (Pu.len rfl Try.underlying34 rfl) ?_
    refine O.p rfl rfl rfl (Pu.lss rfl rfl rfl) ?_
    refine O.nil ?_
    refine X.next ?_
    refine V.condD rfl (fun c2 => ?_) (fun c2 => ?_)
    · skip
      refine V.skip ?_
      refine X.next ?_
      refine V.seq ?_
      refine V.block ?_
      refine V.seq ?_
      refine V.draw mo (by kernel_rfl) (fun hwf => ?_)
      refine D.p 0 rfl rfl rfl rfl rfl rfl (Pu.move rfl rfl) ?_
      refine D.p 1 rfl rfl rfl rfl rfl rfl (Pu.move rfl rfl) ?_
      refine D.p 2 rfl rfl rfl rfl rfl rfl (Pu.move rfl rfl) ?_
      refine D.p 3 rfl rfl rfl rfl rfl rfl (Pu.indexAddrS (k) rfl Try.underlying34 sz52 rfl rfl (by omega) (by omega) (fun w hw => Own.some hw (i := 0) (by exact rfl) (by omega))) ?_
      have e1 : k < s.length := by have := tops_len s; omega
      refine D.p 4 rfl rfl rfl rfl rfl rfl (Pu.load rfl pl52 rfl (Ld.row (Ld.own 0 (by exact rfl)) hn_s e1 rfl)) ?_
      refine D.p 5 rfl rfl rfl rfl rfl rfl (Pu.move rfl rfl) ?_
      refine D.p 6 rfl rfl rfl rfl rfl rfl (Pu.move rfl rfl) ?_
      refine D.p 7 rfl rfl rfl rfl rfl rfl (Pu.sub64 (r := ((k - 1 : Nat) : Int)) (by omega) (by omega) rfl rfl rfl) ?_
      refine D.p 8 rfl rfl rfl rfl rfl rfl (Pu.indexAddrS (k - 1) rfl Try.underlying34 sz52 rfl rfl (by omega) (by omega) (fun w hw => Own.some hw (i := 0) (by exact rfl) (by omega))) ?_
      have e2 : k - 1 < s.length := by have := tops_len s; omega
      refine D.p 9 rfl rfl rfl rfl rfl rfl (Pu.load rfl pl52 rfl (Ld.row (Ld.own 0 (by exact rfl)) hn_s e2 rfl)) ?_
      refine D.eff hwf (e := 10) rfl rfl rfl rfl (Ef.callPV (r := .bool (decide ((s[k]'e1).2 = (s[k - 1]'e2).2))) call54 rfl rfl rfl (fun w' hw => equalRows_ok ((s[k]'e1).2) ((s[k - 1]'e2).2) _ _ _ _ w' ((Ld.rows 1 (by exact rfl) e1) w' hw) ((Ld.rows 1 (by exact rfl) e2) w' hw) (by have := hl _ (List.mem_map_of_mem (f := fun p : Sl × List Int => p.2) (List.getElem_mem e1)); omega) (by have := hl _ (List.mem_map_of_mem (f := fun p : Sl × List Int => p.2) (List.getElem_mem e2)); omega))) rfl rfl rfl ?_
      rintro _ _ ⟨rfl, rfl⟩ hs
      refine ⟨fun w hw => hw, ?_⟩
      refine D.done hwf rfl ?_
      refine X.next ?_
      refine V.condD rfl (fun c3 => ?_) (fun c3 => ?_)
      · skip
        refine V.seq ?_
        have hnk : ¬ keepA s k := fun h => (keepA_at (by omega) (by omega)).1 h c3
        have hst := mvt_start hkp hk
        refine V.fact (fun w hw => Own.cap hw (i := 0) rfl) (fun hcap => ?_)
        refine V.region ?_
        refine O.p rfl rfl rfl (Pu.move rfl rfl) ?_
        refine O.p rfl rfl rfl (Pu.move rfl rfl) ?_
        refine O.p rfl rfl rfl (Pu.sliceL k rfl Try.underlying34 sz52 rfl rfl (by omega) (by omega)) ?_
        refine O.p rfl rfl rfl (Pu.assign rfl rfl) ?_
        refine O.nil ?_
        refine X.next ?_
        refine V.seq ?_
        refine V.seq ?_
        refine V.region ?_
        refine O.p rfl rfl rfl (Pu.assign rfl rfl) ?_
        refine O.nil ?_
        refine X.next ?_
        refine V.block ?_
        refine V.loop3 (β := Nat × Nat × (List Sl)) (fun x => [(5, .int .i64 (x.1 : Int)), (7, .int .i64 (x.2.1 : Int))]) _ (fun x => [Own 52 SlC sA sc x.2.2]) _ (fun x => (1 ≤ x.2.1 ∧ k + x.2.1 ≤ s.length) ∧ (x.1 = (kpt s (k + x.2.1)).length ∧ x.1 + 1 ≤ k + x.2.1) ∧ x.2.2 = mvt s (k + x.2.1)) (fun x => s.length - x.2.1) (k, 1, (tops s)) (by (try dsimp only); exact ⟨⟨by omega, by omega⟩, ⟨by rw [kpt_no hnk, hst.2], by omega⟩, by rw [← mvt_no hnk, hst.1]⟩) (Ent.cons rfl (Ent.cons rfl (Ent.nil _))) (Ent.cons (t := 0) rfl (Ent.cons (t := 1) rfl (Ent.cons (t := 6) rfl (Ent.nil _)))) (Sub.keep 0 rfl (Sub.keep 0 rfl (Sub.refl _))) ?_
        rintro ⟨m, j, z⟩ ⟨⟨hj1, hj⟩, ⟨hm, hmj⟩, hz⟩
        dsimp only at hj1 hj hm hmj hz ⊢
        subst hz
        have hml := mvt_len hj
        have hcap2 : (mvt s (k + j)).length ≤ sc := by rw [hml, ← htl]; exact hcap
        have hdl : ((mvt s (k + j)).drop k).length = s.length - k := by rw [List.length_drop, hml]
        refine V.seq ?_
        refine V.seq ?_
        refine V.region ?_
        refine O.p rfl rfl rfl (Pu.move rfl rfl) ?_
        refine O.p rfl rfl rfl (Pu.move rfl rfl) ?_
        refine O.p rfl rfl rfl (Pu.len rfl Try.underlying34 rfl) ?_
        refine O.p rfl rfl rfl (Pu.lss rfl rfl rfl) ?_
        refine O.nil ?_
        refine X.next ?_
        refine V.condD rfl (fun c4 => ?_) (fun c4 => ?_)
        · skip
          refine V.skip ?_
          refine X.next ?_
          refine V.seq ?_
          refine V.block ?_
          refine V.seq ?_
          have ea : k + j < s.length := by omega
          have eb : k + j - 1 < s.length := by omega
          refine V.draw mo (by kernel_rfl) (fun hwf => ?_)
          refine D.p 0 rfl rfl rfl rfl rfl rfl (Pu.move rfl rfl) ?_
          refine D.p 1 rfl rfl rfl rfl rfl rfl (Pu.move rfl rfl) ?_
          refine D.p 2 rfl rfl rfl rfl rfl rfl (Pu.move rfl rfl) ?_
          refine D.p 3 rfl rfl rfl rfl rfl rfl (Pu.indexAddrS (j) rfl Try.underlying34 sz52 rfl rfl (by omega) (by omega) (fun w hw => ((Ld.dropK (C := SlC) (s := 1) (k := k) (Ld.own 0 (by exact rfl)) rfl hcap2) w hw).some (by omega))) ?_
          refine D.p 4 rfl rfl rfl rfl rfl rfl (Pu.cast (v := .slice (s[(k + j)]'ea).1.A (s[(k + j)]'ea).2.length (s[(k + j)]'ea).1.c) (mvt_v hn_s (by omega) (by omega) (by omega) ea (by rw [List.length_drop]; omega)) (Pu.load rfl pl52 rfl (Ld.rd (Ld.dropK (C := SlC) (s := 1) (k := k) (Ld.own 0 (by exact rfl)) rfl hcap2) (k := j) (by rw [List.length_drop]; omega) rfl rfl))) ?_
          refine D.p 5 rfl rfl rfl rfl rfl rfl (Pu.move rfl rfl) ?_
          refine D.p 6 rfl rfl rfl rfl rfl rfl (Pu.move rfl rfl) ?_
          refine D.p 7 rfl rfl rfl rfl rfl rfl (Pu.sub64 (r := ((j - 1 : Nat) : Int)) (by omega) (by omega) rfl rfl rfl) ?_
          refine D.p 8 rfl rfl rfl rfl rfl rfl (Pu.indexAddrS (j - 1) rfl Try.underlying34 sz52 rfl rfl (by omega) (by omega) (fun w hw => ((Ld.dropK (C := SlC) (s := 1) (k := k) (Ld.own 0 (by exact rfl)) rfl hcap2) w hw).some (by omega))) ?_
          refine D.p 9 rfl rfl rfl rfl rfl rfl (Pu.cast (v := .slice (s[(k + j - 1)]'eb).1.A (s[(k + j - 1)]'eb).2.length (s[(k + j - 1)]'eb).1.c) (mvt_v hn_s (by omega) (by omega) (by omega) eb (by rw [List.length_drop]; omega)) (Pu.load rfl pl52 rfl (Ld.rd (Ld.dropK (C := SlC) (s := 1) (k := k) (Ld.own 0 (by exact rfl)) rfl hcap2) (k := (j - 1)) (by rw [List.length_drop]; omega) rfl rfl))) ?_
          refine D.eff hwf (e := 10) rfl rfl rfl rfl (Ef.callPV (r := .bool (decide ((s[(k + j)]'ea).2 = (s[(k + j - 1)]'eb).2))) call54 rfl rfl rfl (fun w' hw => equalRows_ok ((s[(k + j)]'ea).2) ((s[(k + j - 1)]'eb).2) _ _ _ _ w' ((Ld.rows 1 (by exact rfl) ea) w' hw) ((Ld.rows 1 (by exact rfl) eb) w' hw) (by have := hl _ (List.mem_map_of_mem (f := fun p : Sl × List Int => p.2) (List.getElem_mem ea)); omega) (by have := hl _ (List.mem_map_of_mem (f := fun p : Sl × List Int => p.2) (List.getElem_mem eb)); omega))) rfl rfl rfl ?_
          rintro _ _ ⟨rfl, rfl⟩ hs
          refine ⟨fun w hw => hw, ?_⟩
          refine D.p 11 rfl rfl rfl rfl rfl rfl (Pu.not rfl rfl) ?_
          refine D.done hwf rfl ?_
          refine X.next ?_
          refine V.condNot rfl (fun c5 => ?_) (fun c5 => ?_)
          · skip
            refine V.seq ?_
            refine V.region ?_
            refine O.p rfl rfl rfl (Pu.move rfl rfl) ?_
            refine O.p rfl rfl rfl (Pu.move rfl rfl) ?_
            refine O.p rfl rfl rfl (Pu.move rfl rfl) ?_
            refine O.p rfl rfl rfl (Pu.move rfl rfl) ?_
            refine O.p rfl rfl rfl (Pu.indexAddrS (j) rfl Try.underlying34 sz52 rfl rfl (by omega) (by omega) (fun w hw => ((Ld.dropK (C := SlC) (s := 1) (k := k) (Ld.own 0 (by exact rfl)) rfl hcap2) w hw).some (by omega))) ?_
            refine O.p rfl rfl rfl (Pu.cast (v := .slice (s[(k + j)]'ea).1.A (s[(k + j)]'ea).2.length (s[(k + j)]'ea).1.c) (mvt_v hn_s (by omega) (by omega) (by omega) ea (by rw [List.length_drop]; omega)) (Pu.load rfl pl52 rfl (Ld.rd (Ld.dropK (C := SlC) (s := 1) (k := k) (Ld.own 0 (by exact rfl)) rfl hcap2) (k := j) (by rw [List.length_drop]; omega) rfl rfl))) ?_
            refine O.p rfl rfl rfl (Pu.indexAddrS (m) rfl Try.underlying34 sz52 rfl rfl (by omega) (by omega) (fun w hw => Own.some hw (i := 0) (by exact rfl) (by omega))) ?_
            refine O.s rfl rfl (Ef.storeOwn 0 (m) ⟨(s[(k + j)]'ea).1.A, (s[(k + j)]'ea).2.length, (s[(k + j)]'ea).1.c⟩ rfl sz52 rfl rfl rfl rfl (by omega) rfl) ?_
            rintro _ _ rfl
            refine O.nil ?_
            refine X.next ?_
            refine V.region ?_
            refine O.p rfl rfl rfl (Pu.move rfl rfl) ?_
            refine O.p rfl rfl rfl (Pu.add64 (r := ((m + 1 : Nat) : Int)) rfl (by omega) rfl rfl rfl) ?_
            refine O.p rfl rfl rfl (Pu.assign rfl rfl) ?_
            refine O.nil ?_
            refine X.blockNormal ?_
            refine X.next ?_
            refine V.region ?_
            refine O.p rfl rfl rfl (Pu.move rfl rfl) ?_
            refine O.p rfl rfl rfl (Pu.add64 (r := ((j + 1 : Nat) : Int)) rfl (by omega) rfl rfl rfl) ?_
            refine O.p rfl rfl rfl (Pu.assign rfl rfl) ?_
            refine O.nil ?_
            exact X.back3 (m + 1, j + 1, ((mvt s (k + j)).set (m) ⟨(s[(k + j)]'ea).1.A, (s[(k + j)]'ea).2.length, (s[(k + j)]'ea).1.c⟩)) (by (try dsimp only); exact ⟨⟨by omega, by omega⟩, ⟨by rw [show k + (j + 1) = k + j + 1 by omega, kpt_yes ea ((keepA_at (by omega) ea).2 c5), List.length_append, ← hm]; rfl, by omega⟩, by rw [show k + (j + 1) = k + j + 1 by omega, sl_of (hn_s _ (List.getElem_mem ea)).1, hm, mvt_yes ea ((keepA_at (by omega) ea).2 c5)]⟩) (by first | omega | (dsimp only; omega)) (Ent.cons rfl (Ent.cons rfl (Ent.nil _))) (Ent.cons (t := 0) rfl (Ent.cons (t := 1) rfl (Ent.cons (t := 6) rfl (Ent.nil _)))) (Sub.keep 0 rfl (Sub.keep 0 rfl (Sub.refl _)))
          · skip
            refine V.skip ?_
            refine X.blockNormal ?_
            refine X.next ?_
            refine V.region ?_
            refine O.p rfl rfl rfl (Pu.move rfl rfl) ?_
            refine O.p rfl rfl rfl (Pu.add64 (r := ((j + 1 : Nat) : Int)) rfl (by omega) rfl rfl rfl) ?_
            refine O.p rfl rfl rfl (Pu.assign rfl rfl) ?_
            refine O.nil ?_
            exact X.back3 (m, j + 1, (mvt s (k + j))) (by (try dsimp only); exact ⟨⟨by omega, by omega⟩, ⟨by rw [show k + (j + 1) = k + j + 1 by omega, kpt_no (fun h => (keepA_at (by omega) ea).1 h c5)]; exact hm, by omega⟩, by rw [show k + (j + 1) = k + j + 1 by omega, mvt_no (fun h => (keepA_at (by omega) ea).1 h c5)]⟩) (by first | omega | (dsimp only; omega)) (Ent.cons rfl (Ent.cons rfl (Ent.nil _))) (Ent.cons (t := 0) rfl (Ent.cons (t := 1) rfl (Ent.cons (t := 6) rfl (Ent.nil _)))) (Sub.keep 0 rfl (Sub.keep 0 rfl (Sub.refl _)))
        · skip
          refine V.exit ?_
          refine X.thenExit ?_
          refine X.thenExit ?_
          refine X.blockHit ?_
          refine X.next ?_
          refine V.seq ?_
          refine V.region ?_
          refine O.p rfl rfl rfl (Pu.move rfl rfl) ?_
          refine O.p rfl rfl rfl (Pu.move rfl rfl) ?_
          refine O.p rfl rfl rfl (Pu.sliceL m rfl Try.underlying34 sz52 rfl rfl (by omega) (by omega)) ?_
          refine O.s rfl rfl (Ef.clearTail (xs := (mvt s (k + j))) (y := (⟨none, 0, 0⟩ : Sl)) 0 m rfl Try.underlying34 inf52 rfl rfl rfl rfl (by rw [hml, htl]) (by omega)) ?_
          rintro _ _ ⟨rfl, rfl⟩
          refine O.nil ?_
          refine X.next ?_
          refine V.seq ?_
          refine V.region ?_
          refine O.p rfl rfl rfl (Pu.move rfl rfl) ?_
          refine O.p rfl rfl rfl (Pu.move rfl rfl) ?_
          refine O.p rfl rfl rfl (Pu.sliceH m rfl Try.underlying34 sz52 rfl rfl (by omega) (by omega)) ?_
          refine O.p rfl rfl rfl (Pu.assign rfl rfl) ?_
          refine O.nil ?_
          refine X.next ?_
          refine V.ret ?_
          refine X.blockRet ?_
          refine X.thenRet ?_
          refine X.thenRet ?_
          refine X.blockRet ?_
          refine X.thenRet ?_
          refine X.map (fun w hw => RowsA.sublist (T := 2) (C := I64) (qs := kpt s s.length) (kpt_sub (Nat.le_refl _)) (hw.perm (pull_perm (i := 1) rfl))) ?_
          refine X.ret1 rfl rfl ?_
          exact fun w hw => St.mkExi sA (St.mkExi sc (St.mkExi (kpt s s.length) (St.unsep (St.addPur ⟨(by rw [tops_len, hm, show k + j = s.length by omega]), rfl⟩ (St.unsep (hw.sub (Sub.cons 1 rfl (fun w F h => by have h2 := Own.takeP m w F h; rw [List.take_append_of_le_length (by rw [List.length_take]; omega), List.take_take, Nat.min_self, hm, mvt_take, show k + j = s.length by omega] at h2; exact h2) (Sub.keep 0 rfl (Sub.refl _)))))))))
      · skip
        refine V.skip ?_
        refine X.blockNormal ?_
        refine X.next ?_
        refine V.region ?_
        refine O.p rfl rfl rfl (Pu.move rfl rfl) ?_
        refine O.p rfl rfl rfl (Pu.add64 (r := ((k + 1 : Nat) : Int)) rfl (by omega) rfl rfl rfl) ?_
        refine O.p rfl rfl rfl (Pu.assign rfl rfl) ?_
        refine O.nil ?_
        exact X.back3 (k + 1) ⟨by omega, by omega, fun j h => by by_cases e : j = k; (· subst e; exact (keepA_at (by omega) (by omega)).2 c3); (· exact hkp j (by omega))⟩ (by first | omega | (dsimp only; omega)) (Ent.cons rfl (Ent.nil _)) (Ent.cons (t := 0) rfl (Ent.cons (t := 1) rfl (Ent.nil _))) (Sub.keep 0 rfl (Sub.keep 0 rfl (Sub.refl _)))
    · skip
      refine V.exit ?_
      refine X.thenExit ?_
      refine X.thenExit ?_
      refine X.blockHit ?_
      refine X.next ?_
      refine V.seq ?_
      refine V.region ?_
      refine O.p rfl rfl rfl (Pu.move rfl rfl) ?_
      refine O.p rfl rfl rfl (Pu.assign rfl rfl) ?_
      refine O.nil ?_
      refine X.next ?_
      refine V.ret ?_
      refine X.ret1 rfl rfl ?_
      exact fun w hw => St.mkExi sA (St.mkExi sc (St.mkExi s (St.unsep (St.addPur ⟨(by first | rfl | (simp only [tops_append]; done) | (simp only [tops_append]; rfl)), (by rw [kpt_all (fun j hj => hkp j (by omega)) (Nat.le_refl _), List.take_length])⟩ (St.unsep (hw.sub (Sub.keep 0 rfl (Sub.keep 0 rfl (Sub.refl _)))))))))
set_option maxRecDepth 100000 in
set_option maxHeartbeats 1000000 in
theorem mitres_ok (v : Int) (bs : List B3) (A : Option Addr) (c : Nat) (w : World) (hx : Rd B3C w A bs) (lx : bs.length ≤ 4611686018427387904) (hS : STS v bs) : Does Try.prog 28 [.agg #[.int .i64 v, .slice A bs.length c]] w [] (fun rv_ => [.exi fun (rA : Option Addr) => .exi fun (rc : Nat) => .exi fun (r : List (Sl × List Int)) => .sep (.pur (rv_ = .slice rA (tops r).length rc ∧ IsList (MitA v bs) (conts r) ∧ r.length ≤ 3000000)) (.sep (Own 52 SlC rA rc (tops r)) (RowsA 2 I64 r))]) := by
  refine Does.enter Try.func28 rfl rfl [(0, .agg #[.int .i64 v, .slice A bs.length c])] rfl ?_
  have hlo := hS.lo
  have hhi := hS.hi
  have hfew := hS.few
  refine V.seq ?_
  refine V.region ?_
  refine O.e rfl rfl rfl (Ef.box rfl rfl rfl) ?_
  rintro _ _ ⟨b1, rfl, rfl⟩
  refine O.p rfl rfl rfl (Pu.assign rfl rfl) ?_
  refine O.nil ?_
  refine X.next ?_
  refine V.seq ?_
  refine V.region ?_
  refine O.p rfl rfl rfl (Pu.assign rfl rfl) ?_
  refine O.nil ?_
  refine X.next ?_
  refine V.seq ?_
  refine V.seq ?_
  refine V.region ?_
  refine O.p rfl rfl rfl (Pu.fieldAddr 0 rfl Try.underlying30 rfl sz2 rfl rfl) ?_
  refine O.p rfl rfl rfl (Pu.load rfl pl2 rfl (Ld.blk 0 rfl rfl)) ?_
  refine O.p rfl rfl rfl (Pu.move rfl rfl) ?_
  refine O.nil ?_
  refine X.next ?_
  refine V.block ?_
  refine V.map (fun w hw => St.addNil (T := 52) (C := SlC) (RowsA.nil (T := 2) (C := I64) hw)) ?_
  refine V.loop3 (β := (Option Addr) × Nat × (List (Sl × List Int)) × Nat) (fun x => [(3, .slice x.1 (tops x.2.2.1).length x.2.1), (7, .int .i64 (x.2.2.2 : Int))]) _ (fun x => [Own 52 SlC x.1 x.2.1 (tops x.2.2.1), RowsA 2 I64 x.2.2.1]) _ (fun x => x.2.2.2 ≤ v.toNat ∧ conts x.2.2.1 = fmR (mitF bs) x.2.2.2 ∧ x.2.2.1.length ≤ x.2.2.2 * 200000) (fun x => v.toNat - x.2.2.2) (none, 0, [], 0) (by (try dsimp only); exact ⟨by omega, rfl, by simp⟩) (Ent.cons rfl (Ent.cons rfl (Ent.nil _))) (Ent.cons (t := 1) rfl (Ent.cons (t := 6) rfl (Ent.nil _))) (Sub.keep 0 rfl (Sub.keep 0 rfl (Sub.keep 0 rfl (Sub.nil _)))) ?_
  rintro ⟨outA, outc, out, a⟩ ⟨ha, ho, hl⟩
  dsimp only at ha ho hl ⊢
  refine V.fact (RowsA.len 1 rfl) (fun hn_out => ?_)
  have htl_out := tops_len out
  refine V.seq ?_
  refine V.region ?_
  refine O.p rfl rfl rfl (Pu.lss rfl rfl rfl) ?_
  refine O.nil ?_
  refine X.next ?_
  refine V.seq ?_
  refine V.condD rfl (fun c1 => ?_) (fun c1 => ?_)
  · skip
    refine V.skip ?_
    refine X.next ?_
    refine V.seq ?_
    refine V.block ?_
    refine V.seq ?_
    refine V.region ?_
    refine O.p rfl rfl rfl (Pu.move rfl rfl) ?_
    refine O.p rfl rfl rfl (Pu.assign rfl rfl) ?_
    refine O.nil ?_
    refine X.next ?_
    refine V.region ?_
    refine O.p rfl rfl rfl (Pu.loadAgg rfl ag30 sz30 rfl rfl (Ld.whole 2 rfl)) ?_
    refine O.p rfl rfl rfl (Pu.move rfl rfl) ?_
    refine O.p rfl rfl rfl (Pu.move rfl rfl) ?_
    refine O.e rfl rfl rfl (Ef.call call51 rfl rfl (Does.pre (fun w hw => hw.sub (Sub.keep 0 rfl (Sub.keep 0 rfl (Sub.keep 0 rfl (Sub.nil _))))) (mitresAt_ok  v bs out (↑a : Int) _ _ _ _ w _ (Ld.old hx) (by first | omega | (simp only [tops_len, conts_len, bl, List.length_append, List.length_cons, List.length_nil] at *; omega)) hS (by omega) (by omega)))) ?_
    rintro _ _ rfl
    refine O.exi (fun r1A => ?_)
    refine O.exi (fun r1c => ?_)
    refine O.exi (fun r1 => ?_)
    refine O.sep ?_
    refine O.pur ?_
    rintro ⟨rfl, hr1_1, hr1_2⟩
    refine O.sep ?_
    refine O.fact (RowsA.len 1 rfl) (fun hn_r1 => ?_)
    have htl_r1 := tops_len r1
    refine O.p rfl rfl rfl (Pu.assign rfl rfl) ?_
    refine O.nil ?_
    refine X.blockNormal ?_
    refine X.next ?_
    refine V.region ?_
    refine O.p rfl rfl rfl (Pu.add64 (r := ((a + 1 : Nat) : Int)) rfl (by omega) rfl rfl rfl) ?_
    refine O.p rfl rfl rfl (Pu.move rfl rfl) ?_
    refine O.nil ?_
    exact X.back3 (r1A, r1c, r1, a + 1) (by (try dsimp only); exact ⟨by omega, by rw [hr1_1, ho, fmR_succ]; rfl, by omega⟩) (by first | omega | (dsimp only; omega)) (Ent.cons' rfl (by first | rfl | (simp only [tops_append]; done) | (simp only [tops_append]; rfl)) (Ent.cons rfl (Ent.nil _))) (Ent.cons (t := 1) rfl (Ent.cons (t := 6) rfl (Ent.nil _))) (Sub.keep 0 rfl (Sub.keep 0 rfl (Sub.keep 0 rfl (Sub.nil _))))
  · skip
    refine V.exit ?_
    refine X.thenExit ?_
    refine X.thenExit ?_
    refine X.blockHit ?_
    refine X.next ?_
    refine V.seq ?_
    have hco : conts out = fmR (mitF bs) v.toNat := by rw [ho, show a = v.toNat by omega]
    have h5 : ∀ q ∈ conts out, q.length ≤ 1000 := mitA_small hS hco
    refine V.region ?_
    refine O.p rfl rfl rfl (Pu.move rfl rfl) ?_
    refine O.e rfl rfl rfl (Ef.call call52 rfl rfl (Does.pre (fun w hw => hw.sub (Sub.keep 0 rfl (Sub.keep 0 rfl (Sub.keep 0 rfl (Sub.nil _))))) (sortRC_ok  out _ _ w _   (by omega) h5))) ?_
    rintro _ _ rfl
    refine O.exi (fun ys1 => ?_)
    refine O.sep ?_
    refine O.pur ?_
    rintro ⟨rfl, hys1_1, hys1_2⟩
    refine O.sep ?_
    have hyl : (tops out).length = (tops ys1).length := by rw [tops_len, tops_len, hys1_1.length_eq]
    rw [hyl]
    have hyt := tops_len ys1
    have hyc : ∀ q ∈ conts ys1, q.length ≤ 1000 := fun q hq => h5 q (((hys1_1.map (·.2)).mem_iff).1 hq)
    refine O.nil ?_
    refine X.next ?_
    refine V.seq ?_
    refine V.region ?_
    refine O.p rfl rfl rfl (Pu.move rfl rfl) ?_
    refine O.e rfl rfl rfl (Ef.call call53 rfl rfl (Does.pre (fun w hw => hw.sub (Sub.keep 0 rfl (Sub.keep 0 rfl (Sub.keep 0 rfl (Sub.nil _))))) (compactR_ok  ys1 _ _ w _   (by omega) hyc))) ?_
    rintro _ _ rfl
    refine O.exi (fun r2A => ?_)
    refine O.exi (fun r2c => ?_)
    refine O.exi (fun r2 => ?_)
    refine O.sep ?_
    refine O.pur ?_
    rintro ⟨rfl, hr2_1⟩
    refine O.sep ?_
    refine O.fact (RowsA.len 1 rfl) (fun hn_r2 => ?_)
    have htl_r2 := tops_len r2
    refine O.p rfl rfl rfl (Pu.assign rfl rfl) ?_
    refine O.nil ?_
    refine X.next ?_
    refine V.ret ?_
    refine X.ret1 rfl rfl ?_
    exact fun w hw => St.mkExi r2A (St.mkExi r2c (St.mkExi r2 (St.unsep (St.addPur ⟨(by first | rfl | (simp only [tops_append]; done) | (simp only [tops_append]; rfl)), by rw [hr2_1]; exact mitA_sorted hS hco hys1_1 hys1_2, by rw [hr2_1]; have hyo := hys1_1.length_eq; exact Nat.le_trans kpt_le (by omega)⟩ (St.unsep (hw.sub (Sub.keep 0 rfl (Sub.keep 0 rfl (Sub.nil _)))))))))
set_option maxRecDepth 100000 in
set_option maxHeartbeats 1000000 in
theorem l03Mitres_ok (v : Int) (bs : List B3) (A : Option Addr) (c : Nat) (w : World) (hx : Rd B3C w A bs) (lx : bs.length ≤ 4611686018427387904) (hS : STS v bs) : Does Try.prog 24 [.agg #[.int .i64 v, .slice A bs.length c]] w [] (fun rv_ => [.exi fun (rA : Option Addr) => .exi fun (rc : Nat) => .exi fun (r : List (Sl × List Int)) => .sep (.pur (rv_ = .slice rA (tops r).length rc ∧ IsList (MitA v bs) (conts r) ∧ r.length ≤ 3000000)) (.sep (Own 52 SlC rA rc (tops r)) (RowsA 2 I64 r))]) := by
  refine Does.enter Try.func24 rfl rfl [(0, .agg #[.int .i64 v, .slice A bs.length c])] rfl ?_
  have hlo := hS.lo
  have hhi := hS.hi
  have hfew := hS.few
  refine V.seq ?_
  refine V.region ?_
  refine O.e rfl rfl rfl (Ef.box rfl rfl rfl) ?_
  rintro _ _ ⟨b1, rfl, rfl⟩
  refine O.p rfl rfl rfl (Pu.assign rfl rfl) ?_
  refine O.nil ?_
  refine X.next ?_
  refine V.seq ?_
  refine V.region ?_
  refine O.e rfl rfl rfl (Ef.build SlC ([] : List Sl) rfl Try.underlying34 inf52 rfl rfl rfl (by first | decide | (simp; done)) (by kernel_rfl)) ?_
  rintro _ _ ⟨A1, hA1, rfl, rfl⟩
  refine O.p rfl rfl rfl (Pu.assign rfl rfl) ?_
  refine O.nil ?_
  refine X.next ?_
  refine V.seq ?_
  refine V.seq ?_
  refine V.region ?_
  refine O.p rfl rfl rfl (Pu.assign rfl rfl) ?_
  refine O.nil ?_
  refine X.next ?_
  refine V.block ?_
  refine V.map (fun w hw => RowsA.nil (T := 2) (C := I64) hw) ?_
  refine V.loop3 (β := (Option Addr) × Nat × (List (Sl × List Int)) × Nat) (fun x => [(3, .slice x.1 (tops x.2.2.1).length x.2.1), (4, .int .i64 (x.2.2.2 : Int))]) _ (fun x => [Own 52 SlC x.1 x.2.1 (tops x.2.2.1), RowsA 2 I64 x.2.2.1]) _ (fun x => x.2.2.2 ≤ v.toNat ∧ SrtL (conts x.2.2.1) ∧ (∀ q, q ∈ conts x.2.2.1 ↔ ∃ k : Nat, k < x.2.2.2 ∧ Mit bs (k : Int) q) ∧ x.2.2.1.length ≤ 200000 * x.2.2.2) (fun x => v.toNat - x.2.2.2) (A1, 0, [], 0) (by (try dsimp only); exact ⟨by omega, SrtL.nil, fun q => by simp [conts], by simp⟩) (Ent.cons rfl (Ent.cons rfl (Ent.nil _))) (Ent.cons (t := 1) rfl (Ent.nil _)) (Sub.keep 1 rfl (Sub.keep 0 rfl (Sub.keep 0 rfl (Sub.nil _)))) ?_
  rintro ⟨outA, outc, out, a⟩ ⟨ha, hs0, hm0, hl0⟩
  dsimp only at ha hs0 hm0 hl0 ⊢
  refine V.fact (RowsA.len 1 rfl) (fun hn_out => ?_)
  have htl_out := tops_len out
  refine V.seq ?_
  refine V.seq ?_
  refine V.region ?_
  refine O.p rfl rfl rfl (Pu.move rfl rfl) ?_
  refine O.p rfl rfl rfl (Pu.fieldAddr 0 rfl Try.underlying30 rfl sz2 rfl rfl) ?_
  refine O.p rfl rfl rfl (Pu.load rfl pl2 rfl (Ld.blk 2 rfl rfl)) ?_
  refine O.p rfl rfl rfl (Pu.lss rfl rfl rfl) ?_
  refine O.nil ?_
  refine X.next ?_
  refine V.condD rfl (fun c1 => ?_) (fun c1 => ?_)
  · skip
    refine V.skip ?_
    refine X.next ?_
    refine V.seq ?_
    refine V.block ?_
    refine V.seq ?_
    refine V.region ?_
    refine O.p rfl rfl rfl (Pu.loadAgg rfl ag30 sz30 rfl rfl (Ld.whole 2 rfl)) ?_
    refine O.p rfl rfl rfl (Pu.move rfl rfl) ?_
    refine O.e rfl rfl rfl (Ef.call1 call46 rfl rfl (fun w hw => l03MitresAt_ok  v bs (↑a : Int) _ _ w ((Ld.old hx) w hw) (by first | omega | (simp only [tops_len, conts_len, bl, List.length_append, List.length_cons, List.length_nil] at *; omega)) hS (by omega))) ?_
    rintro _ _ rfl
    refine O.exi (fun r1A => ?_)
    refine O.exi (fun r1c => ?_)
    refine O.exi (fun r1 => ?_)
    refine O.sep ?_
    refine O.pur ?_
    rintro ⟨rfl, hr1_1, hr1_2⟩
    refine O.sep ?_
    refine O.fact (RowsA.len 1 rfl) (fun hn_r1 => ?_)
    have htl_r1 := tops_len r1
    refine O.p rfl rfl rfl (Pu.assign rfl rfl) ?_
    refine O.nil ?_
    refine X.next ?_
    refine V.seq ?_
    refine V.region ?_
    refine O.p rfl rfl rfl (Pu.assign rfl rfl) ?_
    refine O.nil ?_
    refine X.next ?_
    refine V.block ?_
    refine V.loop3 (β := (Option Addr) × Nat × (List (Sl × List Int)) × Nat × (List (Sl × List Int))) (fun x => [(3, .slice x.1 (tops x.2.2.1).length x.2.1), (6, .int .i64 (x.2.2.2.1 : Int))]) _ (fun x => [Own 52 SlC x.1 x.2.1 (tops x.2.2.1), RowsA 2 I64 x.2.2.1, RowsA 2 I64 x.2.2.2.2]) _ (fun x => x.2.2.2.1 ≤ r1.length ∧ SrtL (conts x.2.2.1) ∧ (∀ q, q ∈ conts x.2.2.1 ↔ q ∈ conts out ∨ q ∈ (conts r1).take x.2.2.2.1) ∧ x.2.2.1.length ≤ 200000 * a + x.2.2.2.1 ∧ x.2.2.2.2 = r1.drop x.2.2.2.1) (fun x => r1.length - x.2.2.2.1) (outA, outc, out, 0, r1) (by (try dsimp only); exact ⟨by omega, hs0, fun q => by simp, by omega, by simp⟩) (Ent.cons rfl (Ent.cons rfl (Ent.nil _))) (Ent.cons (t := 1) rfl (Ent.cons (t := 4) rfl (Ent.cons (t := 5) rfl (Ent.nil _)))) (Sub.keep 2 rfl (Sub.keep 2 rfl (Sub.keep 1 rfl (Sub.keep 0 rfl (Sub.keep 0 rfl (Sub.nil _)))))) ?_
    rintro ⟨o1A, o1c, o1, i, rs⟩ ⟨hi, hs1, hm1, hl1, hrs⟩
    dsimp only at hi hs1 hm1 hl1 hrs ⊢
    subst hrs
    refine V.fact (RowsA.len 1 rfl) (fun hn_o1 => ?_)
    have htl_o1 := tops_len o1
    refine V.seq ?_
    refine V.seq ?_
    refine V.region ?_
    refine O.p rfl rfl rfl (Pu.move rfl rfl) ?_
    refine O.p rfl rfl rfl (Pu.move rfl rfl) ?_
    refine O.p rfl rfl rfl (Pu.len rfl Try.underlying34 rfl) ?_
    refine O.p rfl rfl rfl (Pu.lss rfl rfl rfl) ?_
    refine O.nil ?_
    refine X.next ?_
    refine V.condD rfl (fun c2 => ?_) (fun c2 => ?_)
    · skip
      refine V.skip ?_
      refine X.next ?_
      refine V.seq ?_
      refine V.block ?_
      have ei : i < r1.length := by omega
      refine V.map (fun w hw => RowsA.takeOne (T := 2) (C := I64) ei (hw.perm (pull_perm (i := 2) rfl))) ?_
      refine V.region ?_
      refine O.p rfl rfl rfl (Pu.move rfl rfl) ?_
      refine O.p rfl rfl rfl (Pu.move rfl rfl) ?_
      refine O.p rfl rfl rfl (Pu.move rfl rfl) ?_
      refine O.p rfl rfl rfl (Pu.indexAddrS (i) rfl Try.underlying34 sz52 rfl rfl (by omega) (by omega) (fun w hw => Own.some hw (i := 4) (by exact rfl) (by omega))) ?_
      refine O.p rfl rfl rfl (Pu.load rfl pl52 rfl (Ld.row (Ld.own 4 (by exact rfl)) hn_r1 ei rfl)) ?_
      refine O.e rfl rfl rfl (Ef.call call47 rfl rfl (Does.pre (fun w hw => hw.sub (Sub.keep 2 rfl (Sub.keep 2 rfl (Sub.keep 0 rfl (Sub.keep 0 rfl (Sub.keep 0 rfl (Sub.keep 0 rfl (Sub.nil _)))))))) (l03Put_ok o1 _ _ _ _ _ _ _ hs1 (by omega)))) ?_
      rintro _ _ rfl
      refine O.exi (fun p1 => ?_)
      refine O.sep ?_
      refine O.pur ?_
      rintro ⟨rfl, hp1_1, hp1_2, hp1_3⟩
      refine O.sep ?_
      refine O.p rfl rfl rfl (Pu.assign rfl rfl) ?_
      refine O.nil ?_
      refine X.blockNormal ?_
      refine X.next ?_
      refine V.region ?_
      refine O.p rfl rfl rfl (Pu.move rfl rfl) ?_
      refine O.p rfl rfl rfl (Pu.add64 (r := ((i + 1 : Nat) : Int)) rfl (by omega) rfl rfl rfl) ?_
      refine O.p rfl rfl rfl (Pu.assign rfl rfl) ?_
      refine O.nil ?_
      exact X.back3 (p1.1.1, p1.1.2, p1.2, i + 1, (r1.drop (i + 1))) (by (try dsimp only); exact ⟨by omega, hp1_1, fun q => by rw [hp1_2 q, hm1 q, take_snoc (by rw [conts_len]; exact ei), conts_get, List.mem_append, List.mem_singleton, or_assoc], by omega, rfl⟩) (by first | omega | (dsimp only; omega)) (Ent.cons' rfl (by first | rfl | (simp only [tops_append]; done) | (simp only [tops_append]; rfl)) (Ent.cons rfl (Ent.nil _))) (Ent.cons (t := 1) rfl (Ent.cons (t := 4) rfl (Ent.cons (t := 5) rfl (Ent.nil _)))) (Sub.keep 0 rfl (Sub.keep 0 rfl (Sub.keep 0 rfl (Sub.keep 0 rfl (Sub.keep 0 rfl (Sub.nil _))))))
    · skip
      refine V.exit ?_
      refine X.thenExit ?_
      refine X.thenExit ?_
      refine X.blockHit ?_
      refine X.blockNormal ?_
      refine X.next ?_
      refine V.region ?_
      refine O.p rfl rfl rfl (Pu.move rfl rfl) ?_
      refine O.p rfl rfl rfl (Pu.add64 (r := ((a + 1 : Nat) : Int)) rfl (by omega) rfl rfl rfl) ?_
      refine O.p rfl rfl rfl (Pu.assign rfl rfl) ?_
      refine O.nil ?_
      exact X.back3 (o1A, o1c, o1, a + 1) (by (try dsimp only); exact ⟨by omega, hs1, fun q => by rw [hm1 q, hm0 q, List.take_of_length_le (by rw [conts_len]; omega), hr1_1.2 q]; exact mit_step, by omega⟩) (by first | omega | (dsimp only; omega)) (Ent.cons' rfl (by first | rfl | (simp only [tops_append]; done) | (simp only [tops_append]; rfl)) (Ent.cons rfl (Ent.nil _))) (Ent.cons (t := 1) rfl (Ent.nil _)) (Sub.keep 0 rfl (Sub.keep 0 rfl (Sub.keep 2 rfl (Sub.nil _))))
  · skip
    refine V.exit ?_
    refine X.thenExit ?_
    refine X.thenExit ?_
    refine X.blockHit ?_
    refine X.next ?_
    refine V.seq ?_
    refine V.region ?_
    refine O.p rfl rfl rfl (Pu.move rfl rfl) ?_
    refine O.p rfl rfl rfl (Pu.assign rfl rfl) ?_
    refine O.nil ?_
    refine X.next ?_
    refine V.ret ?_
    refine X.ret1 rfl rfl ?_
    exact fun w hw => St.mkExi outA (St.mkExi outc (St.mkExi out (St.unsep (St.addPur ⟨(by first | rfl | (simp only [tops_append]; done) | (simp only [tops_append]; rfl)), ⟨hs0, fun q => by rw [hm0 q, show a = v.toNat by omega]; exact Iff.rfl⟩, by omega⟩ (St.unsep (hw.sub (Sub.keep 0 rfl (Sub.keep 0 rfl (Sub.nil _)))))))))
set_option maxRecDepth 100000 in
set_option maxHeartbeats 1000000 in
theorem implMitreList_ok (v : Int) (bs : List B3) (A : Option Addr) (c : Nat) (w : World) (hx : Rd B3C w A bs) (lx : bs.length ≤ 4611686018427387904) : Does Try.prog 12 [.agg #[.int .i64 v, .slice A bs.length c]] w [] (fun r => [.exi fun (pA : Option Addr) => .exi fun (pc : Nat) => .exi fun (p : List (Sl × List Int)) => .sep (.pur (r = .tuple #[.slice pA (tops p).length pc, .int .i64 (if STS v bs then 0 else 1)] ∧ ResL (STS v bs) (MitA v bs) (conts p) ∧ p.length ≤ 3000000)) (.sep (Own 52 SlC pA pc (tops p)) (RowsA 2 I64 p))]) := by
  refine Does.enter Try.func12 rfl rfl [(0, .agg #[.int .i64 v, .slice A bs.length c])] rfl ?_
  refine V.seq ?_
  refine V.region ?_
  refine O.e rfl rfl rfl (Ef.box rfl rfl rfl) ?_
  rintro _ _ ⟨b1, rfl, rfl⟩
  refine O.p rfl rfl rfl (Pu.assign rfl rfl) ?_
  refine O.p rfl rfl rfl (Pu.assign rfl rfl) ?_
  refine O.nil ?_
  refine X.next ?_
  refine V.seq ?_
  refine V.seq ?_
  refine V.region ?_
  refine O.p rfl rfl rfl (Pu.loadAgg rfl ag30 sz30 rfl rfl (Ld.whole 0 rfl)) ?_
  refine O.e rfl rfl rfl (Ef.callP call27 rfl rfl (fun w hw => IsSystem_ok _ bs _ _ w ((Ld.old hx) w hw) (by omega))) ?_
  rintro _ _ ⟨rfl, rfl⟩
  refine O.p rfl rfl rfl (Pu.not rfl rfl) ?_
  refine O.nil ?_
  refine X.next ?_
  refine V.condNot rfl (fun c1 => ?_) (fun c1 => ?_)
  · skip
    refine V.seq ?_
    refine V.region ?_
    refine O.p rfl rfl rfl (Pu.assign rfl rfl) ?_
    refine O.p rfl rfl rfl (Pu.assign rfl rfl) ?_
    refine O.nil ?_
    refine X.next ?_
    refine V.ret ?_
    refine X.thenRet ?_
    refine X.ret2 rfl rfl rfl ?_
    exact fun w hw => St.mkExi none (St.mkExi 0 (St.mkExi [] (St.unsep (St.addPur ⟨by rw [if_neg c1]; rfl, ⟨fun h => absurd h c1, fun _ => rfl⟩, by simp⟩ (St.unsep (St.addNil (T := 52) (C := SlC) (RowsA.nil (T := 2) (C := I64) (hw.sub (Sub.nil _)))))))))
  · skip
    refine V.skip ?_
    refine X.next ?_
    refine V.seq ?_
    refine V.region ?_
    refine O.p rfl rfl rfl (Pu.loadAgg rfl ag30 sz30 rfl rfl (Ld.whole 0 rfl)) ?_
    refine O.e rfl rfl rfl (Ef.call1 call28 rfl rfl (fun w hw => mitres_ok  v bs _ _ w ((Ld.old hx) w hw) (by first | omega | (simp only [tops_len, conts_len, bl, List.length_append, List.length_cons, List.length_nil] at *; omega)) c1)) ?_
    rintro _ _ rfl
    refine O.exi (fun r1A => ?_)
    refine O.exi (fun r1c => ?_)
    refine O.exi (fun r1 => ?_)
    refine O.sep ?_
    refine O.pur ?_
    rintro ⟨rfl, hr1_1, hr1_2⟩
    refine O.sep ?_
    refine O.fact (RowsA.len 1 rfl) (fun hn_r1 => ?_)
    have htl_r1 := tops_len r1
    refine O.p rfl rfl rfl (Pu.assign rfl rfl) ?_
    refine O.p rfl rfl rfl (Pu.assign rfl rfl) ?_
    refine O.nil ?_
    refine X.next ?_
    refine V.ret ?_
    refine X.ret2 rfl rfl rfl ?_
    exact fun w hw => St.mkExi r1A (St.mkExi r1c (St.mkExi r1 (St.unsep (St.addPur ⟨by rw [if_pos c1], ⟨fun _ => hr1_1, fun h => absurd c1 h⟩, hr1_2⟩ (St.unsep (hw.sub (Sub.keep 0 rfl (Sub.keep 0 rfl (Sub.nil _)))))))))
set_option maxRecDepth 100000 in
set_option maxHeartbeats 1000000 in
theorem specMitreList_ok (v : Int) (bs : List B3) (A : Option Addr) (c : Nat) (w : World) (hx : Rd B3C w A bs) (lx : bs.length ≤ 4611686018427387904) : Does Try.prog 11 [.agg #[.int .i64 v, .slice A bs.length c]] w [] (fun r => [.exi fun (pA : Option Addr) => .exi fun (pc : Nat) => .exi fun (p : List (Sl × List Int)) => .sep (.pur (r = .tuple #[.slice pA (tops p).length pc, .int .i64 (if STS v bs then 0 else 1)] ∧ ResL (STS v bs) (MitA v bs) (conts p) ∧ p.length ≤ 3000000)) (.sep (Own 52 SlC pA pc (tops p)) (RowsA 2 I64 p))]) := by
  refine Does.enter Try.func11 rfl rfl [(0, .agg #[.int .i64 v, .slice A bs.length c])] rfl ?_
  refine V.seq ?_
  refine V.region ?_
  refine O.e rfl rfl rfl (Ef.box rfl rfl rfl) ?_
  rintro _ _ ⟨b1, rfl, rfl⟩
  refine O.p rfl rfl rfl (Pu.assign rfl rfl) ?_
  refine O.p rfl rfl rfl (Pu.assign rfl rfl) ?_
  refine O.nil ?_
  refine X.next ?_
  refine V.seq ?_
  refine V.seq ?_
  refine V.region ?_
  refine O.p rfl rfl rfl (Pu.loadAgg rfl ag30 sz30 rfl rfl (Ld.whole 0 rfl)) ?_
  refine O.e rfl rfl rfl (Ef.callP call23 rfl rfl (fun w hw => l01Is_ok _ bs _ _ w ((Ld.old hx) w hw) (by omega))) ?_
  rintro _ _ ⟨rfl, rfl⟩
  refine O.p rfl rfl rfl (Pu.not rfl rfl) ?_
  refine O.nil ?_
  refine X.next ?_
  refine V.condNot rfl (fun c1 => ?_) (fun c1 => ?_)
  · skip
    refine V.seq ?_
    refine V.region ?_
    refine O.p rfl rfl rfl (Pu.assign rfl rfl) ?_
    refine O.p rfl rfl rfl (Pu.assign rfl rfl) ?_
    refine O.nil ?_
    refine X.next ?_
    refine V.ret ?_
    refine X.thenRet ?_
    refine X.ret2 rfl rfl rfl ?_
    exact fun w hw => St.mkExi none (St.mkExi 0 (St.mkExi [] (St.unsep (St.addPur ⟨by rw [if_neg c1]; rfl, ⟨fun h => absurd h c1, fun _ => rfl⟩, by simp⟩ (St.unsep (St.addNil (T := 52) (C := SlC) (RowsA.nil (T := 2) (C := I64) (hw.sub (Sub.nil _)))))))))
  · skip
    refine V.skip ?_
    refine X.next ?_
    refine V.seq ?_
    refine V.region ?_
    refine O.p rfl rfl rfl (Pu.loadAgg rfl ag30 sz30 rfl rfl (Ld.whole 0 rfl)) ?_
    refine O.e rfl rfl rfl (Ef.call1 call24 rfl rfl (fun w hw => l03Mitres_ok  v bs _ _ w ((Ld.old hx) w hw) (by first | omega | (simp only [tops_len, conts_len, bl, List.length_append, List.length_cons, List.length_nil] at *; omega)) c1)) ?_
    rintro _ _ rfl
    refine O.exi (fun r1A => ?_)
    refine O.exi (fun r1c => ?_)
    refine O.exi (fun r1 => ?_)
    refine O.sep ?_
    refine O.pur ?_
    rintro ⟨rfl, hr1_1, hr1_2⟩
    refine O.sep ?_
    refine O.fact (RowsA.len 1 rfl) (fun hn_r1 => ?_)
    have htl_r1 := tops_len r1
    refine O.p rfl rfl rfl (Pu.assign rfl rfl) ?_
    refine O.p rfl rfl rfl (Pu.assign rfl rfl) ?_
    refine O.nil ?_
    refine X.next ?_
    refine V.ret ?_
    refine X.ret2 rfl rfl rfl ?_
    exact fun w hw => St.mkExi r1A (St.mkExi r1c (St.mkExi r1 (St.unsep (St.addPur ⟨by rw [if_pos c1], ⟨fun _ => hr1_1, fun h => absurd c1 h⟩, hr1_2⟩ (St.unsep (hw.sub (Sub.keep 0 rfl (Sub.keep 0 rfl (Sub.nil _)))))))))
set_option maxRecDepth 100000 in
set_option maxHeartbeats 1000000 in
theorem FnExactMitreList_ok (v : Int) (bs : List B3) (A : Option Addr) (c : Nat) (w : World) (hx : Rd B3C w A bs) (lx : bs.length ≤ 9223372036854775807) : Does Try.prog 4 [.agg #[.int .i64 v, .slice A bs.length c]] w [] (fun r => [.pur (r = .bool true)]) := by
  refine Does.enter Try.func4 rfl rfl [(0, .agg #[.int .i64 v, .slice A bs.length c])] rfl ?_
  refine V.seq ?_
  refine V.region ?_
  refine O.e rfl rfl rfl (Ef.box rfl rfl rfl) ?_
  rintro _ _ ⟨b1, rfl, rfl⟩
  refine O.p rfl rfl rfl (Pu.assign rfl rfl) ?_
  refine O.nil ?_
  refine X.next ?_
  refine V.seq ?_
  refine V.region ?_
  refine O.p rfl rfl rfl (Pu.assign rfl rfl) ?_
  refine O.nil ?_
  refine X.next ?_
  refine V.seq ?_
  refine V.region ?_
  refine O.p rfl rfl rfl (Pu.loadAgg rfl ag24 sz24 rfl rfl (Ld.whole 0 rfl)) ?_
  refine O.p rfl rfl rfl (Pu.move rfl rfl) ?_
  refine O.e rfl rfl rfl (Ef.callP call6 rfl rfl (fun w hw => szSystem_ok _ _ bs _ _ w (by first | omega | (unfold roomLeft at *; split at * <;> omega)) (by omega))) ?_
  rintro _ _ ⟨rfl, rfl⟩
  refine O.p rfl rfl rfl (Pu.assign rfl rfl) ?_
  refine O.nil ?_
  refine X.next ?_
  refine V.seq ?_
  refine V.seq ?_
  refine V.region ?_
  refine O.p rfl rfl rfl (Pu.move rfl rfl) ?_
  refine O.p rfl rfl rfl (Pu.lss rfl rfl rfl) ?_
  refine O.nil ?_
  refine X.next ?_
  refine V.condD rfl (fun c1 => ?_) (fun c1 => ?_)
  · skip
    refine V.seq ?_
    refine V.region ?_
    refine O.p rfl rfl rfl (Pu.assign rfl rfl) ?_
    refine O.nil ?_
    refine X.next ?_
    refine V.ret ?_
    refine X.thenRet ?_
    refine X.ret1 rfl rfl ?_
    exact fun w hw => St.retP rfl hw
  · skip
    have hk : bs.length ≤ 1048576 := by unfold roomLeft at c1; split at c1 <;> omega
    refine V.skip ?_
    refine X.next ?_
    refine V.seq ?_
    refine V.region ?_
    refine O.p rfl rfl rfl (Pu.loadAgg rfl ag24 sz24 rfl rfl (Ld.whole 0 rfl)) ?_
    refine O.e rfl rfl rfl (Ef.call1 call8 rfl rfl (fun w hw => toSystem_ok _ bs _ _ w ((Ld.old hx) w hw) (by omega))) ?_
    rintro _ _ rfl
    refine O.exi (fun A1 => ?_)
    refine O.sep ?_
    refine O.pur ?_
    rintro ⟨hA1, rfl⟩
    refine O.e rfl rfl rfl (Ef.call1 call11 rfl rfl (fun w hw => specMitreList_ok  v bs _ _ w ((Ld.own 0 (by exact rfl)) w hw) (by first | omega | (simp only [tops_len, conts_len, bl, List.length_append, List.length_cons, List.length_nil] at *; omega)) )) ?_
    rintro _ _ rfl
    refine O.exi (fun p1A => ?_)
    refine O.exi (fun p1c => ?_)
    refine O.exi (fun p1 => ?_)
    refine O.sep ?_
    refine O.pur ?_
    rintro ⟨rfl, hp1_1, hp1_2⟩
    refine O.sep ?_
    refine O.fact (RowsA.len 1 rfl) (fun hn_p1 => ?_)
    have htl_p1 := tops_len p1
    refine O.p rfl rfl rfl (Pu.move rfl rfl) ?_
    refine O.p rfl rfl rfl (Pu.extract rfl rfl rfl) ?_
    refine O.p rfl rfl rfl (Pu.extract rfl rfl rfl) ?_
    refine O.p rfl rfl rfl (Pu.assign rfl rfl) ?_
    refine O.p rfl rfl rfl (Pu.assign rfl rfl) ?_
    refine O.nil ?_
    refine X.next ?_
    refine V.seq ?_
    refine V.region ?_
    refine O.p rfl rfl rfl (Pu.loadAgg rfl ag24 sz24 rfl rfl (Ld.whole 3 rfl)) ?_
    refine O.e rfl rfl rfl (Ef.call1 call8 rfl rfl (fun w hw => toSystem_ok _ bs _ _ w ((Ld.old hx) w hw) (by omega))) ?_
    rintro _ _ rfl
    refine O.exi (fun A2 => ?_)
    refine O.sep ?_
    refine O.pur ?_
    rintro ⟨hA2, rfl⟩
    refine O.e rfl rfl rfl (Ef.alloc rfl zr30 rfl) ?_
    rintro _ _ ⟨b2, rfl, rfl⟩
    refine O.s rfl rfl (Ef.storeAll 0 rfl sz30 rfl rfl rfl rfl (by simp [Value.oneCell']) rfl) ?_
    rintro _ _ rfl
    refine O.nil ?_
    refine X.next ?_
    refine V.seq ?_
    refine V.region ?_
    refine O.p rfl rfl rfl (Pu.loadAgg rfl ag30 sz30 rfl rfl (Ld.whole 0 rfl)) ?_
    refine O.e rfl rfl rfl (Ef.call1 call12 rfl rfl (fun w hw => implMitreList_ok  v bs _ _ w ((Ld.own 1 (by exact rfl)) w hw) (by first | omega | (simp only [tops_len, conts_len, bl, List.length_append, List.length_cons, List.length_nil] at *; omega)) )) ?_
    rintro _ _ rfl
    refine O.exi (fun p2A => ?_)
    refine O.exi (fun p2c => ?_)
    refine O.exi (fun p2 => ?_)
    refine O.sep ?_
    refine O.pur ?_
    rintro ⟨rfl, hp2_1, hp2_2⟩
    refine O.sep ?_
    refine O.fact (RowsA.len 1 rfl) (fun hn_p2 => ?_)
    have htl_p2 := tops_len p2
    have heq := hp2_1.unique hp1_1
    have hsm := sumLen_bound (mit_small hp2_1.1 hp2_1.2)
    refine O.p rfl rfl rfl (Pu.move rfl rfl) ?_
    refine O.p rfl rfl rfl (Pu.extract rfl rfl rfl) ?_
    refine O.p rfl rfl rfl (Pu.extract rfl rfl rfl) ?_
    refine O.p rfl rfl rfl (Pu.assign rfl rfl) ?_
    refine O.p rfl rfl rfl (Pu.assign rfl rfl) ?_
    refine O.nil ?_
    refine X.next ?_
    refine V.seq ?_
    refine V.seq ?_
    refine V.region ?_
    refine O.p rfl rfl rfl (Pu.move rfl rfl) ?_
    refine O.p rfl rfl rfl (Pu.move rfl rfl) ?_
    refine O.e rfl rfl rfl (Ef.callP call13 rfl rfl (fun w hw => eqInt64SS_ok p2 p1 _ _ _ _ w ((Ld.ll 0 1 (by exact rfl) (by exact rfl)) w hw) ((Ld.ll 4 5 (by exact rfl) (by exact rfl)) w hw) (by omega) (by omega))) ?_
    rintro _ _ ⟨rfl, rfl⟩
    refine O.p rfl rfl rfl (Pu.not rfl rfl) ?_
    refine O.p rfl rfl rfl (Pu.move rfl rfl) ?_
    refine O.splitN 36 rfl (fun c2 => ?_) (fun c2 => ?_)
    · skip
      refine O.gs rfl rfl rfl rfl rfl rfl ?_
      refine O.gs rfl rfl rfl rfl rfl rfl ?_
      refine O.gs rfl rfl rfl rfl rfl rfl ?_
      refine O.p rfl rfl rfl (Pu.pickT rfl rfl rfl) ?_
      refine O.nil ?_
      refine X.next ?_
      refine V.condT rfl ?_
      refine V.seq ?_
      refine V.region ?_
      refine O.p rfl rfl rfl (Pu.assign rfl rfl) ?_
      refine O.nil ?_
      refine X.next ?_
      refine V.ret ?_
      refine X.thenRet ?_
      refine X.ret1 rfl rfl ?_
      exact absurd (by first | assumption | rfl | exact ⟨rfl, rfl⟩ | exact ⟨rfl, by assumption⟩ | exact ⟨⟨rfl, by assumption⟩, rfl, by assumption⟩ | omega | (simp only [*]; done) | (rw [rfl])) c2
    · skip
      refine O.gp rfl rfl rfl rfl rfl (Pu.move rfl rfl) ?_
      refine O.gp rfl rfl rfl rfl rfl (Pu.move rfl rfl) ?_
      refine O.gp rfl rfl rfl rfl rfl (Pu.neq rfl rfl rfl) ?_
      refine O.p rfl rfl rfl (Pu.pickF rfl rfl rfl) ?_
      refine O.nil ?_
      refine X.next ?_
      refine V.condNot rfl (fun c3 => ?_) (fun c3 => ?_)
      · skip
        refine V.seq ?_
        refine V.region ?_
        refine O.p rfl rfl rfl (Pu.assign rfl rfl) ?_
        refine O.nil ?_
        refine X.next ?_
        refine V.ret ?_
        refine X.thenRet ?_
        refine X.ret1 rfl rfl ?_
        exact absurd (by first | assumption | rfl | exact ⟨rfl, rfl⟩ | exact ⟨rfl, by assumption⟩ | exact ⟨⟨rfl, by assumption⟩, rfl, by assumption⟩ | omega | (simp only [*]; done) | (rw [rfl])) c3
      · skip
        refine V.skip ?_
        refine X.next ?_
        refine V.seq ?_
        refine V.seq ?_
        refine V.draw mo (by kernel_rfl) (fun hwf => ?_)
        refine D.p 0 rfl rfl rfl rfl rfl rfl (Pu.loadAgg rfl ag30 sz30 rfl rfl (Ld.whole 2 rfl)) ?_
        refine D.p 1 rfl rfl rfl rfl rfl rfl (Pu.loadAgg rfl ag24 sz24 rfl rfl (Ld.whole 7 rfl)) ?_
        refine D.eff hwf (e := 2) rfl rfl rfl rfl (Ef.call1 call8 rfl rfl (fun w hw => toSystem_ok _ bs _ _ w ((Ld.old hx) w hw) (by omega))) rfl rfl rfl ?_
        rintro _ _ rfl hs
        refine ⟨fun w hw => hs w hw.tail, ?_⟩
        refine D.exi (fun A3 => ?_)
        refine D.sep ?_
        refine D.pur1 ?_
        rintro ⟨hA3, rfl⟩
        refine D.eff hwf (e := 3) rfl rfl rfl rfl (Ef.callP call10 rfl rfl (fun w hw => eqSystem_ok _ _ bs bs _ _ _ _ w ((Ld.own 4 (by exact rfl)) w hw) ((Ld.own 0 (by exact rfl)) w hw) (by omega) (by omega))) rfl rfl rfl ?_
        rintro _ _ ⟨rfl, rfl⟩ hs
        refine ⟨fun w hw => hw.sub (Sub.keep 1 rfl (Sub.keep 1 rfl (Sub.keep 1 rfl (Sub.keep 1 rfl (Sub.keep 1 rfl (Sub.keep 1 rfl (Sub.keep 1 rfl (Sub.keep 1 rfl (Sub.nil _))))))))), ?_⟩
        refine D.p 4 rfl rfl rfl rfl rfl rfl (Pu.not rfl rfl) ?_
        refine D.done hwf rfl ?_
        refine X.next ?_
        refine V.condNot rfl (fun c4 => ?_) (fun c4 => ?_)
        · skip
          refine V.seq ?_
          refine V.region ?_
          refine O.p rfl rfl rfl (Pu.assign rfl rfl) ?_
          refine O.nil ?_
          refine X.next ?_
          refine V.ret ?_
          refine X.thenRet ?_
          refine X.ret1 rfl rfl ?_
          exact absurd (by first | assumption | rfl | exact ⟨rfl, rfl⟩ | exact ⟨rfl, by assumption⟩ | exact ⟨⟨rfl, by assumption⟩, rfl, by assumption⟩ | omega | (simp only [*]; done) | (rw [rfl])) c4
        · skip
          refine V.skip ?_
          refine X.next ?_
          refine V.seq ?_
          refine V.region ?_
          refine O.p rfl rfl rfl (Pu.assign rfl rfl) ?_
          refine O.nil ?_
          refine X.next ?_
          refine V.seq ?_
          refine V.region ?_
          refine O.p rfl rfl rfl (Pu.loadAgg rfl ag30 sz30 rfl rfl (Ld.whole 3 rfl)) ?_
          refine O.p rfl rfl rfl (Pu.move rfl rfl) ?_
          refine O.e rfl rfl rfl (Ef.callM 4 call14 rfl rfl rfl (fun H _ => markSystemX_ok _ _ _ _ _ _ H (by omega) (by omega))) ?_
          rintro _ _ ⟨rfl, rfl⟩
          refine O.p rfl rfl rfl (Pu.assign rfl rfl) ?_
          refine O.nil ?_
          refine X.next ?_
          refine V.seq ?_
          refine V.seq ?_
          refine V.region ?_
          refine O.p rfl rfl rfl (Pu.move rfl rfl) ?_
          refine O.p rfl rfl rfl (Pu.lss rfl rfl rfl) ?_
          refine O.p rfl rfl rfl (Pu.move rfl rfl) ?_
          refine O.splitD 51 rfl (fun c5 => ?_) (fun c5 => ?_)
          · skip
            refine O.gs rfl rfl rfl rfl rfl rfl ?_
            refine O.gs rfl rfl rfl rfl rfl rfl ?_
            refine O.gs rfl rfl rfl rfl rfl rfl ?_
            refine O.gs rfl rfl rfl rfl rfl rfl ?_
            refine O.p rfl rfl rfl (Pu.pickT rfl rfl rfl) ?_
            refine O.p rfl rfl rfl (Pu.move rfl rfl) ?_
            refine O.gs rfl rfl rfl rfl rfl rfl ?_
            refine O.gs rfl rfl rfl rfl rfl rfl ?_
            refine O.gs rfl rfl rfl rfl rfl rfl ?_
            refine O.p rfl rfl rfl (Pu.pickT rfl rfl rfl) ?_
            refine O.nil ?_
            refine X.next ?_
            refine V.condT rfl ?_
            refine V.seq ?_
            refine V.region ?_
            refine O.p rfl rfl rfl (Pu.assign rfl rfl) ?_
            refine O.nil ?_
            refine X.next ?_
            refine V.ret ?_
            refine X.thenRet ?_
            refine X.ret1 rfl rfl ?_
            exact absurd c5 (by first | omega | assumption)
          · skip
            refine O.gp rfl rfl rfl rfl rfl (Pu.move rfl rfl) ?_
            refine O.gp rfl rfl rfl rfl rfl (Pu.move rfl rfl) ?_
            refine O.ge rfl rfl rfl rfl rfl (Ef.callP call13 rfl rfl (fun w hw => eqInt64SS_ok p2 p1 _ _ _ _ w ((Ld.ll 1 2 (by exact rfl) (by exact rfl)) w hw) ((Ld.ll 5 6 (by exact rfl) (by exact rfl)) w hw) (by omega) (by omega))) ?_
            rintro _ _ ⟨rfl, rfl⟩
            refine O.gp rfl rfl rfl rfl rfl (Pu.not rfl rfl) ?_
            refine O.p rfl rfl rfl (Pu.pickF rfl rfl rfl) ?_
            refine O.p rfl rfl rfl (Pu.move rfl rfl) ?_
            refine O.splitN 57 rfl (fun c6 => ?_) (fun c6 => ?_)
            · skip
              refine O.gs rfl rfl rfl rfl rfl rfl ?_
              refine O.gs rfl rfl rfl rfl rfl rfl ?_
              refine O.gs rfl rfl rfl rfl rfl rfl ?_
              refine O.p rfl rfl rfl (Pu.pickT rfl rfl rfl) ?_
              refine O.nil ?_
              refine X.next ?_
              refine V.condT rfl ?_
              refine V.seq ?_
              refine V.region ?_
              refine O.p rfl rfl rfl (Pu.assign rfl rfl) ?_
              refine O.nil ?_
              refine X.next ?_
              refine V.ret ?_
              refine X.thenRet ?_
              refine X.ret1 rfl rfl ?_
              exact absurd (by first | assumption | rfl | exact ⟨rfl, rfl⟩ | exact ⟨rfl, by assumption⟩ | exact ⟨⟨rfl, by assumption⟩, rfl, by assumption⟩ | omega | (simp only [*]; done) | (rw [rfl])) c6
            · skip
              refine O.gp rfl rfl rfl rfl rfl (Pu.move rfl rfl) ?_
              refine O.gp rfl rfl rfl rfl rfl (Pu.move rfl rfl) ?_
              refine O.gp rfl rfl rfl rfl rfl (Pu.neq rfl rfl rfl) ?_
              refine O.p rfl rfl rfl (Pu.pickF rfl rfl rfl) ?_
              refine O.nil ?_
              refine X.next ?_
              refine V.condNot rfl (fun c7 => ?_) (fun c7 => ?_)
              · skip
                refine V.seq ?_
                refine V.region ?_
                refine O.p rfl rfl rfl (Pu.assign rfl rfl) ?_
                refine O.nil ?_
                refine X.next ?_
                refine V.ret ?_
                refine X.thenRet ?_
                refine X.ret1 rfl rfl ?_
                exact absurd (by first | assumption | rfl | exact ⟨rfl, rfl⟩ | exact ⟨rfl, by assumption⟩ | exact ⟨⟨rfl, by assumption⟩, rfl, by assumption⟩ | omega | (simp only [*]; done) | (rw [rfl])) c7
              · skip
                refine V.skip ?_
                refine X.next ?_
                refine V.seq ?_
                refine V.region ?_
                refine O.p rfl rfl rfl (Pu.assign rfl rfl) ?_
                refine O.nil ?_
                refine X.next ?_
                refine V.seq ?_
                refine V.region ?_
                refine O.p rfl rfl rfl (Pu.move rfl rfl) ?_
                refine O.p rfl rfl rfl (Pu.move rfl rfl) ?_
                refine O.e rfl rfl rfl (Ef.call call15 rfl rfl (Does.pre (fun w hw => hw.sub (Sub.keep 1 rfl (Sub.keep 1 rfl (Sub.keep 0 rfl (Sub.keep 0 rfl (Sub.keep 0 rfl (Sub.keep 0 rfl (Sub.keep 0 rfl (Sub.keep 0 rfl (Sub.keep 0 rfl (Sub.nil _))))))))))) (markInt64SS_ok p2 _ _ _ _ _ (by omega) (by omega)))) ?_
                rintro _ _ rfl
                refine O.pur ?_
                rintro rfl
                refine O.p rfl rfl rfl (Pu.assign rfl rfl) ?_
                refine O.nil ?_
                refine X.next ?_
                refine V.seq ?_
                refine V.region ?_
                refine O.p rfl rfl rfl (Pu.assign rfl rfl) ?_
                refine O.nil ?_
                refine X.next ?_
                refine V.seq ?_
                refine V.region ?_
                refine O.p rfl rfl rfl (Pu.move rfl rfl) ?_
                refine O.p rfl rfl rfl (Pu.move rfl rfl) ?_
                refine O.e rfl rfl rfl (Ef.callP call16 rfl rfl (fun w hw => heldInt64SS_ok p2 _ _ _ w (Ld.llm (i := 0) (j := 1) (by exact rfl) (by exact rfl) w hw) (by omega) (by omega))) ?_
                rintro _ _ ⟨rfl, rfl⟩
                refine O.p rfl rfl rfl (Pu.assign rfl rfl) ?_
                refine O.nil ?_
                refine X.next ?_
                refine V.seq ?_
                refine V.seq ?_
                refine V.region ?_
                refine O.p rfl rfl rfl (Pu.move rfl rfl) ?_
                refine O.p rfl rfl rfl (Pu.lss rfl rfl rfl) ?_
                refine O.nil ?_
                refine X.next ?_
                refine V.condD rfl (fun c8 => ?_) (fun c8 => ?_)
                · skip
                  refine V.seq ?_
                  refine V.region ?_
                  refine O.p rfl rfl rfl (Pu.assign rfl rfl) ?_
                  refine O.nil ?_
                  refine X.next ?_
                  refine V.ret ?_
                  refine X.thenRet ?_
                  refine X.ret1 rfl rfl ?_
                  exact absurd c8 (by first | omega | assumption)
                · skip
                  refine V.skip ?_
                  refine X.next ?_
                  refine V.seq ?_
                  refine V.seq ?_
                  refine V.region ?_
                  refine O.p rfl rfl rfl (Pu.move rfl rfl) ?_
                  refine O.p rfl rfl rfl (Pu.move rfl rfl) ?_
                  refine O.p rfl rfl rfl (Pu.neq rfl rfl rfl) ?_
                  refine O.nil ?_
                  refine X.next ?_
                  refine V.condNot rfl (fun c9 => ?_) (fun c9 => ?_)
                  · skip
                    refine V.seq ?_
                    refine V.region ?_
                    refine O.p rfl rfl rfl (Pu.assign rfl rfl) ?_
                    refine O.nil ?_
                    refine X.next ?_
                    refine V.ret ?_
                    refine X.thenRet ?_
                    refine X.ret1 rfl rfl ?_
                    exact absurd (by first | assumption | rfl | exact ⟨rfl, rfl⟩ | exact ⟨rfl, by assumption⟩ | exact ⟨⟨rfl, by assumption⟩, rfl, by assumption⟩ | omega | (simp only [*]; done) | (rw [rfl])) c9
                  · skip
                    refine V.skip ?_
                    refine X.next ?_
                    refine V.seq ?_
                    refine V.region ?_
                    refine O.p rfl rfl rfl (Pu.loadAgg rfl ag24 sz24 rfl rfl (Ld.whole 8 rfl)) ?_
                    refine O.e rfl rfl rfl (Ef.call1 call8 rfl rfl (fun w hw => toSystem_ok _ bs _ _ w ((Ld.old hx) w hw) (by omega))) ?_
                    rintro _ _ rfl
                    refine O.exi (fun A4 => ?_)
                    refine O.sep ?_
                    refine O.pur ?_
                    rintro ⟨hA4, rfl⟩
                    refine O.e rfl rfl rfl (Ef.call1 call12 rfl rfl (fun w hw => implMitreList_ok  v bs _ _ w ((Ld.own 0 (by exact rfl)) w hw) (by first | omega | (simp only [tops_len, conts_len, bl, List.length_append, List.length_cons, List.length_nil] at *; omega)) )) ?_
                    rintro _ _ rfl
                    refine O.exi (fun p3A => ?_)
                    refine O.exi (fun p3c => ?_)
                    refine O.exi (fun p3 => ?_)
                    refine O.sep ?_
                    refine O.pur ?_
                    rintro ⟨rfl, hp3_1, hp3_2⟩
                    refine O.sep ?_
                    refine O.fact (RowsA.len 1 rfl) (fun hn_p3 => ?_)
                    have htl_p3 := tops_len p3
                    have heq := hp3_1.unique hp1_1
                    refine O.p rfl rfl rfl (Pu.move rfl rfl) ?_
                    refine O.p rfl rfl rfl (Pu.extract rfl rfl rfl) ?_
                    refine O.p rfl rfl rfl (Pu.extract rfl rfl rfl) ?_
                    refine O.p rfl rfl rfl (Pu.assign rfl rfl) ?_
                    refine O.p rfl rfl rfl (Pu.assign rfl rfl) ?_
                    refine O.nil ?_
                    refine X.next ?_
                    refine V.seq ?_
                    refine V.seq ?_
                    refine V.region ?_
                    refine O.p rfl rfl rfl (Pu.move rfl rfl) ?_
                    refine O.p rfl rfl rfl (Pu.move rfl rfl) ?_
                    refine O.e rfl rfl rfl (Ef.callP call13 rfl rfl (fun w hw => eqInt64SS_ok p3 p1 _ _ _ _ w ((Ld.ll 0 1 (by exact rfl) (by exact rfl)) w hw) ((Ld.ll 8 9 (by exact rfl) (by exact rfl)) w hw) (by omega) (by omega))) ?_
                    rintro _ _ ⟨rfl, rfl⟩
                    refine O.p rfl rfl rfl (Pu.not rfl rfl) ?_
                    refine O.p rfl rfl rfl (Pu.move rfl rfl) ?_
                    refine O.splitN 83 rfl (fun c10 => ?_) (fun c10 => ?_)
                    · skip
                      refine O.gs rfl rfl rfl rfl rfl rfl ?_
                      refine O.gs rfl rfl rfl rfl rfl rfl ?_
                      refine O.gs rfl rfl rfl rfl rfl rfl ?_
                      refine O.p rfl rfl rfl (Pu.pickT rfl rfl rfl) ?_
                      refine O.nil ?_
                      refine X.next ?_
                      refine V.condT rfl ?_
                      refine V.seq ?_
                      refine V.region ?_
                      refine O.p rfl rfl rfl (Pu.assign rfl rfl) ?_
                      refine O.nil ?_
                      refine X.next ?_
                      refine V.ret ?_
                      refine X.thenRet ?_
                      refine X.ret1 rfl rfl ?_
                      exact absurd (by first | assumption | rfl | exact ⟨rfl, rfl⟩ | exact ⟨rfl, by assumption⟩ | exact ⟨⟨rfl, by assumption⟩, rfl, by assumption⟩ | omega | (simp only [*]; done) | (rw [rfl])) c10
                    · skip
                      refine O.gp rfl rfl rfl rfl rfl (Pu.move rfl rfl) ?_
                      refine O.gp rfl rfl rfl rfl rfl (Pu.move rfl rfl) ?_
                      refine O.gp rfl rfl rfl rfl rfl (Pu.neq rfl rfl rfl) ?_
                      refine O.p rfl rfl rfl (Pu.pickF rfl rfl rfl) ?_
                      refine O.nil ?_
                      refine X.next ?_
                      refine V.condNot rfl (fun c11 => ?_) (fun c11 => ?_)
                      · skip
                        refine V.seq ?_
                        refine V.region ?_
                        refine O.p rfl rfl rfl (Pu.assign rfl rfl) ?_
                        refine O.nil ?_
                        refine X.next ?_
                        refine V.ret ?_
                        refine X.thenRet ?_
                        refine X.ret1 rfl rfl ?_
                        exact absurd (by first | assumption | rfl | exact ⟨rfl, rfl⟩ | exact ⟨rfl, by assumption⟩ | exact ⟨⟨rfl, by assumption⟩, rfl, by assumption⟩ | omega | (simp only [*]; done) | (rw [rfl])) c11
                      · skip
                        refine V.skip ?_
                        refine X.next ?_
                        refine V.seq ?_
                        refine V.region ?_
                        refine O.p rfl rfl rfl (Pu.assign rfl rfl) ?_
                        refine O.nil ?_
                        refine X.next ?_
                        refine V.seq ?_
                        refine V.region ?_
                        refine O.p rfl rfl rfl (Pu.move rfl rfl) ?_
                        refine O.p rfl rfl rfl (Pu.move rfl rfl) ?_
                        refine O.e rfl rfl rfl (Ef.callP call16 rfl rfl (fun w hw => heldInt64SS_ok p2 _ _ _ w (Ld.llm (i := 3) (j := 4) (by exact rfl) (by exact rfl) w hw) (by omega) (by omega))) ?_
                        rintro _ _ ⟨rfl, rfl⟩
                        refine O.p rfl rfl rfl (Pu.assign rfl rfl) ?_
                        refine O.nil ?_
                        refine X.next ?_
                        refine V.seq ?_
                        refine V.seq ?_
                        refine V.region ?_
                        refine O.p rfl rfl rfl (Pu.move rfl rfl) ?_
                        refine O.p rfl rfl rfl (Pu.lss rfl rfl rfl) ?_
                        refine O.nil ?_
                        refine X.next ?_
                        refine V.condD rfl (fun c12 => ?_) (fun c12 => ?_)
                        · skip
                          refine V.seq ?_
                          refine V.region ?_
                          refine O.p rfl rfl rfl (Pu.assign rfl rfl) ?_
                          refine O.nil ?_
                          refine X.next ?_
                          refine V.ret ?_
                          refine X.thenRet ?_
                          refine X.ret1 rfl rfl ?_
                          exact absurd c12 (by first | omega | assumption)
                        · skip
                          refine V.skip ?_
                          refine X.next ?_
                          refine V.seq ?_
                          refine V.seq ?_
                          refine V.region ?_
                          refine O.p rfl rfl rfl (Pu.move rfl rfl) ?_
                          refine O.p rfl rfl rfl (Pu.move rfl rfl) ?_
                          refine O.p rfl rfl rfl (Pu.neq rfl rfl rfl) ?_
                          refine O.nil ?_
                          refine X.next ?_
                          refine V.condNot rfl (fun c13 => ?_) (fun c13 => ?_)
                          · skip
                            refine V.seq ?_
                            refine V.region ?_
                            refine O.p rfl rfl rfl (Pu.assign rfl rfl) ?_
                            refine O.nil ?_
                            refine X.next ?_
                            refine V.ret ?_
                            refine X.thenRet ?_
                            refine X.ret1 rfl rfl ?_
                            exact absurd (by first | assumption | rfl | exact ⟨rfl, rfl⟩ | exact ⟨rfl, by assumption⟩ | exact ⟨⟨rfl, by assumption⟩, rfl, by assumption⟩ | omega | (simp only [*]; done) | (rw [rfl])) c13
                          · skip
                            refine V.skip ?_
                            refine X.next ?_
                            refine V.seq ?_
                            refine V.region ?_
                            refine O.p rfl rfl rfl (Pu.assign rfl rfl) ?_
                            refine O.nil ?_
                            refine X.next ?_
                            refine V.ret ?_
                            refine X.ret1 rfl rfl ?_
                            exact fun w hw => St.retP rfl hw
end Go.Proofs.Ytjkddnpmfcllhaa
