/-
  Contracts, part 9.
-/
import Derived.Test.YtphgcnegmkafiaaKb8
set_option linter.unusedVariables false
set_option linter.unusedSimpArgs false
namespace Go.Proofs.Ytphgcnegmkafiaa
open Go Go.RowKit Go.Vc Go.Proofs
set_option maxRecDepth 100000 in
set_option maxHeartbeats 1000000 in
theorem specLargeN_ok (v : Int) (bs : List B3) (A : Option Addr) (c : Nat) (w : World) (hx : Rd B3C w A bs) (lx : bs.length ≤ 4611686018427387904) (h9 : ¬ v = 9) : Does Try.prog 12 [.agg #[.int .i64 v, .slice A bs.length c]] w [] (fun rv_ => [.exi fun (rA : Option Addr) => .exi fun (rc : Nat) => .exi fun (r : List (Sl × List B3)) => .sep (.pur (rv_ = .tuple #[.slice rA (tops r).length rc, .int .i64 ((lsR v bs).2)] ∧ conts r = (lsR v bs).1)) (.sep (Own 30 (SyC 9) rA rc (tops r)) (RowsA 67 B3C r))]) := by
  refine Does.enter Try.func12 rfl rfl [(0, .agg #[.int .i64 v, .slice A bs.length c])] rfl ?_
  refine V.seq ?_
  refine V.region ?_
  refine O.e rfl rfl rfl (Ef.box rfl rfl rfl) ?_
  rintro _ _ ⟨b1, rfl, rfl⟩
  refine O.p rfl rfl rfl (Pu.assign rfl rfl) ?_
  refine O.p rfl rfl rfl (Pu.assign rfl rfl) ?_
  refine O.nil ?_
  refine X.next ?_
  refine V.seq ?_
  refine V.seq ?_
  refine V.region ?_
  refine O.p rfl rfl rfl (Pu.loadAgg rfl ag30 sz30 rfl rfl (Ld.whole 0 rfl)) ?_
  refine O.e rfl rfl rfl (Ef.callP call29 rfl rfl (fun w hw => l10Nine_ok  v bs _ _ w ((Ld.old hx) w hw) (by first | omega | (simp only [tops_len, conts_len, bl, List.length_append, List.length_cons, List.length_nil] at *; omega)) )) ?_
  rintro _ _ ⟨rfl, rfl⟩
  refine O.p rfl rfl rfl (Pu.assign rfl rfl) ?_
  refine O.nil ?_
  refine X.next ?_
  refine V.seq ?_
  refine V.region ?_
  refine O.p rfl rfl rfl (Pu.move rfl rfl) ?_
  refine O.p rfl rfl rfl (Pu.neq rfl rfl rfl) ?_
  refine O.nil ?_
  refine X.next ?_
  refine V.condNot rfl (fun c1 => ?_) (fun c1 => ?_)
  · skip
    refine V.seq ?_
    refine V.region ?_
    refine O.p rfl rfl rfl (Pu.move rfl rfl) ?_
    refine O.p rfl rfl rfl (Pu.assign rfl rfl) ?_
    refine O.p rfl rfl rfl (Pu.assign rfl rfl) ?_
    refine O.nil ?_
    refine X.next ?_
    refine V.ret ?_
    refine X.thenRet ?_
    refine X.ret2 rfl rfl rfl ?_
    exact fun w hw => St.mkExi none (St.mkExi 0 (St.mkExi [] (St.unsep (St.addPur ⟨(by rw [lsR_no c1]; try rfl), (by rw [lsR_no c1]; rfl)⟩ (St.unsep (St.addNil (T := 30) (C := (SyC 9)) (RowsA.nil (T := 67) (C := B3C) (hw.sub (Sub.nil _)))))))))
  · skip
    exact absurd (lf_zero (by omega)).2.1 h9
theorem specLargeSetWith_ok (v : Int) (bs : List B3) (A : Option Addr) (c : Nat) (w : World) (hx : Rd B3C w A bs) (lx : bs.length ≤ 4611686018427387904) : Does Try.prog 12 [.agg #[.int .i64 v, .slice A bs.length c]] w [] (fun rv_ => [.exi fun (rA : Option Addr) => .exi fun (rc : Nat) => .exi fun (r : List (Sl × List B3)) => .sep (.pur (rv_ = .tuple #[.slice rA (tops r).length rc, .int .i64 ((lsR v bs).2)] ∧ conts r = (lsR v bs).1)) (.sep (Own 30 (SyC 9) rA rc (tops r)) (RowsA 67 B3C r))]) := by
  by_cases h9 : v = 9
  · subst h9; exact specLarge9_ok bs A c w hx lx
  · exact specLargeN_ok v bs A c w hx lx h9
set_option maxRecDepth 100000 in
set_option maxHeartbeats 1000000 in
theorem eqSystemS_ok (aV : Int) (a : List (Sl × List B3)) (bV : Int) (b : List (Sl × List B3)) (aA : Option Addr) (ac : Nat) (bA : Option Addr) (bc : Nat) (w : World) (ha : RdY aV w aA a) (hb : RdY bV w bA b) (la : a.length ≤ 1099511627776) (lb : b.length ≤ 1099511627776) (hV : aV = bV) (hsa : ∀ i (h : i < a.length), (a[i]).2.length ≤ 1000) (hsb : ∀ i (h : i < b.length), (b[i]).2.length ≤ 1000) : Does Try.prog 14 [.slice aA (tops a).length ac, .slice bA (tops b).length bc] w [] (fun r => [.pur (r = .bool (decide (conts a = conts b)))]) := by
  refine Does.enter Try.func14 rfl rfl [(0, .slice aA (tops a).length ac), (1, .slice bA (tops b).length bc)] rfl ?_
  have hta := tops_len a
  have htb := tops_len b
  have hca := conts_len a
  have hcb := conts_len b
  refine V.seq ?_
  refine V.region ?_
  refine O.p rfl rfl rfl (Pu.assign rfl rfl) ?_
  refine O.nil ?_
  refine X.next ?_
  refine V.seq ?_
  refine V.seq ?_
  refine V.region ?_
  refine O.p rfl rfl rfl (Pu.move rfl rfl) ?_
  refine O.p rfl rfl rfl (Pu.len rfl Try.underlying34 rfl) ?_
  refine O.p rfl rfl rfl (Pu.move rfl rfl) ?_
  refine O.p rfl rfl rfl (Pu.len rfl Try.underlying34 rfl) ?_
  refine O.p rfl rfl rfl (Pu.neq rfl rfl rfl) ?_
  refine O.nil ?_
  refine X.next ?_
  refine V.condNot rfl (fun c1 => ?_) (fun c1 => ?_)
  · skip
    refine V.seq ?_
    refine V.region ?_
    refine O.p rfl rfl rfl (Pu.assign rfl rfl) ?_
    refine O.nil ?_
    refine X.next ?_
    refine V.ret ?_
    refine X.thenRet ?_
    refine X.ret1 rfl rfl ?_
    exact fun w hw => St.retP (boolF (fun h => c1 (by have := congrArg List.length h; omega))) hw
  · skip
    refine V.skip ?_
    refine X.next ?_
    refine V.seq ?_
    refine V.seq ?_
    refine V.region ?_
    refine O.p rfl rfl rfl (Pu.assign rfl rfl) ?_
    refine O.nil ?_
    refine X.next ?_
    refine V.block ?_
    refine V.loop2 (β := Nat) (fun i => [(5, .int .i64 (i : Int))]) _ (fun i => []) (fun i => i ≤ a.length ∧ ∀ j (h1 : j < a.length) (h2 : j < b.length), j < i → (a[j]).2 = (b[j]).2) (fun i => a.length - i) 0 ⟨by omega, fun j _ _ h => by omega⟩ (Ent.cons rfl (Ent.nil _)) (Ent.cons (t := 0) rfl (Ent.cons (t := 1) rfl (Ent.nil _))) (Sub.nil _) ?_
    rintro i ⟨hi, he⟩
    refine V.seq ?_
    refine V.seq ?_
    refine V.region ?_
    refine O.p rfl rfl rfl (Pu.move rfl rfl) ?_
    refine O.p rfl rfl rfl (Pu.move rfl rfl) ?_
    refine O.p rfl rfl rfl (Pu.len rfl Try.underlying34 rfl) ?_
    refine O.p rfl rfl rfl (Pu.lss rfl rfl rfl) ?_
    refine O.nil ?_
    refine X.next ?_
    refine V.condD rfl (fun c2 => ?_) (fun c2 => ?_)
    · skip
      refine V.skip ?_
      refine X.next ?_
      refine V.seq ?_
      refine V.block ?_
      refine V.seq ?_
      have hsa1 := hsa i (by omega)
      have hsb1 := hsb i (by omega)
      refine V.draw mo (by kernel_rfl) (fun hwf => ?_)
      refine D.p 0 rfl rfl rfl rfl rfl rfl (Pu.move rfl rfl) ?_
      refine D.p 1 rfl rfl rfl rfl rfl rfl (Pu.move rfl rfl) ?_
      refine D.p 2 rfl rfl rfl rfl rfl rfl (Pu.indexAddr (i) rfl Try.underlying34 sz30 rfl rfl (by omega) (by omega) (ha.top.some (by omega))) ?_
      have e1 : i < a.length := by have := tops_len a; omega
      refine D.p 3 rfl rfl rfl rfl rfl rfl (Pu.loadAgg' (v := .agg #[.int .i64 aV, .slice (a[i]'e1).1.A (a[i]'e1).2.length (a[i]'e1).1.c]) rfl rfl ag30 sz30 rfl rfl (Ld.rowY (Ld.old ha.top) ha.len e1 rfl)) ?_
      refine D.p 4 rfl rfl rfl rfl rfl rfl (Pu.move rfl rfl) ?_
      refine D.p 5 rfl rfl rfl rfl rfl rfl (Pu.move rfl rfl) ?_
      refine D.p 6 rfl rfl rfl rfl rfl rfl (Pu.indexAddr (i) rfl Try.underlying34 sz30 rfl rfl (by omega) (by omega) (hb.top.some (by omega))) ?_
      have e2 : i < b.length := by have := tops_len b; omega
      refine D.p 7 rfl rfl rfl rfl rfl rfl (Pu.loadAgg' (v := .agg #[.int .i64 bV, .slice (b[i]'e2).1.A (b[i]'e2).2.length (b[i]'e2).1.c]) rfl rfl ag30 sz30 rfl rfl (Ld.rowY (Ld.old hb.top) hb.len e2 rfl)) ?_
      refine D.eff hwf (e := 8) rfl rfl rfl rfl (Ef.callP call11 rfl rfl (fun w hw => eqSystem_ok _ _ (a[i]'e1).2 (b[i]'e2).2 _ _ _ _ w ((Ld.old (ha.row i e1)) w hw) ((Ld.old (hb.row i e2)) w hw) (by omega) (by omega))) rfl rfl rfl ?_
      rintro _ _ ⟨rfl, rfl⟩ hs
      refine ⟨fun w hw => hw, ?_⟩
      refine D.p 9 rfl rfl rfl rfl rfl rfl (Pu.not rfl rfl) ?_
      refine D.done hwf rfl ?_
      refine X.next ?_
      refine V.condNot rfl (fun c3 => ?_) (fun c3 => ?_)
      · skip
        refine V.seq ?_
        refine V.region ?_
        refine O.p rfl rfl rfl (Pu.assign rfl rfl) ?_
        refine O.nil ?_
        refine X.next ?_
        refine V.ret ?_
        refine X.blockRet ?_
        refine X.thenRet ?_
        refine X.thenRet ?_
        refine X.blockRet ?_
        refine X.thenRet ?_
        refine X.ret1 rfl rfl ?_
        exact fun w hw => St.retP (boolF (fun h => c3 ⟨hV, by rw [← conts_get a (by omega), ← conts_get b (by omega)]; simp [h]⟩)) hw
      · skip
        refine V.skip ?_
        refine X.blockNormal ?_
        refine X.next ?_
        refine V.region ?_
        refine O.p rfl rfl rfl (Pu.move rfl rfl) ?_
        refine O.p rfl rfl rfl (Pu.add64 (r := ((i + 1 : Nat) : Int)) rfl (by omega) rfl rfl rfl) ?_
        refine O.p rfl rfl rfl (Pu.assign rfl rfl) ?_
        refine O.nil ?_
        exact X.back2 (i + 1) ⟨by omega, fun j h1 h2 hj => by by_cases e : j = i; (· subst e; exact c3.2); (· exact he j h1 h2 (by omega))⟩ (by first | omega | (dsimp only; omega)) (Ent.cons rfl (Ent.nil _)) (Ent.cons (t := 0) rfl (Ent.cons (t := 1) rfl (Ent.nil _))) (Sub.nil _)
    · skip
      refine V.exit ?_
      refine X.thenExit ?_
      refine X.thenExit ?_
      refine X.blockHit ?_
      refine X.next ?_
      refine V.seq ?_
      refine V.region ?_
      refine O.p rfl rfl rfl (Pu.assign rfl rfl) ?_
      refine O.nil ?_
      refine X.next ?_
      refine V.ret ?_
      refine X.ret1 rfl rfl ?_
      exact fun w hw => St.retP (boolT (List.ext_getElem (by omega) (fun j h1 h2 => by rw [conts_get, conts_get]; exact he j (by omega) (by omega) (by omega)))) hw
set_option maxRecDepth 100000 in
theorem markSystemS_ok (p : Int) (ps : List (Sl × List B3)) (m : Int) (A : Option Addr) (c : Nat) (w0 : World) (H : List Assn) (hm : 0 ≤ m ∧ m + sumB ps ≤ 1000000000000) (lp : ps.length ≤ 4611686018427387904) : Does Try.prog 16 [.slice A (tops ps).length c, .int .i64 m] w0 (Own 30 (SyC p) A c (tops ps) :: RowsA 67 B3C ps :: H) (fun v => .pur (v = .int .i64 (m + sumB ps)) :: Own 30 SyP A c (mkT m ps) :: RowsA 67 B3C (mkR m ps) :: H) := by
  refine Does.enter Try.func16 rfl rfl [(0, .slice A (tops ps).length c), (1, .int .i64 m)] rfl ?_
  refine V.seq ?_
  refine V.fact (RowsA.len 1 rfl) (fun hn => ?_)
  have htl := tops_len ps
  refine V.region ?_
  refine O.p rfl rfl rfl (Pu.assign rfl rfl) ?_
  refine O.nil ?_
  refine X.next ?_
  refine V.seq ?_
  refine V.seq ?_
  refine V.region ?_
  refine O.p rfl rfl rfl (Pu.assign rfl rfl) ?_
  refine O.nil ?_
  refine X.next ?_
  refine V.block ?_
  refine V.loop3 (β := Nat) (fun k => [(5, .int .i64 (k : Int)), (1, .int .i64 (m + (sumB (ps.take k) : Int)))]) _ (fun k => [Own 30 SyP A c (tS p m ps k), RowsA 67 B3C (mkR m (ps.take k) ++ ps.drop k)]) _ (fun k => k ≤ (tops ps).length) (fun k => (tops ps).length - k) 0 (by omega) (Ent.cons rfl (Ent.cons' rfl (iv (by simp [sumB])) (Ent.nil _))) (Ent.cons (t := 0) rfl (Ent.cons (t := 4) rfl (Ent.nil _))) (Sub.cons 0 rfl Own.toP (Sub.keep 0 rfl (Sub.refl _))) ?_
  rintro k hk
  refine V.seq ?_
  refine V.seq ?_
  refine V.region ?_
  refine O.p rfl rfl rfl (Pu.move rfl rfl) ?_
  refine O.p rfl rfl rfl (Pu.move rfl rfl) ?_
  refine O.p rfl rfl rfl (Pu.len rfl Try.underlying34 rfl) ?_
  refine O.p rfl rfl rfl (Pu.lss rfl rfl rfl) ?_
  refine O.nil ?_
  refine X.next ?_
  refine V.condD rfl (fun c1 => ?_) (fun c1 => ?_)
  · skip
    refine V.skip ?_
    refine X.next ?_
    refine V.seq ?_
    refine V.block ?_
    refine V.seq ?_
    have e1 : k < ps.length := by omega
    have hst := sumB_take e1
    have hsl := sumB_le (ps := ps) (k := k + 1)
    have htS := tS_len (v := p) (m := m) (ps := ps) (k := k) (by omega)
    have htS2 := tS_len (v := p) (m := m) (ps := ps) (k := k + 1) (by omega)
    refine V.region ?_
    refine O.p rfl rfl rfl (Pu.move rfl rfl) ?_
    refine O.p rfl rfl rfl (Pu.move rfl rfl) ?_
    refine O.p rfl rfl rfl (Pu.move rfl rfl) ?_
    refine O.p rfl rfl rfl (Pu.indexAddrS (k) rfl Try.underlying34 sz30 rfl rfl (by omega) (by omega) (fun w hw => Own.some hw (i := 0) (by exact rfl) (by omega))) ?_
    refine O.p rfl rfl rfl (Pu.fieldAddr' rfl Try.underlying30 rfl sz2 rfl rfl (fun w hw => by have := Rd.some ((Ld.own 0 (by exact rfl)) w hw) (by omega); simpa using this)) ?_
    refine O.s rfl rfl (Ef.storeOwnAt (C := SyP) 0 k 0 ((m + (sumB (ps.take k) : Int), (ps[k]'e1).1) : Int × Sl) rfl sz2 rfl rfl rfl rfl (by rw [tS_len (by omega)]; exact e1) (by decide) rfl rfl (by rw [tS_at e1]; rfl)) ?_
    rintro _ _ rfl
    refine O.nil ?_
    refine X.next ?_
    refine V.seq ?_
    refine V.map (fun w hw => hw.sub (Sub.cons 0 rfl (fun w F h => by rw [tS_set e1] at h; exact h) (Sub.keep 0 rfl (Sub.refl _)))) ?_
    refine V.map (fun w hw => row_out e1 (hw.sub (Sub.keep 1 rfl (Sub.keep 0 rfl (Sub.refl _))))) ?_
    refine V.region ?_
    refine O.p rfl rfl rfl (Pu.move rfl rfl) ?_
    refine O.p rfl rfl rfl (Pu.add64 rfl (by omega) rfl rfl rfl) ?_
    refine O.p rfl rfl rfl (Pu.assign rfl rfl) ?_
    refine O.nil ?_
    refine X.next ?_
    refine V.region ?_
    refine O.p rfl rfl rfl (Pu.move rfl rfl) ?_
    refine O.p rfl rfl rfl (Pu.move rfl rfl) ?_
    refine O.p rfl rfl rfl (Pu.indexAddrS (k) rfl Try.underlying34 sz30 rfl rfl (by omega) (by omega) (fun w hw => Own.some hw (i := 2) (by exact rfl) (by omega))) ?_
    refine O.p rfl rfl rfl (Pu.fieldAddr' rfl Try.underlying30 rfl sz28 rfl rfl (fun w hw => by have := Rd.some ((Ld.own 2 (by exact rfl)) w hw) (by omega); simpa using this)) ?_
    refine O.p rfl rfl rfl (Pu.load rfl pl28 rfl (Ld.partP (k := k) (j := 1) (Ld.own 2 (by exact rfl)) (by rw [tS_len (by omega)]; exact e1) rfl (by rw [tS_last e1]; exact congrArg some (hn.sl e1)))) ?_
    refine O.p rfl rfl rfl (Pu.move rfl rfl) ?_
    refine O.e rfl rfl rfl (Ef.callM 0 call39 rfl rfl rfl (fun H _ => markBlockX_ok _ _ _ _ _ H (by omega) (by omega))) ?_
    rintro _ _ ⟨rfl, rfl⟩
    refine O.p rfl rfl rfl (Pu.assign rfl rfl) ?_
    refine O.nil ?_
    refine X.blockNormal ?_
    refine X.next ?_
    refine V.region ?_
    refine O.p rfl rfl rfl (Pu.move rfl rfl) ?_
    refine O.p rfl rfl rfl (Pu.add64 (r := ((k + 1 : Nat) : Int)) rfl (by omega) rfl rfl rfl) ?_
    refine O.p rfl rfl rfl (Pu.assign rfl rfl) ?_
    refine O.nil ?_
    refine X.map (fun w hw => row_in (by rw [marksB_len]; exact (hn _ (List.getElem_mem e1)).1) (hw.sub (Sub.keep 0 rfl (Sub.keep 0 rfl (Sub.keep 0 rfl (Sub.refl _)))))) ?_
    exact X.back3 (k + 1) (by omega) (by omega) (Ent.cons rfl (Ent.cons' rfl (iv (by rw [hst]; push_cast; omega)) (Ent.nil _))) (Ent.cons (t := 0) rfl (Ent.cons (t := 4) rfl (Ent.nil _))) (Sub.keep 1 rfl (Sub.cons 0 rfl (fun w F h => by rw [mkR_take e1]; exact h) (Sub.refl _)))
  · skip
    refine V.exit ?_
    refine X.thenExit ?_
    refine X.thenExit ?_
    refine X.blockHit ?_
    refine X.next ?_
    refine V.seq ?_
    refine V.region ?_
    refine O.p rfl rfl rfl (Pu.move rfl rfl) ?_
    refine O.p rfl rfl rfl (Pu.assign rfl rfl) ?_
    refine O.nil ?_
    refine X.next ?_
    refine V.ret ?_
    refine X.ret1 rfl rfl ?_
    exact fun w hw => by have e : k = ps.length := (by omega); subst e; rw [List.take_length, List.drop_length, List.append_nil, tS_all rfl] at hw; exact St.addPur (iv (by rw [List.take_length])) (hw.sub (Sub.keep 0 rfl (Sub.keep 0 rfl (Sub.refl _))))
set_option maxRecDepth 100000 in
theorem heldSystemS_ok (ps : List (Sl × List B3)) (m : Int) (A : Option Addr) (c : Nat) (w : World) (hx : RdP m w A ps) (hm : 0 ≤ m ∧ m + sumB ps ≤ 1000000000000) (lp : ps.length ≤ 4611686018427387904) : Does Try.prog 17 [.slice A (tops ps).length c, .int .i64 m] w [] (fun v => [.pur (v = .int .i64 (m + sumB ps))]) := by
  refine Does.enter Try.func17 rfl rfl [(0, .slice A (tops ps).length c), (1, .int .i64 m)] rfl ?_
  refine V.seq ?_
  have htl := tops_len ps
  have hml := mkT_len ps m
  refine V.region ?_
  refine O.p rfl rfl rfl (Pu.assign rfl rfl) ?_
  refine O.nil ?_
  refine X.next ?_
  refine V.seq ?_
  refine V.seq ?_
  refine V.region ?_
  refine O.p rfl rfl rfl (Pu.assign rfl rfl) ?_
  refine O.nil ?_
  refine X.next ?_
  refine V.block ?_
  refine V.loop2 (β := Nat) (fun k => [(5, .int .i64 (k : Int)), (1, .int .i64 (m + (sumB (ps.take k) : Int)))]) _ (fun k => []) (fun k => k ≤ (tops ps).length) (fun k => (tops ps).length - k) 0 (by omega) (Ent.cons rfl (Ent.cons' rfl (iv (by simp [sumB])) (Ent.nil _))) (Ent.cons (t := 0) rfl (Ent.nil _)) (Sub.nil _) ?_
  rintro k hk
  refine V.seq ?_
  refine V.seq ?_
  refine V.region ?_
  refine O.p rfl rfl rfl (Pu.move rfl rfl) ?_
  refine O.p rfl rfl rfl (Pu.move rfl rfl) ?_
  refine O.p rfl rfl rfl (Pu.len rfl Try.underlying34 rfl) ?_
  refine O.p rfl rfl rfl (Pu.lss rfl rfl rfl) ?_
  refine O.nil ?_
  refine X.next ?_
  refine V.condD rfl (fun c1 => ?_) (fun c1 => ?_)
  · skip
    refine V.skip ?_
    refine X.next ?_
    refine V.seq ?_
    refine V.block ?_
    refine V.seq ?_
    refine V.seq ?_
    have e1 : k < ps.length := by omega
    have hst := sumB_take e1
    have hsl := sumB_le (ps := ps) (k := k + 1)
    refine V.region ?_
    refine O.p rfl rfl rfl (Pu.move rfl rfl) ?_
    refine O.p rfl rfl rfl (Pu.move rfl rfl) ?_
    refine O.p rfl rfl rfl (Pu.indexAddrS (k) rfl Try.underlying34 sz30 rfl rfl (by omega) (by omega) (fun w hw => ((Ld.old hx.top) w hw).some (by omega))) ?_
    refine O.p rfl rfl rfl (Pu.fieldAddr' rfl Try.underlying30 rfl sz2 rfl rfl (fun w hw => by have := Rd.some ((Ld.old hx.top) w hw) (by omega); simpa using this)) ?_
    refine O.p rfl rfl rfl (Pu.load rfl pl2 rfl (Ld.partP (k := k) (j := 0) (Ld.old hx.top) (by rw [mkT_len]; exact e1) rfl (by rw [mkT_get e1]; rfl))) ?_
    refine O.p rfl rfl rfl (Pu.move rfl rfl) ?_
    refine O.p rfl rfl rfl (Pu.neq rfl rfl rfl) ?_
    refine O.nil ?_
    refine X.next ?_
    refine V.condNot rfl (fun c2 => ?_) (fun c2 => ?_)
    · skip
      exact absurd rfl c2
    · skip
      refine V.skip ?_
      refine X.next ?_
      refine V.seq ?_
      refine V.region ?_
      refine O.p rfl rfl rfl (Pu.move rfl rfl) ?_
      refine O.p rfl rfl rfl (Pu.add64 rfl (by omega) rfl rfl rfl) ?_
      refine O.p rfl rfl rfl (Pu.assign rfl rfl) ?_
      refine O.nil ?_
      refine X.next ?_
      refine V.seq ?_
      refine V.region ?_
      refine O.p rfl rfl rfl (Pu.move rfl rfl) ?_
      refine O.p rfl rfl rfl (Pu.move rfl rfl) ?_
      refine O.p rfl rfl rfl (Pu.indexAddrS (k) rfl Try.underlying34 sz30 rfl rfl (by omega) (by omega) (fun w hw => ((Ld.old hx.top) w hw).some (by omega))) ?_
      refine O.p rfl rfl rfl (Pu.fieldAddr' rfl Try.underlying30 rfl sz28 rfl rfl (fun w hw => by have := Rd.some ((Ld.old hx.top) w hw) (by omega); simpa using this)) ?_
      refine O.p rfl rfl rfl (Pu.load rfl pl28 rfl (Ld.partP (u := .slice (ps[k]'e1).1.A (ps[k]'e1).2.length (ps[k]'e1).1.c) (k := k) (j := 1) (Ld.old hx.top) (by rw [mkT_len]; exact e1) rfl (by rw [mkT_get e1]; show some (Sl.v _) = _; unfold Sl.v; rw [hx.len k e1]))) ?_
      refine O.p rfl rfl rfl (Pu.move rfl rfl) ?_
      refine O.e rfl rfl rfl (Ef.callP call40 rfl rfl (fun w hw => heldBlockX_ok (ps[k]'e1).2.length _ _ _ w (Ld.old (hx.row k e1) w hw) (by omega) (by omega))) ?_
      rintro _ _ ⟨rfl, rfl⟩
      refine O.p rfl rfl rfl (Pu.assign rfl rfl) ?_
      refine O.nil ?_
      refine X.next ?_
      refine V.seq ?_
      refine V.region ?_
      refine O.p rfl rfl rfl (Pu.move rfl rfl) ?_
      refine O.p rfl rfl rfl (Pu.lss rfl rfl rfl) ?_
      refine O.nil ?_
      refine X.next ?_
      refine V.condD rfl (fun c3 => ?_) (fun c3 => ?_)
      · skip
        exact absurd c3 (by omega)
      · skip
        refine V.skip ?_
        refine X.blockNormal ?_
        refine X.next ?_
        refine V.region ?_
        refine O.p rfl rfl rfl (Pu.move rfl rfl) ?_
        refine O.p rfl rfl rfl (Pu.add64 (r := ((k + 1 : Nat) : Int)) rfl (by omega) rfl rfl rfl) ?_
        refine O.p rfl rfl rfl (Pu.assign rfl rfl) ?_
        refine O.nil ?_
        exact X.back2 (k + 1) (by omega) (by omega) (Ent.cons rfl (Ent.cons' rfl (iv (by rw [hst]; push_cast; omega)) (Ent.nil _))) (Ent.cons (t := 0) rfl (Ent.nil _)) (Sub.nil _)
  · skip
    refine V.exit ?_
    refine X.thenExit ?_
    refine X.thenExit ?_
    refine X.blockHit ?_
    refine X.next ?_
    refine V.seq ?_
    refine V.region ?_
    refine O.p rfl rfl rfl (Pu.move rfl rfl) ?_
    refine O.p rfl rfl rfl (Pu.assign rfl rfl) ?_
    refine O.nil ?_
    refine X.next ?_
    refine V.ret ?_
    refine X.ret1 rfl rfl ?_
    exact fun w hw => St.retP (iv (by have e : k = ps.length := (by omega); subst e; rw [List.take_length])) hw
set_option maxRecDepth 100000 in
set_option maxHeartbeats 1000000 in
theorem FnExactLargeSetWith_ok (v : Int) (bs : List B3) (A : Option Addr) (c : Nat) (w : World) (hx : Rd B3C w A bs) (lx : bs.length ≤ 9223372036854775807) : Does Try.prog 4 [.agg #[.int .i64 v, .slice A bs.length c]] w [] (fun r => [.pur (r = .bool true)]) := by
  refine Does.enter Try.func4 rfl rfl [(0, .agg #[.int .i64 v, .slice A bs.length c])] rfl ?_
  refine V.seq ?_
  refine V.region ?_
  refine O.e rfl rfl rfl (Ef.box rfl rfl rfl) ?_
  rintro _ _ ⟨b1, rfl, rfl⟩
  refine O.p rfl rfl rfl (Pu.assign rfl rfl) ?_
  refine O.nil ?_
  refine X.next ?_
  refine V.seq ?_
  refine V.region ?_
  refine O.p rfl rfl rfl (Pu.assign rfl rfl) ?_
  refine O.nil ?_
  refine X.next ?_
  refine V.seq ?_
  refine V.region ?_
  refine O.p rfl rfl rfl (Pu.loadAgg rfl ag24 sz24 rfl rfl (Ld.whole 0 rfl)) ?_
  refine O.p rfl rfl rfl (Pu.move rfl rfl) ?_
  refine O.e rfl rfl rfl (Ef.callP call7 rfl rfl (fun w hw => szSystem_ok _ _ bs _ _ w (by first | omega | (unfold roomLeft at *; split at * <;> omega)) (by omega))) ?_
  rintro _ _ ⟨rfl, rfl⟩
  refine O.p rfl rfl rfl (Pu.assign rfl rfl) ?_
  refine O.nil ?_
  refine X.next ?_
  refine V.seq ?_
  refine V.seq ?_
  refine V.region ?_
  refine O.p rfl rfl rfl (Pu.move rfl rfl) ?_
  refine O.p rfl rfl rfl (Pu.lss rfl rfl rfl) ?_
  refine O.nil ?_
  refine X.next ?_
  refine V.condD rfl (fun c1 => ?_) (fun c1 => ?_)
  · skip
    refine V.seq ?_
    refine V.region ?_
    refine O.p rfl rfl rfl (Pu.assign rfl rfl) ?_
    refine O.nil ?_
    refine X.next ?_
    refine V.ret ?_
    refine X.thenRet ?_
    refine X.ret1 rfl rfl ?_
    exact fun w hw => St.retP rfl hw
  · skip
    have hk : bs.length ≤ 1048576 := by unfold roomLeft at c1; split at c1 <;> omega
    refine V.skip ?_
    refine X.next ?_
    refine V.seq ?_
    refine V.region ?_
    refine O.p rfl rfl rfl (Pu.loadAgg rfl ag24 sz24 rfl rfl (Ld.whole 0 rfl)) ?_
    refine O.e rfl rfl rfl (Ef.call1 call9 rfl rfl (fun w hw => toSystem_ok _ bs _ _ w ((Ld.old hx) w hw) (by omega))) ?_
    rintro _ _ rfl
    refine O.exi (fun A1 => ?_)
    refine O.sep ?_
    refine O.pur ?_
    rintro ⟨hA1, rfl⟩
    refine O.e rfl rfl rfl (Ef.call1 call12 rfl rfl (fun w hw => specLargeSetWith_ok  v bs _ _ w ((Ld.own 0 (by exact rfl)) w hw) (by first | omega | (simp only [tops_len, conts_len, bl, List.length_append, List.length_cons, List.length_nil] at *; omega)) )) ?_
    rintro _ _ rfl
    refine O.exi (fun r1A => ?_)
    refine O.exi (fun r1c => ?_)
    refine O.exi (fun r1 => ?_)
    refine O.sep ?_
    refine O.pur ?_
    rintro ⟨rfl, hr1_1⟩
    refine O.sep ?_
    refine O.fact (RowsA.len 1 rfl) (fun hn_r1 => ?_)
    have htl_r1 := tops_len r1
    refine O.p rfl rfl rfl (Pu.move rfl rfl) ?_
    refine O.p rfl rfl rfl (Pu.extract rfl rfl rfl) ?_
    refine O.p rfl rfl rfl (Pu.extract rfl rfl rfl) ?_
    refine O.p rfl rfl rfl (Pu.assign rfl rfl) ?_
    refine O.p rfl rfl rfl (Pu.assign rfl rfl) ?_
    refine O.nil ?_
    refine X.next ?_
    refine V.seq ?_
    refine V.region ?_
    refine O.p rfl rfl rfl (Pu.loadAgg rfl ag24 sz24 rfl rfl (Ld.whole 3 rfl)) ?_
    refine O.e rfl rfl rfl (Ef.call1 call9 rfl rfl (fun w hw => toSystem_ok _ bs _ _ w ((Ld.old hx) w hw) (by omega))) ?_
    rintro _ _ rfl
    refine O.exi (fun A2 => ?_)
    refine O.sep ?_
    refine O.pur ?_
    rintro ⟨hA2, rfl⟩
    refine O.e rfl rfl rfl (Ef.alloc rfl zr30 rfl) ?_
    rintro _ _ ⟨b2, rfl, rfl⟩
    refine O.s rfl rfl (Ef.storeAll 0 rfl sz30 rfl rfl rfl rfl (by simp [Value.oneCell']) rfl) ?_
    rintro _ _ rfl
    refine O.nil ?_
    refine X.next ?_
    refine V.seq ?_
    refine V.region ?_
    refine O.p rfl rfl rfl (Pu.loadAgg rfl ag30 sz30 rfl rfl (Ld.whole 0 rfl)) ?_
    refine O.e rfl rfl rfl (Ef.call1 call13 rfl rfl (fun w hw => implLargeSetWith_ok  v bs _ _ w ((Ld.own 1 (by exact rfl)) w hw) (by first | omega | (simp only [tops_len, conts_len, bl, List.length_append, List.length_cons, List.length_nil] at *; omega)) )) ?_
    rintro _ _ rfl
    refine O.exi (fun r2A => ?_)
    refine O.exi (fun r2c => ?_)
    refine O.exi (fun r2 => ?_)
    refine O.sep ?_
    refine O.pur ?_
    rintro ⟨rfl, hr2_1⟩
    refine O.sep ?_
    refine O.fact (RowsA.len 1 rfl) (fun hn_r2 => ?_)
    have htl_r2 := tops_len r2
    have heqr2 : conts r2 = conts r1 := hr2_1.trans hr1_1.symm
    have hsmr2 := lsR_small hr2_1
    have hsm1 := lsR_small hr1_1
    refine O.p rfl rfl rfl (Pu.move rfl rfl) ?_
    refine O.p rfl rfl rfl (Pu.extract rfl rfl rfl) ?_
    refine O.p rfl rfl rfl (Pu.extract rfl rfl rfl) ?_
    refine O.p rfl rfl rfl (Pu.assign rfl rfl) ?_
    refine O.p rfl rfl rfl (Pu.assign rfl rfl) ?_
    refine O.nil ?_
    refine X.next ?_
    refine V.seq ?_
    refine V.seq ?_
    refine V.region ?_
    refine O.p rfl rfl rfl (Pu.move rfl rfl) ?_
    refine O.p rfl rfl rfl (Pu.move rfl rfl) ?_
    refine O.e rfl rfl rfl (Ef.callP call14 rfl rfl (fun w hw => eqSystemS_ok  9 r2 9 r1 _ _ _ _ w ((Ld.yy 0 1 (by exact rfl) (by exact rfl)) w hw) ((Ld.yy 4 5 (by exact rfl) (by exact rfl)) w hw) (by first | omega | (simp only [tops_len, conts_len, bl, List.length_append, List.length_cons, List.length_nil] at *; omega)) (by first | omega | (simp only [tops_len, conts_len, bl, List.length_append, List.length_cons, List.length_nil] at *; omega)) rfl (lsR_rows hr2_1) (lsR_rows hr1_1))) ?_
    rintro _ _ ⟨rfl, rfl⟩
    refine O.p rfl rfl rfl (Pu.not rfl rfl) ?_
    refine O.p rfl rfl rfl (Pu.move rfl rfl) ?_
    refine O.splitN 36 rfl (fun c2 => ?_) (fun c2 => ?_)
    · skip
      refine O.gs rfl rfl rfl rfl rfl rfl ?_
      refine O.gs rfl rfl rfl rfl rfl rfl ?_
      refine O.gs rfl rfl rfl rfl rfl rfl ?_
      refine O.p rfl rfl rfl (Pu.pickT rfl rfl rfl) ?_
      refine O.nil ?_
      refine X.next ?_
      refine V.condT rfl ?_
      refine V.seq ?_
      refine V.region ?_
      refine O.p rfl rfl rfl (Pu.assign rfl rfl) ?_
      refine O.nil ?_
      refine X.next ?_
      refine V.ret ?_
      refine X.thenRet ?_
      refine X.ret1 rfl rfl ?_
      exact absurd (by first | assumption | rfl | exact ⟨rfl, rfl⟩ | exact ⟨rfl, by assumption⟩ | exact ⟨⟨rfl, by assumption⟩, rfl, by assumption⟩ | omega | (simp only [*]; done) | (rw [rfl])) c2
    · skip
      refine O.gp rfl rfl rfl rfl rfl (Pu.move rfl rfl) ?_
      refine O.gp rfl rfl rfl rfl rfl (Pu.move rfl rfl) ?_
      refine O.gp rfl rfl rfl rfl rfl (Pu.neq rfl rfl rfl) ?_
      refine O.p rfl rfl rfl (Pu.pickF rfl rfl rfl) ?_
      refine O.nil ?_
      refine X.next ?_
      refine V.condNot rfl (fun c3 => ?_) (fun c3 => ?_)
      · skip
        refine V.seq ?_
        refine V.region ?_
        refine O.p rfl rfl rfl (Pu.assign rfl rfl) ?_
        refine O.nil ?_
        refine X.next ?_
        refine V.ret ?_
        refine X.thenRet ?_
        refine X.ret1 rfl rfl ?_
        exact absurd (by first | assumption | rfl | exact ⟨rfl, rfl⟩ | exact ⟨rfl, by assumption⟩ | exact ⟨⟨rfl, by assumption⟩, rfl, by assumption⟩ | omega | (simp only [*]; done) | (rw [rfl])) c3
      · skip
        refine V.skip ?_
        refine X.next ?_
        refine V.seq ?_
        refine V.seq ?_
        refine V.draw mo (by kernel_rfl) (fun hwf => ?_)
        refine D.p 0 rfl rfl rfl rfl rfl rfl (Pu.loadAgg rfl ag30 sz30 rfl rfl (Ld.whole 2 rfl)) ?_
        refine D.p 1 rfl rfl rfl rfl rfl rfl (Pu.loadAgg rfl ag24 sz24 rfl rfl (Ld.whole 7 rfl)) ?_
        refine D.eff hwf (e := 2) rfl rfl rfl rfl (Ef.call1 call9 rfl rfl (fun w hw => toSystem_ok _ bs _ _ w ((Ld.old hx) w hw) (by omega))) rfl rfl rfl ?_
        rintro _ _ rfl hs
        refine ⟨fun w hw => hs w hw.tail, ?_⟩
        refine D.exi (fun A3 => ?_)
        refine D.sep ?_
        refine D.pur1 ?_
        rintro ⟨hA3, rfl⟩
        refine D.eff hwf (e := 3) rfl rfl rfl rfl (Ef.callP call11 rfl rfl (fun w hw => eqSystem_ok _ _ bs bs _ _ _ _ w ((Ld.own 4 (by exact rfl)) w hw) ((Ld.own 0 (by exact rfl)) w hw) (by omega) (by omega))) rfl rfl rfl ?_
        rintro _ _ ⟨rfl, rfl⟩ hs
        refine ⟨fun w hw => hw.sub (Sub.keep 1 rfl (Sub.keep 1 rfl (Sub.keep 1 rfl (Sub.keep 1 rfl (Sub.keep 1 rfl (Sub.keep 1 rfl (Sub.keep 1 rfl (Sub.keep 1 rfl (Sub.nil _))))))))), ?_⟩
        refine D.p 4 rfl rfl rfl rfl rfl rfl (Pu.not rfl rfl) ?_
        refine D.done hwf rfl ?_
        refine X.next ?_
        refine V.condNot rfl (fun c4 => ?_) (fun c4 => ?_)
        · skip
          refine V.seq ?_
          refine V.region ?_
          refine O.p rfl rfl rfl (Pu.assign rfl rfl) ?_
          refine O.nil ?_
          refine X.next ?_
          refine V.ret ?_
          refine X.thenRet ?_
          refine X.ret1 rfl rfl ?_
          exact absurd (by first | assumption | rfl | exact ⟨rfl, rfl⟩ | exact ⟨rfl, by assumption⟩ | exact ⟨⟨rfl, by assumption⟩, rfl, by assumption⟩ | omega | (simp only [*]; done) | (rw [rfl])) c4
        · skip
          refine V.skip ?_
          refine X.next ?_
          refine V.seq ?_
          refine V.region ?_
          refine O.p rfl rfl rfl (Pu.assign rfl rfl) ?_
          refine O.nil ?_
          refine X.next ?_
          refine V.seq ?_
          refine V.region ?_
          refine O.p rfl rfl rfl (Pu.loadAgg rfl ag30 sz30 rfl rfl (Ld.whole 3 rfl)) ?_
          refine O.p rfl rfl rfl (Pu.move rfl rfl) ?_
          refine O.e rfl rfl rfl (Ef.callM 4 call15 rfl rfl rfl (fun H _ => markSystemX_ok _ _ _ _ _ _ H (by omega) (by omega))) ?_
          rintro _ _ ⟨rfl, rfl⟩
          refine O.p rfl rfl rfl (Pu.assign rfl rfl) ?_
          refine O.nil ?_
          refine X.next ?_
          refine V.seq ?_
          refine V.seq ?_
          refine V.region ?_
          refine O.p rfl rfl rfl (Pu.move rfl rfl) ?_
          refine O.p rfl rfl rfl (Pu.lss rfl rfl rfl) ?_
          refine O.p rfl rfl rfl (Pu.move rfl rfl) ?_
          refine O.splitD 51 rfl (fun c5 => ?_) (fun c5 => ?_)
          · skip
            refine O.gs rfl rfl rfl rfl rfl rfl ?_
            refine O.gs rfl rfl rfl rfl rfl rfl ?_
            refine O.gs rfl rfl rfl rfl rfl rfl ?_
            refine O.gs rfl rfl rfl rfl rfl rfl ?_
            refine O.p rfl rfl rfl (Pu.pickT rfl rfl rfl) ?_
            refine O.p rfl rfl rfl (Pu.move rfl rfl) ?_
            refine O.gs rfl rfl rfl rfl rfl rfl ?_
            refine O.gs rfl rfl rfl rfl rfl rfl ?_
            refine O.gs rfl rfl rfl rfl rfl rfl ?_
            refine O.p rfl rfl rfl (Pu.pickT rfl rfl rfl) ?_
            refine O.nil ?_
            refine X.next ?_
            refine V.condT rfl ?_
            refine V.seq ?_
            refine V.region ?_
            refine O.p rfl rfl rfl (Pu.assign rfl rfl) ?_
            refine O.nil ?_
            refine X.next ?_
            refine V.ret ?_
            refine X.thenRet ?_
            refine X.ret1 rfl rfl ?_
            exact absurd c5 (by first | omega | assumption)
          · skip
            refine O.gp rfl rfl rfl rfl rfl (Pu.move rfl rfl) ?_
            refine O.gp rfl rfl rfl rfl rfl (Pu.move rfl rfl) ?_
            refine O.ge rfl rfl rfl rfl rfl (Ef.callP call14 rfl rfl (fun w hw => eqSystemS_ok  9 r2 9 r1 _ _ _ _ w ((Ld.yy 1 2 (by exact rfl) (by exact rfl)) w hw) ((Ld.yy 5 6 (by exact rfl) (by exact rfl)) w hw) (by first | omega | (simp only [tops_len, conts_len, bl, List.length_append, List.length_cons, List.length_nil] at *; omega)) (by first | omega | (simp only [tops_len, conts_len, bl, List.length_append, List.length_cons, List.length_nil] at *; omega)) rfl (lsR_rows hr2_1) (lsR_rows hr1_1))) ?_
            rintro _ _ ⟨rfl, rfl⟩
            refine O.gp rfl rfl rfl rfl rfl (Pu.not rfl rfl) ?_
            refine O.p rfl rfl rfl (Pu.pickF rfl rfl rfl) ?_
            refine O.p rfl rfl rfl (Pu.move rfl rfl) ?_
            refine O.splitN 57 rfl (fun c6 => ?_) (fun c6 => ?_)
            · skip
              refine O.gs rfl rfl rfl rfl rfl rfl ?_
              refine O.gs rfl rfl rfl rfl rfl rfl ?_
              refine O.gs rfl rfl rfl rfl rfl rfl ?_
              refine O.p rfl rfl rfl (Pu.pickT rfl rfl rfl) ?_
              refine O.nil ?_
              refine X.next ?_
              refine V.condT rfl ?_
              refine V.seq ?_
              refine V.region ?_
              refine O.p rfl rfl rfl (Pu.assign rfl rfl) ?_
              refine O.nil ?_
              refine X.next ?_
              refine V.ret ?_
              refine X.thenRet ?_
              refine X.ret1 rfl rfl ?_
              exact absurd (by first | assumption | rfl | exact ⟨rfl, rfl⟩ | exact ⟨rfl, by assumption⟩ | exact ⟨⟨rfl, by assumption⟩, rfl, by assumption⟩ | omega | (simp only [*]; done) | (rw [rfl])) c6
            · skip
              refine O.gp rfl rfl rfl rfl rfl (Pu.move rfl rfl) ?_
              refine O.gp rfl rfl rfl rfl rfl (Pu.move rfl rfl) ?_
              refine O.gp rfl rfl rfl rfl rfl (Pu.neq rfl rfl rfl) ?_
              refine O.p rfl rfl rfl (Pu.pickF rfl rfl rfl) ?_
              refine O.nil ?_
              refine X.next ?_
              refine V.condNot rfl (fun c7 => ?_) (fun c7 => ?_)
              · skip
                refine V.seq ?_
                refine V.region ?_
                refine O.p rfl rfl rfl (Pu.assign rfl rfl) ?_
                refine O.nil ?_
                refine X.next ?_
                refine V.ret ?_
                refine X.thenRet ?_
                refine X.ret1 rfl rfl ?_
                exact absurd (by first | assumption | rfl | exact ⟨rfl, rfl⟩ | exact ⟨rfl, by assumption⟩ | exact ⟨⟨rfl, by assumption⟩, rfl, by assumption⟩ | omega | (simp only [*]; done) | (rw [rfl])) c7
              · skip
                refine V.skip ?_
                refine X.next ?_
                refine V.seq ?_
                refine V.region ?_
                refine O.p rfl rfl rfl (Pu.assign rfl rfl) ?_
                refine O.nil ?_
                refine X.next ?_
                refine V.seq ?_
                refine V.region ?_
                refine O.p rfl rfl rfl (Pu.move rfl rfl) ?_
                refine O.p rfl rfl rfl (Pu.move rfl rfl) ?_
                refine O.e rfl rfl rfl (Ef.call call16 rfl rfl (Does.pre (fun w hw => hw.sub (Sub.keep 1 rfl (Sub.keep 1 rfl (Sub.keep 0 rfl (Sub.keep 0 rfl (Sub.keep 0 rfl (Sub.keep 0 rfl (Sub.keep 0 rfl (Sub.keep 0 rfl (Sub.keep 0 rfl (Sub.nil _))))))))))) (markSystemS_ok _ r2 _ _ _ _ _ (by omega) (by omega)))) ?_
                rintro _ _ rfl
                refine O.pur ?_
                rintro rfl
                refine O.p rfl rfl rfl (Pu.assign rfl rfl) ?_
                refine O.nil ?_
                refine X.next ?_
                refine V.seq ?_
                refine V.region ?_
                refine O.p rfl rfl rfl (Pu.assign rfl rfl) ?_
                refine O.nil ?_
                refine X.next ?_
                refine V.seq ?_
                refine V.region ?_
                refine O.p rfl rfl rfl (Pu.move rfl rfl) ?_
                refine O.p rfl rfl rfl (Pu.move rfl rfl) ?_
                refine O.e rfl rfl rfl (Ef.callP call17 rfl rfl (fun w hw => heldSystemS_ok r2 _ _ _ w (Ld.pp (i := 0) (j := 1) (by exact rfl) (by exact rfl) w hw) (by omega) (by omega))) ?_
                rintro _ _ ⟨rfl, rfl⟩
                refine O.p rfl rfl rfl (Pu.assign rfl rfl) ?_
                refine O.nil ?_
                refine X.next ?_
                refine V.seq ?_
                refine V.seq ?_
                refine V.region ?_
                refine O.p rfl rfl rfl (Pu.move rfl rfl) ?_
                refine O.p rfl rfl rfl (Pu.lss rfl rfl rfl) ?_
                refine O.nil ?_
                refine X.next ?_
                refine V.condD rfl (fun c8 => ?_) (fun c8 => ?_)
                · skip
                  refine V.seq ?_
                  refine V.region ?_
                  refine O.p rfl rfl rfl (Pu.assign rfl rfl) ?_
                  refine O.nil ?_
                  refine X.next ?_
                  refine V.ret ?_
                  refine X.thenRet ?_
                  refine X.ret1 rfl rfl ?_
                  exact absurd c8 (by first | omega | assumption)
                · skip
                  refine V.skip ?_
                  refine X.next ?_
                  refine V.seq ?_
                  refine V.seq ?_
                  refine V.region ?_
                  refine O.p rfl rfl rfl (Pu.move rfl rfl) ?_
                  refine O.p rfl rfl rfl (Pu.move rfl rfl) ?_
                  refine O.p rfl rfl rfl (Pu.neq rfl rfl rfl) ?_
                  refine O.nil ?_
                  refine X.next ?_
                  refine V.condNot rfl (fun c9 => ?_) (fun c9 => ?_)
                  · skip
                    refine V.seq ?_
                    refine V.region ?_
                    refine O.p rfl rfl rfl (Pu.assign rfl rfl) ?_
                    refine O.nil ?_
                    refine X.next ?_
                    refine V.ret ?_
                    refine X.thenRet ?_
                    refine X.ret1 rfl rfl ?_
                    exact absurd (by first | assumption | rfl | exact ⟨rfl, rfl⟩ | exact ⟨rfl, by assumption⟩ | exact ⟨⟨rfl, by assumption⟩, rfl, by assumption⟩ | omega | (simp only [*]; done) | (rw [rfl])) c9
                  · skip
                    refine V.skip ?_
                    refine X.next ?_
                    refine V.seq ?_
                    refine V.region ?_
                    refine O.p rfl rfl rfl (Pu.loadAgg rfl ag24 sz24 rfl rfl (Ld.whole 8 rfl)) ?_
                    refine O.e rfl rfl rfl (Ef.call1 call9 rfl rfl (fun w hw => toSystem_ok _ bs _ _ w ((Ld.old hx) w hw) (by omega))) ?_
                    rintro _ _ rfl
                    refine O.exi (fun A4 => ?_)
                    refine O.sep ?_
                    refine O.pur ?_
                    rintro ⟨hA4, rfl⟩
                    refine O.e rfl rfl rfl (Ef.call1 call13 rfl rfl (fun w hw => implLargeSetWith_ok  v bs _ _ w ((Ld.own 0 (by exact rfl)) w hw) (by first | omega | (simp only [tops_len, conts_len, bl, List.length_append, List.length_cons, List.length_nil] at *; omega)) )) ?_
                    rintro _ _ rfl
                    refine O.exi (fun r3A => ?_)
                    refine O.exi (fun r3c => ?_)
                    refine O.exi (fun r3 => ?_)
                    refine O.sep ?_
                    refine O.pur ?_
                    rintro ⟨rfl, hr3_1⟩
                    refine O.sep ?_
                    refine O.fact (RowsA.len 1 rfl) (fun hn_r3 => ?_)
                    have htl_r3 := tops_len r3
                    have heqr3 : conts r3 = conts r1 := hr3_1.trans hr1_1.symm
                    have hsmr3 := lsR_small hr3_1
                    have hsm1 := lsR_small hr1_1
                    refine O.p rfl rfl rfl (Pu.move rfl rfl) ?_
                    refine O.p rfl rfl rfl (Pu.extract rfl rfl rfl) ?_
                    refine O.p rfl rfl rfl (Pu.extract rfl rfl rfl) ?_
                    refine O.p rfl rfl rfl (Pu.assign rfl rfl) ?_
                    refine O.p rfl rfl rfl (Pu.assign rfl rfl) ?_
                    refine O.nil ?_
                    refine X.next ?_
                    refine V.seq ?_
                    refine V.seq ?_
                    refine V.region ?_
                    refine O.p rfl rfl rfl (Pu.move rfl rfl) ?_
                    refine O.p rfl rfl rfl (Pu.move rfl rfl) ?_
                    refine O.e rfl rfl rfl (Ef.callP call14 rfl rfl (fun w hw => eqSystemS_ok  9 r3 9 r1 _ _ _ _ w ((Ld.yy 0 1 (by exact rfl) (by exact rfl)) w hw) ((Ld.yy 8 9 (by exact rfl) (by exact rfl)) w hw) (by first | omega | (simp only [tops_len, conts_len, bl, List.length_append, List.length_cons, List.length_nil] at *; omega)) (by first | omega | (simp only [tops_len, conts_len, bl, List.length_append, List.length_cons, List.length_nil] at *; omega)) rfl (lsR_rows hr3_1) (lsR_rows hr1_1))) ?_
                    rintro _ _ ⟨rfl, rfl⟩
                    refine O.p rfl rfl rfl (Pu.not rfl rfl) ?_
                    refine O.p rfl rfl rfl (Pu.move rfl rfl) ?_
                    refine O.splitN 83 rfl (fun c10 => ?_) (fun c10 => ?_)
                    · skip
                      refine O.gs rfl rfl rfl rfl rfl rfl ?_
                      refine O.gs rfl rfl rfl rfl rfl rfl ?_
                      refine O.gs rfl rfl rfl rfl rfl rfl ?_
                      refine O.p rfl rfl rfl (Pu.pickT rfl rfl rfl) ?_
                      refine O.nil ?_
                      refine X.next ?_
                      refine V.condT rfl ?_
                      refine V.seq ?_
                      refine V.region ?_
                      refine O.p rfl rfl rfl (Pu.assign rfl rfl) ?_
                      refine O.nil ?_
                      refine X.next ?_
                      refine V.ret ?_
                      refine X.thenRet ?_
                      refine X.ret1 rfl rfl ?_
                      exact absurd (by first | assumption | rfl | exact ⟨rfl, rfl⟩ | exact ⟨rfl, by assumption⟩ | exact ⟨⟨rfl, by assumption⟩, rfl, by assumption⟩ | omega | (simp only [*]; done) | (rw [rfl])) c10
                    · skip
                      refine O.gp rfl rfl rfl rfl rfl (Pu.move rfl rfl) ?_
                      refine O.gp rfl rfl rfl rfl rfl (Pu.move rfl rfl) ?_
                      refine O.gp rfl rfl rfl rfl rfl (Pu.neq rfl rfl rfl) ?_
                      refine O.p rfl rfl rfl (Pu.pickF rfl rfl rfl) ?_
                      refine O.nil ?_
                      refine X.next ?_
                      refine V.condNot rfl (fun c11 => ?_) (fun c11 => ?_)
                      · skip
                        refine V.seq ?_
                        refine V.region ?_
                        refine O.p rfl rfl rfl (Pu.assign rfl rfl) ?_
                        refine O.nil ?_
                        refine X.next ?_
                        refine V.ret ?_
                        refine X.thenRet ?_
                        refine X.ret1 rfl rfl ?_
                        exact absurd (by first | assumption | rfl | exact ⟨rfl, rfl⟩ | exact ⟨rfl, by assumption⟩ | exact ⟨⟨rfl, by assumption⟩, rfl, by assumption⟩ | omega | (simp only [*]; done) | (rw [rfl])) c11
                      · skip
                        refine V.skip ?_
                        refine X.next ?_
                        refine V.seq ?_
                        refine V.region ?_
                        refine O.p rfl rfl rfl (Pu.assign rfl rfl) ?_
                        refine O.nil ?_
                        refine X.next ?_
                        refine V.seq ?_
                        refine V.region ?_
                        refine O.p rfl rfl rfl (Pu.move rfl rfl) ?_
                        refine O.p rfl rfl rfl (Pu.move rfl rfl) ?_
                        refine O.e rfl rfl rfl (Ef.callP call17 rfl rfl (fun w hw => heldSystemS_ok r2 _ _ _ w (Ld.pp (i := 3) (j := 4) (by exact rfl) (by exact rfl) w hw) (by omega) (by omega))) ?_
                        rintro _ _ ⟨rfl, rfl⟩
                        refine O.p rfl rfl rfl (Pu.assign rfl rfl) ?_
                        refine O.nil ?_
                        refine X.next ?_
                        refine V.seq ?_
                        refine V.seq ?_
                        refine V.region ?_
                        refine O.p rfl rfl rfl (Pu.move rfl rfl) ?_
                        refine O.p rfl rfl rfl (Pu.lss rfl rfl rfl) ?_
                        refine O.nil ?_
                        refine X.next ?_
                        refine V.condD rfl (fun c12 => ?_) (fun c12 => ?_)
                        · skip
                          refine V.seq ?_
                          refine V.region ?_
                          refine O.p rfl rfl rfl (Pu.assign rfl rfl) ?_
                          refine O.nil ?_
                          refine X.next ?_
                          refine V.ret ?_
                          refine X.thenRet ?_
                          refine X.ret1 rfl rfl ?_
                          exact absurd c12 (by first | omega | assumption)
                        · skip
                          refine V.skip ?_
                          refine X.next ?_
                          refine V.seq ?_
                          refine V.seq ?_
                          refine V.region ?_
                          refine O.p rfl rfl rfl (Pu.move rfl rfl) ?_
                          refine O.p rfl rfl rfl (Pu.move rfl rfl) ?_
                          refine O.p rfl rfl rfl (Pu.neq rfl rfl rfl) ?_
                          refine O.nil ?_
                          refine X.next ?_
                          refine V.condNot rfl (fun c13 => ?_) (fun c13 => ?_)
                          · skip
                            refine V.seq ?_
                            refine V.region ?_
                            refine O.p rfl rfl rfl (Pu.assign rfl rfl) ?_
                            refine O.nil ?_
                            refine X.next ?_
                            refine V.ret ?_
                            refine X.thenRet ?_
                            refine X.ret1 rfl rfl ?_
                            exact absurd (by first | assumption | rfl | exact ⟨rfl, rfl⟩ | exact ⟨rfl, by assumption⟩ | exact ⟨⟨rfl, by assumption⟩, rfl, by assumption⟩ | omega | (simp only [*]; done) | (rw [rfl])) c13
                          · skip
                            refine V.skip ?_
                            refine X.next ?_
                            refine V.seq ?_
                            refine V.region ?_
                            refine O.p rfl rfl rfl (Pu.assign rfl rfl) ?_
                            refine O.nil ?_
                            refine X.next ?_
                            refine V.ret ?_
                            refine X.ret1 rfl rfl ?_
                            exact fun w hw => St.retP rfl hw
end Go.Proofs.Ytphgcnegmkafiaa
