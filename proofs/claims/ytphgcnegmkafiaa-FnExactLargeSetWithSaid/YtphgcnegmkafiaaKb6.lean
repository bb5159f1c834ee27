/-
  Contracts, part 6.
-/
import Derived.Test.YtphgcnegmkafiaaKb5
set_option linter.unusedVariables false
set_option linter.unusedSimpArgs false
namespace Go.Proofs.Ytphgcnegmkafiaa
open Go Go.RowKit Go.Vc Go.Proofs
set_option maxRecDepth 100000 in
set_option maxHeartbeats 1000000 in
theorem l08All_ok (n : Nat) (v : Nat) (most : Nat) (A : Option Addr) (c : Nat) (w : World) (hAS : A.isSome = true) (hv : v ≤ 15) (hn : leftN v 0 ≤ n) (hm0 : 0 < most) (hmm : most ≤ 1000000000) (hM : (runC (fun j => decide (j < most)) 0 (leaf [] (compM n v 0))).length ≤ 1000000) (hxs : n ≤ 1000) : Does Try.prog 62 [.agg #[.int .i64 (v : Int), .slice A 0 c], .int .i64 (most : Int)] w [] (fun rv_ => [.exi fun (rA : Option Addr) => .exi fun (rc : Nat) => .exi fun (r : List (Sl × List B3)) => .sep (.pur (rv_ = .slice rA (tops r).length rc ∧ conts r = (runC (fun j => decide (j < most)) 0 (leaf [] (compM n v 0))))) (.sep (Own 30 (SyC (v:Int)) rA rc (tops r)) (RowsA 67 B3C r))]) := by
  refine Does.enter Try.func62 rfl rfl [(0, .agg #[.int .i64 (v : Int), .slice A 0 c]), (1, .int .i64 (most : Int))] rfl ?_
  refine V.seq ?_
  refine V.region ?_
  refine O.e rfl rfl rfl (Ef.box rfl rfl rfl) ?_
  rintro _ _ ⟨b1, rfl, rfl⟩
  refine O.p rfl rfl rfl (Pu.assign rfl rfl) ?_
  refine O.nil ?_
  refine X.next ?_
  refine V.seq ?_
  refine V.region ?_
  refine O.p rfl rfl rfl (Pu.loadAgg rfl ag30 sz30 rfl rfl (Ld.whole 0 rfl)) ?_
  refine O.p rfl rfl rfl (Pu.move rfl rfl) ?_
  refine O.e rfl rfl rfl (Ef.call1 call90 rfl rfl (fun w hw => l08Run_ok n v ([]) most true _ _ w ((fun w hw => Rd.nil _ _ _) w hw) (by first | omega | (simp only [tops_len, conts_len, bl, List.length_append, List.length_cons, List.length_nil] at *; omega)) hv (by simp) hn hm0 hmm hM hxs (by decide))) ?_
  rintro _ _ rfl
  refine O.exi (fun sb1 => ?_)
  refine O.sep ?_
  refine O.pur ?_
  rintro rfl
  refine O.srchK (fun uA1 uk1 U1 fA1 fk1 ps1 hrel1 hcon1 hsom1 => ?_)
  refine O.fact (RowsA.len 3 rfl) (fun hn_ps1 => ?_)
  have htl_ps1 := tops_len ps1
  have hul_U1 := hrel1.1
  refine O.p rfl rfl rfl (Pu.nilCheck rfl rfl) ?_
  refine O.p rfl rfl rfl (Pu.fieldAddr 5 rfl Try.underlying120 rfl sz118 rfl rfl) ?_
  refine O.p rfl rfl rfl (Pu.load rfl pl118 rfl (Ld.blk 0 rfl rfl)) ?_
  refine O.e rfl rfl rfl (Ef.build (SyC (v : Int)) ([] : List Sl) rfl Try.underlying34 inf30 rfl rfl rfl (by first | decide | (simp; done)) (by kernel_rfl)) ?_
  rintro _ _ ⟨A1, hA1, rfl, rfl⟩
  refine O.p rfl rfl rfl (Pu.assign rfl rfl) ?_
  refine O.p rfl rfl rfl (Pu.assign rfl rfl) ?_
  refine O.nil ?_
  refine X.next ?_
  refine V.seq ?_
  refine V.seq ?_
  have hL : conts ps1 = (runC (fun j => decide (j < most)) 0 (leaf [] (compM n v 0))) := hcon1
  have hcl := conts_len ps1
  have hsub : (runC (fun j => decide (j < most)) 0 (leaf [] (compM n v 0))).Sublist (compM n v 0) := runC_leaf_sub
  have hpw : (conts ps1).Pairwise befB := by rw [hL]; exact (comp_ascending n v 0 hv).sublist hsub
  have hsrt : ∀ q ∈ conts ps1, q.Pairwise B3.lt := fun q hq => comp_sorted n v 0 q hv (hsub.subset (by rw [← hL]; exact hq))
  have hlen : ∀ q ∈ conts ps1, 3 * q.length = leftN v 0 := fun q hq => comp_count n v 0 q hv (hsub.subset (by rw [← hL]; exact hq))
  have hpl : ps1.length ≤ 1000000 := by rw [← hcl, hL]; exact hM
  refine V.region ?_
  refine O.p rfl rfl rfl (Pu.assign rfl rfl) ?_
  refine O.nil ?_
  refine X.next ?_
  refine V.block ?_
  refine V.map (fun w hw => RowsA.nil (T := 67) (C := B3C) hw) ?_
  refine V.loop3 (β := (Option Addr) × Nat × (List (Sl × List B3)) × Nat) (fun x => [(6, .slice x.1 (tops x.2.2.1).length x.2.1), (7, .int .i64 (x.2.2.2 : Int))]) _ (fun x => [Own 30 (SyC (v:Int)) x.1 x.2.1 (tops x.2.2.1), RowsA 67 B3C x.2.2.1]) _ (fun x => x.2.2.2 ≤ ps1.length ∧ conts x.2.2.1 = (conts ps1).take x.2.2.2 ∧ x.1.isSome = true) (fun x => ps1.length - x.2.2.2) (A1, 0, [], 0) (by (try dsimp only); exact ⟨by omega, rfl, hA1⟩) (Ent.cons rfl (Ent.cons rfl (Ent.nil _))) (Ent.cons (t := 2) rfl (Ent.cons (t := 5) rfl (Ent.nil _))) (Sub.keep 1 rfl (Sub.keep 0 rfl (Sub.keep 0 rfl (Sub.keep 0 rfl (Sub.keep 0 rfl (Sub.keep 0 rfl (Sub.keep 0 rfl (Sub.nil _)))))))) ?_
  rintro ⟨outA, outc, out, i⟩ ⟨hi, ho, hoS⟩
  dsimp only at hi ho hoS ⊢
  have hol : out.length = i := by have h := conts_len out; rw [ho, List.length_take] at h; omega
  have hlo : ∀ j (hj : j < out.length), 3 * (out[j]).2.length = leftN v 0 := fun j hj => hlen _ (by have h : (out[j]).2 ∈ conts out := List.mem_map_of_mem (List.getElem_mem hj); rw [ho] at h; exact List.mem_of_mem_take h)
  refine V.fact (RowsA.len 1 rfl) (fun hn_out => ?_)
  have htl_out := tops_len out
  refine V.seq ?_
  refine V.seq ?_
  refine V.region ?_
  refine O.p rfl rfl rfl (Pu.move rfl rfl) ?_
  refine O.p rfl rfl rfl (Pu.move rfl rfl) ?_
  refine O.p rfl rfl rfl (Pu.len rfl Try.underlying118 rfl) ?_
  refine O.p rfl rfl rfl (Pu.lss rfl rfl rfl) ?_
  refine O.nil ?_
  refine X.next ?_
  refine V.condD rfl (fun c1 => ?_) (fun c1 => ?_)
  · skip
    refine V.skip ?_
    refine X.next ?_
    refine V.seq ?_
    refine V.block ?_
    refine V.seq ?_
    have ei : i < ps1.length := by omega
    have hil := hlen (ps1[i]).2 (List.mem_map_of_mem (List.getElem_mem ei))
    refine V.draw mo (by kernel_rfl) (fun hwf => ?_)
    refine D.p 0 rfl rfl rfl rfl rfl rfl (Pu.fieldAddr 0 rfl Try.underlying30 rfl sz2 rfl rfl) ?_
    refine D.p 1 rfl rfl rfl rfl rfl rfl (Pu.load rfl pl2 rfl (Ld.blk 6 rfl rfl)) ?_
    refine D.p 3 rfl rfl rfl rfl rfl rfl (Pu.fieldAddr 1 rfl Try.underlying30 rfl sz28 rfl rfl) ?_
    refine D.p 4 rfl rfl rfl rfl rfl rfl (Pu.load rfl pl28 rfl (Ld.blk 6 rfl rfl)) ?_
    refine D.p 6 rfl rfl rfl rfl rfl rfl (Pu.move rfl rfl) ?_
    refine D.p 7 rfl rfl rfl rfl rfl rfl (Pu.move rfl rfl) ?_
    refine D.p 8 rfl rfl rfl rfl rfl rfl (Pu.indexAddrS (i) rfl Try.underlying118 sz28 rfl rfl (by omega) (by omega) (fun w hw => Own.some hw (i := 4) (by exact rfl) (by omega))) ?_
    refine D.p 9 rfl rfl rfl rfl rfl rfl (Pu.load rfl pl28 rfl (Ld.row (Ld.own 4 (by exact rfl)) hn_ps1 ei rfl)) ?_
    refine D.either hwf (e1 := 2) (e2 := 12) rfl ?_ ?_
    · skip
      refine ⟨_, _, rfl, rfl, fun _ _ => wanted_none rfl _, Ef.build B3C ([] : List B3) rfl Try.underlying28 inf67 rfl rfl rfl (by first | decide | (simp; done)) (by kernel_rfl), rfl, rfl, ?_⟩
      rintro _ _ ⟨A2, hA2, rfl, rfl⟩ hs
      refine ⟨fun w hw => hw.sub (Sub.keep 1 rfl (Sub.keep 1 rfl (Sub.keep 1 rfl (Sub.keep 1 rfl (Sub.keep 1 rfl (Sub.keep 1 rfl (Sub.keep 1 rfl (Sub.nil _)))))))), ?_⟩
      refine D.either hwf (e1 := 5) (e2 := 12) rfl ?_ ?_
      · skip
        refine ⟨_, _, rfl, rfl, fun _ _ => wanted_none rfl _, Ef.append (xs := ([] : List B3)) (ys := ([] : List B3)) 0 rfl Try.underlying28 inf67 rfl rfl rfl rfl rfl rfl hAS (fun w hw => Rd.nil _ _ _) (by simp only [List.length_append, List.length_cons, List.length_nil] at *; omega) (by decide), rfl, rfl, ?_⟩
        rintro _ _ ⟨A3, k1, rfl, rfl, hA3⟩ hs
        replace hA3 := hA3 (.inl hA2)
        refine ⟨fun w hw => hw.sub (Sub.keep 1 rfl (Sub.keep 1 rfl (Sub.keep 1 rfl (Sub.keep 1 rfl (Sub.keep 1 rfl (Sub.keep 1 rfl (Sub.keep 1 rfl (Sub.nil _)))))))), ?_⟩
        refine D.either hwf (e1 := 10) (e2 := 12) rfl ?_ ?_
        · skip
          refine ⟨_, _, rfl, rfl, fun _ _ => wanted_none rfl _, Ef.append (xs := (([] : List B3) ++ ([] : List B3))) (ys := (ps1[i]'ei).2) 0 rfl Try.underlying28 inf67 rfl rfl rfl rfl rfl rfl (hsom1 _ (List.getElem_mem ei)) (Ld.rows 6 (by exact rfl) ei) (by simp only [List.length_append, List.length_cons, List.length_nil] at *; omega) (by decide), rfl, rfl, ?_⟩
          rintro _ _ ⟨A4, k2, rfl, rfl, hA4⟩ hs
          replace hA4 := hA4 (.inl hA3)
          refine ⟨fun w hw => hw.sub (Sub.keep 1 rfl (Sub.keep 1 rfl (Sub.keep 1 rfl (Sub.keep 1 rfl (Sub.keep 1 rfl (Sub.keep 1 rfl (Sub.keep 1 rfl (Sub.nil _)))))))), ?_⟩
          refine D.either hwf (e1 := 11) (e2 := 12) rfl ?_ ?_
          · skip
            refine ⟨_, _, rfl, rfl, fun _ _ => wanted_none rfl _, Ef.call1 call91 rfl rfl (fun w hw => l01Made_ok  (↑v : Int) ((([] : List B3) ++ ([] : List B3)) ++ (ps1[i]'ei).2) _ _ w ((Ld.own 0 (by exact rfl)) w hw) (by simp only [List.nil_append]; omega) (by simp only [List.nil_append]; omega)), rfl, rfl, ?_⟩
            rintro _ _ rfl hs
            refine ⟨fun w hw => hs w hw.tail, ?_⟩
            refine D.exi (fun r1A => ?_)
            refine D.exi (fun r1c => ?_)
            refine D.exi (fun r1 => ?_)
            refine D.sep ?_
            refine D.pur1 ?_
            rintro ⟨rfl, hr1_1, hr1_2⟩
            have hre : r1 = (ps1[i]'ei).2 := srtB_unique hr1_2 (srtB_lt (hsrt _ (List.mem_map_of_mem (List.getElem_mem ei)))) (by simpa using hr1_1)
            have hrl : 3 * r1.length = leftN v 0 := by rw [hre]; exact hil
            refine D.eff hwf (e := 12) rfl rfl rfl rfl (Ef.alloc rfl zr30 rfl) rfl rfl rfl ?_
            rintro _ _ ⟨b2, rfl, rfl⟩ hs
            refine ⟨fun w hw => hw.sub (Sub.keep 3 rfl (Sub.keep 3 rfl (Sub.keep 3 rfl (Sub.keep 3 rfl (Sub.keep 3 rfl (Sub.keep 3 rfl (Sub.keep 3 rfl (Sub.nil _)))))))), ?_⟩
            refine D.eff hwf (e := 13) rfl rfl rfl rfl (Ef.storeAll 0 rfl sz30 rfl rfl rfl rfl (by simp [Value.oneCell']) rfl) rfl rfl rfl ?_
            rintro _ _ rfl hs
            refine ⟨fun w hw => hw.sub (Sub.keep 3 rfl (Sub.keep 3 rfl (Sub.keep 3 rfl (Sub.keep 3 rfl (Sub.keep 3 rfl (Sub.keep 3 rfl (Sub.keep 3 rfl (Sub.nil _)))))))), ?_⟩
            refine D.done hwf rfl ?_
            refine X.next ?_
            refine V.seq ?_
            refine V.region ?_
            refine O.p rfl rfl rfl (Pu.move rfl rfl) ?_
            refine O.p rfl rfl rfl (Pu.len rfl Try.underlying34 rfl) ?_
            refine O.p rfl rfl rfl (Pu.assign rfl rfl) ?_
            refine O.nil ?_
            refine X.next ?_
            refine V.seq ?_
            refine V.block ?_
            refine V.loop3 (β := Nat) (fun k => [(9, .int .i64 (k : Int))]) _ (fun k => []) _ (fun k => k = out.length) (fun k => k) ((tops out).length) htl_out (Ent.cons rfl (Ent.nil _)) (Ent.cons (t := 2) rfl (Ent.cons (t := 5) rfl (Ent.cons (t := 6) rfl (Ent.cons (t := 7) rfl (Ent.cons (t := 8) rfl (Ent.nil _)))))) (Sub.keep 0 rfl (Sub.keep 0 rfl (Sub.keep 0 rfl (Sub.keep 0 rfl (Sub.keep 0 rfl (Sub.keep 0 rfl (Sub.keep 0 rfl (Sub.keep 0 rfl (Sub.keep 0 rfl (Sub.keep 0 rfl (Sub.nil _))))))))))) ?_
            rintro k hk
            refine V.seq ?_
            refine V.seq ?_
            refine V.draw mo (by kernel_rfl) (fun hwf => ?_)
            refine D.p 0 rfl rfl rfl rfl rfl rfl (Pu.move rfl rfl) ?_
            refine D.p 1 rfl rfl rfl rfl rfl rfl (Pu.gtr rfl rfl rfl) ?_
            refine D.p 2 rfl rfl rfl rfl rfl rfl (Pu.move rfl rfl) ?_
            refine D.splitD 40 rfl (fun c2 => ?_) (fun c2 => ?_)
            · skip
              have hk1 : k - 1 < out.length := by omega
              have hlk := hlo (k - 1) hk1
              refine D.gp 3 rfl rfl rfl rfl rfl rfl rfl rfl (Pu.fieldAddr 1 rfl Try.underlying30 rfl sz28 rfl rfl) ?_
              refine D.gp 4 rfl rfl rfl rfl rfl rfl rfl rfl (Pu.load rfl pl28 rfl (Ld.blk 0 rfl rfl)) ?_
              refine D.gp 5 rfl rfl rfl rfl rfl rfl rfl rfl (Pu.move rfl rfl) ?_
              refine D.gp 6 rfl rfl rfl rfl rfl rfl rfl rfl (Pu.move rfl rfl) ?_
              refine D.gp 7 rfl rfl rfl rfl rfl rfl rfl rfl (Pu.sub64 (r := ((k - 1 : Nat) : Int)) (by omega) (by omega) rfl rfl rfl) ?_
              refine D.gp 8 rfl rfl rfl rfl rfl rfl rfl rfl (Pu.indexAddrS (k - 1) rfl Try.underlying34 sz30 rfl rfl (by omega) (by omega) (fun w hw => Own.some hw (i := 3) (by exact rfl) (by omega))) ?_
              refine D.gp 9 rfl rfl rfl rfl rfl rfl rfl rfl (Pu.fieldAddr' rfl Try.underlying30 rfl sz28 rfl rfl (fun w hw => by have := Rd.some ((Ld.own 3 (by exact rfl)) w hw) (by omega); simpa using this)) ?_
              have e1 : k - 1 < out.length := by have := tops_len out; omega
              refine D.gp 10 rfl rfl rfl rfl rfl rfl rfl rfl (Pu.load rfl pl28 rfl (Ld.rowYf (Ld.own 3 (by exact rfl)) hn_out e1 rfl)) ?_
              refine D.geff hwf (e := 11) rfl rfl rfl rfl rfl rfl (Ef.callP call92 rfl rfl (fun w hw => l08Before_ok  r1 ((out[k - 1]'e1).2) _ _ _ _ w ((Ld.own 1 (by exact rfl)) w hw) ((Ld.rows 4 (by exact rfl) e1) w hw) (by omega) (by omega) (by omega))) rfl rfl rfl ?_
              rintro _ _ ⟨rfl, rfl⟩ hs
              refine ⟨fun w hw => hw, ?_⟩
              refine D.p 12 rfl rfl rfl rfl rfl rfl (Pu.pickT rfl rfl rfl) ?_
              refine D.done hwf rfl ?_
              refine X.next ?_
              refine V.condD rfl (fun c3 => ?_) (fun c3 => ?_)
              · skip
                exact (befB_asymm c3 (by rw [hre]; exact prev_bef hpw ho ei hk1 (by omega))).elim
              · skip
                refine V.exit ?_
                refine X.thenExit ?_
                refine X.thenExit ?_
                refine X.blockHit ?_
                refine X.next ?_
                refine V.seq ?_
                refine V.draw mo (by kernel_rfl) (fun hwf => ?_)
                refine D.p 0 rfl rfl rfl rfl rfl rfl (Pu.loadAgg rfl ag30 sz30 rfl rfl (Ld.whole 0 rfl)) ?_
                refine D.p 2 rfl rfl rfl rfl rfl rfl (Pu.move rfl rfl) ?_
                refine D.p 3 rfl rfl rfl rfl rfl rfl (Pu.move rfl rfl) ?_
                refine D.p 4 rfl rfl rfl rfl rfl rfl (Pu.sliceL k rfl Try.underlying34 sz30 rfl rfl (by omega) (by omega)) ?_
                refine D.eff hwf (e := 1) rfl rfl rfl rfl (Ef.build (SyC (↑v : Int)) ([⟨r1A, r1.length, r1c⟩] : List Sl) rfl Try.underlying34 inf30 rfl rfl rfl (by first | decide | (simp; done)) (by kernel_rfl)) rfl rfl rfl ?_
                rintro _ _ ⟨A5, hA5, rfl, rfl⟩ hs
                refine ⟨fun w hw => hw.sub (Sub.keep 1 rfl (Sub.keep 1 rfl (Sub.keep 1 rfl (Sub.keep 1 rfl (Sub.keep 1 rfl (Sub.keep 1 rfl (Sub.keep 1 rfl (Sub.keep 1 rfl (Sub.keep 1 rfl (Sub.keep 1 rfl (Sub.nil _))))))))))), ?_⟩
                refine D.eff hwf (e := 5) rfl rfl rfl rfl (Ef.append (xs := ([⟨r1A, r1.length, r1c⟩] : List Sl)) (ys := ((tops out).drop k)) 0 rfl Try.underlying34 inf30 rfl rfl rfl rfl rfl (by first | (simp only [List.length_take, List.length_drop]; done) | (simp only [List.length_take, List.length_drop]; omega)) (by split <;> simp [hoS]) (fun w hw => ((Ld.own 4 (by exact rfl)) w hw).drop rfl (Own.cap hw (i := 4) (by exact rfl))) (by simp only [List.length_drop, List.length_take, List.length_append, List.length_cons, List.length_nil] at *; omega) (by decide)) rfl rfl rfl ?_
                rintro _ _ ⟨A6, k3, rfl, rfl, hA6⟩ hs
                replace hA6 := hA6 (.inl hA5)
                refine ⟨fun w hw => hw.sub (Sub.keep 1 rfl (Sub.keep 1 rfl (Sub.keep 1 rfl (Sub.keep 1 rfl (Sub.keep 1 rfl (Sub.keep 1 rfl (Sub.keep 1 rfl (Sub.keep 1 rfl (Sub.keep 1 rfl (Sub.keep 1 rfl (Sub.nil _))))))))))), ?_⟩
                refine D.p 6 rfl rfl rfl rfl rfl rfl (Pu.assign rfl rfl) ?_
                refine D.done hwf rfl ?_
                refine X.next ?_
                refine V.fact (fun w hw => Own.cap hw (i := 4) rfl) (fun hcap => ?_)
                refine V.region ?_
                refine O.e rfl rfl rfl (Ef.build (SyC (v : Int)) ([] : List Sl) rfl Try.underlying34 inf30 rfl rfl rfl (by first | decide | (simp; done)) (by kernel_rfl)) ?_
                rintro _ _ ⟨A7, hA7, rfl, rfl⟩
                refine O.p rfl rfl rfl (Pu.move rfl rfl) ?_
                refine O.p rfl rfl rfl (Pu.move rfl rfl) ?_
                refine O.p rfl rfl rfl (Pu.sliceH k rfl Try.underlying34 sz30 rfl rfl (by omega) (by omega)) ?_
                refine O.e rfl rfl rfl (Ef.append (xs := ([] : List Sl)) (ys := ((tops out).take k)) 0 rfl Try.underlying34 inf30 rfl rfl rfl rfl rfl (by first | (simp only [List.length_take, List.length_drop]; done) | (simp only [List.length_take, List.length_drop]; omega)) hoS (fun w hw => ((Ld.own 5 (by exact rfl)) w hw).take k) (by simp only [List.length_drop, List.length_take, List.length_append, List.length_cons, List.length_nil] at *; omega) (by decide)) ?_
                rintro _ _ ⟨A8, k4, rfl, rfl, hA8⟩
                replace hA8 := hA8 (.inl hA7)
                refine O.p rfl rfl rfl (Pu.move rfl rfl) ?_
                refine O.e rfl rfl rfl (Ef.append (xs := (([] : List Sl) ++ ((tops out).take k))) (ys := (([⟨r1A, r1.length, r1c⟩] : List Sl) ++ ((tops out).drop k))) 0 rfl Try.underlying34 inf30 rfl rfl rfl rfl rfl rfl hA6 (Ld.own 1 (by exact rfl)) (by simp only [List.length_drop, List.length_take, List.length_append, List.length_cons, List.length_nil] at *; omega) (by decide)) ?_
                rintro _ _ ⟨A9, k5, rfl, rfl, hA9⟩
                replace hA9 := hA9 (.inl hA8)
                refine O.p rfl rfl rfl (Pu.assign rfl rfl) ?_
                refine O.nil ?_
                refine X.blockNormal ?_
                refine X.next ?_
                refine V.region ?_
                refine O.p rfl rfl rfl (Pu.move rfl rfl) ?_
                refine O.p rfl rfl rfl (Pu.add64 (r := ((i + 1 : Nat) : Int)) rfl (by omega) rfl rfl rfl) ?_
                refine O.p rfl rfl rfl (Pu.assign rfl rfl) ?_
                refine O.nil ?_
                refine X.map (fun w hw => snoc_heap (D := SyC (v : Int)) (ps := out) (xs := r1) (B := r1A) (d := r1c) (hw.sub (Sub.cons 0 rfl (fun w F h => by rw [List.take_of_length_le (by omega), List.drop_of_length_le (by omega)] at h; exact h) (Sub.keep 5 rfl (Sub.keep 2 rfl (Sub.keep 0 rfl (Sub.keep 0 rfl (Sub.keep 0 rfl (Sub.keep 0 rfl (Sub.keep 0 rfl (Sub.keep 0 rfl (Sub.keep 0 rfl (Sub.keep 0 rfl (Sub.keep 0 rfl (Sub.nil _))))))))))))))) ?_
                exact X.back3 (A9, k5, (out ++ [((⟨r1A, r1.length, r1c⟩ : Sl), r1)]), i + 1) (by (try dsimp only); exact ⟨by omega, by rw [conts_append, ho, take_snoc (by omega)]; simp [conts, hre], by assumption⟩) (by first | omega | (dsimp only; omega)) (Ent.cons' rfl (by simp [tops]; omega) (Ent.cons rfl (Ent.nil _))) (Ent.cons (t := 2) rfl (Ent.cons (t := 5) rfl (Ent.nil _))) (Sub.keep 0 rfl (Sub.keep 0 rfl (Sub.keep 4 rfl (Sub.keep 4 rfl (Sub.keep 4 rfl (Sub.keep 4 rfl (Sub.keep 4 rfl (Sub.nil _))))))))
            · skip
              refine D.gs 3 rfl rfl rfl rfl rfl rfl rfl rfl rfl ?_
              refine D.gs 4 rfl rfl rfl rfl rfl rfl rfl rfl rfl ?_
              refine D.gs 5 rfl rfl rfl rfl rfl rfl rfl rfl rfl ?_
              refine D.gs 6 rfl rfl rfl rfl rfl rfl rfl rfl rfl ?_
              refine D.gs 7 rfl rfl rfl rfl rfl rfl rfl rfl rfl ?_
              refine D.gs 8 rfl rfl rfl rfl rfl rfl rfl rfl rfl ?_
              refine D.gs 9 rfl rfl rfl rfl rfl rfl rfl rfl rfl ?_
              refine D.gs 10 rfl rfl rfl rfl rfl rfl rfl rfl rfl ?_
              refine D.gs 11 rfl rfl rfl rfl rfl rfl rfl rfl rfl ?_
              refine D.p 12 rfl rfl rfl rfl rfl rfl (Pu.pickF rfl rfl rfl) ?_
              refine D.done hwf rfl ?_
              refine X.next ?_
              refine V.condF rfl ?_
              refine V.exit ?_
              refine X.thenExit ?_
              refine X.thenExit ?_
              refine X.blockHit ?_
              refine X.next ?_
              refine V.seq ?_
              refine V.draw mo (by kernel_rfl) (fun hwf => ?_)
              refine D.p 0 rfl rfl rfl rfl rfl rfl (Pu.loadAgg rfl ag30 sz30 rfl rfl (Ld.whole 0 rfl)) ?_
              refine D.p 2 rfl rfl rfl rfl rfl rfl (Pu.move rfl rfl) ?_
              refine D.p 3 rfl rfl rfl rfl rfl rfl (Pu.move rfl rfl) ?_
              refine D.p 4 rfl rfl rfl rfl rfl rfl (Pu.sliceL k rfl Try.underlying34 sz30 rfl rfl (by omega) (by omega)) ?_
              refine D.eff hwf (e := 1) rfl rfl rfl rfl (Ef.build (SyC (↑v : Int)) ([⟨r1A, r1.length, r1c⟩] : List Sl) rfl Try.underlying34 inf30 rfl rfl rfl (by first | decide | (simp; done)) (by kernel_rfl)) rfl rfl rfl ?_
              rintro _ _ ⟨A10, hA10, rfl, rfl⟩ hs
              refine ⟨fun w hw => hw.sub (Sub.keep 1 rfl (Sub.keep 1 rfl (Sub.keep 1 rfl (Sub.keep 1 rfl (Sub.keep 1 rfl (Sub.keep 1 rfl (Sub.keep 1 rfl (Sub.keep 1 rfl (Sub.keep 1 rfl (Sub.keep 1 rfl (Sub.nil _))))))))))), ?_⟩
              refine D.eff hwf (e := 5) rfl rfl rfl rfl (Ef.append (xs := ([⟨r1A, r1.length, r1c⟩] : List Sl)) (ys := ((tops out).drop k)) 0 rfl Try.underlying34 inf30 rfl rfl rfl rfl rfl (by first | (simp only [List.length_take, List.length_drop]; done) | (simp only [List.length_take, List.length_drop]; omega)) (by split <;> simp [hoS]) (fun w hw => ((Ld.own 4 (by exact rfl)) w hw).drop rfl (Own.cap hw (i := 4) (by exact rfl))) (by simp only [List.length_drop, List.length_take, List.length_append, List.length_cons, List.length_nil] at *; omega) (by decide)) rfl rfl rfl ?_
              rintro _ _ ⟨A11, k6, rfl, rfl, hA11⟩ hs
              replace hA11 := hA11 (.inl hA10)
              refine ⟨fun w hw => hw.sub (Sub.keep 1 rfl (Sub.keep 1 rfl (Sub.keep 1 rfl (Sub.keep 1 rfl (Sub.keep 1 rfl (Sub.keep 1 rfl (Sub.keep 1 rfl (Sub.keep 1 rfl (Sub.keep 1 rfl (Sub.keep 1 rfl (Sub.nil _))))))))))), ?_⟩
              refine D.p 6 rfl rfl rfl rfl rfl rfl (Pu.assign rfl rfl) ?_
              refine D.done hwf rfl ?_
              refine X.next ?_
              refine V.fact (fun w hw => Own.cap hw (i := 4) rfl) (fun hcap => ?_)
              refine V.region ?_
              refine O.e rfl rfl rfl (Ef.build (SyC (v : Int)) ([] : List Sl) rfl Try.underlying34 inf30 rfl rfl rfl (by first | decide | (simp; done)) (by kernel_rfl)) ?_
              rintro _ _ ⟨A12, hA12, rfl, rfl⟩
              refine O.p rfl rfl rfl (Pu.move rfl rfl) ?_
              refine O.p rfl rfl rfl (Pu.move rfl rfl) ?_
              refine O.p rfl rfl rfl (Pu.sliceH k rfl Try.underlying34 sz30 rfl rfl (by omega) (by omega)) ?_
              refine O.e rfl rfl rfl (Ef.append (xs := ([] : List Sl)) (ys := ((tops out).take k)) 0 rfl Try.underlying34 inf30 rfl rfl rfl rfl rfl (by first | (simp only [List.length_take, List.length_drop]; done) | (simp only [List.length_take, List.length_drop]; omega)) hoS (fun w hw => ((Ld.own 5 (by exact rfl)) w hw).take k) (by simp only [List.length_drop, List.length_take, List.length_append, List.length_cons, List.length_nil] at *; omega) (by decide)) ?_
              rintro _ _ ⟨A13, k7, rfl, rfl, hA13⟩
              replace hA13 := hA13 (.inl hA12)
              refine O.p rfl rfl rfl (Pu.move rfl rfl) ?_
              refine O.e rfl rfl rfl (Ef.append (xs := (([] : List Sl) ++ ((tops out).take k))) (ys := (([⟨r1A, r1.length, r1c⟩] : List Sl) ++ ((tops out).drop k))) 0 rfl Try.underlying34 inf30 rfl rfl rfl rfl rfl rfl hA11 (Ld.own 1 (by exact rfl)) (by simp only [List.length_drop, List.length_take, List.length_append, List.length_cons, List.length_nil] at *; omega) (by decide)) ?_
              rintro _ _ ⟨A14, k8, rfl, rfl, hA14⟩
              replace hA14 := hA14 (.inl hA13)
              refine O.p rfl rfl rfl (Pu.assign rfl rfl) ?_
              refine O.nil ?_
              refine X.blockNormal ?_
              refine X.next ?_
              refine V.region ?_
              refine O.p rfl rfl rfl (Pu.move rfl rfl) ?_
              refine O.p rfl rfl rfl (Pu.add64 (r := ((i + 1 : Nat) : Int)) rfl (by omega) rfl rfl rfl) ?_
              refine O.p rfl rfl rfl (Pu.assign rfl rfl) ?_
              refine O.nil ?_
              refine X.map (fun w hw => snoc_heap (D := SyC (v : Int)) (ps := out) (xs := r1) (B := r1A) (d := r1c) (hw.sub (Sub.cons 0 rfl (fun w F h => by rw [List.take_of_length_le (by omega), List.drop_of_length_le (by omega)] at h; exact h) (Sub.keep 5 rfl (Sub.keep 2 rfl (Sub.keep 0 rfl (Sub.keep 0 rfl (Sub.keep 0 rfl (Sub.keep 0 rfl (Sub.keep 0 rfl (Sub.keep 0 rfl (Sub.keep 0 rfl (Sub.keep 0 rfl (Sub.keep 0 rfl (Sub.nil _))))))))))))))) ?_
              exact X.back3 (A14, k8, (out ++ [((⟨r1A, r1.length, r1c⟩ : Sl), r1)]), i + 1) (by (try dsimp only); exact ⟨by omega, by rw [conts_append, ho, take_snoc (by omega)]; simp [conts, hre], by assumption⟩) (by first | omega | (dsimp only; omega)) (Ent.cons' rfl (by simp [tops]; omega) (Ent.cons rfl (Ent.nil _))) (Ent.cons (t := 2) rfl (Ent.cons (t := 5) rfl (Ent.nil _))) (Sub.keep 0 rfl (Sub.keep 0 rfl (Sub.keep 4 rfl (Sub.keep 4 rfl (Sub.keep 4 rfl (Sub.keep 4 rfl (Sub.keep 4 rfl (Sub.nil _))))))))
          · skip
            refine ⟨_, _, rfl, rfl, fun _ _ => wanted_none rfl _, Ef.alloc rfl zr30 rfl, rfl, rfl, ?_⟩
            rintro _ _ ⟨b2, rfl, rfl⟩ hs
            refine ⟨fun w hw => hw.sub (Sub.keep 2 rfl (Sub.keep 2 rfl (Sub.keep 2 rfl (Sub.keep 2 rfl (Sub.keep 2 rfl (Sub.keep 2 rfl (Sub.keep 2 rfl (Sub.nil _)))))))), ?_⟩
            refine D.eff hwf (e := 11) rfl rfl rfl rfl (Ef.call1 call91 rfl rfl (fun w hw => l01Made_ok  (↑v : Int) ((([] : List B3) ++ ([] : List B3)) ++ (ps1[i]'ei).2) _ _ w ((Ld.own 1 (by exact rfl)) w hw) (by simp only [List.nil_append]; omega) (by simp only [List.nil_append]; omega))) rfl rfl rfl ?_
            rintro _ _ rfl hs
            refine ⟨fun w hw => hs w hw.tail, ?_⟩
            refine D.exi (fun r1A => ?_)
            refine D.exi (fun r1c => ?_)
            refine D.exi (fun r1 => ?_)
            refine D.sep ?_
            refine D.pur1 ?_
            rintro ⟨rfl, hr1_1, hr1_2⟩
            have hre : r1 = (ps1[i]'ei).2 := srtB_unique hr1_2 (srtB_lt (hsrt _ (List.mem_map_of_mem (List.getElem_mem ei)))) (by simpa using hr1_1)
            have hrl : 3 * r1.length = leftN v 0 := by rw [hre]; exact hil
            refine D.eff hwf (e := 13) rfl rfl rfl rfl (Ef.storeAll 1 rfl sz30 rfl rfl rfl rfl (by simp [Value.oneCell']) rfl) rfl rfl rfl ?_
            rintro _ _ rfl hs
            refine ⟨fun w hw => hw.sub (Sub.keep 3 rfl (Sub.keep 3 rfl (Sub.keep 3 rfl (Sub.keep 3 rfl (Sub.keep 3 rfl (Sub.keep 3 rfl (Sub.keep 3 rfl (Sub.nil _)))))))), ?_⟩
            refine D.done hwf rfl ?_
            refine X.next ?_
            refine V.seq ?_
            refine V.region ?_
            refine O.p rfl rfl rfl (Pu.move rfl rfl) ?_
            refine O.p rfl rfl rfl (Pu.len rfl Try.underlying34 rfl) ?_
            refine O.p rfl rfl rfl (Pu.assign rfl rfl) ?_
            refine O.nil ?_
            refine X.next ?_
            refine V.seq ?_
            refine V.block ?_
            refine V.loop3 (β := Nat) (fun k => [(9, .int .i64 (k : Int))]) _ (fun k => []) _ (fun k => k = out.length) (fun k => k) ((tops out).length) htl_out (Ent.cons rfl (Ent.nil _)) (Ent.cons (t := 2) rfl (Ent.cons (t := 5) rfl (Ent.cons (t := 6) rfl (Ent.cons (t := 7) rfl (Ent.cons (t := 8) rfl (Ent.nil _)))))) (Sub.keep 0 rfl (Sub.keep 0 rfl (Sub.keep 0 rfl (Sub.keep 0 rfl (Sub.keep 0 rfl (Sub.keep 0 rfl (Sub.keep 0 rfl (Sub.keep 0 rfl (Sub.keep 0 rfl (Sub.keep 0 rfl (Sub.nil _))))))))))) ?_
            rintro k hk
            refine V.seq ?_
            refine V.seq ?_
            refine V.draw mo (by kernel_rfl) (fun hwf => ?_)
            refine D.p 0 rfl rfl rfl rfl rfl rfl (Pu.move rfl rfl) ?_
            refine D.p 1 rfl rfl rfl rfl rfl rfl (Pu.gtr rfl rfl rfl) ?_
            refine D.p 2 rfl rfl rfl rfl rfl rfl (Pu.move rfl rfl) ?_
            refine D.splitD 40 rfl (fun c2 => ?_) (fun c2 => ?_)
            · skip
              have hk1 : k - 1 < out.length := by omega
              have hlk := hlo (k - 1) hk1
              refine D.gp 3 rfl rfl rfl rfl rfl rfl rfl rfl (Pu.fieldAddr 1 rfl Try.underlying30 rfl sz28 rfl rfl) ?_
              refine D.gp 4 rfl rfl rfl rfl rfl rfl rfl rfl (Pu.load rfl pl28 rfl (Ld.blk 1 rfl rfl)) ?_
              refine D.gp 5 rfl rfl rfl rfl rfl rfl rfl rfl (Pu.move rfl rfl) ?_
              refine D.gp 6 rfl rfl rfl rfl rfl rfl rfl rfl (Pu.move rfl rfl) ?_
              refine D.gp 7 rfl rfl rfl rfl rfl rfl rfl rfl (Pu.sub64 (r := ((k - 1 : Nat) : Int)) (by omega) (by omega) rfl rfl rfl) ?_
              refine D.gp 8 rfl rfl rfl rfl rfl rfl rfl rfl (Pu.indexAddrS (k - 1) rfl Try.underlying34 sz30 rfl rfl (by omega) (by omega) (fun w hw => Own.some hw (i := 3) (by exact rfl) (by omega))) ?_
              refine D.gp 9 rfl rfl rfl rfl rfl rfl rfl rfl (Pu.fieldAddr' rfl Try.underlying30 rfl sz28 rfl rfl (fun w hw => by have := Rd.some ((Ld.own 3 (by exact rfl)) w hw) (by omega); simpa using this)) ?_
              have e1 : k - 1 < out.length := by have := tops_len out; omega
              refine D.gp 10 rfl rfl rfl rfl rfl rfl rfl rfl (Pu.load rfl pl28 rfl (Ld.rowYf (Ld.own 3 (by exact rfl)) hn_out e1 rfl)) ?_
              refine D.geff hwf (e := 11) rfl rfl rfl rfl rfl rfl (Ef.callP call92 rfl rfl (fun w hw => l08Before_ok  r1 ((out[k - 1]'e1).2) _ _ _ _ w ((Ld.own 0 (by exact rfl)) w hw) ((Ld.rows 4 (by exact rfl) e1) w hw) (by omega) (by omega) (by omega))) rfl rfl rfl ?_
              rintro _ _ ⟨rfl, rfl⟩ hs
              refine ⟨fun w hw => hw, ?_⟩
              refine D.p 12 rfl rfl rfl rfl rfl rfl (Pu.pickT rfl rfl rfl) ?_
              refine D.done hwf rfl ?_
              refine X.next ?_
              refine V.condD rfl (fun c3 => ?_) (fun c3 => ?_)
              · skip
                exact (befB_asymm c3 (by rw [hre]; exact prev_bef hpw ho ei hk1 (by omega))).elim
              · skip
                refine V.exit ?_
                refine X.thenExit ?_
                refine X.thenExit ?_
                refine X.blockHit ?_
                refine X.next ?_
                refine V.seq ?_
                refine V.draw mo (by kernel_rfl) (fun hwf => ?_)
                refine D.p 0 rfl rfl rfl rfl rfl rfl (Pu.loadAgg rfl ag30 sz30 rfl rfl (Ld.whole 1 rfl)) ?_
                refine D.p 2 rfl rfl rfl rfl rfl rfl (Pu.move rfl rfl) ?_
                refine D.p 3 rfl rfl rfl rfl rfl rfl (Pu.move rfl rfl) ?_
                refine D.p 4 rfl rfl rfl rfl rfl rfl (Pu.sliceL k rfl Try.underlying34 sz30 rfl rfl (by omega) (by omega)) ?_
                refine D.eff hwf (e := 1) rfl rfl rfl rfl (Ef.build (SyC (↑v : Int)) ([⟨r1A, r1.length, r1c⟩] : List Sl) rfl Try.underlying34 inf30 rfl rfl rfl (by first | decide | (simp; done)) (by kernel_rfl)) rfl rfl rfl ?_
                rintro _ _ ⟨A5, hA5, rfl, rfl⟩ hs
                refine ⟨fun w hw => hw.sub (Sub.keep 1 rfl (Sub.keep 1 rfl (Sub.keep 1 rfl (Sub.keep 1 rfl (Sub.keep 1 rfl (Sub.keep 1 rfl (Sub.keep 1 rfl (Sub.keep 1 rfl (Sub.keep 1 rfl (Sub.keep 1 rfl (Sub.nil _))))))))))), ?_⟩
                refine D.eff hwf (e := 5) rfl rfl rfl rfl (Ef.append (xs := ([⟨r1A, r1.length, r1c⟩] : List Sl)) (ys := ((tops out).drop k)) 0 rfl Try.underlying34 inf30 rfl rfl rfl rfl rfl (by first | (simp only [List.length_take, List.length_drop]; done) | (simp only [List.length_take, List.length_drop]; omega)) (by split <;> simp [hoS]) (fun w hw => ((Ld.own 4 (by exact rfl)) w hw).drop rfl (Own.cap hw (i := 4) (by exact rfl))) (by simp only [List.length_drop, List.length_take, List.length_append, List.length_cons, List.length_nil] at *; omega) (by decide)) rfl rfl rfl ?_
                rintro _ _ ⟨A6, k3, rfl, rfl, hA6⟩ hs
                replace hA6 := hA6 (.inl hA5)
                refine ⟨fun w hw => hw.sub (Sub.keep 1 rfl (Sub.keep 1 rfl (Sub.keep 1 rfl (Sub.keep 1 rfl (Sub.keep 1 rfl (Sub.keep 1 rfl (Sub.keep 1 rfl (Sub.keep 1 rfl (Sub.keep 1 rfl (Sub.keep 1 rfl (Sub.nil _))))))))))), ?_⟩
                refine D.p 6 rfl rfl rfl rfl rfl rfl (Pu.assign rfl rfl) ?_
                refine D.done hwf rfl ?_
                refine X.next ?_
                refine V.fact (fun w hw => Own.cap hw (i := 4) rfl) (fun hcap => ?_)
                refine V.region ?_
                refine O.e rfl rfl rfl (Ef.build (SyC (v : Int)) ([] : List Sl) rfl Try.underlying34 inf30 rfl rfl rfl (by first | decide | (simp; done)) (by kernel_rfl)) ?_
                rintro _ _ ⟨A7, hA7, rfl, rfl⟩
                refine O.p rfl rfl rfl (Pu.move rfl rfl) ?_
                refine O.p rfl rfl rfl (Pu.move rfl rfl) ?_
                refine O.p rfl rfl rfl (Pu.sliceH k rfl Try.underlying34 sz30 rfl rfl (by omega) (by omega)) ?_
                refine O.e rfl rfl rfl (Ef.append (xs := ([] : List Sl)) (ys := ((tops out).take k)) 0 rfl Try.underlying34 inf30 rfl rfl rfl rfl rfl (by first | (simp only [List.length_take, List.length_drop]; done) | (simp only [List.length_take, List.length_drop]; omega)) hoS (fun w hw => ((Ld.own 5 (by exact rfl)) w hw).take k) (by simp only [List.length_drop, List.length_take, List.length_append, List.length_cons, List.length_nil] at *; omega) (by decide)) ?_
                rintro _ _ ⟨A8, k4, rfl, rfl, hA8⟩
                replace hA8 := hA8 (.inl hA7)
                refine O.p rfl rfl rfl (Pu.move rfl rfl) ?_
                refine O.e rfl rfl rfl (Ef.append (xs := (([] : List Sl) ++ ((tops out).take k))) (ys := (([⟨r1A, r1.length, r1c⟩] : List Sl) ++ ((tops out).drop k))) 0 rfl Try.underlying34 inf30 rfl rfl rfl rfl rfl rfl hA6 (Ld.own 1 (by exact rfl)) (by simp only [List.length_drop, List.length_take, List.length_append, List.length_cons, List.length_nil] at *; omega) (by decide)) ?_
                rintro _ _ ⟨A9, k5, rfl, rfl, hA9⟩
                replace hA9 := hA9 (.inl hA8)
                refine O.p rfl rfl rfl (Pu.assign rfl rfl) ?_
                refine O.nil ?_
                refine X.blockNormal ?_
                refine X.next ?_
                refine V.region ?_
                refine O.p rfl rfl rfl (Pu.move rfl rfl) ?_
                refine O.p rfl rfl rfl (Pu.add64 (r := ((i + 1 : Nat) : Int)) rfl (by omega) rfl rfl rfl) ?_
                refine O.p rfl rfl rfl (Pu.assign rfl rfl) ?_
                refine O.nil ?_
                refine X.map (fun w hw => snoc_heap (D := SyC (v : Int)) (ps := out) (xs := r1) (B := r1A) (d := r1c) (hw.sub (Sub.cons 0 rfl (fun w F h => by rw [List.take_of_length_le (by omega), List.drop_of_length_le (by omega)] at h; exact h) (Sub.keep 5 rfl (Sub.keep 1 rfl (Sub.keep 0 rfl (Sub.keep 0 rfl (Sub.keep 0 rfl (Sub.keep 0 rfl (Sub.keep 0 rfl (Sub.keep 0 rfl (Sub.keep 0 rfl (Sub.keep 0 rfl (Sub.keep 0 rfl (Sub.nil _))))))))))))))) ?_
                exact X.back3 (A9, k5, (out ++ [((⟨r1A, r1.length, r1c⟩ : Sl), r1)]), i + 1) (by (try dsimp only); exact ⟨by omega, by rw [conts_append, ho, take_snoc (by omega)]; simp [conts, hre], by assumption⟩) (by first | omega | (dsimp only; omega)) (Ent.cons' rfl (by simp [tops]; omega) (Ent.cons rfl (Ent.nil _))) (Ent.cons (t := 2) rfl (Ent.cons (t := 5) rfl (Ent.nil _))) (Sub.keep 0 rfl (Sub.keep 0 rfl (Sub.keep 4 rfl (Sub.keep 4 rfl (Sub.keep 4 rfl (Sub.keep 4 rfl (Sub.keep 4 rfl (Sub.nil _))))))))
            · skip
              refine D.gs 3 rfl rfl rfl rfl rfl rfl rfl rfl rfl ?_
              refine D.gs 4 rfl rfl rfl rfl rfl rfl rfl rfl rfl ?_
              refine D.gs 5 rfl rfl rfl rfl rfl rfl rfl rfl rfl ?_
              refine D.gs 6 rfl rfl rfl rfl rfl rfl rfl rfl rfl ?_
              refine D.gs 7 rfl rfl rfl rfl rfl rfl rfl rfl rfl ?_
              refine D.gs 8 rfl rfl rfl rfl rfl rfl rfl rfl rfl ?_
              refine D.gs 9 rfl rfl rfl rfl rfl rfl rfl rfl rfl ?_
              refine D.gs 10 rfl rfl rfl rfl rfl rfl rfl rfl rfl ?_
              refine D.gs 11 rfl rfl rfl rfl rfl rfl rfl rfl rfl ?_
              refine D.p 12 rfl rfl rfl rfl rfl rfl (Pu.pickF rfl rfl rfl) ?_
              refine D.done hwf rfl ?_
              refine X.next ?_
              refine V.condF rfl ?_
              refine V.exit ?_
              refine X.thenExit ?_
              refine X.thenExit ?_
              refine X.blockHit ?_
              refine X.next ?_
              refine V.seq ?_
              refine V.draw mo (by kernel_rfl) (fun hwf => ?_)
              refine D.p 0 rfl rfl rfl rfl rfl rfl (Pu.loadAgg rfl ag30 sz30 rfl rfl (Ld.whole 1 rfl)) ?_
              refine D.p 2 rfl rfl rfl rfl rfl rfl (Pu.move rfl rfl) ?_
              refine D.p 3 rfl rfl rfl rfl rfl rfl (Pu.move rfl rfl) ?_
              refine D.p 4 rfl rfl rfl rfl rfl rfl (Pu.sliceL k rfl Try.underlying34 sz30 rfl rfl (by omega) (by omega)) ?_
              refine D.eff hwf (e := 1) rfl rfl rfl rfl (Ef.build (SyC (↑v : Int)) ([⟨r1A, r1.length, r1c⟩] : List Sl) rfl Try.underlying34 inf30 rfl rfl rfl (by first | decide | (simp; done)) (by kernel_rfl)) rfl rfl rfl ?_
              rintro _ _ ⟨A10, hA10, rfl, rfl⟩ hs
              refine ⟨fun w hw => hw.sub (Sub.keep 1 rfl (Sub.keep 1 rfl (Sub.keep 1 rfl (Sub.keep 1 rfl (Sub.keep 1 rfl (Sub.keep 1 rfl (Sub.keep 1 rfl (Sub.keep 1 rfl (Sub.keep 1 rfl (Sub.keep 1 rfl (Sub.nil _))))))))))), ?_⟩
              refine D.eff hwf (e := 5) rfl rfl rfl rfl (Ef.append (xs := ([⟨r1A, r1.length, r1c⟩] : List Sl)) (ys := ((tops out).drop k)) 0 rfl Try.underlying34 inf30 rfl rfl rfl rfl rfl (by first | (simp only [List.length_take, List.length_drop]; done) | (simp only [List.length_take, List.length_drop]; omega)) (by split <;> simp [hoS]) (fun w hw => ((Ld.own 4 (by exact rfl)) w hw).drop rfl (Own.cap hw (i := 4) (by exact rfl))) (by simp only [List.length_drop, List.length_take, List.length_append, List.length_cons, List.length_nil] at *; omega) (by decide)) rfl rfl rfl ?_
              rintro _ _ ⟨A11, k6, rfl, rfl, hA11⟩ hs
              replace hA11 := hA11 (.inl hA10)
              refine ⟨fun w hw => hw.sub (Sub.keep 1 rfl (Sub.keep 1 rfl (Sub.keep 1 rfl (Sub.keep 1 rfl (Sub.keep 1 rfl (Sub.keep 1 rfl (Sub.keep 1 rfl (Sub.keep 1 rfl (Sub.keep 1 rfl (Sub.keep 1 rfl (Sub.nil _))))))))))), ?_⟩
              refine D.p 6 rfl rfl rfl rfl rfl rfl (Pu.assign rfl rfl) ?_
              refine D.done hwf rfl ?_
              refine X.next ?_
              refine V.fact (fun w hw => Own.cap hw (i := 4) rfl) (fun hcap => ?_)
              refine V.region ?_
              refine O.e rfl rfl rfl (Ef.build (SyC (v : Int)) ([] : List Sl) rfl Try.underlying34 inf30 rfl rfl rfl (by first | decide | (simp; done)) (by kernel_rfl)) ?_
              rintro _ _ ⟨A12, hA12, rfl, rfl⟩
              refine O.p rfl rfl rfl (Pu.move rfl rfl) ?_
              refine O.p rfl rfl rfl (Pu.move rfl rfl) ?_
              refine O.p rfl rfl rfl (Pu.sliceH k rfl Try.underlying34 sz30 rfl rfl (by omega) (by omega)) ?_
              refine O.e rfl rfl rfl (Ef.append (xs := ([] : List Sl)) (ys := ((tops out).take k)) 0 rfl Try.underlying34 inf30 rfl rfl rfl rfl rfl (by first | (simp only [List.length_take, List.length_drop]; done) | (simp only [List.length_take, List.length_drop]; omega)) hoS (fun w hw => ((Ld.own 5 (by exact rfl)) w hw).take k) (by simp only [List.length_drop, List.length_take, List.length_append, List.length_cons, List.length_nil] at *; omega) (by decide)) ?_
              rintro _ _ ⟨A13, k7, rfl, rfl, hA13⟩
              replace hA13 := hA13 (.inl hA12)
              refine O.p rfl rfl rfl (Pu.move rfl rfl) ?_
              refine O.e rfl rfl rfl (Ef.append (xs := (([] : List Sl) ++ ((tops out).take k))) (ys := (([⟨r1A, r1.length, r1c⟩] : List Sl) ++ ((tops out).drop k))) 0 rfl Try.underlying34 inf30 rfl rfl rfl rfl rfl rfl hA11 (Ld.own 1 (by exact rfl)) (by simp only [List.length_drop, List.length_take, List.length_append, List.length_cons, List.length_nil] at *; omega) (by decide)) ?_
              rintro _ _ ⟨A14, k8, rfl, rfl, hA14⟩
              replace hA14 := hA14 (.inl hA13)
              refine O.p rfl rfl rfl (Pu.assign rfl rfl) ?_
              refine O.nil ?_
              refine X.blockNormal ?_
              refine X.next ?_
              refine V.region ?_
              refine O.p rfl rfl rfl (Pu.move rfl rfl) ?_
              refine O.p rfl rfl rfl (Pu.add64 (r := ((i + 1 : Nat) : Int)) rfl (by omega) rfl rfl rfl) ?_
              refine O.p rfl rfl rfl (Pu.assign rfl rfl) ?_
              refine O.nil ?_
              refine X.map (fun w hw => snoc_heap (D := SyC (v : Int)) (ps := out) (xs := r1) (B := r1A) (d := r1c) (hw.sub (Sub.cons 0 rfl (fun w F h => by rw [List.take_of_length_le (by omega), List.drop_of_length_le (by omega)] at h; exact h) (Sub.keep 5 rfl (Sub.keep 1 rfl (Sub.keep 0 rfl (Sub.keep 0 rfl (Sub.keep 0 rfl (Sub.keep 0 rfl (Sub.keep 0 rfl (Sub.keep 0 rfl (Sub.keep 0 rfl (Sub.keep 0 rfl (Sub.keep 0 rfl (Sub.nil _))))))))))))))) ?_
              exact X.back3 (A14, k8, (out ++ [((⟨r1A, r1.length, r1c⟩ : Sl), r1)]), i + 1) (by (try dsimp only); exact ⟨by omega, by rw [conts_append, ho, take_snoc (by omega)]; simp [conts, hre], by assumption⟩) (by first | omega | (dsimp only; omega)) (Ent.cons' rfl (by simp [tops]; omega) (Ent.cons rfl (Ent.nil _))) (Ent.cons (t := 2) rfl (Ent.cons (t := 5) rfl (Ent.nil _))) (Sub.keep 0 rfl (Sub.keep 0 rfl (Sub.keep 4 rfl (Sub.keep 4 rfl (Sub.keep 4 rfl (Sub.keep 4 rfl (Sub.keep 4 rfl (Sub.nil _))))))))
        · skip
          refine ⟨_, _, rfl, rfl, fun _ _ => wanted_none rfl _, Ef.alloc rfl zr30 rfl, rfl, rfl, ?_⟩
          rintro _ _ ⟨b2, rfl, rfl⟩ hs
          refine ⟨fun w hw => hw.sub (Sub.keep 2 rfl (Sub.keep 2 rfl (Sub.keep 2 rfl (Sub.keep 2 rfl (Sub.keep 2 rfl (Sub.keep 2 rfl (Sub.keep 2 rfl (Sub.nil _)))))))), ?_⟩
          refine D.eff hwf (e := 10) rfl rfl rfl rfl (Ef.append (xs := (([] : List B3) ++ ([] : List B3))) (ys := (ps1[i]'ei).2) 1 rfl Try.underlying28 inf67 rfl rfl rfl rfl rfl rfl (hsom1 _ (List.getElem_mem ei)) (Ld.rows 7 (by exact rfl) ei) (by simp only [List.length_append, List.length_cons, List.length_nil] at *; omega) (by decide)) rfl rfl rfl ?_
          rintro _ _ ⟨A4, k2, rfl, rfl, hA4⟩ hs
          replace hA4 := hA4 (.inl hA3)
          refine ⟨fun w hw => hw.sub (Sub.keep 2 rfl (Sub.keep 2 rfl (Sub.keep 2 rfl (Sub.keep 2 rfl (Sub.keep 2 rfl (Sub.keep 2 rfl (Sub.keep 2 rfl (Sub.nil _)))))))), ?_⟩
          refine D.eff hwf (e := 11) rfl rfl rfl rfl (Ef.call1 call91 rfl rfl (fun w hw => l01Made_ok  (↑v : Int) ((([] : List B3) ++ ([] : List B3)) ++ (ps1[i]'ei).2) _ _ w ((Ld.own 1 (by exact rfl)) w hw) (by simp only [List.nil_append]; omega) (by simp only [List.nil_append]; omega))) rfl rfl rfl ?_
          rintro _ _ rfl hs
          refine ⟨fun w hw => hs w hw.tail, ?_⟩
          refine D.exi (fun r1A => ?_)
          refine D.exi (fun r1c => ?_)
          refine D.exi (fun r1 => ?_)
          refine D.sep ?_
          refine D.pur1 ?_
          rintro ⟨rfl, hr1_1, hr1_2⟩
          have hre : r1 = (ps1[i]'ei).2 := srtB_unique hr1_2 (srtB_lt (hsrt _ (List.mem_map_of_mem (List.getElem_mem ei)))) (by simpa using hr1_1)
          have hrl : 3 * r1.length = leftN v 0 := by rw [hre]; exact hil
          refine D.eff hwf (e := 13) rfl rfl rfl rfl (Ef.storeAll 1 rfl sz30 rfl rfl rfl rfl (by simp [Value.oneCell']) rfl) rfl rfl rfl ?_
          rintro _ _ rfl hs
          refine ⟨fun w hw => hw.sub (Sub.keep 3 rfl (Sub.keep 3 rfl (Sub.keep 3 rfl (Sub.keep 3 rfl (Sub.keep 3 rfl (Sub.keep 3 rfl (Sub.keep 3 rfl (Sub.nil _)))))))), ?_⟩
          refine D.done hwf rfl ?_
          refine X.next ?_
          refine V.seq ?_
          refine V.region ?_
          refine O.p rfl rfl rfl (Pu.move rfl rfl) ?_
          refine O.p rfl rfl rfl (Pu.len rfl Try.underlying34 rfl) ?_
          refine O.p rfl rfl rfl (Pu.assign rfl rfl) ?_
          refine O.nil ?_
          refine X.next ?_
          refine V.seq ?_
          refine V.block ?_
          refine V.loop3 (β := Nat) (fun k => [(9, .int .i64 (k : Int))]) _ (fun k => []) _ (fun k => k = out.length) (fun k => k) ((tops out).length) htl_out (Ent.cons rfl (Ent.nil _)) (Ent.cons (t := 2) rfl (Ent.cons (t := 5) rfl (Ent.cons (t := 6) rfl (Ent.cons (t := 7) rfl (Ent.cons (t := 8) rfl (Ent.nil _)))))) (Sub.keep 0 rfl (Sub.keep 0 rfl (Sub.keep 0 rfl (Sub.keep 0 rfl (Sub.keep 0 rfl (Sub.keep 0 rfl (Sub.keep 0 rfl (Sub.keep 0 rfl (Sub.keep 0 rfl (Sub.keep 0 rfl (Sub.nil _))))))))))) ?_
          rintro k hk
          refine V.seq ?_
          refine V.seq ?_
          refine V.draw mo (by kernel_rfl) (fun hwf => ?_)
          refine D.p 0 rfl rfl rfl rfl rfl rfl (Pu.move rfl rfl) ?_
          refine D.p 1 rfl rfl rfl rfl rfl rfl (Pu.gtr rfl rfl rfl) ?_
          refine D.p 2 rfl rfl rfl rfl rfl rfl (Pu.move rfl rfl) ?_
          refine D.splitD 40 rfl (fun c2 => ?_) (fun c2 => ?_)
          · skip
            have hk1 : k - 1 < out.length := by omega
            have hlk := hlo (k - 1) hk1
            refine D.gp 3 rfl rfl rfl rfl rfl rfl rfl rfl (Pu.fieldAddr 1 rfl Try.underlying30 rfl sz28 rfl rfl) ?_
            refine D.gp 4 rfl rfl rfl rfl rfl rfl rfl rfl (Pu.load rfl pl28 rfl (Ld.blk 1 rfl rfl)) ?_
            refine D.gp 5 rfl rfl rfl rfl rfl rfl rfl rfl (Pu.move rfl rfl) ?_
            refine D.gp 6 rfl rfl rfl rfl rfl rfl rfl rfl (Pu.move rfl rfl) ?_
            refine D.gp 7 rfl rfl rfl rfl rfl rfl rfl rfl (Pu.sub64 (r := ((k - 1 : Nat) : Int)) (by omega) (by omega) rfl rfl rfl) ?_
            refine D.gp 8 rfl rfl rfl rfl rfl rfl rfl rfl (Pu.indexAddrS (k - 1) rfl Try.underlying34 sz30 rfl rfl (by omega) (by omega) (fun w hw => Own.some hw (i := 3) (by exact rfl) (by omega))) ?_
            refine D.gp 9 rfl rfl rfl rfl rfl rfl rfl rfl (Pu.fieldAddr' rfl Try.underlying30 rfl sz28 rfl rfl (fun w hw => by have := Rd.some ((Ld.own 3 (by exact rfl)) w hw) (by omega); simpa using this)) ?_
            have e1 : k - 1 < out.length := by have := tops_len out; omega
            refine D.gp 10 rfl rfl rfl rfl rfl rfl rfl rfl (Pu.load rfl pl28 rfl (Ld.rowYf (Ld.own 3 (by exact rfl)) hn_out e1 rfl)) ?_
            refine D.geff hwf (e := 11) rfl rfl rfl rfl rfl rfl (Ef.callP call92 rfl rfl (fun w hw => l08Before_ok  r1 ((out[k - 1]'e1).2) _ _ _ _ w ((Ld.own 0 (by exact rfl)) w hw) ((Ld.rows 4 (by exact rfl) e1) w hw) (by omega) (by omega) (by omega))) rfl rfl rfl ?_
            rintro _ _ ⟨rfl, rfl⟩ hs
            refine ⟨fun w hw => hw, ?_⟩
            refine D.p 12 rfl rfl rfl rfl rfl rfl (Pu.pickT rfl rfl rfl) ?_
            refine D.done hwf rfl ?_
            refine X.next ?_
            refine V.condD rfl (fun c3 => ?_) (fun c3 => ?_)
            · skip
              exact (befB_asymm c3 (by rw [hre]; exact prev_bef hpw ho ei hk1 (by omega))).elim
            · skip
              refine V.exit ?_
              refine X.thenExit ?_
              refine X.thenExit ?_
              refine X.blockHit ?_
              refine X.next ?_
              refine V.seq ?_
              refine V.draw mo (by kernel_rfl) (fun hwf => ?_)
              refine D.p 0 rfl rfl rfl rfl rfl rfl (Pu.loadAgg rfl ag30 sz30 rfl rfl (Ld.whole 1 rfl)) ?_
              refine D.p 2 rfl rfl rfl rfl rfl rfl (Pu.move rfl rfl) ?_
              refine D.p 3 rfl rfl rfl rfl rfl rfl (Pu.move rfl rfl) ?_
              refine D.p 4 rfl rfl rfl rfl rfl rfl (Pu.sliceL k rfl Try.underlying34 sz30 rfl rfl (by omega) (by omega)) ?_
              refine D.eff hwf (e := 1) rfl rfl rfl rfl (Ef.build (SyC (↑v : Int)) ([⟨r1A, r1.length, r1c⟩] : List Sl) rfl Try.underlying34 inf30 rfl rfl rfl (by first | decide | (simp; done)) (by kernel_rfl)) rfl rfl rfl ?_
              rintro _ _ ⟨A5, hA5, rfl, rfl⟩ hs
              refine ⟨fun w hw => hw.sub (Sub.keep 1 rfl (Sub.keep 1 rfl (Sub.keep 1 rfl (Sub.keep 1 rfl (Sub.keep 1 rfl (Sub.keep 1 rfl (Sub.keep 1 rfl (Sub.keep 1 rfl (Sub.keep 1 rfl (Sub.keep 1 rfl (Sub.nil _))))))))))), ?_⟩
              refine D.eff hwf (e := 5) rfl rfl rfl rfl (Ef.append (xs := ([⟨r1A, r1.length, r1c⟩] : List Sl)) (ys := ((tops out).drop k)) 0 rfl Try.underlying34 inf30 rfl rfl rfl rfl rfl (by first | (simp only [List.length_take, List.length_drop]; done) | (simp only [List.length_take, List.length_drop]; omega)) (by split <;> simp [hoS]) (fun w hw => ((Ld.own 4 (by exact rfl)) w hw).drop rfl (Own.cap hw (i := 4) (by exact rfl))) (by simp only [List.length_drop, List.length_take, List.length_append, List.length_cons, List.length_nil] at *; omega) (by decide)) rfl rfl rfl ?_
              rintro _ _ ⟨A6, k3, rfl, rfl, hA6⟩ hs
              replace hA6 := hA6 (.inl hA5)
              refine ⟨fun w hw => hw.sub (Sub.keep 1 rfl (Sub.keep 1 rfl (Sub.keep 1 rfl (Sub.keep 1 rfl (Sub.keep 1 rfl (Sub.keep 1 rfl (Sub.keep 1 rfl (Sub.keep 1 rfl (Sub.keep 1 rfl (Sub.keep 1 rfl (Sub.nil _))))))))))), ?_⟩
              refine D.p 6 rfl rfl rfl rfl rfl rfl (Pu.assign rfl rfl) ?_
              refine D.done hwf rfl ?_
              refine X.next ?_
              refine V.fact (fun w hw => Own.cap hw (i := 4) rfl) (fun hcap => ?_)
              refine V.region ?_
              refine O.e rfl rfl rfl (Ef.build (SyC (v : Int)) ([] : List Sl) rfl Try.underlying34 inf30 rfl rfl rfl (by first | decide | (simp; done)) (by kernel_rfl)) ?_
              rintro _ _ ⟨A7, hA7, rfl, rfl⟩
              refine O.p rfl rfl rfl (Pu.move rfl rfl) ?_
              refine O.p rfl rfl rfl (Pu.move rfl rfl) ?_
              refine O.p rfl rfl rfl (Pu.sliceH k rfl Try.underlying34 sz30 rfl rfl (by omega) (by omega)) ?_
              refine O.e rfl rfl rfl (Ef.append (xs := ([] : List Sl)) (ys := ((tops out).take k)) 0 rfl Try.underlying34 inf30 rfl rfl rfl rfl rfl (by first | (simp only [List.length_take, List.length_drop]; done) | (simp only [List.length_take, List.length_drop]; omega)) hoS (fun w hw => ((Ld.own 5 (by exact rfl)) w hw).take k) (by simp only [List.length_drop, List.length_take, List.length_append, List.length_cons, List.length_nil] at *; omega) (by decide)) ?_
              rintro _ _ ⟨A8, k4, rfl, rfl, hA8⟩
              replace hA8 := hA8 (.inl hA7)
              refine O.p rfl rfl rfl (Pu.move rfl rfl) ?_
              refine O.e rfl rfl rfl (Ef.append (xs := (([] : List Sl) ++ ((tops out).take k))) (ys := (([⟨r1A, r1.length, r1c⟩] : List Sl) ++ ((tops out).drop k))) 0 rfl Try.underlying34 inf30 rfl rfl rfl rfl rfl rfl hA6 (Ld.own 1 (by exact rfl)) (by simp only [List.length_drop, List.length_take, List.length_append, List.length_cons, List.length_nil] at *; omega) (by decide)) ?_
              rintro _ _ ⟨A9, k5, rfl, rfl, hA9⟩
              replace hA9 := hA9 (.inl hA8)
              refine O.p rfl rfl rfl (Pu.assign rfl rfl) ?_
              refine O.nil ?_
              refine X.blockNormal ?_
              refine X.next ?_
              refine V.region ?_
              refine O.p rfl rfl rfl (Pu.move rfl rfl) ?_
              refine O.p rfl rfl rfl (Pu.add64 (r := ((i + 1 : Nat) : Int)) rfl (by omega) rfl rfl rfl) ?_
              refine O.p rfl rfl rfl (Pu.assign rfl rfl) ?_
              refine O.nil ?_
              refine X.map (fun w hw => snoc_heap (D := SyC (v : Int)) (ps := out) (xs := r1) (B := r1A) (d := r1c) (hw.sub (Sub.cons 0 rfl (fun w F h => by rw [List.take_of_length_le (by omega), List.drop_of_length_le (by omega)] at h; exact h) (Sub.keep 5 rfl (Sub.keep 1 rfl (Sub.keep 0 rfl (Sub.keep 0 rfl (Sub.keep 0 rfl (Sub.keep 0 rfl (Sub.keep 0 rfl (Sub.keep 0 rfl (Sub.keep 0 rfl (Sub.keep 0 rfl (Sub.keep 0 rfl (Sub.nil _))))))))))))))) ?_
              exact X.back3 (A9, k5, (out ++ [((⟨r1A, r1.length, r1c⟩ : Sl), r1)]), i + 1) (by (try dsimp only); exact ⟨by omega, by rw [conts_append, ho, take_snoc (by omega)]; simp [conts, hre], by assumption⟩) (by first | omega | (dsimp only; omega)) (Ent.cons' rfl (by simp [tops]; omega) (Ent.cons rfl (Ent.nil _))) (Ent.cons (t := 2) rfl (Ent.cons (t := 5) rfl (Ent.nil _))) (Sub.keep 0 rfl (Sub.keep 0 rfl (Sub.keep 4 rfl (Sub.keep 4 rfl (Sub.keep 4 rfl (Sub.keep 4 rfl (Sub.keep 4 rfl (Sub.nil _))))))))
          · skip
            refine D.gs 3 rfl rfl rfl rfl rfl rfl rfl rfl rfl ?_
            refine D.gs 4 rfl rfl rfl rfl rfl rfl rfl rfl rfl ?_
            refine D.gs 5 rfl rfl rfl rfl rfl rfl rfl rfl rfl ?_
            refine D.gs 6 rfl rfl rfl rfl rfl rfl rfl rfl rfl ?_
            refine D.gs 7 rfl rfl rfl rfl rfl rfl rfl rfl rfl ?_
            refine D.gs 8 rfl rfl rfl rfl rfl rfl rfl rfl rfl ?_
            refine D.gs 9 rfl rfl rfl rfl rfl rfl rfl rfl rfl ?_
            refine D.gs 10 rfl rfl rfl rfl rfl rfl rfl rfl rfl ?_
            refine D.gs 11 rfl rfl rfl rfl rfl rfl rfl rfl rfl ?_
            refine D.p 12 rfl rfl rfl rfl rfl rfl (Pu.pickF rfl rfl rfl) ?_
            refine D.done hwf rfl ?_
            refine X.next ?_
            refine V.condF rfl ?_
            refine V.exit ?_
            refine X.thenExit ?_
            refine X.thenExit ?_
            refine X.blockHit ?_
            refine X.next ?_
            refine V.seq ?_
            refine V.draw mo (by kernel_rfl) (fun hwf => ?_)
            refine D.p 0 rfl rfl rfl rfl rfl rfl (Pu.loadAgg rfl ag30 sz30 rfl rfl (Ld.whole 1 rfl)) ?_
            refine D.p 2 rfl rfl rfl rfl rfl rfl (Pu.move rfl rfl) ?_
            refine D.p 3 rfl rfl rfl rfl rfl rfl (Pu.move rfl rfl) ?_
            refine D.p 4 rfl rfl rfl rfl rfl rfl (Pu.sliceL k rfl Try.underlying34 sz30 rfl rfl (by omega) (by omega)) ?_
            refine D.eff hwf (e := 1) rfl rfl rfl rfl (Ef.build (SyC (↑v : Int)) ([⟨r1A, r1.length, r1c⟩] : List Sl) rfl Try.underlying34 inf30 rfl rfl rfl (by first | decide | (simp; done)) (by kernel_rfl)) rfl rfl rfl ?_
            rintro _ _ ⟨A10, hA10, rfl, rfl⟩ hs
            refine ⟨fun w hw => hw.sub (Sub.keep 1 rfl (Sub.keep 1 rfl (Sub.keep 1 rfl (Sub.keep 1 rfl (Sub.keep 1 rfl (Sub.keep 1 rfl (Sub.keep 1 rfl (Sub.keep 1 rfl (Sub.keep 1 rfl (Sub.keep 1 rfl (Sub.nil _))))))))))), ?_⟩
            refine D.eff hwf (e := 5) rfl rfl rfl rfl (Ef.append (xs := ([⟨r1A, r1.length, r1c⟩] : List Sl)) (ys := ((tops out).drop k)) 0 rfl Try.underlying34 inf30 rfl rfl rfl rfl rfl (by first | (simp only [List.length_take, List.length_drop]; done) | (simp only [List.length_take, List.length_drop]; omega)) (by split <;> simp [hoS]) (fun w hw => ((Ld.own 4 (by exact rfl)) w hw).drop rfl (Own.cap hw (i := 4) (by exact rfl))) (by simp only [List.length_drop, List.length_take, List.length_append, List.length_cons, List.length_nil] at *; omega) (by decide)) rfl rfl rfl ?_
            rintro _ _ ⟨A11, k6, rfl, rfl, hA11⟩ hs
            replace hA11 := hA11 (.inl hA10)
            refine ⟨fun w hw => hw.sub (Sub.keep 1 rfl (Sub.keep 1 rfl (Sub.keep 1 rfl (Sub.keep 1 rfl (Sub.keep 1 rfl (Sub.keep 1 rfl (Sub.keep 1 rfl (Sub.keep 1 rfl (Sub.keep 1 rfl (Sub.keep 1 rfl (Sub.nil _))))))))))), ?_⟩
            refine D.p 6 rfl rfl rfl rfl rfl rfl (Pu.assign rfl rfl) ?_
            refine D.done hwf rfl ?_
            refine X.next ?_
            refine V.fact (fun w hw => Own.cap hw (i := 4) rfl) (fun hcap => ?_)
            refine V.region ?_
            refine O.e rfl rfl rfl (Ef.build (SyC (v : Int)) ([] : List Sl) rfl Try.underlying34 inf30 rfl rfl rfl (by first | decide | (simp; done)) (by kernel_rfl)) ?_
            rintro _ _ ⟨A12, hA12, rfl, rfl⟩
            refine O.p rfl rfl rfl (Pu.move rfl rfl) ?_
            refine O.p rfl rfl rfl (Pu.move rfl rfl) ?_
            refine O.p rfl rfl rfl (Pu.sliceH k rfl Try.underlying34 sz30 rfl rfl (by omega) (by omega)) ?_
            refine O.e rfl rfl rfl (Ef.append (xs := ([] : List Sl)) (ys := ((tops out).take k)) 0 rfl Try.underlying34 inf30 rfl rfl rfl rfl rfl (by first | (simp only [List.length_take, List.length_drop]; done) | (simp only [List.length_take, List.length_drop]; omega)) hoS (fun w hw => ((Ld.own 5 (by exact rfl)) w hw).take k) (by simp only [List.length_drop, List.length_take, List.length_append, List.length_cons, List.length_nil] at *; omega) (by decide)) ?_
            rintro _ _ ⟨A13, k7, rfl, rfl, hA13⟩
            replace hA13 := hA13 (.inl hA12)
            refine O.p rfl rfl rfl (Pu.move rfl rfl) ?_
            refine O.e rfl rfl rfl (Ef.append (xs := (([] : List Sl) ++ ((tops out).take k))) (ys := (([⟨r1A, r1.length, r1c⟩] : List Sl) ++ ((tops out).drop k))) 0 rfl Try.underlying34 inf30 rfl rfl rfl rfl rfl rfl hA11 (Ld.own 1 (by exact rfl)) (by simp only [List.length_drop, List.length_take, List.length_append, List.length_cons, List.length_nil] at *; omega) (by decide)) ?_
            rintro _ _ ⟨A14, k8, rfl, rfl, hA14⟩
            replace hA14 := hA14 (.inl hA13)
            refine O.p rfl rfl rfl (Pu.assign rfl rfl) ?_
            refine O.nil ?_
            refine X.blockNormal ?_
            refine X.next ?_
            refine V.region ?_
            refine O.p rfl rfl rfl (Pu.move rfl rfl) ?_
            refine O.p rfl rfl rfl (Pu.add64 (r := ((i + 1 : Nat) : Int)) rfl (by omega) rfl rfl rfl) ?_
            refine O.p rfl rfl rfl (Pu.assign rfl rfl) ?_
            refine O.nil ?_
            refine X.map (fun w hw => snoc_heap (D := SyC (v : Int)) (ps := out) (xs := r1) (B := r1A) (d := r1c) (hw.sub (Sub.cons 0 rfl (fun w F h => by rw [List.take_of_length_le (by omega), List.drop_of_length_le (by omega)] at h; exact h) (Sub.keep 5 rfl (Sub.keep 1 rfl (Sub.keep 0 rfl (Sub.keep 0 rfl (Sub.keep 0 rfl (Sub.keep 0 rfl (Sub.keep 0 rfl (Sub.keep 0 rfl (Sub.keep 0 rfl (Sub.keep 0 rfl (Sub.keep 0 rfl (Sub.nil _))))))))))))))) ?_
            exact X.back3 (A14, k8, (out ++ [((⟨r1A, r1.length, r1c⟩ : Sl), r1)]), i + 1) (by (try dsimp only); exact ⟨by omega, by rw [conts_append, ho, take_snoc (by omega)]; simp [conts, hre], by assumption⟩) (by first | omega | (dsimp only; omega)) (Ent.cons' rfl (by simp [tops]; omega) (Ent.cons rfl (Ent.nil _))) (Ent.cons (t := 2) rfl (Ent.cons (t := 5) rfl (Ent.nil _))) (Sub.keep 0 rfl (Sub.keep 0 rfl (Sub.keep 4 rfl (Sub.keep 4 rfl (Sub.keep 4 rfl (Sub.keep 4 rfl (Sub.keep 4 rfl (Sub.nil _))))))))
      · skip
        refine ⟨_, _, rfl, rfl, fun _ _ => wanted_none rfl _, Ef.alloc rfl zr30 rfl, rfl, rfl, ?_⟩
        rintro _ _ ⟨b2, rfl, rfl⟩ hs
        refine ⟨fun w hw => hw.sub (Sub.keep 2 rfl (Sub.keep 2 rfl (Sub.keep 2 rfl (Sub.keep 2 rfl (Sub.keep 2 rfl (Sub.keep 2 rfl (Sub.keep 2 rfl (Sub.nil _)))))))), ?_⟩
        refine D.eff hwf (e := 5) rfl rfl rfl rfl (Ef.append (xs := ([] : List B3)) (ys := ([] : List B3)) 1 rfl Try.underlying28 inf67 rfl rfl rfl rfl rfl rfl hAS (fun w hw => Rd.nil _ _ _) (by simp only [List.length_append, List.length_cons, List.length_nil] at *; omega) (by decide)) rfl rfl rfl ?_
        rintro _ _ ⟨A3, k1, rfl, rfl, hA3⟩ hs
        replace hA3 := hA3 (.inl hA2)
        refine ⟨fun w hw => hw.sub (Sub.keep 2 rfl (Sub.keep 2 rfl (Sub.keep 2 rfl (Sub.keep 2 rfl (Sub.keep 2 rfl (Sub.keep 2 rfl (Sub.keep 2 rfl (Sub.nil _)))))))), ?_⟩
        refine D.eff hwf (e := 10) rfl rfl rfl rfl (Ef.append (xs := (([] : List B3) ++ ([] : List B3))) (ys := (ps1[i]'ei).2) 1 rfl Try.underlying28 inf67 rfl rfl rfl rfl rfl rfl (hsom1 _ (List.getElem_mem ei)) (Ld.rows 7 (by exact rfl) ei) (by simp only [List.length_append, List.length_cons, List.length_nil] at *; omega) (by decide)) rfl rfl rfl ?_
        rintro _ _ ⟨A4, k2, rfl, rfl, hA4⟩ hs
        replace hA4 := hA4 (.inl hA3)
        refine ⟨fun w hw => hw.sub (Sub.keep 2 rfl (Sub.keep 2 rfl (Sub.keep 2 rfl (Sub.keep 2 rfl (Sub.keep 2 rfl (Sub.keep 2 rfl (Sub.keep 2 rfl (Sub.nil _)))))))), ?_⟩
        refine D.eff hwf (e := 11) rfl rfl rfl rfl (Ef.call1 call91 rfl rfl (fun w hw => l01Made_ok  (↑v : Int) ((([] : List B3) ++ ([] : List B3)) ++ (ps1[i]'ei).2) _ _ w ((Ld.own 1 (by exact rfl)) w hw) (by simp only [List.nil_append]; omega) (by simp only [List.nil_append]; omega))) rfl rfl rfl ?_
        rintro _ _ rfl hs
        refine ⟨fun w hw => hs w hw.tail, ?_⟩
        refine D.exi (fun r1A => ?_)
        refine D.exi (fun r1c => ?_)
        refine D.exi (fun r1 => ?_)
        refine D.sep ?_
        refine D.pur1 ?_
        rintro ⟨rfl, hr1_1, hr1_2⟩
        have hre : r1 = (ps1[i]'ei).2 := srtB_unique hr1_2 (srtB_lt (hsrt _ (List.mem_map_of_mem (List.getElem_mem ei)))) (by simpa using hr1_1)
        have hrl : 3 * r1.length = leftN v 0 := by rw [hre]; exact hil
        refine D.eff hwf (e := 13) rfl rfl rfl rfl (Ef.storeAll 1 rfl sz30 rfl rfl rfl rfl (by simp [Value.oneCell']) rfl) rfl rfl rfl ?_
        rintro _ _ rfl hs
        refine ⟨fun w hw => hw.sub (Sub.keep 3 rfl (Sub.keep 3 rfl (Sub.keep 3 rfl (Sub.keep 3 rfl (Sub.keep 3 rfl (Sub.keep 3 rfl (Sub.keep 3 rfl (Sub.nil _)))))))), ?_⟩
        refine D.done hwf rfl ?_
        refine X.next ?_
        refine V.seq ?_
        refine V.region ?_
        refine O.p rfl rfl rfl (Pu.move rfl rfl) ?_
        refine O.p rfl rfl rfl (Pu.len rfl Try.underlying34 rfl) ?_
        refine O.p rfl rfl rfl (Pu.assign rfl rfl) ?_
        refine O.nil ?_
        refine X.next ?_
        refine V.seq ?_
        refine V.block ?_
        refine V.loop3 (β := Nat) (fun k => [(9, .int .i64 (k : Int))]) _ (fun k => []) _ (fun k => k = out.length) (fun k => k) ((tops out).length) htl_out (Ent.cons rfl (Ent.nil _)) (Ent.cons (t := 2) rfl (Ent.cons (t := 5) rfl (Ent.cons (t := 6) rfl (Ent.cons (t := 7) rfl (Ent.cons (t := 8) rfl (Ent.nil _)))))) (Sub.keep 0 rfl (Sub.keep 0 rfl (Sub.keep 0 rfl (Sub.keep 0 rfl (Sub.keep 0 rfl (Sub.keep 0 rfl (Sub.keep 0 rfl (Sub.keep 0 rfl (Sub.keep 0 rfl (Sub.keep 0 rfl (Sub.nil _))))))))))) ?_
        rintro k hk
        refine V.seq ?_
        refine V.seq ?_
        refine V.draw mo (by kernel_rfl) (fun hwf => ?_)
        refine D.p 0 rfl rfl rfl rfl rfl rfl (Pu.move rfl rfl) ?_
        refine D.p 1 rfl rfl rfl rfl rfl rfl (Pu.gtr rfl rfl rfl) ?_
        refine D.p 2 rfl rfl rfl rfl rfl rfl (Pu.move rfl rfl) ?_
        refine D.splitD 40 rfl (fun c2 => ?_) (fun c2 => ?_)
        · skip
          have hk1 : k - 1 < out.length := by omega
          have hlk := hlo (k - 1) hk1
          refine D.gp 3 rfl rfl rfl rfl rfl rfl rfl rfl (Pu.fieldAddr 1 rfl Try.underlying30 rfl sz28 rfl rfl) ?_
          refine D.gp 4 rfl rfl rfl rfl rfl rfl rfl rfl (Pu.load rfl pl28 rfl (Ld.blk 1 rfl rfl)) ?_
          refine D.gp 5 rfl rfl rfl rfl rfl rfl rfl rfl (Pu.move rfl rfl) ?_
          refine D.gp 6 rfl rfl rfl rfl rfl rfl rfl rfl (Pu.move rfl rfl) ?_
          refine D.gp 7 rfl rfl rfl rfl rfl rfl rfl rfl (Pu.sub64 (r := ((k - 1 : Nat) : Int)) (by omega) (by omega) rfl rfl rfl) ?_
          refine D.gp 8 rfl rfl rfl rfl rfl rfl rfl rfl (Pu.indexAddrS (k - 1) rfl Try.underlying34 sz30 rfl rfl (by omega) (by omega) (fun w hw => Own.some hw (i := 3) (by exact rfl) (by omega))) ?_
          refine D.gp 9 rfl rfl rfl rfl rfl rfl rfl rfl (Pu.fieldAddr' rfl Try.underlying30 rfl sz28 rfl rfl (fun w hw => by have := Rd.some ((Ld.own 3 (by exact rfl)) w hw) (by omega); simpa using this)) ?_
          have e1 : k - 1 < out.length := by have := tops_len out; omega
          refine D.gp 10 rfl rfl rfl rfl rfl rfl rfl rfl (Pu.load rfl pl28 rfl (Ld.rowYf (Ld.own 3 (by exact rfl)) hn_out e1 rfl)) ?_
          refine D.geff hwf (e := 11) rfl rfl rfl rfl rfl rfl (Ef.callP call92 rfl rfl (fun w hw => l08Before_ok  r1 ((out[k - 1]'e1).2) _ _ _ _ w ((Ld.own 0 (by exact rfl)) w hw) ((Ld.rows 4 (by exact rfl) e1) w hw) (by omega) (by omega) (by omega))) rfl rfl rfl ?_
          rintro _ _ ⟨rfl, rfl⟩ hs
          refine ⟨fun w hw => hw, ?_⟩
          refine D.p 12 rfl rfl rfl rfl rfl rfl (Pu.pickT rfl rfl rfl) ?_
          refine D.done hwf rfl ?_
          refine X.next ?_
          refine V.condD rfl (fun c3 => ?_) (fun c3 => ?_)
          · skip
            exact (befB_asymm c3 (by rw [hre]; exact prev_bef hpw ho ei hk1 (by omega))).elim
          · skip
            refine V.exit ?_
            refine X.thenExit ?_
            refine X.thenExit ?_
            refine X.blockHit ?_
            refine X.next ?_
            refine V.seq ?_
            refine V.draw mo (by kernel_rfl) (fun hwf => ?_)
            refine D.p 0 rfl rfl rfl rfl rfl rfl (Pu.loadAgg rfl ag30 sz30 rfl rfl (Ld.whole 1 rfl)) ?_
            refine D.p 2 rfl rfl rfl rfl rfl rfl (Pu.move rfl rfl) ?_
            refine D.p 3 rfl rfl rfl rfl rfl rfl (Pu.move rfl rfl) ?_
            refine D.p 4 rfl rfl rfl rfl rfl rfl (Pu.sliceL k rfl Try.underlying34 sz30 rfl rfl (by omega) (by omega)) ?_
            refine D.eff hwf (e := 1) rfl rfl rfl rfl (Ef.build (SyC (↑v : Int)) ([⟨r1A, r1.length, r1c⟩] : List Sl) rfl Try.underlying34 inf30 rfl rfl rfl (by first | decide | (simp; done)) (by kernel_rfl)) rfl rfl rfl ?_
            rintro _ _ ⟨A5, hA5, rfl, rfl⟩ hs
            refine ⟨fun w hw => hw.sub (Sub.keep 1 rfl (Sub.keep 1 rfl (Sub.keep 1 rfl (Sub.keep 1 rfl (Sub.keep 1 rfl (Sub.keep 1 rfl (Sub.keep 1 rfl (Sub.keep 1 rfl (Sub.keep 1 rfl (Sub.keep 1 rfl (Sub.nil _))))))))))), ?_⟩
            refine D.eff hwf (e := 5) rfl rfl rfl rfl (Ef.append (xs := ([⟨r1A, r1.length, r1c⟩] : List Sl)) (ys := ((tops out).drop k)) 0 rfl Try.underlying34 inf30 rfl rfl rfl rfl rfl (by first | (simp only [List.length_take, List.length_drop]; done) | (simp only [List.length_take, List.length_drop]; omega)) (by split <;> simp [hoS]) (fun w hw => ((Ld.own 4 (by exact rfl)) w hw).drop rfl (Own.cap hw (i := 4) (by exact rfl))) (by simp only [List.length_drop, List.length_take, List.length_append, List.length_cons, List.length_nil] at *; omega) (by decide)) rfl rfl rfl ?_
            rintro _ _ ⟨A6, k3, rfl, rfl, hA6⟩ hs
            replace hA6 := hA6 (.inl hA5)
            refine ⟨fun w hw => hw.sub (Sub.keep 1 rfl (Sub.keep 1 rfl (Sub.keep 1 rfl (Sub.keep 1 rfl (Sub.keep 1 rfl (Sub.keep 1 rfl (Sub.keep 1 rfl (Sub.keep 1 rfl (Sub.keep 1 rfl (Sub.keep 1 rfl (Sub.nil _))))))))))), ?_⟩
            refine D.p 6 rfl rfl rfl rfl rfl rfl (Pu.assign rfl rfl) ?_
            refine D.done hwf rfl ?_
            refine X.next ?_
            refine V.fact (fun w hw => Own.cap hw (i := 4) rfl) (fun hcap => ?_)
            refine V.region ?_
            refine O.e rfl rfl rfl (Ef.build (SyC (v : Int)) ([] : List Sl) rfl Try.underlying34 inf30 rfl rfl rfl (by first | decide | (simp; done)) (by kernel_rfl)) ?_
            rintro _ _ ⟨A7, hA7, rfl, rfl⟩
            refine O.p rfl rfl rfl (Pu.move rfl rfl) ?_
            refine O.p rfl rfl rfl (Pu.move rfl rfl) ?_
            refine O.p rfl rfl rfl (Pu.sliceH k rfl Try.underlying34 sz30 rfl rfl (by omega) (by omega)) ?_
            refine O.e rfl rfl rfl (Ef.append (xs := ([] : List Sl)) (ys := ((tops out).take k)) 0 rfl Try.underlying34 inf30 rfl rfl rfl rfl rfl (by first | (simp only [List.length_take, List.length_drop]; done) | (simp only [List.length_take, List.length_drop]; omega)) hoS (fun w hw => ((Ld.own 5 (by exact rfl)) w hw).take k) (by simp only [List.length_drop, List.length_take, List.length_append, List.length_cons, List.length_nil] at *; omega) (by decide)) ?_
            rintro _ _ ⟨A8, k4, rfl, rfl, hA8⟩
            replace hA8 := hA8 (.inl hA7)
            refine O.p rfl rfl rfl (Pu.move rfl rfl) ?_
            refine O.e rfl rfl rfl (Ef.append (xs := (([] : List Sl) ++ ((tops out).take k))) (ys := (([⟨r1A, r1.length, r1c⟩] : List Sl) ++ ((tops out).drop k))) 0 rfl Try.underlying34 inf30 rfl rfl rfl rfl rfl rfl hA6 (Ld.own 1 (by exact rfl)) (by simp only [List.length_drop, List.length_take, List.length_append, List.length_cons, List.length_nil] at *; omega) (by decide)) ?_
            rintro _ _ ⟨A9, k5, rfl, rfl, hA9⟩
            replace hA9 := hA9 (.inl hA8)
            refine O.p rfl rfl rfl (Pu.assign rfl rfl) ?_
            refine O.nil ?_
            refine X.blockNormal ?_
            refine X.next ?_
            refine V.region ?_
            refine O.p rfl rfl rfl (Pu.move rfl rfl) ?_
            refine O.p rfl rfl rfl (Pu.add64 (r := ((i + 1 : Nat) : Int)) rfl (by omega) rfl rfl rfl) ?_
            refine O.p rfl rfl rfl (Pu.assign rfl rfl) ?_
            refine O.nil ?_
            refine X.map (fun w hw => snoc_heap (D := SyC (v : Int)) (ps := out) (xs := r1) (B := r1A) (d := r1c) (hw.sub (Sub.cons 0 rfl (fun w F h => by rw [List.take_of_length_le (by omega), List.drop_of_length_le (by omega)] at h; exact h) (Sub.keep 5 rfl (Sub.keep 1 rfl (Sub.keep 0 rfl (Sub.keep 0 rfl (Sub.keep 0 rfl (Sub.keep 0 rfl (Sub.keep 0 rfl (Sub.keep 0 rfl (Sub.keep 0 rfl (Sub.keep 0 rfl (Sub.keep 0 rfl (Sub.nil _))))))))))))))) ?_
            exact X.back3 (A9, k5, (out ++ [((⟨r1A, r1.length, r1c⟩ : Sl), r1)]), i + 1) (by (try dsimp only); exact ⟨by omega, by rw [conts_append, ho, take_snoc (by omega)]; simp [conts, hre], by assumption⟩) (by first | omega | (dsimp only; omega)) (Ent.cons' rfl (by simp [tops]; omega) (Ent.cons rfl (Ent.nil _))) (Ent.cons (t := 2) rfl (Ent.cons (t := 5) rfl (Ent.nil _))) (Sub.keep 0 rfl (Sub.keep 0 rfl (Sub.keep 4 rfl (Sub.keep 4 rfl (Sub.keep 4 rfl (Sub.keep 4 rfl (Sub.keep 4 rfl (Sub.nil _))))))))
        · skip
          refine D.gs 3 rfl rfl rfl rfl rfl rfl rfl rfl rfl ?_
          refine D.gs 4 rfl rfl rfl rfl rfl rfl rfl rfl rfl ?_
          refine D.gs 5 rfl rfl rfl rfl rfl rfl rfl rfl rfl ?_
          refine D.gs 6 rfl rfl rfl rfl rfl rfl rfl rfl rfl ?_
          refine D.gs 7 rfl rfl rfl rfl rfl rfl rfl rfl rfl ?_
          refine D.gs 8 rfl rfl rfl rfl rfl rfl rfl rfl rfl ?_
          refine D.gs 9 rfl rfl rfl rfl rfl rfl rfl rfl rfl ?_
          refine D.gs 10 rfl rfl rfl rfl rfl rfl rfl rfl rfl ?_
          refine D.gs 11 rfl rfl rfl rfl rfl rfl rfl rfl rfl ?_
          refine D.p 12 rfl rfl rfl rfl rfl rfl (Pu.pickF rfl rfl rfl) ?_
          refine D.done hwf rfl ?_
          refine X.next ?_
          refine V.condF rfl ?_
          refine V.exit ?_
          refine X.thenExit ?_
          refine X.thenExit ?_
          refine X.blockHit ?_
          refine X.next ?_
          refine V.seq ?_
          refine V.draw mo (by kernel_rfl) (fun hwf => ?_)
          refine D.p 0 rfl rfl rfl rfl rfl rfl (Pu.loadAgg rfl ag30 sz30 rfl rfl (Ld.whole 1 rfl)) ?_
          refine D.p 2 rfl rfl rfl rfl rfl rfl (Pu.move rfl rfl) ?_
          refine D.p 3 rfl rfl rfl rfl rfl rfl (Pu.move rfl rfl) ?_
          refine D.p 4 rfl rfl rfl rfl rfl rfl (Pu.sliceL k rfl Try.underlying34 sz30 rfl rfl (by omega) (by omega)) ?_
          refine D.eff hwf (e := 1) rfl rfl rfl rfl (Ef.build (SyC (↑v : Int)) ([⟨r1A, r1.length, r1c⟩] : List Sl) rfl Try.underlying34 inf30 rfl rfl rfl (by first | decide | (simp; done)) (by kernel_rfl)) rfl rfl rfl ?_
          rintro _ _ ⟨A10, hA10, rfl, rfl⟩ hs
          refine ⟨fun w hw => hw.sub (Sub.keep 1 rfl (Sub.keep 1 rfl (Sub.keep 1 rfl (Sub.keep 1 rfl (Sub.keep 1 rfl (Sub.keep 1 rfl (Sub.keep 1 rfl (Sub.keep 1 rfl (Sub.keep 1 rfl (Sub.keep 1 rfl (Sub.nil _))))))))))), ?_⟩
          refine D.eff hwf (e := 5) rfl rfl rfl rfl (Ef.append (xs := ([⟨r1A, r1.length, r1c⟩] : List Sl)) (ys := ((tops out).drop k)) 0 rfl Try.underlying34 inf30 rfl rfl rfl rfl rfl (by first | (simp only [List.length_take, List.length_drop]; done) | (simp only [List.length_take, List.length_drop]; omega)) (by split <;> simp [hoS]) (fun w hw => ((Ld.own 4 (by exact rfl)) w hw).drop rfl (Own.cap hw (i := 4) (by exact rfl))) (by simp only [List.length_drop, List.length_take, List.length_append, List.length_cons, List.length_nil] at *; omega) (by decide)) rfl rfl rfl ?_
          rintro _ _ ⟨A11, k6, rfl, rfl, hA11⟩ hs
          replace hA11 := hA11 (.inl hA10)
          refine ⟨fun w hw => hw.sub (Sub.keep 1 rfl (Sub.keep 1 rfl (Sub.keep 1 rfl (Sub.keep 1 rfl (Sub.keep 1 rfl (Sub.keep 1 rfl (Sub.keep 1 rfl (Sub.keep 1 rfl (Sub.keep 1 rfl (Sub.keep 1 rfl (Sub.nil _))))))))))), ?_⟩
          refine D.p 6 rfl rfl rfl rfl rfl rfl (Pu.assign rfl rfl) ?_
          refine D.done hwf rfl ?_
          refine X.next ?_
          refine V.fact (fun w hw => Own.cap hw (i := 4) rfl) (fun hcap => ?_)
          refine V.region ?_
          refine O.e rfl rfl rfl (Ef.build (SyC (v : Int)) ([] : List Sl) rfl Try.underlying34 inf30 rfl rfl rfl (by first | decide | (simp; done)) (by kernel_rfl)) ?_
          rintro _ _ ⟨A12, hA12, rfl, rfl⟩
          refine O.p rfl rfl rfl (Pu.move rfl rfl) ?_
          refine O.p rfl rfl rfl (Pu.move rfl rfl) ?_
          refine O.p rfl rfl rfl (Pu.sliceH k rfl Try.underlying34 sz30 rfl rfl (by omega) (by omega)) ?_
          refine O.e rfl rfl rfl (Ef.append (xs := ([] : List Sl)) (ys := ((tops out).take k)) 0 rfl Try.underlying34 inf30 rfl rfl rfl rfl rfl (by first | (simp only [List.length_take, List.length_drop]; done) | (simp only [List.length_take, List.length_drop]; omega)) hoS (fun w hw => ((Ld.own 5 (by exact rfl)) w hw).take k) (by simp only [List.length_drop, List.length_take, List.length_append, List.length_cons, List.length_nil] at *; omega) (by decide)) ?_
          rintro _ _ ⟨A13, k7, rfl, rfl, hA13⟩
          replace hA13 := hA13 (.inl hA12)
          refine O.p rfl rfl rfl (Pu.move rfl rfl) ?_
          refine O.e rfl rfl rfl (Ef.append (xs := (([] : List Sl) ++ ((tops out).take k))) (ys := (([⟨r1A, r1.length, r1c⟩] : List Sl) ++ ((tops out).drop k))) 0 rfl Try.underlying34 inf30 rfl rfl rfl rfl rfl rfl hA11 (Ld.own 1 (by exact rfl)) (by simp only [List.length_drop, List.length_take, List.length_append, List.length_cons, List.length_nil] at *; omega) (by decide)) ?_
          rintro _ _ ⟨A14, k8, rfl, rfl, hA14⟩
          replace hA14 := hA14 (.inl hA13)
          refine O.p rfl rfl rfl (Pu.assign rfl rfl) ?_
          refine O.nil ?_
          refine X.blockNormal ?_
          refine X.next ?_
          refine V.region ?_
          refine O.p rfl rfl rfl (Pu.move rfl rfl) ?_
          refine O.p rfl rfl rfl (Pu.add64 (r := ((i + 1 : Nat) : Int)) rfl (by omega) rfl rfl rfl) ?_
          refine O.p rfl rfl rfl (Pu.assign rfl rfl) ?_
          refine O.nil ?_
          refine X.map (fun w hw => snoc_heap (D := SyC (v : Int)) (ps := out) (xs := r1) (B := r1A) (d := r1c) (hw.sub (Sub.cons 0 rfl (fun w F h => by rw [List.take_of_length_le (by omega), List.drop_of_length_le (by omega)] at h; exact h) (Sub.keep 5 rfl (Sub.keep 1 rfl (Sub.keep 0 rfl (Sub.keep 0 rfl (Sub.keep 0 rfl (Sub.keep 0 rfl (Sub.keep 0 rfl (Sub.keep 0 rfl (Sub.keep 0 rfl (Sub.keep 0 rfl (Sub.keep 0 rfl (Sub.nil _))))))))))))))) ?_
          exact X.back3 (A14, k8, (out ++ [((⟨r1A, r1.length, r1c⟩ : Sl), r1)]), i + 1) (by (try dsimp only); exact ⟨by omega, by rw [conts_append, ho, take_snoc (by omega)]; simp [conts, hre], by assumption⟩) (by first | omega | (dsimp only; omega)) (Ent.cons' rfl (by simp [tops]; omega) (Ent.cons rfl (Ent.nil _))) (Ent.cons (t := 2) rfl (Ent.cons (t := 5) rfl (Ent.nil _))) (Sub.keep 0 rfl (Sub.keep 0 rfl (Sub.keep 4 rfl (Sub.keep 4 rfl (Sub.keep 4 rfl (Sub.keep 4 rfl (Sub.keep 4 rfl (Sub.nil _))))))))
    · skip
      refine ⟨_, _, rfl, rfl, fun _ _ => wanted_none rfl _, Ef.alloc rfl zr30 rfl, rfl, rfl, ?_⟩
      rintro _ _ ⟨b2, rfl, rfl⟩ hs
      refine ⟨fun w hw => hw.sub (Sub.keep 1 rfl (Sub.keep 1 rfl (Sub.keep 1 rfl (Sub.keep 1 rfl (Sub.keep 1 rfl (Sub.keep 1 rfl (Sub.keep 1 rfl (Sub.nil _)))))))), ?_⟩
      refine D.eff hwf (e := 2) rfl rfl rfl rfl (Ef.build B3C ([] : List B3) rfl Try.underlying28 inf67 rfl rfl rfl (by first | decide | (simp; done)) (by kernel_rfl)) rfl rfl rfl ?_
      rintro _ _ ⟨A2, hA2, rfl, rfl⟩ hs
      refine ⟨fun w hw => hw.sub (Sub.keep 2 rfl (Sub.keep 2 rfl (Sub.keep 2 rfl (Sub.keep 2 rfl (Sub.keep 2 rfl (Sub.keep 2 rfl (Sub.keep 2 rfl (Sub.nil _)))))))), ?_⟩
      refine D.eff hwf (e := 5) rfl rfl rfl rfl (Ef.append (xs := ([] : List B3)) (ys := ([] : List B3)) 0 rfl Try.underlying28 inf67 rfl rfl rfl rfl rfl rfl hAS (fun w hw => Rd.nil _ _ _) (by simp only [List.length_append, List.length_cons, List.length_nil] at *; omega) (by decide)) rfl rfl rfl ?_
      rintro _ _ ⟨A3, k1, rfl, rfl, hA3⟩ hs
      replace hA3 := hA3 (.inl hA2)
      refine ⟨fun w hw => hw.sub (Sub.keep 2 rfl (Sub.keep 2 rfl (Sub.keep 2 rfl (Sub.keep 2 rfl (Sub.keep 2 rfl (Sub.keep 2 rfl (Sub.keep 2 rfl (Sub.nil _)))))))), ?_⟩
      refine D.eff hwf (e := 10) rfl rfl rfl rfl (Ef.append (xs := (([] : List B3) ++ ([] : List B3))) (ys := (ps1[i]'ei).2) 0 rfl Try.underlying28 inf67 rfl rfl rfl rfl rfl rfl (hsom1 _ (List.getElem_mem ei)) (Ld.rows 7 (by exact rfl) ei) (by simp only [List.length_append, List.length_cons, List.length_nil] at *; omega) (by decide)) rfl rfl rfl ?_
      rintro _ _ ⟨A4, k2, rfl, rfl, hA4⟩ hs
      replace hA4 := hA4 (.inl hA3)
      refine ⟨fun w hw => hw.sub (Sub.keep 2 rfl (Sub.keep 2 rfl (Sub.keep 2 rfl (Sub.keep 2 rfl (Sub.keep 2 rfl (Sub.keep 2 rfl (Sub.keep 2 rfl (Sub.nil _)))))))), ?_⟩
      refine D.eff hwf (e := 11) rfl rfl rfl rfl (Ef.call1 call91 rfl rfl (fun w hw => l01Made_ok  (↑v : Int) ((([] : List B3) ++ ([] : List B3)) ++ (ps1[i]'ei).2) _ _ w ((Ld.own 0 (by exact rfl)) w hw) (by simp only [List.nil_append]; omega) (by simp only [List.nil_append]; omega))) rfl rfl rfl ?_
      rintro _ _ rfl hs
      refine ⟨fun w hw => hs w hw.tail, ?_⟩
      refine D.exi (fun r1A => ?_)
      refine D.exi (fun r1c => ?_)
      refine D.exi (fun r1 => ?_)
      refine D.sep ?_
      refine D.pur1 ?_
      rintro ⟨rfl, hr1_1, hr1_2⟩
      have hre : r1 = (ps1[i]'ei).2 := srtB_unique hr1_2 (srtB_lt (hsrt _ (List.mem_map_of_mem (List.getElem_mem ei)))) (by simpa using hr1_1)
      have hrl : 3 * r1.length = leftN v 0 := by rw [hre]; exact hil
      refine D.eff hwf (e := 13) rfl rfl rfl rfl (Ef.storeAll 2 rfl sz30 rfl rfl rfl rfl (by simp [Value.oneCell']) rfl) rfl rfl rfl ?_
      rintro _ _ rfl hs
      refine ⟨fun w hw => hw.sub (Sub.keep 3 rfl (Sub.keep 3 rfl (Sub.keep 3 rfl (Sub.keep 3 rfl (Sub.keep 3 rfl (Sub.keep 3 rfl (Sub.keep 3 rfl (Sub.nil _)))))))), ?_⟩
      refine D.done hwf rfl ?_
      refine X.next ?_
      refine V.seq ?_
      refine V.region ?_
      refine O.p rfl rfl rfl (Pu.move rfl rfl) ?_
      refine O.p rfl rfl rfl (Pu.len rfl Try.underlying34 rfl) ?_
      refine O.p rfl rfl rfl (Pu.assign rfl rfl) ?_
      refine O.nil ?_
      refine X.next ?_
      refine V.seq ?_
      refine V.block ?_
      refine V.loop3 (β := Nat) (fun k => [(9, .int .i64 (k : Int))]) _ (fun k => []) _ (fun k => k = out.length) (fun k => k) ((tops out).length) htl_out (Ent.cons rfl (Ent.nil _)) (Ent.cons (t := 2) rfl (Ent.cons (t := 5) rfl (Ent.cons (t := 6) rfl (Ent.cons (t := 7) rfl (Ent.cons (t := 8) rfl (Ent.nil _)))))) (Sub.keep 0 rfl (Sub.keep 0 rfl (Sub.keep 0 rfl (Sub.keep 0 rfl (Sub.keep 0 rfl (Sub.keep 0 rfl (Sub.keep 0 rfl (Sub.keep 0 rfl (Sub.keep 0 rfl (Sub.keep 0 rfl (Sub.nil _))))))))))) ?_
      rintro k hk
      refine V.seq ?_
      refine V.seq ?_
      refine V.draw mo (by kernel_rfl) (fun hwf => ?_)
      refine D.p 0 rfl rfl rfl rfl rfl rfl (Pu.move rfl rfl) ?_
      refine D.p 1 rfl rfl rfl rfl rfl rfl (Pu.gtr rfl rfl rfl) ?_
      refine D.p 2 rfl rfl rfl rfl rfl rfl (Pu.move rfl rfl) ?_
      refine D.splitD 40 rfl (fun c2 => ?_) (fun c2 => ?_)
      · skip
        have hk1 : k - 1 < out.length := by omega
        have hlk := hlo (k - 1) hk1
        refine D.gp 3 rfl rfl rfl rfl rfl rfl rfl rfl (Pu.fieldAddr 1 rfl Try.underlying30 rfl sz28 rfl rfl) ?_
        refine D.gp 4 rfl rfl rfl rfl rfl rfl rfl rfl (Pu.load rfl pl28 rfl (Ld.blk 2 rfl rfl)) ?_
        refine D.gp 5 rfl rfl rfl rfl rfl rfl rfl rfl (Pu.move rfl rfl) ?_
        refine D.gp 6 rfl rfl rfl rfl rfl rfl rfl rfl (Pu.move rfl rfl) ?_
        refine D.gp 7 rfl rfl rfl rfl rfl rfl rfl rfl (Pu.sub64 (r := ((k - 1 : Nat) : Int)) (by omega) (by omega) rfl rfl rfl) ?_
        refine D.gp 8 rfl rfl rfl rfl rfl rfl rfl rfl (Pu.indexAddrS (k - 1) rfl Try.underlying34 sz30 rfl rfl (by omega) (by omega) (fun w hw => Own.some hw (i := 3) (by exact rfl) (by omega))) ?_
        refine D.gp 9 rfl rfl rfl rfl rfl rfl rfl rfl (Pu.fieldAddr' rfl Try.underlying30 rfl sz28 rfl rfl (fun w hw => by have := Rd.some ((Ld.own 3 (by exact rfl)) w hw) (by omega); simpa using this)) ?_
        have e1 : k - 1 < out.length := by have := tops_len out; omega
        refine D.gp 10 rfl rfl rfl rfl rfl rfl rfl rfl (Pu.load rfl pl28 rfl (Ld.rowYf (Ld.own 3 (by exact rfl)) hn_out e1 rfl)) ?_
        refine D.geff hwf (e := 11) rfl rfl rfl rfl rfl rfl (Ef.callP call92 rfl rfl (fun w hw => l08Before_ok  r1 ((out[k - 1]'e1).2) _ _ _ _ w ((Ld.own 0 (by exact rfl)) w hw) ((Ld.rows 4 (by exact rfl) e1) w hw) (by omega) (by omega) (by omega))) rfl rfl rfl ?_
        rintro _ _ ⟨rfl, rfl⟩ hs
        refine ⟨fun w hw => hw, ?_⟩
        refine D.p 12 rfl rfl rfl rfl rfl rfl (Pu.pickT rfl rfl rfl) ?_
        refine D.done hwf rfl ?_
        refine X.next ?_
        refine V.condD rfl (fun c3 => ?_) (fun c3 => ?_)
        · skip
          exact (befB_asymm c3 (by rw [hre]; exact prev_bef hpw ho ei hk1 (by omega))).elim
        · skip
          refine V.exit ?_
          refine X.thenExit ?_
          refine X.thenExit ?_
          refine X.blockHit ?_
          refine X.next ?_
          refine V.seq ?_
          refine V.draw mo (by kernel_rfl) (fun hwf => ?_)
          refine D.p 0 rfl rfl rfl rfl rfl rfl (Pu.loadAgg rfl ag30 sz30 rfl rfl (Ld.whole 2 rfl)) ?_
          refine D.p 2 rfl rfl rfl rfl rfl rfl (Pu.move rfl rfl) ?_
          refine D.p 3 rfl rfl rfl rfl rfl rfl (Pu.move rfl rfl) ?_
          refine D.p 4 rfl rfl rfl rfl rfl rfl (Pu.sliceL k rfl Try.underlying34 sz30 rfl rfl (by omega) (by omega)) ?_
          refine D.eff hwf (e := 1) rfl rfl rfl rfl (Ef.build (SyC (↑v : Int)) ([⟨r1A, r1.length, r1c⟩] : List Sl) rfl Try.underlying34 inf30 rfl rfl rfl (by first | decide | (simp; done)) (by kernel_rfl)) rfl rfl rfl ?_
          rintro _ _ ⟨A5, hA5, rfl, rfl⟩ hs
          refine ⟨fun w hw => hw.sub (Sub.keep 1 rfl (Sub.keep 1 rfl (Sub.keep 1 rfl (Sub.keep 1 rfl (Sub.keep 1 rfl (Sub.keep 1 rfl (Sub.keep 1 rfl (Sub.keep 1 rfl (Sub.keep 1 rfl (Sub.keep 1 rfl (Sub.nil _))))))))))), ?_⟩
          refine D.eff hwf (e := 5) rfl rfl rfl rfl (Ef.append (xs := ([⟨r1A, r1.length, r1c⟩] : List Sl)) (ys := ((tops out).drop k)) 0 rfl Try.underlying34 inf30 rfl rfl rfl rfl rfl (by first | (simp only [List.length_take, List.length_drop]; done) | (simp only [List.length_take, List.length_drop]; omega)) (by split <;> simp [hoS]) (fun w hw => ((Ld.own 4 (by exact rfl)) w hw).drop rfl (Own.cap hw (i := 4) (by exact rfl))) (by simp only [List.length_drop, List.length_take, List.length_append, List.length_cons, List.length_nil] at *; omega) (by decide)) rfl rfl rfl ?_
          rintro _ _ ⟨A6, k3, rfl, rfl, hA6⟩ hs
          replace hA6 := hA6 (.inl hA5)
          refine ⟨fun w hw => hw.sub (Sub.keep 1 rfl (Sub.keep 1 rfl (Sub.keep 1 rfl (Sub.keep 1 rfl (Sub.keep 1 rfl (Sub.keep 1 rfl (Sub.keep 1 rfl (Sub.keep 1 rfl (Sub.keep 1 rfl (Sub.keep 1 rfl (Sub.nil _))))))))))), ?_⟩
          refine D.p 6 rfl rfl rfl rfl rfl rfl (Pu.assign rfl rfl) ?_
          refine D.done hwf rfl ?_
          refine X.next ?_
          refine V.fact (fun w hw => Own.cap hw (i := 4) rfl) (fun hcap => ?_)
          refine V.region ?_
          refine O.e rfl rfl rfl (Ef.build (SyC (v : Int)) ([] : List Sl) rfl Try.underlying34 inf30 rfl rfl rfl (by first | decide | (simp; done)) (by kernel_rfl)) ?_
          rintro _ _ ⟨A7, hA7, rfl, rfl⟩
          refine O.p rfl rfl rfl (Pu.move rfl rfl) ?_
          refine O.p rfl rfl rfl (Pu.move rfl rfl) ?_
          refine O.p rfl rfl rfl (Pu.sliceH k rfl Try.underlying34 sz30 rfl rfl (by omega) (by omega)) ?_
          refine O.e rfl rfl rfl (Ef.append (xs := ([] : List Sl)) (ys := ((tops out).take k)) 0 rfl Try.underlying34 inf30 rfl rfl rfl rfl rfl (by first | (simp only [List.length_take, List.length_drop]; done) | (simp only [List.length_take, List.length_drop]; omega)) hoS (fun w hw => ((Ld.own 5 (by exact rfl)) w hw).take k) (by simp only [List.length_drop, List.length_take, List.length_append, List.length_cons, List.length_nil] at *; omega) (by decide)) ?_
          rintro _ _ ⟨A8, k4, rfl, rfl, hA8⟩
          replace hA8 := hA8 (.inl hA7)
          refine O.p rfl rfl rfl (Pu.move rfl rfl) ?_
          refine O.e rfl rfl rfl (Ef.append (xs := (([] : List Sl) ++ ((tops out).take k))) (ys := (([⟨r1A, r1.length, r1c⟩] : List Sl) ++ ((tops out).drop k))) 0 rfl Try.underlying34 inf30 rfl rfl rfl rfl rfl rfl hA6 (Ld.own 1 (by exact rfl)) (by simp only [List.length_drop, List.length_take, List.length_append, List.length_cons, List.length_nil] at *; omega) (by decide)) ?_
          rintro _ _ ⟨A9, k5, rfl, rfl, hA9⟩
          replace hA9 := hA9 (.inl hA8)
          refine O.p rfl rfl rfl (Pu.assign rfl rfl) ?_
          refine O.nil ?_
          refine X.blockNormal ?_
          refine X.next ?_
          refine V.region ?_
          refine O.p rfl rfl rfl (Pu.move rfl rfl) ?_
          refine O.p rfl rfl rfl (Pu.add64 (r := ((i + 1 : Nat) : Int)) rfl (by omega) rfl rfl rfl) ?_
          refine O.p rfl rfl rfl (Pu.assign rfl rfl) ?_
          refine O.nil ?_
          refine X.map (fun w hw => snoc_heap (D := SyC (v : Int)) (ps := out) (xs := r1) (B := r1A) (d := r1c) (hw.sub (Sub.cons 0 rfl (fun w F h => by rw [List.take_of_length_le (by omega), List.drop_of_length_le (by omega)] at h; exact h) (Sub.keep 5 rfl (Sub.keep 1 rfl (Sub.keep 0 rfl (Sub.keep 0 rfl (Sub.keep 0 rfl (Sub.keep 0 rfl (Sub.keep 0 rfl (Sub.keep 0 rfl (Sub.keep 0 rfl (Sub.keep 0 rfl (Sub.keep 0 rfl (Sub.nil _))))))))))))))) ?_
          exact X.back3 (A9, k5, (out ++ [((⟨r1A, r1.length, r1c⟩ : Sl), r1)]), i + 1) (by (try dsimp only); exact ⟨by omega, by rw [conts_append, ho, take_snoc (by omega)]; simp [conts, hre], by assumption⟩) (by first | omega | (dsimp only; omega)) (Ent.cons' rfl (by simp [tops]; omega) (Ent.cons rfl (Ent.nil _))) (Ent.cons (t := 2) rfl (Ent.cons (t := 5) rfl (Ent.nil _))) (Sub.keep 0 rfl (Sub.keep 0 rfl (Sub.keep 4 rfl (Sub.keep 4 rfl (Sub.keep 4 rfl (Sub.keep 4 rfl (Sub.keep 4 rfl (Sub.nil _))))))))
      · skip
        refine D.gs 3 rfl rfl rfl rfl rfl rfl rfl rfl rfl ?_
        refine D.gs 4 rfl rfl rfl rfl rfl rfl rfl rfl rfl ?_
        refine D.gs 5 rfl rfl rfl rfl rfl rfl rfl rfl rfl ?_
        refine D.gs 6 rfl rfl rfl rfl rfl rfl rfl rfl rfl ?_
        refine D.gs 7 rfl rfl rfl rfl rfl rfl rfl rfl rfl ?_
        refine D.gs 8 rfl rfl rfl rfl rfl rfl rfl rfl rfl ?_
        refine D.gs 9 rfl rfl rfl rfl rfl rfl rfl rfl rfl ?_
        refine D.gs 10 rfl rfl rfl rfl rfl rfl rfl rfl rfl ?_
        refine D.gs 11 rfl rfl rfl rfl rfl rfl rfl rfl rfl ?_
        refine D.p 12 rfl rfl rfl rfl rfl rfl (Pu.pickF rfl rfl rfl) ?_
        refine D.done hwf rfl ?_
        refine X.next ?_
        refine V.condF rfl ?_
        refine V.exit ?_
        refine X.thenExit ?_
        refine X.thenExit ?_
        refine X.blockHit ?_
        refine X.next ?_
        refine V.seq ?_
        refine V.draw mo (by kernel_rfl) (fun hwf => ?_)
        refine D.p 0 rfl rfl rfl rfl rfl rfl (Pu.loadAgg rfl ag30 sz30 rfl rfl (Ld.whole 2 rfl)) ?_
        refine D.p 2 rfl rfl rfl rfl rfl rfl (Pu.move rfl rfl) ?_
        refine D.p 3 rfl rfl rfl rfl rfl rfl (Pu.move rfl rfl) ?_
        refine D.p 4 rfl rfl rfl rfl rfl rfl (Pu.sliceL k rfl Try.underlying34 sz30 rfl rfl (by omega) (by omega)) ?_
        refine D.eff hwf (e := 1) rfl rfl rfl rfl (Ef.build (SyC (↑v : Int)) ([⟨r1A, r1.length, r1c⟩] : List Sl) rfl Try.underlying34 inf30 rfl rfl rfl (by first | decide | (simp; done)) (by kernel_rfl)) rfl rfl rfl ?_
        rintro _ _ ⟨A10, hA10, rfl, rfl⟩ hs
        refine ⟨fun w hw => hw.sub (Sub.keep 1 rfl (Sub.keep 1 rfl (Sub.keep 1 rfl (Sub.keep 1 rfl (Sub.keep 1 rfl (Sub.keep 1 rfl (Sub.keep 1 rfl (Sub.keep 1 rfl (Sub.keep 1 rfl (Sub.keep 1 rfl (Sub.nil _))))))))))), ?_⟩
        refine D.eff hwf (e := 5) rfl rfl rfl rfl (Ef.append (xs := ([⟨r1A, r1.length, r1c⟩] : List Sl)) (ys := ((tops out).drop k)) 0 rfl Try.underlying34 inf30 rfl rfl rfl rfl rfl (by first | (simp only [List.length_take, List.length_drop]; done) | (simp only [List.length_take, List.length_drop]; omega)) (by split <;> simp [hoS]) (fun w hw => ((Ld.own 4 (by exact rfl)) w hw).drop rfl (Own.cap hw (i := 4) (by exact rfl))) (by simp only [List.length_drop, List.length_take, List.length_append, List.length_cons, List.length_nil] at *; omega) (by decide)) rfl rfl rfl ?_
        rintro _ _ ⟨A11, k6, rfl, rfl, hA11⟩ hs
        replace hA11 := hA11 (.inl hA10)
        refine ⟨fun w hw => hw.sub (Sub.keep 1 rfl (Sub.keep 1 rfl (Sub.keep 1 rfl (Sub.keep 1 rfl (Sub.keep 1 rfl (Sub.keep 1 rfl (Sub.keep 1 rfl (Sub.keep 1 rfl (Sub.keep 1 rfl (Sub.keep 1 rfl (Sub.nil _))))))))))), ?_⟩
        refine D.p 6 rfl rfl rfl rfl rfl rfl (Pu.assign rfl rfl) ?_
        refine D.done hwf rfl ?_
        refine X.next ?_
        refine V.fact (fun w hw => Own.cap hw (i := 4) rfl) (fun hcap => ?_)
        refine V.region ?_
        refine O.e rfl rfl rfl (Ef.build (SyC (v : Int)) ([] : List Sl) rfl Try.underlying34 inf30 rfl rfl rfl (by first | decide | (simp; done)) (by kernel_rfl)) ?_
        rintro _ _ ⟨A12, hA12, rfl, rfl⟩
        refine O.p rfl rfl rfl (Pu.move rfl rfl) ?_
        refine O.p rfl rfl rfl (Pu.move rfl rfl) ?_
        refine O.p rfl rfl rfl (Pu.sliceH k rfl Try.underlying34 sz30 rfl rfl (by omega) (by omega)) ?_
        refine O.e rfl rfl rfl (Ef.append (xs := ([] : List Sl)) (ys := ((tops out).take k)) 0 rfl Try.underlying34 inf30 rfl rfl rfl rfl rfl (by first | (simp only [List.length_take, List.length_drop]; done) | (simp only [List.length_take, List.length_drop]; omega)) hoS (fun w hw => ((Ld.own 5 (by exact rfl)) w hw).take k) (by simp only [List.length_drop, List.length_take, List.length_append, List.length_cons, List.length_nil] at *; omega) (by decide)) ?_
        rintro _ _ ⟨A13, k7, rfl, rfl, hA13⟩
        replace hA13 := hA13 (.inl hA12)
        refine O.p rfl rfl rfl (Pu.move rfl rfl) ?_
        refine O.e rfl rfl rfl (Ef.append (xs := (([] : List Sl) ++ ((tops out).take k))) (ys := (([⟨r1A, r1.length, r1c⟩] : List Sl) ++ ((tops out).drop k))) 0 rfl Try.underlying34 inf30 rfl rfl rfl rfl rfl rfl hA11 (Ld.own 1 (by exact rfl)) (by simp only [List.length_drop, List.length_take, List.length_append, List.length_cons, List.length_nil] at *; omega) (by decide)) ?_
        rintro _ _ ⟨A14, k8, rfl, rfl, hA14⟩
        replace hA14 := hA14 (.inl hA13)
        refine O.p rfl rfl rfl (Pu.assign rfl rfl) ?_
        refine O.nil ?_
        refine X.blockNormal ?_
        refine X.next ?_
        refine V.region ?_
        refine O.p rfl rfl rfl (Pu.move rfl rfl) ?_
        refine O.p rfl rfl rfl (Pu.add64 (r := ((i + 1 : Nat) : Int)) rfl (by omega) rfl rfl rfl) ?_
        refine O.p rfl rfl rfl (Pu.assign rfl rfl) ?_
        refine O.nil ?_
        refine X.map (fun w hw => snoc_heap (D := SyC (v : Int)) (ps := out) (xs := r1) (B := r1A) (d := r1c) (hw.sub (Sub.cons 0 rfl (fun w F h => by rw [List.take_of_length_le (by omega), List.drop_of_length_le (by omega)] at h; exact h) (Sub.keep 5 rfl (Sub.keep 1 rfl (Sub.keep 0 rfl (Sub.keep 0 rfl (Sub.keep 0 rfl (Sub.keep 0 rfl (Sub.keep 0 rfl (Sub.keep 0 rfl (Sub.keep 0 rfl (Sub.keep 0 rfl (Sub.keep 0 rfl (Sub.nil _))))))))))))))) ?_
        exact X.back3 (A14, k8, (out ++ [((⟨r1A, r1.length, r1c⟩ : Sl), r1)]), i + 1) (by (try dsimp only); exact ⟨by omega, by rw [conts_append, ho, take_snoc (by omega)]; simp [conts, hre], by assumption⟩) (by first | omega | (dsimp only; omega)) (Ent.cons' rfl (by simp [tops]; omega) (Ent.cons rfl (Ent.nil _))) (Ent.cons (t := 2) rfl (Ent.cons (t := 5) rfl (Ent.nil _))) (Sub.keep 0 rfl (Sub.keep 0 rfl (Sub.keep 4 rfl (Sub.keep 4 rfl (Sub.keep 4 rfl (Sub.keep 4 rfl (Sub.keep 4 rfl (Sub.nil _))))))))
  · skip
    refine V.exit ?_
    refine X.thenExit ?_
    refine X.thenExit ?_
    refine X.blockHit ?_
    refine X.next ?_
    refine V.seq ?_
    refine V.region ?_
    refine O.p rfl rfl rfl (Pu.move rfl rfl) ?_
    refine O.p rfl rfl rfl (Pu.assign rfl rfl) ?_
    refine O.nil ?_
    refine X.next ?_
    refine V.ret ?_
    refine X.ret1 rfl rfl ?_
    exact fun w hw => St.mkExi outA (St.mkExi outc (St.mkExi out (St.unsep (St.addPur ⟨(by first | rfl | (simp only [tops_append]; done) | (simp only [tops_append]; rfl)), by rw [ho, List.take_of_length_le (by omega), hL]⟩ (St.unsep (hw.sub (Sub.keep 0 rfl (Sub.keep 0 rfl (Sub.nil _)))))))))
set_option maxRecDepth 100000 in
set_option maxHeartbeats 1000000 in
theorem l10All_ok (n : Nat) (pv : Nat) (w : World) (hv : pv ≤ 15) (hn : leftN pv 0 ≤ n) (hM : (compM n pv 0).length < 1000) (hxs : n ≤ 1000) : Does Try.prog 31 [.int .i64 (pv : Int)] w [] (fun rv_ => [.exi fun (rA : Option Addr) => .exi fun (rc : Nat) => .exi fun (r : List (Sl × List B3)) => .sep (.pur (rv_ = .slice rA (tops r).length rc ∧ conts r = compM n pv 0)) (.sep (Own 30 (SyC (pv:Int)) rA rc (tops r)) (RowsA 67 B3C r))]) := by
  refine Does.enter Try.func31 rfl rfl [(0, .int .i64 (pv : Int))] rfl ?_
  refine V.seq ?_
  refine V.region ?_
  refine O.p rfl rfl rfl (Pu.assign rfl rfl) ?_
  refine O.nil ?_
  refine X.next ?_
  refine V.seq ?_
  refine V.region ?_
  refine O.p rfl rfl rfl (Pu.move rfl rfl) ?_
  refine O.e rfl rfl rfl (Ef.build B3C ([] : List B3) rfl Try.underlying28 inf67 rfl rfl rfl (by first | decide | (simp; done)) (by kernel_rfl)) ?_
  rintro _ _ ⟨A1, hA1, rfl, rfl⟩
  refine O.p rfl rfl rfl (Pu.buildS (cs := [.int .i64 (↑pv : Int), .slice A1 0 0]) rfl rfl Try.underlying30 zr30 (by kernel_rfl) rfl (by kernel_rfl)) ?_
  refine O.e rfl rfl rfl (Ef.call1 call62 rfl rfl (fun w hw => l08All_ok n pv 1000 _ _ w   hA1 hv hn (by decide) (by decide) (by rw [run_all hM]; omega) hxs)) ?_
  rintro _ _ rfl
  refine O.exi (fun r1A => ?_)
  refine O.exi (fun r1c => ?_)
  refine O.exi (fun r1 => ?_)
  refine O.sep ?_
  refine O.pur ?_
  rintro ⟨rfl, hr1_1⟩
  refine O.sep ?_
  refine O.fact (RowsA.len 1 rfl) (fun hn_r1 => ?_)
  have htl_r1 := tops_len r1
  refine O.p rfl rfl rfl (Pu.assign rfl rfl) ?_
  refine O.nil ?_
  refine X.next ?_
  refine V.ret ?_
  refine X.ret1 rfl rfl ?_
  exact fun w hw => St.mkExi r1A (St.mkExi r1c (St.mkExi r1 (St.unsep (St.addPur ⟨(by first | rfl | (simp only [tops_append]; done) | (simp only [tops_append]; rfl)), by rw [hr1_1, run_all hM]⟩ (St.unsep (hw.sub (Sub.keep 0 rfl (Sub.keep 0 rfl (Sub.nil _)))))))))
theorem l10AllI_ok (n : Nat) (pv : Int) (w : World) (h0 : 0 ≤ pv) (hv : pv.toNat ≤ 15) (hn : leftN pv.toNat 0 ≤ n) (hM : (compM n pv.toNat 0).length < 1000) (hxs : n ≤ 1000) : Does Try.prog 31 [.int .i64 pv] w [] (fun r => [.exi fun rA : Option Addr => .exi fun rc : Nat => .exi fun r_ : List (Sl × List B3) => .sep (.pur (r = .slice rA (tops r_).length rc ∧ conts r_ = compM n pv.toNat 0)) (.sep (Own 30 (SyC pv) rA rc (tops r_)) (RowsA 67 B3C r_))]) := by
  obtain ⟨k, rfl⟩ := Int.eq_ofNat_of_zero_le h0
  exact l10All_ok n k w hv hn hM hxs
set_option maxRecDepth 100000 in
set_option maxHeartbeats 1000000 in
theorem l10Number_ok (v_ : Int) (w : World) : Does Try.prog 88 [.int .i64 v_] w [] (fun r => [.pur (r = .int .i64 (if v_ = 3 then 1 else if v_ = 7 then 30 else if v_ = 9 then 840 else 0))]) := by
  refine Does.enter Try.func88 rfl rfl [(0, .int .i64 v_)] rfl ?_
  refine V.seq ?_
  refine V.region ?_
  refine O.p rfl rfl rfl (Pu.assign rfl rfl) ?_
  refine O.nil ?_
  refine X.next ?_
  refine V.seq ?_
  refine V.seq ?_
  refine V.region ?_
  refine O.p rfl rfl rfl (Pu.move rfl rfl) ?_
  refine O.nil ?_
  refine X.next ?_
  refine V.block ?_
  refine V.seq ?_
  refine V.region ?_
  refine O.p rfl rfl rfl (Pu.eql rfl rfl rfl) ?_
  refine O.p rfl rfl rfl (Pu.assign rfl rfl) ?_
  refine O.nil ?_
  refine X.next ?_
  refine V.condD rfl (fun c1 => ?_) (fun c1 => ?_)
  · skip
    refine V.seq ?_
    refine V.region ?_
    refine O.p rfl rfl rfl (Pu.assign rfl rfl) ?_
    refine O.nil ?_
    refine X.next ?_
    refine V.ret ?_
    refine X.blockRet ?_
    refine X.thenRet ?_
    refine X.ret1 rfl rfl ?_
    exact fun w hw => St.retP (iv (by rw [if_pos c1])) hw
  · skip
    refine V.seq ?_
    refine V.region ?_
    refine O.p rfl rfl rfl (Pu.eql rfl rfl rfl) ?_
    refine O.p rfl rfl rfl (Pu.assign rfl rfl) ?_
    refine O.nil ?_
    refine X.next ?_
    refine V.condD rfl (fun c2 => ?_) (fun c2 => ?_)
    · skip
      refine V.seq ?_
      refine V.region ?_
      refine O.p rfl rfl rfl (Pu.assign rfl rfl) ?_
      refine O.nil ?_
      refine X.next ?_
      refine V.ret ?_
      refine X.blockRet ?_
      refine X.thenRet ?_
      refine X.ret1 rfl rfl ?_
      exact fun w hw => St.retP (iv (by rw [if_neg c1, if_pos c2])) hw
    · skip
      refine V.seq ?_
      refine V.region ?_
      refine O.p rfl rfl rfl (Pu.eql rfl rfl rfl) ?_
      refine O.p rfl rfl rfl (Pu.assign rfl rfl) ?_
      refine O.nil ?_
      refine X.next ?_
      refine V.condD rfl (fun c3 => ?_) (fun c3 => ?_)
      · skip
        refine V.seq ?_
        refine V.region ?_
        refine O.p rfl rfl rfl (Pu.assign rfl rfl) ?_
        refine O.nil ?_
        refine X.next ?_
        refine V.ret ?_
        refine X.blockRet ?_
        refine X.thenRet ?_
        refine X.ret1 rfl rfl ?_
        exact fun w hw => St.retP (iv (by rw [if_neg c1, if_neg c2, if_pos c3])) hw
      · skip
        refine V.skip ?_
        refine X.blockNormal ?_
        refine X.next ?_
        refine V.seq ?_
        refine V.region ?_
        refine O.p rfl rfl rfl (Pu.assign rfl rfl) ?_
        refine O.nil ?_
        refine X.next ?_
        refine V.ret ?_
        refine X.ret1 rfl rfl ?_
        exact fun w hw => St.retP (iv (by rw [if_neg c1, if_neg c2, if_neg c3])) hw
theorem num_zero (v : Int) : (if v = 3 then (1 : Int) else if v = 7 then 30 else if v = 9 then 840 else 0) = 0 ↔ ¬ few9 v := by
  unfold few9
  (repeat' split) <;> omega
set_option maxRecDepth 100000 in
set_option maxHeartbeats 1000000 in
theorem l10Code_ok (v : Int) (bs : List B3) (A : Option Addr) (c : Nat) (w : World) (hx : Rd B3C w A bs) (lx : bs.length ≤ 4611686018427387904) : Does Try.prog 59 [.agg #[.int .i64 v, .slice A bs.length c]] w [] (fun r => [.pur (r = .int .i64 (if STS v bs then if Few v bs then 0 else 5 else 1))]) := by
  refine Does.enter Try.func59 rfl rfl [(0, .agg #[.int .i64 v, .slice A bs.length c])] rfl ?_
  refine V.seq ?_
  refine V.region ?_
  refine O.e rfl rfl rfl (Ef.box rfl rfl rfl) ?_
  rintro _ _ ⟨b1, rfl, rfl⟩
  refine O.p rfl rfl rfl (Pu.assign rfl rfl) ?_
  refine O.nil ?_
  refine X.next ?_
  refine V.seq ?_
  refine V.block ?_
  refine V.seq ?_
  refine V.region ?_
  refine O.p rfl rfl rfl (Pu.loadAgg rfl ag30 sz30 rfl rfl (Ld.whole 0 rfl)) ?_
  refine O.e rfl rfl rfl (Ef.callP call41 rfl rfl (fun w hw => l01Is_ok _ bs _ _ w ((Ld.old hx) w hw) (by omega))) ?_
  rintro _ _ ⟨rfl, rfl⟩
  refine O.p rfl rfl rfl (Pu.not rfl rfl) ?_
  refine O.p rfl rfl rfl (Pu.assign rfl rfl) ?_
  refine O.nil ?_
  refine X.next ?_
  refine V.condNot rfl (fun c1 => ?_) (fun c1 => ?_)
  · skip
    refine V.seq ?_
    refine V.region ?_
    refine O.p rfl rfl rfl (Pu.assign rfl rfl) ?_
    refine O.nil ?_
    refine X.next ?_
    refine V.ret ?_
    refine X.blockRet ?_
    refine X.thenRet ?_
    refine X.ret1 rfl rfl ?_
    exact fun w hw => St.retP (iv (by rw [if_neg c1])) hw
  · skip
    have hS := c1
    have hmul := sts_mul c1
    have hlo := c1.lo
    have hhi := c1.hi
    have hfw := c1.few
    refine V.seq ?_
    refine V.region ?_
    refine O.p rfl rfl rfl (Pu.loadAgg rfl ag30 sz30 rfl rfl (Ld.whole 0 rfl)) ?_
    refine O.e rfl rfl rfl (Ef.callP call87 rfl rfl (fun w hw => l01Full_ok  v bs _ _ w ((Ld.old hx) w hw) (by first | omega | (simp only [tops_len, conts_len, bl, List.length_append, List.length_cons, List.length_nil] at *; omega)) (by first | assumption | omega | (try dsimp only at *; omega)) (by first | assumption | omega | (try dsimp only at *; omega)) (by first | assumption | omega | (try dsimp only at *; omega)))) ?_
    rintro _ _ ⟨rfl, rfl⟩
    refine O.p rfl rfl rfl (Pu.not rfl rfl) ?_
    refine O.p rfl rfl rfl (Pu.move rfl rfl) ?_
    refine O.splitN 11 rfl (fun c2 => ?_) (fun c2 => ?_)
    · skip
      refine O.gs rfl rfl rfl rfl rfl rfl ?_
      refine O.gs rfl rfl rfl rfl rfl rfl ?_
      refine O.gs rfl rfl rfl rfl rfl rfl ?_
      refine O.gs rfl rfl rfl rfl rfl rfl ?_
      refine O.p rfl rfl rfl (Pu.pickT rfl rfl rfl) ?_
      refine O.p rfl rfl rfl (Pu.assign rfl rfl) ?_
      refine O.nil ?_
      refine X.next ?_
      refine V.condT rfl ?_
      refine V.seq ?_
      refine V.region ?_
      refine O.p rfl rfl rfl (Pu.assign rfl rfl) ?_
      refine O.nil ?_
      refine X.next ?_
      refine V.ret ?_
      refine X.blockRet ?_
      refine X.thenRet ?_
      refine X.ret1 rfl rfl ?_
      exact fun w hw => St.retP (iv (by rw [if_pos hS, if_neg (fun h => c2 h.2)])) hw
    · skip
      refine O.gp rfl rfl rfl rfl rfl (Pu.fieldAddr 0 rfl Try.underlying30 rfl sz2 rfl rfl) ?_
      refine O.gp rfl rfl rfl rfl rfl (Pu.load rfl pl2 rfl (Ld.blk 0 rfl rfl)) ?_
      refine O.ge rfl rfl rfl rfl rfl (Ef.callP call88 rfl rfl (fun w hw => l10Number_ok  v w   )) ?_
      rintro _ _ ⟨rfl, rfl⟩
      refine O.gp rfl rfl rfl rfl rfl (Pu.eql rfl rfl rfl) ?_
      refine O.p rfl rfl rfl (Pu.pickF rfl rfl rfl) ?_
      refine O.p rfl rfl rfl (Pu.assign rfl rfl) ?_
      refine O.nil ?_
      refine X.next ?_
      refine V.condD rfl (fun c3 => ?_) (fun c3 => ?_)
      · skip
        refine V.seq ?_
        refine V.region ?_
        refine O.p rfl rfl rfl (Pu.assign rfl rfl) ?_
        refine O.nil ?_
        refine X.next ?_
        refine V.ret ?_
        refine X.blockRet ?_
        refine X.thenRet ?_
        refine X.ret1 rfl rfl ?_
        exact fun w hw => St.retP (iv (by rw [if_pos hS, if_neg (fun h => (num_zero v).1 c3 h.1)])) hw
      · skip
        refine V.skip ?_
        refine X.blockNormal ?_
        refine X.next ?_
        refine V.seq ?_
        refine V.region ?_
        refine O.p rfl rfl rfl (Pu.assign rfl rfl) ?_
        refine O.nil ?_
        refine X.next ?_
        refine V.ret ?_
        refine X.ret1 rfl rfl ?_
        exact fun w hw => St.retP (iv (by rw [if_pos hS, if_pos ⟨Decidable.byContradiction (fun h => c3 ((num_zero v).2 h)), c2⟩])) hw
end Go.Proofs.Ytphgcnegmkafiaa
