/-
  Resolutions, of the reference.
-/
import Derived.Test.YtjpfngmoabnffaaI
import Derived.Test.YtjpfngmoabnffaaZ1
import Derived.Test.YtjpfngmoabnffaaPureRes
set_option linter.unusedVariables false
set_option linter.unusedSimpArgs false
namespace Go.Proofs.Ytjpfngmoabnffaa
open Go Go.RowKit Go.Vc Go.Proofs
def L_l05Resolve (n : Nat) : Prop := ∀ (v : Int) (bs : List B3) (all : List (Sl × List Int)) (list : List Sl) (blocks : Nat) (most : Nat) (A : Option Addr) (c : Nat) (allA : Option Addr) (allc : Nat) (listA : Option Addr) (listc : Nat) (w0 : World) (H : List Assn) (hx : ∀ w, St w0 H w → Rd B3C w A bs) (hall : ∀ w, St w0 H w → RdL I64 w allA all) (hn_all : LenOk all) (lx : bs.length ≤ 4611686018427387904) (lall : all.length ≤ 1099511627776) (hls : listA.isSome = true) (hcl : ∀ q ∈ conts all, (0 < q.length ∧ q.length ≤ 1000) ∧ ∀ p ∈ q, 0 ≤ p ∧ p < bs.length) (hln : (leftM blocks bs.length).length ≤ n) (hm : 0 < most) (hmm : most ≤ 1000000) (hnw : list.length + n ≤ 1000) (lal : all.length ≤ 1000000) (hbm : blocks < 2 ^ 35) (hfew : bs.length ≤ 35), Does Try.prog 126 [.agg #[.int .i64 v, .slice A bs.length c], .slice allA (tops all).length allc, .slice listA list.length listc, .int .i64 (blocks : Int), .int .i64 (most : Int)] w0 (Own 43 SlC listA listc list :: H) (fun rv_ => [.exi fun (rA : Option Addr) => .exi fun (rc : Nat) => .exi fun (r : List (Sl × List Sl)) => .sep (.pur (rv_ = .slice rA (tops r).length rc ∧ conts r = ((resN (conts all) n (leftM blocks bs.length)).take most).map (fun q => list ++ topJ (tops all) q) ∧ r.length ≤ most ∧ rA.isSome = true)) (.sep (Own 34 SlC rA rc (tops r)) (RowsA 43 SlC r))] ++ H)
set_option maxRecDepth 100000 in
set_option maxHeartbeats 1000000 in
theorem l05Resolve_step (n : Nat) (ih : ∀ n', n' < n → L_l05Resolve n') (v : Int) (bs : List B3) (all : List (Sl × List Int)) (list : List Sl) (blocks : Nat) (most : Nat) (A : Option Addr) (c : Nat) (allA : Option Addr) (allc : Nat) (listA : Option Addr) (listc : Nat) (w0 : World) (H : List Assn) (hx : ∀ w, St w0 H w → Rd B3C w A bs) (hall : ∀ w, St w0 H w → RdL I64 w allA all) (hn_all : LenOk all) (lx : bs.length ≤ 4611686018427387904) (lall : all.length ≤ 1099511627776) (hls : listA.isSome = true) (hcl : ∀ q ∈ conts all, (0 < q.length ∧ q.length ≤ 1000) ∧ ∀ p ∈ q, 0 ≤ p ∧ p < bs.length) (hln : (leftM blocks bs.length).length ≤ n) (hm : 0 < most) (hmm : most ≤ 1000000) (hnw : list.length + n ≤ 1000) (lal : all.length ≤ 1000000) (hbm : blocks < 2 ^ 35) (hfew : bs.length ≤ 35) : Does Try.prog 126 [.agg #[.int .i64 v, .slice A bs.length c], .slice allA (tops all).length allc, .slice listA list.length listc, .int .i64 (blocks : Int), .int .i64 (most : Int)] w0 (Own 43 SlC listA listc list :: H) (fun rv_ => [.exi fun (rA : Option Addr) => .exi fun (rc : Nat) => .exi fun (r : List (Sl × List Sl)) => .sep (.pur (rv_ = .slice rA (tops r).length rc ∧ conts r = ((resN (conts all) n (leftM blocks bs.length)).take most).map (fun q => list ++ topJ (tops all) q) ∧ r.length ≤ most ∧ rA.isSome = true)) (.sep (Own 34 SlC rA rc (tops r)) (RowsA 43 SlC r))] ++ H) := by
  refine Does.enter Try.func126 rfl rfl [(0, .agg #[.int .i64 v, .slice A bs.length c]), (1, .slice allA (tops all).length allc), (2, .slice listA list.length listc), (3, .int .i64 (blocks : Int)), (4, .int .i64 (most : Int))] rfl ?_
  have htc := tops_len all
  have hcc := conts_len all
  have hb35 : blocks < 34359738368 := by simpa using hbm
  refine V.seq ?_
  refine V.region ?_
  refine O.e rfl rfl rfl (Ef.box rfl rfl rfl) ?_
  rintro _ _ ⟨b1, rfl, rfl⟩
  refine O.p rfl rfl rfl (Pu.assign rfl rfl) ?_
  refine O.nil ?_
  refine X.next ?_
  refine V.seq ?_
  refine V.region ?_
  refine O.p rfl rfl rfl (Pu.assign rfl rfl) ?_
  refine O.nil ?_
  refine X.next ?_
  refine V.seq ?_
  refine V.block ?_
  refine V.loop3 (β := Nat) (fun b => [(11, .int .i64 (b : Int))]) _ (fun b => []) _ (fun b => b ≤ bs.length ∧ ∀ i, i < b → blocks.testBit i = true) (fun b => bs.length - b) 0 ⟨by omega, fun i h => by omega⟩ (Ent.cons rfl (Ent.nil _)) (Ent.cons (t := 1) rfl (Ent.cons (t := 2) rfl (Ent.cons (t := 3) rfl (Ent.cons (t := 4) rfl (Ent.cons (t := 5) rfl (Ent.nil _)))))) (Sub.keep 0 rfl (Sub.keep 0 rfl (Sub.refl _))) ?_
  rintro b ⟨hb, hbt⟩
  refine V.seq ?_
  refine V.seq ?_
  refine V.region ?_
  refine O.p rfl rfl rfl (Pu.move rfl rfl) ?_
  refine O.p rfl rfl rfl (Pu.fieldAddr 1 rfl Try.underlying30 rfl sz28 rfl rfl) ?_
  refine O.p rfl rfl rfl (Pu.load rfl pl28 rfl (Ld.blk 0 rfl rfl)) ?_
  refine O.p rfl rfl rfl (Pu.len rfl Try.underlying28 rfl) ?_
  refine O.p rfl rfl rfl (Pu.lss rfl rfl rfl) ?_
  refine O.p rfl rfl rfl (Pu.move rfl rfl) ?_
  refine O.splitD 21 rfl (fun c1 => ?_) (fun c1 => ?_)
  · skip
    refine O.gp rfl rfl rfl rfl rfl (Pu.move rfl rfl) ?_
    refine O.gp rfl rfl rfl rfl rfl (Pu.move rfl rfl) ?_
    refine O.gp rfl rfl rfl rfl rfl (Pu.convU' b (by omega) ⟨_, Try.underlying2⟩ Try.underlying115 (by omega) rfl rfl) ?_
    refine O.gp rfl rfl rfl rfl rfl (Pu.shr (m := blocks) (p := b) K64.i (by omega) rfl rfl rfl) ?_
    refine O.gp rfl rfl rfl rfl rfl (Pu.and (m := (blocks >>> b)) (n := 1) K64.i (shr_lt (by omega)) (by omega) rfl rfl rfl) ?_
    refine O.gp rfl rfl rfl rfl rfl (Pu.eql rfl rfl rfl) ?_
    refine O.p rfl rfl rfl (Pu.pickT rfl rfl rfl) ?_
    refine O.nil ?_
    refine X.next ?_
    refine V.condD rfl (fun c2 => ?_) (fun c2 => ?_)
    · skip
      refine V.skip ?_
      refine X.next ?_
      refine V.block ?_
      refine V.region ?_
      refine O.p rfl rfl rfl (Pu.move rfl rfl) ?_
      refine O.p rfl rfl rfl (Pu.add64 (r := ((b + 1 : Nat) : Int)) rfl (by omega) rfl rfl rfl) ?_
      refine O.p rfl rfl rfl (Pu.assign rfl rfl) ?_
      refine O.nil ?_
      refine X.blockNormal ?_
      exact X.back3 (b + 1) ⟨by omega, fun i h => by by_cases e : i = b; (· subst e; exact (bit_is blocks i).1 (by omega)); (· exact hbt i (by omega))⟩ (by first | omega | (dsimp only; omega)) (Ent.cons rfl (Ent.nil _)) (Ent.cons (t := 1) rfl (Ent.cons (t := 2) rfl (Ent.cons (t := 3) rfl (Ent.cons (t := 4) rfl (Ent.cons (t := 5) rfl (Ent.nil _)))))) (Sub.keep 0 rfl (Sub.keep 0 rfl (Sub.refl _)))
    · skip
      refine V.exit ?_
      refine X.thenExit ?_
      refine X.thenExit ?_
      refine X.blockHit ?_
      refine X.next ?_
      refine V.seq ?_
      refine V.seq ?_
      refine V.region ?_
      refine O.p rfl rfl rfl (Pu.move rfl rfl) ?_
      refine O.p rfl rfl rfl (Pu.fieldAddr 1 rfl Try.underlying30 rfl sz28 rfl rfl) ?_
      refine O.p rfl rfl rfl (Pu.load rfl pl28 rfl (Ld.blk 0 rfl rfl)) ?_
      refine O.p rfl rfl rfl (Pu.len rfl Try.underlying28 rfl) ?_
      refine O.p rfl rfl rfl (Pu.eql rfl rfl rfl) ?_
      refine O.nil ?_
      refine X.next ?_
      refine V.condD rfl (fun c3 => ?_) (fun c3 => ?_)
      · skip
        exact absurd c3 (by omega)
      · skip
        have hb0 : blocks.testBit b = false := by
          cases h : blocks.testBit b with
          | false => rfl
          | true => exact absurd (by have := (bit_is blocks b).2 h; omega) c2
        have hh := leftM_head (len := bs.length) (by omega) hb0 hbt
        have hne : (leftM blocks bs.length) ≠ [] := by intro e; rw [e] at hh; simp at hh
        have hl0 := List.length_pos_iff.2 hne
        refine V.skip ?_
        refine X.next ?_
        refine V.seq ?_
        refine V.region ?_
        refine O.e rfl rfl rfl (Ef.build SlC ([] : List Sl) rfl Try.underlying64 inf34 rfl rfl rfl (by first | decide | (simp; done)) (by kernel_rfl)) ?_
        rintro _ _ ⟨A1, hA1, rfl, rfl⟩
        refine O.p rfl rfl rfl (Pu.assign rfl rfl) ?_
        refine O.nil ?_
        refine X.next ?_
        refine V.seq ?_
        refine V.seq ?_
        refine V.region ?_
        refine O.p rfl rfl rfl (Pu.assign rfl rfl) ?_
        refine O.nil ?_
        refine X.next ?_
        refine V.block ?_
        refine V.map (fun w hw => RowsA.nil (T := 43) (C := SlC) hw) ?_
        refine V.loop3 (β := (Option Addr) × Nat × (List (Sl × List Sl)) × Nat) (fun x => [(12, .slice x.1 (tops x.2.2.1).length x.2.1), (13, .int .i64 (x.2.2.2 : Int))]) _ (fun x => [Own 34 SlC x.1 x.2.1 (tops x.2.2.1), RowsA 43 SlC x.2.2.1]) _ (fun x => x.2.2.2 ≤ all.length ∧ conts x.2.2.1 = ((resJ (conts all) (n - 1) (leftM blocks bs.length) x.2.2.2).take most).map (fun q => list ++ topJ (tops all) q) ∧ x.2.2.1.length ≤ most ∧ x.1.isSome = true) (fun x => all.length - x.2.2.2) (A1, 0, [], 0) (by (try dsimp only); exact ⟨by omega, by rw [resJ_zero]; simp [conts], by simp, hA1⟩) (Ent.cons rfl (Ent.cons rfl (Ent.nil _))) (Ent.cons (t := 1) rfl (Ent.cons (t := 2) rfl (Ent.cons (t := 3) rfl (Ent.cons (t := 4) rfl (Ent.cons (t := 5) rfl (Ent.cons (t := 11) rfl (Ent.nil _))))))) (Sub.keep 1 rfl (Sub.keep 0 rfl (Sub.keep 0 rfl (Sub.keep 0 rfl (Sub.refl _))))) ?_
        rintro ⟨oA, oc, o, i⟩ ⟨hi, ho, hl, hoS⟩
        dsimp only at hi ho hl hoS ⊢
        have hclo := conts_len o
        refine V.fact (RowsA.len 1 rfl) (fun hn_o => ?_)
        have htl_o := tops_len o
        refine V.seq ?_
        refine V.seq ?_
        refine V.region ?_
        refine O.p rfl rfl rfl (Pu.move rfl rfl) ?_
        refine O.p rfl rfl rfl (Pu.move rfl rfl) ?_
        refine O.p rfl rfl rfl (Pu.len rfl Try.underlying34 rfl) ?_
        refine O.p rfl rfl rfl (Pu.lss rfl rfl rfl) ?_
        refine O.p rfl rfl rfl (Pu.move rfl rfl) ?_
        refine O.splitD 43 rfl (fun c4 => ?_) (fun c4 => ?_)
        · skip
          refine O.gp rfl rfl rfl rfl rfl (Pu.move rfl rfl) ?_
          refine O.gp rfl rfl rfl rfl rfl (Pu.len rfl Try.underlying64 rfl) ?_
          refine O.gp rfl rfl rfl rfl rfl (Pu.move rfl rfl) ?_
          refine O.gp rfl rfl rfl rfl rfl (Pu.lss rfl rfl rfl) ?_
          refine O.p rfl rfl rfl (Pu.pickT rfl rfl rfl) ?_
          refine O.nil ?_
          refine X.next ?_
          refine V.condD rfl (fun c5 => ?_) (fun c5 => ?_)
          · skip
            refine V.skip ?_
            refine X.next ?_
            refine V.seq ?_
            refine V.block ?_
            refine V.seq ?_
            have ei : i < all.length := by omega
            have hget : (conts all).getD i [] = (all[i]'ei).2 := by rw [List.getD_eq_getElem?_getD, List.getElem?_eq_getElem (by omega), Option.getD_some, conts_get]
            have hc0 := hcl (all[i]'ei).2 (conts_get all (k := i) (by omega) ▸ List.getElem_mem _)
            have hml : maskL (all[i]'ei).2 < 2 ^ 35 := Nat.lt_of_lt_of_le (maskL_lt' hc0.2) (Nat.pow_le_pow_right (by decide) hfew)
            have hclo := conts_len o
            refine V.region ?_
            refine O.p rfl rfl rfl (Pu.assign rfl rfl) ?_
            refine O.nil ?_
            refine X.next ?_
            refine V.seq ?_
            refine V.seq ?_
            refine V.region ?_
            refine O.p rfl rfl rfl (Pu.assign rfl rfl) ?_
            refine O.nil ?_
            refine X.next ?_
            refine V.block ?_
            refine V.loop3 (β := Nat × Nat) (fun x => [(14, .int .i64 (x.1 : Int)), (15, .int .i64 (x.2 : Int))]) _ (fun x => []) _ (fun x => x.2 ≤ (all[i]'ei).2.length ∧ x.1 = maskL ((all[i]'ei).2.take x.2)) (fun x => (all[i]'ei).2.length - x.2) (0, 0) (by (try dsimp only); exact ⟨by omega, rfl⟩) (Ent.cons rfl (Ent.cons rfl (Ent.nil _))) (Ent.cons (t := 1) rfl (Ent.cons (t := 2) rfl (Ent.cons (t := 3) rfl (Ent.cons (t := 4) rfl (Ent.cons (t := 5) rfl (Ent.cons (t := 11) rfl (Ent.cons (t := 12) rfl (Ent.cons (t := 13) rfl (Ent.nil _))))))))) (Sub.keep 0 rfl (Sub.keep 0 rfl (Sub.keep 0 rfl (Sub.keep 0 rfl (Sub.refl _))))) ?_
            rintro ⟨own, k⟩ ⟨hk, how⟩
            dsimp only at hk how ⊢
            have howl : own < 34359738368 := by rw [how]; have h := maskL_lt' (n := 35) (xs := (all[i]'ei).2.take k) (fun p hp => by have := hc0.2 p (List.mem_of_mem_take hp); omega); simpa using h
            refine V.seq ?_
            refine V.seq ?_
            refine V.region ?_
            refine O.p rfl rfl rfl (Pu.move rfl rfl) ?_
            refine O.p rfl rfl rfl (Pu.move rfl rfl) ?_
            refine O.p rfl rfl rfl (Pu.move rfl rfl) ?_
            refine O.p rfl rfl rfl (Pu.indexAddrS (i) rfl Try.underlying34 sz43 rfl rfl (by omega) (by omega) (fun w hw => ((fun w hw => (hall w (hw.sub (Sub.drop (Sub.drop (Sub.drop (Sub.drop (Sub.refl _))))))).top) w hw).some (by omega))) ?_
            refine O.p rfl rfl rfl (Pu.load rfl pl43 rfl (Ld.row (fun w hw => (hall w (hw.sub (Sub.drop (Sub.drop (Sub.drop (Sub.drop (Sub.refl _))))))).top) hn_all ei rfl)) ?_
            refine O.p rfl rfl rfl (Pu.len rfl Try.underlying43 rfl) ?_
            refine O.p rfl rfl rfl (Pu.lss rfl rfl rfl) ?_
            refine O.nil ?_
            refine X.next ?_
            refine V.condD rfl (fun c6 => ?_) (fun c6 => ?_)
            · skip
              refine V.skip ?_
              refine X.next ?_
              refine V.seq ?_
              refine V.block ?_
              have hq2 := hc0.2 _ (List.getElem_mem (l := (all[i]'ei).2) (n := k) (by omega))
              refine V.region ?_
              refine O.p rfl rfl rfl (Pu.move rfl rfl) ?_
              refine O.p rfl rfl rfl (Pu.move rfl rfl) ?_
              refine O.p rfl rfl rfl (Pu.move rfl rfl) ?_
              refine O.p rfl rfl rfl (Pu.indexAddrS (i) rfl Try.underlying34 sz43 rfl rfl (by omega) (by omega) (fun w hw => ((fun w hw => (hall w (hw.sub (Sub.drop (Sub.drop (Sub.drop (Sub.drop (Sub.refl _))))))).top) w hw).some (by omega))) ?_
              refine O.p rfl rfl rfl (Pu.load rfl pl43 rfl (Ld.row (fun w hw => (hall w (hw.sub (Sub.drop (Sub.drop (Sub.drop (Sub.drop (Sub.refl _))))))).top) hn_all ei rfl)) ?_
              refine O.p rfl rfl rfl (Pu.move rfl rfl) ?_
              refine O.p rfl rfl rfl (Pu.indexAddrS (k) rfl Try.underlying43 sz2 rfl rfl (by omega) (by omega) (fun w hw => ((fun w hw => (hall w (hw.sub (Sub.drop (Sub.drop (Sub.drop (Sub.drop (Sub.refl _))))))).row i ei) w hw).some (by omega))) ?_
              have e1 : k < (all[i]'ei).2.length := by omega
              refine O.p rfl rfl rfl (Pu.load rfl pl2 rfl (Ld.rd (fun w hw => (hall w (hw.sub (Sub.drop (Sub.drop (Sub.drop (Sub.drop (Sub.refl _))))))).row i ei) (k := k) e1 rfl rfl)) ?_
              refine O.p rfl rfl rfl (Pu.convU' ((((all[i]'ei).2[k]'e1)).toNat) (by omega) ⟨_, Try.underlying2⟩ Try.underlying115 (by omega) rfl rfl) ?_
              refine O.p rfl rfl rfl (Pu.shl1 (p := (((all[i]'ei).2[k]'e1)).toNat) K64.i (by omega) rfl rfl rfl) ?_
              refine O.p rfl rfl rfl (Pu.or (m := own) (n := (2 ^ ((((all[i]'ei).2[k]'e1)).toNat))) K64.i (by omega) (pow_lt62 (by omega)) rfl rfl rfl) ?_
              refine O.p rfl rfl rfl (Pu.assign rfl rfl) ?_
              refine O.nil ?_
              refine X.blockNormal ?_
              refine X.next ?_
              refine V.region ?_
              refine O.p rfl rfl rfl (Pu.move rfl rfl) ?_
              refine O.p rfl rfl rfl (Pu.add64 (r := ((k + 1 : Nat) : Int)) rfl (by omega) rfl rfl rfl) ?_
              refine O.p rfl rfl rfl (Pu.assign rfl rfl) ?_
              refine O.nil ?_
              exact X.back3 ((own ||| (2 ^ ((((all[i]'ei).2[k]'e1)).toNat))), k + 1) (by (try dsimp only); exact ⟨by omega, by rw [how, maskL_succ (by omega)]⟩) (by first | omega | (dsimp only; omega)) (Ent.cons rfl (Ent.cons rfl (Ent.nil _))) (Ent.cons (t := 1) rfl (Ent.cons (t := 2) rfl (Ent.cons (t := 3) rfl (Ent.cons (t := 4) rfl (Ent.cons (t := 5) rfl (Ent.cons (t := 11) rfl (Ent.cons (t := 12) rfl (Ent.cons (t := 13) rfl (Ent.nil _))))))))) (Sub.keep 0 rfl (Sub.keep 0 rfl (Sub.keep 0 rfl (Sub.keep 0 rfl (Sub.refl _)))))
            · skip
              refine V.exit ?_
              refine X.thenExit ?_
              refine X.thenExit ?_
              refine X.blockHit ?_
              refine X.next ?_
              refine V.seq ?_
              have hown : own = maskL (all[i]'ei).2 := by rw [how, List.take_of_length_le (by omega)]
              refine V.region ?_
              refine O.p rfl rfl rfl (Pu.move rfl rfl) ?_
              refine O.p rfl rfl rfl (Pu.move rfl rfl) ?_
              refine O.p rfl rfl rfl (Pu.indexAddrS (i) rfl Try.underlying34 sz43 rfl rfl (by omega) (by omega) (fun w hw => ((fun w hw => (hall w (hw.sub (Sub.drop (Sub.drop (Sub.drop (Sub.drop (Sub.refl _))))))).top) w hw).some (by omega))) ?_
              refine O.p rfl rfl rfl (Pu.load rfl pl43 rfl (Ld.row (fun w hw => (hall w (hw.sub (Sub.drop (Sub.drop (Sub.drop (Sub.drop (Sub.refl _))))))).top) hn_all ei rfl)) ?_
              refine O.p rfl rfl rfl (Pu.indexAddrS (0) rfl Try.underlying43 sz2 rfl rfl (by omega) (by omega) (fun w hw => ((fun w hw => (hall w (hw.sub (Sub.drop (Sub.drop (Sub.drop (Sub.drop (Sub.refl _))))))).row i ei) w hw).some (by omega))) ?_
              have e2 : 0 < (all[i]'ei).2.length := by omega
              refine O.p rfl rfl rfl (Pu.load rfl pl2 rfl (Ld.rd (fun w hw => (hall w (hw.sub (Sub.drop (Sub.drop (Sub.drop (Sub.drop (Sub.refl _))))))).row i ei) (k := 0) e2 rfl rfl)) ?_
              refine O.p rfl rfl rfl (Pu.move rfl rfl) ?_
              refine O.p rfl rfl rfl (Pu.eql rfl rfl rfl) ?_
              refine O.p rfl rfl rfl (Pu.move rfl rfl) ?_
              refine O.splitD 79 rfl (fun c7 => ?_) (fun c7 => ?_)
              · skip
                refine O.gp rfl rfl rfl rfl rfl (Pu.move rfl rfl) ?_
                refine O.gp rfl rfl rfl rfl rfl (Pu.move rfl rfl) ?_
                refine O.gp rfl rfl rfl rfl rfl (Pu.and (m := own) (n := blocks) K64.i (by omega) (by omega) rfl rfl rfl) ?_
                refine O.gp rfl rfl rfl rfl rfl (Pu.eql rfl rfl rfl) ?_
                refine O.p rfl rfl rfl (Pu.pickT rfl rfl rfl) ?_
                refine O.nil ?_
                refine X.next ?_
                refine V.condD rfl (fun c8 => ?_) (fun c8 => ?_)
                · skip
                  have hok := (okC_mask hget hc0.1.1 hc0.2 hh).2 ⟨c7, by rw [← hown]; omega⟩
                  have hlt : (leftM (blocks ||| own) bs.length).length < (leftM blocks bs.length).length := by rw [hown, leftM_or (fun p hp => (hc0.2 p hp).1), ← hget]; exact lessL_len hne hok.1
                  refine V.drawS mo (by kernel_rfl) (Sub.keep 2 rfl (Sub.drop (Sub.drop (Sub.drop (Sub.refl _))))) (fun hwf => ?_)
                  refine D.p 0 rfl rfl rfl rfl rfl rfl (Pu.move rfl rfl) ?_
                  refine D.p 1 rfl rfl rfl rfl rfl rfl (Pu.loadAgg rfl ag30 sz30 rfl rfl (Ld.whole 0 rfl)) ?_
                  refine D.p 2 rfl rfl rfl rfl rfl rfl (Pu.move rfl rfl) ?_
                  refine D.p 4 rfl rfl rfl rfl rfl rfl (Pu.move rfl rfl) ?_
                  refine D.p 6 rfl rfl rfl rfl rfl rfl (Pu.move rfl rfl) ?_
                  refine D.p 7 rfl rfl rfl rfl rfl rfl (Pu.move rfl rfl) ?_
                  refine D.p 8 rfl rfl rfl rfl rfl rfl (Pu.indexAddrS (i) rfl Try.underlying34 sz43 rfl rfl (by omega) (by omega) (fun w hw => ((fun w hw => (hall w (hw.sub (Sub.drop (Sub.refl _)))).top) w hw).some (by omega))) ?_
                  refine D.p 9 rfl rfl rfl rfl rfl rfl (Pu.load rfl pl43 rfl (Ld.row (fun w hw => (hall w (hw.sub (Sub.drop (Sub.refl _)))).top) hn_all ei rfl)) ?_
                  refine D.p 12 rfl rfl rfl rfl rfl rfl (Pu.move rfl rfl) ?_
                  refine D.p 13 rfl rfl rfl rfl rfl rfl (Pu.move rfl rfl) ?_
                  refine D.p 14 rfl rfl rfl rfl rfl rfl (Pu.or (m := blocks) (n := own) K64.i (by omega) (by omega) rfl rfl rfl) ?_
                  refine D.p 15 rfl rfl rfl rfl rfl rfl (Pu.move rfl rfl) ?_
                  refine D.p 16 rfl rfl rfl rfl rfl rfl (Pu.move rfl rfl) ?_
                  refine D.p 17 rfl rfl rfl rfl rfl rfl (Pu.len rfl Try.underlying64 rfl) ?_
                  refine D.p 18 rfl rfl rfl rfl rfl rfl (Pu.sub64 (r := (((most - (tops o).length) : Nat) : Int)) (by omega) (by omega) rfl rfl rfl) ?_
                  refine D.either hwf (e1 := 3) (e2 := 10) rfl ?_ ?_
                  · skip
                    refine ⟨_, _, rfl, rfl, fun _ _ => wanted_none rfl _, Ef.build SlC ([] : List Sl) rfl Try.underlying34 inf43 rfl rfl rfl (by first | decide | (simp; done)) (by kernel_rfl), rfl, rfl, ?_⟩
                    rintro _ _ ⟨A2, hA2, rfl, rfl⟩ hs
                    refine ⟨fun w hw => hw.sub (Sub.keep 3 rfl (Sub.drop (Sub.drop (Sub.drop (Sub.drop (Sub.refl _)))))), ?_⟩
                    refine D.either hwf (e1 := 5) (e2 := 10) rfl ?_ ?_
                    · skip
                      refine ⟨_, _, rfl, rfl, fun _ _ => wanted_none rfl _, Ef.append (xs := ([] : List Sl)) (ys := list) 0 rfl Try.underlying34 inf43 rfl rfl rfl rfl rfl rfl hls (Ld.own 4 (by exact rfl)) (by simp only [List.length_append, List.length_cons, List.length_nil] at *; omega) (by decide), rfl, rfl, ?_⟩
                      rintro _ _ ⟨A3, k1, rfl, rfl, hA3⟩ hs
                      replace hA3 := hA3 (.inl hA2)
                      refine ⟨fun w hw => hw.sub (Sub.keep 3 rfl (Sub.drop (Sub.drop (Sub.drop (Sub.drop (Sub.refl _)))))), ?_⟩
                      refine D.eff hwf (e := 10) rfl rfl rfl rfl (Ef.build SlC ([⟨(all[i]'ei).1.A, (all[i]'ei).2.length, (all[i]'ei).1.c⟩] : List Sl) rfl Try.underlying34 inf43 rfl rfl rfl (by first | decide | (simp; done)) (by kernel_rfl)) rfl rfl rfl ?_
                      rintro _ _ ⟨A4, hA4, rfl, rfl⟩ hs
                      refine ⟨fun w hw => hw.sub (Sub.keep 4 rfl (Sub.drop (Sub.drop (Sub.drop (Sub.drop (Sub.drop (Sub.refl _))))))), ?_⟩
                      refine D.eff hwf (e := 11) rfl rfl rfl rfl (Ef.append (xs := (([] : List Sl) ++ list)) (ys := ([⟨(all[i]'ei).1.A, (all[i]'ei).2.length, (all[i]'ei).1.c⟩] : List Sl)) 1 rfl Try.underlying34 inf43 rfl rfl rfl rfl rfl rfl hA4 (Ld.own 0 (by exact rfl)) (by simp only [List.length_append, List.length_cons, List.length_nil] at *; omega) (by decide)) rfl rfl rfl ?_
                      rintro _ _ ⟨A5, k2, rfl, rfl, hA5⟩ hs
                      replace hA5 := hA5 (.inr (by simp))
                      refine ⟨fun w hw => hw.sub (Sub.keep 4 rfl (Sub.drop (Sub.drop (Sub.drop (Sub.drop (Sub.drop (Sub.refl _))))))), ?_⟩
                      refine D.eff hwf (e := 19) rfl rfl rfl rfl (Ef.call call126 rfl rfl (Does.pre (fun w hw => hw.sub (Sub.keep 1 rfl (Sub.keep 0 rfl (Sub.keep 0 rfl (Sub.keep 0 rfl (Sub.keep 0 rfl (Sub.keep 0 rfl (Sub.refl _)))))))) (ih (n - 1) (by omega)  v bs all ((([] : List Sl) ++ list) ++ ([⟨(all[i]'ei).1.A, (all[i]'ei).2.length, (all[i]'ei).1.c⟩] : List Sl)) (blocks ||| own) (most - (tops o).length) _ _ _ _ _ _ w0 _ (fun w hw => hx w (hw.sub (Sub.drop (Sub.drop (Sub.drop (Sub.drop (Sub.drop (Sub.refl _)))))))) (fun w hw => hall w (hw.sub (Sub.drop (Sub.drop (Sub.drop (Sub.drop (Sub.drop (Sub.refl _)))))))) hn_all (by first | omega | (simp only [tops_len, conts_len, bl, List.length_append, List.length_cons, List.length_nil] at *; omega)) (by first | omega | (simp only [tops_len, conts_len, bl, List.length_append, List.length_cons, List.length_nil] at *; omega)) hA5 hcl (by omega) (by omega) (by omega) (by simp only [List.length_append, List.length_singleton, List.length_nil]; omega) lal (Nat.or_lt_two_pow hbm (by rw [hown]; exact hml)) hfew))) rfl rfl rfl ?_
                      rintro _ _ rfl hs
                      refine ⟨fun w hw => hw.tail.sub (Sub.keep 3 rfl (Sub.drop (Sub.drop (Sub.drop (Sub.drop (Sub.refl _)))))), ?_⟩
                      refine D.exi (fun r1A => ?_)
                      refine D.exi (fun r1c => ?_)
                      refine D.exi (fun r1 => ?_)
                      refine D.sep ?_
                      refine D.pur1 ?_
                      rintro ⟨rfl, hr1_1, hr1_2, hr1_3⟩
                      refine D.sep ?_
                      refine D.pur (RowsA.len 1 rfl) (fun hn_r1 => ?_)
                      have htl_r1 := tops_len r1
                      refine D.eff hwf (e := 20) rfl rfl rfl rfl (Ef.append (xs := (tops o)) (ys := (tops r1)) 3 rfl Try.underlying64 inf34 rfl rfl rfl rfl rfl rfl hr1_3 (Ld.own 0 (by exact rfl)) (by simp only [List.length_append, List.length_cons, List.length_nil] at *; omega) (by decide)) rfl rfl rfl ?_
                      rintro _ _ ⟨A6, k3, rfl, rfl, hA6⟩ hs
                      refine ⟨fun w hw => hw.sub (Sub.keep 5 rfl (Sub.drop (Sub.drop (Sub.drop (Sub.drop (Sub.drop (Sub.drop (Sub.refl _)))))))), ?_⟩
                      refine D.last hwf (e := 21) rfl rfl rfl rfl rfl rfl (Pu.assign rfl rfl) ?_
                      refine X.map (fun w hw => app_heap (ps := o) (qs := r1) (hw.sub (Sub.keep 3 rfl (Sub.keep 3 rfl (Sub.keep 1 rfl (Sub.keep 0 rfl (Sub.keep 0 rfl (Sub.keep 0 rfl (Sub.keep 0 rfl (Sub.refl _)))))))))) ?_
                      refine X.blockNormal ?_
                      refine X.next ?_
                      refine V.region ?_
                      refine O.p rfl rfl rfl (Pu.move rfl rfl) ?_
                      refine O.p rfl rfl rfl (Pu.add64 (r := ((i + 1 : Nat) : Int)) rfl (by omega) rfl rfl rfl) ?_
                      refine O.p rfl rfl rfl (Pu.assign rfl rfl) ?_
                      refine O.nil ?_
                      exact X.back3 (A6, k3, (o ++ r1), i + 1) (by (try dsimp only); exact ⟨by omega, by have h := res_step (co := conts o) (cout := []) (now := list) hok (by rw [List.nil_append]; exact ho) (by simp only [List.length_nil]; omega) (k := most - (tops o).length) (by simp only [List.length_nil]; omega) (r1 := leftM (blocks ||| own) bs.length) (by rw [hown, leftM_or (fun p hp => (hc0.2 p hp).1), hget]) (nw := ([] ++ list) ++ [⟨(all[i]'ei).1.A, (all[i]'ei).2.length, (all[i]'ei).1.c⟩]) (by rfl) (topJ_get ei hn_all) (cr := conts (o ++ r1)) (by rw [conts_append, hr1_1]); rwa [List.nil_append] at h, by simp only [List.length_append]; omega, hA6 (.inl hoS)⟩) (by first | omega | (dsimp only; omega)) (Ent.cons' rfl (by first | rfl | (simp only [tops_append]; done) | (simp only [tops_append]; rfl)) (Ent.cons rfl (Ent.nil _))) (Ent.cons (t := 1) rfl (Ent.cons (t := 2) rfl (Ent.cons (t := 3) rfl (Ent.cons (t := 4) rfl (Ent.cons (t := 5) rfl (Ent.cons (t := 11) rfl (Ent.nil _))))))) (Sub.keep 0 rfl (Sub.keep 0 rfl (Sub.keep 2 rfl (Sub.keep 2 rfl (Sub.drop (Sub.drop (Sub.refl _)))))))
                    · skip
                      refine ⟨_, _, rfl, rfl, fun _ _ => wanted_none rfl _, Ef.build SlC ([⟨(all[i]'ei).1.A, (all[i]'ei).2.length, (all[i]'ei).1.c⟩] : List Sl) rfl Try.underlying34 inf43 rfl rfl rfl (by first | decide | (simp; done)) (by kernel_rfl), rfl, rfl, ?_⟩
                      rintro _ _ ⟨A3, hA3, rfl, rfl⟩ hs
                      refine ⟨fun w hw => hw.sub (Sub.keep 4 rfl (Sub.drop (Sub.drop (Sub.drop (Sub.drop (Sub.drop (Sub.refl _))))))), ?_⟩
                      refine D.eff hwf (e := 5) rfl rfl rfl rfl (Ef.append (xs := ([] : List Sl)) (ys := list) 1 rfl Try.underlying34 inf43 rfl rfl rfl rfl rfl rfl hls (Ld.own 5 (by exact rfl)) (by simp only [List.length_append, List.length_cons, List.length_nil] at *; omega) (by decide)) rfl rfl rfl ?_
                      rintro _ _ ⟨A4, k1, rfl, rfl, hA4⟩ hs
                      replace hA4 := hA4 (.inl hA2)
                      refine ⟨fun w hw => hw.sub (Sub.keep 4 rfl (Sub.drop (Sub.drop (Sub.drop (Sub.drop (Sub.drop (Sub.refl _))))))), ?_⟩
                      refine D.eff hwf (e := 11) rfl rfl rfl rfl (Ef.append (xs := (([] : List Sl) ++ list)) (ys := ([⟨(all[i]'ei).1.A, (all[i]'ei).2.length, (all[i]'ei).1.c⟩] : List Sl)) 1 rfl Try.underlying34 inf43 rfl rfl rfl rfl rfl rfl hA3 (Ld.own 0 (by exact rfl)) (by simp only [List.length_append, List.length_cons, List.length_nil] at *; omega) (by decide)) rfl rfl rfl ?_
                      rintro _ _ ⟨A5, k2, rfl, rfl, hA5⟩ hs
                      replace hA5 := hA5 (.inr (by simp))
                      refine ⟨fun w hw => hw.sub (Sub.keep 4 rfl (Sub.drop (Sub.drop (Sub.drop (Sub.drop (Sub.drop (Sub.refl _))))))), ?_⟩
                      refine D.eff hwf (e := 19) rfl rfl rfl rfl (Ef.call call126 rfl rfl (Does.pre (fun w hw => hw.sub (Sub.keep 1 rfl (Sub.keep 0 rfl (Sub.keep 0 rfl (Sub.keep 0 rfl (Sub.keep 0 rfl (Sub.keep 0 rfl (Sub.refl _)))))))) (ih (n - 1) (by omega)  v bs all ((([] : List Sl) ++ list) ++ ([⟨(all[i]'ei).1.A, (all[i]'ei).2.length, (all[i]'ei).1.c⟩] : List Sl)) (blocks ||| own) (most - (tops o).length) _ _ _ _ _ _ w0 _ (fun w hw => hx w (hw.sub (Sub.drop (Sub.drop (Sub.drop (Sub.drop (Sub.drop (Sub.refl _)))))))) (fun w hw => hall w (hw.sub (Sub.drop (Sub.drop (Sub.drop (Sub.drop (Sub.drop (Sub.refl _)))))))) hn_all (by first | omega | (simp only [tops_len, conts_len, bl, List.length_append, List.length_cons, List.length_nil] at *; omega)) (by first | omega | (simp only [tops_len, conts_len, bl, List.length_append, List.length_cons, List.length_nil] at *; omega)) hA5 hcl (by omega) (by omega) (by omega) (by simp only [List.length_append, List.length_singleton, List.length_nil]; omega) lal (Nat.or_lt_two_pow hbm (by rw [hown]; exact hml)) hfew))) rfl rfl rfl ?_
                      rintro _ _ rfl hs
                      refine ⟨fun w hw => hw.tail.sub (Sub.keep 3 rfl (Sub.drop (Sub.drop (Sub.drop (Sub.drop (Sub.refl _)))))), ?_⟩
                      refine D.exi (fun r1A => ?_)
                      refine D.exi (fun r1c => ?_)
                      refine D.exi (fun r1 => ?_)
                      refine D.sep ?_
                      refine D.pur1 ?_
                      rintro ⟨rfl, hr1_1, hr1_2, hr1_3⟩
                      refine D.sep ?_
                      refine D.pur (RowsA.len 1 rfl) (fun hn_r1 => ?_)
                      have htl_r1 := tops_len r1
                      refine D.eff hwf (e := 20) rfl rfl rfl rfl (Ef.append (xs := (tops o)) (ys := (tops r1)) 3 rfl Try.underlying64 inf34 rfl rfl rfl rfl rfl rfl hr1_3 (Ld.own 0 (by exact rfl)) (by simp only [List.length_append, List.length_cons, List.length_nil] at *; omega) (by decide)) rfl rfl rfl ?_
                      rintro _ _ ⟨A6, k3, rfl, rfl, hA6⟩ hs
                      refine ⟨fun w hw => hw.sub (Sub.keep 5 rfl (Sub.drop (Sub.drop (Sub.drop (Sub.drop (Sub.drop (Sub.drop (Sub.refl _)))))))), ?_⟩
                      refine D.last hwf (e := 21) rfl rfl rfl rfl rfl rfl (Pu.assign rfl rfl) ?_
                      refine X.map (fun w hw => app_heap (ps := o) (qs := r1) (hw.sub (Sub.keep 3 rfl (Sub.keep 3 rfl (Sub.keep 1 rfl (Sub.keep 0 rfl (Sub.keep 0 rfl (Sub.keep 0 rfl (Sub.keep 0 rfl (Sub.refl _)))))))))) ?_
                      refine X.blockNormal ?_
                      refine X.next ?_
                      refine V.region ?_
                      refine O.p rfl rfl rfl (Pu.move rfl rfl) ?_
                      refine O.p rfl rfl rfl (Pu.add64 (r := ((i + 1 : Nat) : Int)) rfl (by omega) rfl rfl rfl) ?_
                      refine O.p rfl rfl rfl (Pu.assign rfl rfl) ?_
                      refine O.nil ?_
                      exact X.back3 (A6, k3, (o ++ r1), i + 1) (by (try dsimp only); exact ⟨by omega, by have h := res_step (co := conts o) (cout := []) (now := list) hok (by rw [List.nil_append]; exact ho) (by simp only [List.length_nil]; omega) (k := most - (tops o).length) (by simp only [List.length_nil]; omega) (r1 := leftM (blocks ||| own) bs.length) (by rw [hown, leftM_or (fun p hp => (hc0.2 p hp).1), hget]) (nw := ([] ++ list) ++ [⟨(all[i]'ei).1.A, (all[i]'ei).2.length, (all[i]'ei).1.c⟩]) (by rfl) (topJ_get ei hn_all) (cr := conts (o ++ r1)) (by rw [conts_append, hr1_1]); rwa [List.nil_append] at h, by simp only [List.length_append]; omega, hA6 (.inl hoS)⟩) (by first | omega | (dsimp only; omega)) (Ent.cons' rfl (by first | rfl | (simp only [tops_append]; done) | (simp only [tops_append]; rfl)) (Ent.cons rfl (Ent.nil _))) (Ent.cons (t := 1) rfl (Ent.cons (t := 2) rfl (Ent.cons (t := 3) rfl (Ent.cons (t := 4) rfl (Ent.cons (t := 5) rfl (Ent.cons (t := 11) rfl (Ent.nil _))))))) (Sub.keep 0 rfl (Sub.keep 0 rfl (Sub.keep 2 rfl (Sub.keep 2 rfl (Sub.drop (Sub.drop (Sub.refl _)))))))
                  · skip
                    refine ⟨_, _, rfl, rfl, fun _ _ => wanted_none rfl _, Ef.build SlC ([⟨(all[i]'ei).1.A, (all[i]'ei).2.length, (all[i]'ei).1.c⟩] : List Sl) rfl Try.underlying34 inf43 rfl rfl rfl (by first | decide | (simp; done)) (by kernel_rfl), rfl, rfl, ?_⟩
                    rintro _ _ ⟨A2, hA2, rfl, rfl⟩ hs
                    refine ⟨fun w hw => hw.sub (Sub.keep 3 rfl (Sub.drop (Sub.drop (Sub.drop (Sub.drop (Sub.refl _)))))), ?_⟩
                    refine D.eff hwf (e := 3) rfl rfl rfl rfl (Ef.build SlC ([] : List Sl) rfl Try.underlying34 inf43 rfl rfl rfl (by first | decide | (simp; done)) (by kernel_rfl)) rfl rfl rfl ?_
                    rintro _ _ ⟨A3, hA3, rfl, rfl⟩ hs
                    refine ⟨fun w hw => hw.sub (Sub.keep 4 rfl (Sub.drop (Sub.drop (Sub.drop (Sub.drop (Sub.drop (Sub.refl _))))))), ?_⟩
                    refine D.eff hwf (e := 5) rfl rfl rfl rfl (Ef.append (xs := ([] : List Sl)) (ys := list) 0 rfl Try.underlying34 inf43 rfl rfl rfl rfl rfl rfl hls (Ld.own 5 (by exact rfl)) (by simp only [List.length_append, List.length_cons, List.length_nil] at *; omega) (by decide)) rfl rfl rfl ?_
                    rintro _ _ ⟨A4, k1, rfl, rfl, hA4⟩ hs
                    replace hA4 := hA4 (.inl hA3)
                    refine ⟨fun w hw => hw.sub (Sub.keep 4 rfl (Sub.drop (Sub.drop (Sub.drop (Sub.drop (Sub.drop (Sub.refl _))))))), ?_⟩
                    refine D.eff hwf (e := 11) rfl rfl rfl rfl (Ef.append (xs := (([] : List Sl) ++ list)) (ys := ([⟨(all[i]'ei).1.A, (all[i]'ei).2.length, (all[i]'ei).1.c⟩] : List Sl)) 0 rfl Try.underlying34 inf43 rfl rfl rfl rfl rfl rfl hA2 (Ld.own 1 (by exact rfl)) (by simp only [List.length_append, List.length_cons, List.length_nil] at *; omega) (by decide)) rfl rfl rfl ?_
                    rintro _ _ ⟨A5, k2, rfl, rfl, hA5⟩ hs
                    replace hA5 := hA5 (.inr (by simp))
                    refine ⟨fun w hw => hw.sub (Sub.keep 4 rfl (Sub.drop (Sub.drop (Sub.drop (Sub.drop (Sub.drop (Sub.refl _))))))), ?_⟩
                    refine D.eff hwf (e := 19) rfl rfl rfl rfl (Ef.call call126 rfl rfl (Does.pre (fun w hw => hw.sub (Sub.keep 0 rfl (Sub.keep 0 rfl (Sub.keep 0 rfl (Sub.keep 0 rfl (Sub.keep 0 rfl (Sub.keep 0 rfl (Sub.refl _)))))))) (ih (n - 1) (by omega)  v bs all ((([] : List Sl) ++ list) ++ ([⟨(all[i]'ei).1.A, (all[i]'ei).2.length, (all[i]'ei).1.c⟩] : List Sl)) (blocks ||| own) (most - (tops o).length) _ _ _ _ _ _ w0 _ (fun w hw => hx w (hw.sub (Sub.drop (Sub.drop (Sub.drop (Sub.drop (Sub.drop (Sub.refl _)))))))) (fun w hw => hall w (hw.sub (Sub.drop (Sub.drop (Sub.drop (Sub.drop (Sub.drop (Sub.refl _)))))))) hn_all (by first | omega | (simp only [tops_len, conts_len, bl, List.length_append, List.length_cons, List.length_nil] at *; omega)) (by first | omega | (simp only [tops_len, conts_len, bl, List.length_append, List.length_cons, List.length_nil] at *; omega)) hA5 hcl (by omega) (by omega) (by omega) (by simp only [List.length_append, List.length_singleton, List.length_nil]; omega) lal (Nat.or_lt_two_pow hbm (by rw [hown]; exact hml)) hfew))) rfl rfl rfl ?_
                    rintro _ _ rfl hs
                    refine ⟨fun w hw => hw.tail.sub (Sub.keep 3 rfl (Sub.drop (Sub.drop (Sub.drop (Sub.drop (Sub.refl _)))))), ?_⟩
                    refine D.exi (fun r1A => ?_)
                    refine D.exi (fun r1c => ?_)
                    refine D.exi (fun r1 => ?_)
                    refine D.sep ?_
                    refine D.pur1 ?_
                    rintro ⟨rfl, hr1_1, hr1_2, hr1_3⟩
                    refine D.sep ?_
                    refine D.pur (RowsA.len 1 rfl) (fun hn_r1 => ?_)
                    have htl_r1 := tops_len r1
                    refine D.eff hwf (e := 20) rfl rfl rfl rfl (Ef.append (xs := (tops o)) (ys := (tops r1)) 3 rfl Try.underlying64 inf34 rfl rfl rfl rfl rfl rfl hr1_3 (Ld.own 0 (by exact rfl)) (by simp only [List.length_append, List.length_cons, List.length_nil] at *; omega) (by decide)) rfl rfl rfl ?_
                    rintro _ _ ⟨A6, k3, rfl, rfl, hA6⟩ hs
                    refine ⟨fun w hw => hw.sub (Sub.keep 5 rfl (Sub.drop (Sub.drop (Sub.drop (Sub.drop (Sub.drop (Sub.drop (Sub.refl _)))))))), ?_⟩
                    refine D.last hwf (e := 21) rfl rfl rfl rfl rfl rfl (Pu.assign rfl rfl) ?_
                    refine X.map (fun w hw => app_heap (ps := o) (qs := r1) (hw.sub (Sub.keep 3 rfl (Sub.keep 3 rfl (Sub.keep 1 rfl (Sub.keep 0 rfl (Sub.keep 0 rfl (Sub.keep 0 rfl (Sub.keep 0 rfl (Sub.refl _)))))))))) ?_
                    refine X.blockNormal ?_
                    refine X.next ?_
                    refine V.region ?_
                    refine O.p rfl rfl rfl (Pu.move rfl rfl) ?_
                    refine O.p rfl rfl rfl (Pu.add64 (r := ((i + 1 : Nat) : Int)) rfl (by omega) rfl rfl rfl) ?_
                    refine O.p rfl rfl rfl (Pu.assign rfl rfl) ?_
                    refine O.nil ?_
                    exact X.back3 (A6, k3, (o ++ r1), i + 1) (by (try dsimp only); exact ⟨by omega, by have h := res_step (co := conts o) (cout := []) (now := list) hok (by rw [List.nil_append]; exact ho) (by simp only [List.length_nil]; omega) (k := most - (tops o).length) (by simp only [List.length_nil]; omega) (r1 := leftM (blocks ||| own) bs.length) (by rw [hown, leftM_or (fun p hp => (hc0.2 p hp).1), hget]) (nw := ([] ++ list) ++ [⟨(all[i]'ei).1.A, (all[i]'ei).2.length, (all[i]'ei).1.c⟩]) (by rfl) (topJ_get ei hn_all) (cr := conts (o ++ r1)) (by rw [conts_append, hr1_1]); rwa [List.nil_append] at h, by simp only [List.length_append]; omega, hA6 (.inl hoS)⟩) (by first | omega | (dsimp only; omega)) (Ent.cons' rfl (by first | rfl | (simp only [tops_append]; done) | (simp only [tops_append]; rfl)) (Ent.cons rfl (Ent.nil _))) (Ent.cons (t := 1) rfl (Ent.cons (t := 2) rfl (Ent.cons (t := 3) rfl (Ent.cons (t := 4) rfl (Ent.cons (t := 5) rfl (Ent.cons (t := 11) rfl (Ent.nil _))))))) (Sub.keep 0 rfl (Sub.keep 0 rfl (Sub.keep 2 rfl (Sub.keep 2 rfl (Sub.drop (Sub.drop (Sub.refl _)))))))
                · skip
                  refine V.skip ?_
                  refine X.blockNormal ?_
                  refine X.next ?_
                  refine V.region ?_
                  refine O.p rfl rfl rfl (Pu.move rfl rfl) ?_
                  refine O.p rfl rfl rfl (Pu.add64 (r := ((i + 1 : Nat) : Int)) rfl (by omega) rfl rfl rfl) ?_
                  refine O.p rfl rfl rfl (Pu.assign rfl rfl) ?_
                  refine O.nil ?_
                  exact X.back3 (oA, oc, o, i + 1) (by (try dsimp only); exact ⟨by omega, by rw [resJ_no (fun h => c8 (by have := ((okC_mask hget hc0.1.1 hc0.2 hh).1 h).2; rw [← hown] at this; omega))]; exact ho, hl, hoS⟩) (by first | omega | (dsimp only; omega)) (Ent.cons' rfl (by first | rfl | (simp only [tops_append]; done) | (simp only [tops_append]; rfl)) (Ent.cons rfl (Ent.nil _))) (Ent.cons (t := 1) rfl (Ent.cons (t := 2) rfl (Ent.cons (t := 3) rfl (Ent.cons (t := 4) rfl (Ent.cons (t := 5) rfl (Ent.cons (t := 11) rfl (Ent.nil _))))))) (Sub.keep 0 rfl (Sub.keep 0 rfl (Sub.keep 0 rfl (Sub.keep 0 rfl (Sub.refl _)))))
              · skip
                refine O.gs rfl rfl rfl rfl rfl rfl ?_
                refine O.gs rfl rfl rfl rfl rfl rfl ?_
                refine O.gs rfl rfl rfl rfl rfl rfl ?_
                refine O.gs rfl rfl rfl rfl rfl rfl ?_
                refine O.p rfl rfl rfl (Pu.pickF rfl rfl rfl) ?_
                refine O.nil ?_
                refine X.next ?_
                refine V.condF rfl ?_
                refine V.skip ?_
                refine X.blockNormal ?_
                refine X.next ?_
                refine V.region ?_
                refine O.p rfl rfl rfl (Pu.move rfl rfl) ?_
                refine O.p rfl rfl rfl (Pu.add64 (r := ((i + 1 : Nat) : Int)) rfl (by omega) rfl rfl rfl) ?_
                refine O.p rfl rfl rfl (Pu.assign rfl rfl) ?_
                refine O.nil ?_
                exact X.back3 (oA, oc, o, i + 1) (by (try dsimp only); exact ⟨by omega, by rw [resJ_no (fun h => c7 ((okC_mask hget hc0.1.1 hc0.2 hh).1 h).1)]; exact ho, hl, hoS⟩) (by first | omega | (dsimp only; omega)) (Ent.cons' rfl (by first | rfl | (simp only [tops_append]; done) | (simp only [tops_append]; rfl)) (Ent.cons rfl (Ent.nil _))) (Ent.cons (t := 1) rfl (Ent.cons (t := 2) rfl (Ent.cons (t := 3) rfl (Ent.cons (t := 4) rfl (Ent.cons (t := 5) rfl (Ent.cons (t := 11) rfl (Ent.nil _))))))) (Sub.keep 0 rfl (Sub.keep 0 rfl (Sub.keep 0 rfl (Sub.keep 0 rfl (Sub.refl _)))))
          · skip
            refine V.exit ?_
            refine X.thenExit ?_
            refine X.thenExit ?_
            refine X.blockHit ?_
            refine X.next ?_
            refine V.seq ?_
            refine V.region ?_
            refine O.p rfl rfl rfl (Pu.move rfl rfl) ?_
            refine O.p rfl rfl rfl (Pu.assign rfl rfl) ?_
            refine O.nil ?_
            refine X.next ?_
            refine V.ret ?_
            refine X.ret1 rfl rfl ?_
            exact fun w hw => St.mkExi oA (St.mkExi oc (St.mkExi o (St.unsep (St.addPur ⟨(by first | rfl | (simp only [tops_append]; done) | (simp only [tops_append]; rfl)), by rw [resN_pos hl0 hln]; have h := resJ_stop (B := conts o) (f := fun q => list ++ topJ (tops all) q) (C := []) (by rw [List.nil_append]; exact ho) (by simp only [List.length_nil]; omega) (by omega); rwa [List.nil_append] at h, hl, hoS⟩ (St.unsep (hw.sub (Sub.keep 0 rfl (Sub.keep 0 rfl (Sub.drop (Sub.drop (Sub.refl _)))))))))))
        · skip
          refine O.gs rfl rfl rfl rfl rfl rfl ?_
          refine O.gs rfl rfl rfl rfl rfl rfl ?_
          refine O.gs rfl rfl rfl rfl rfl rfl ?_
          refine O.gs rfl rfl rfl rfl rfl rfl ?_
          refine O.p rfl rfl rfl (Pu.pickF rfl rfl rfl) ?_
          refine O.nil ?_
          refine X.next ?_
          refine V.condF rfl ?_
          refine V.exit ?_
          refine X.thenExit ?_
          refine X.thenExit ?_
          refine X.blockHit ?_
          refine X.next ?_
          refine V.seq ?_
          refine V.region ?_
          refine O.p rfl rfl rfl (Pu.move rfl rfl) ?_
          refine O.p rfl rfl rfl (Pu.assign rfl rfl) ?_
          refine O.nil ?_
          refine X.next ?_
          refine V.ret ?_
          refine X.ret1 rfl rfl ?_
          exact fun w hw => St.mkExi oA (St.mkExi oc (St.mkExi o (St.unsep (St.addPur ⟨(by first | rfl | (simp only [tops_append]; done) | (simp only [tops_append]; rfl)), by rw [resN_pos hl0 hln, ← show i = (conts all).length by omega]; exact ho, hl, hoS⟩ (St.unsep (hw.sub (Sub.keep 0 rfl (Sub.keep 0 rfl (Sub.drop (Sub.drop (Sub.refl _)))))))))))
  · skip
    refine O.gs rfl rfl rfl rfl rfl rfl ?_
    refine O.gs rfl rfl rfl rfl rfl rfl ?_
    refine O.gs rfl rfl rfl rfl rfl rfl ?_
    refine O.gs rfl rfl rfl rfl rfl rfl ?_
    refine O.gs rfl rfl rfl rfl rfl rfl ?_
    refine O.gs rfl rfl rfl rfl rfl rfl ?_
    refine O.p rfl rfl rfl (Pu.pickF rfl rfl rfl) ?_
    refine O.nil ?_
    refine X.next ?_
    refine V.condF rfl ?_
    refine V.exit ?_
    refine X.thenExit ?_
    refine X.thenExit ?_
    refine X.blockHit ?_
    refine X.next ?_
    refine V.seq ?_
    refine V.seq ?_
    refine V.region ?_
    refine O.p rfl rfl rfl (Pu.move rfl rfl) ?_
    refine O.p rfl rfl rfl (Pu.fieldAddr 1 rfl Try.underlying30 rfl sz28 rfl rfl) ?_
    refine O.p rfl rfl rfl (Pu.load rfl pl28 rfl (Ld.blk 0 rfl rfl)) ?_
    refine O.p rfl rfl rfl (Pu.len rfl Try.underlying28 rfl) ?_
    refine O.p rfl rfl rfl (Pu.eql rfl rfl rfl) ?_
    refine O.nil ?_
    refine X.next ?_
    refine V.condD rfl (fun c9 => ?_) (fun c9 => ?_)
    · skip
      refine V.seq ?_
      refine V.region ?_
      refine O.p rfl rfl rfl (Pu.move rfl rfl) ?_
      refine O.e rfl rfl rfl (Ef.build SlC ([⟨listA, list.length, listc⟩] : List Sl) rfl Try.underlying64 inf34 rfl rfl rfl (by first | decide | (simp; done)) (by kernel_rfl)) ?_
      rintro _ _ ⟨A2, hA2, rfl, rfl⟩
      refine O.p rfl rfl rfl (Pu.assign rfl rfl) ?_
      refine O.nil ?_
      refine X.next ?_
      refine V.ret ?_
      refine X.thenRet ?_
      refine X.map (fun w hw => one_heap (xs := list) (hw.sub (Sub.keep 0 rfl (Sub.keep 1 rfl (Sub.keep 0 rfl (Sub.refl _)))))) ?_
      refine X.ret1 rfl rfl ?_
      exact fun w hw => St.mkExi A2 (St.mkExi 1 (St.mkExi ([((⟨listA, list.length, listc⟩ : Sl), list)]) (St.unsep (St.addPur ⟨(by first | rfl | (simp only [tops_append]; done) | (simp only [tops_append]; rfl)), by rw [leftM_nil (fun i h => hbt i (by omega)), resN_nil, List.take_of_length_le (by simp only [List.length_singleton]; omega)]; simp [conts, topJ], by simp only [List.length_singleton]; omega, hA2⟩ (St.unsep (hw.sub (Sub.keep 0 rfl (Sub.keep 0 rfl (Sub.drop (Sub.refl _))))))))))
    · skip
      exact absurd (by omega) c9

theorem l05Resolve_ok (n : Nat) : L_l05Resolve n := by
  induction n using Nat.strongRecOn with
  | _ n ih => exact fun v bs all list blocks most A c allA allc listA listc w0 H hx hall hn_all lx lall hls hcl hln hm hmm hnw lal hbm hfew => l05Resolve_step n ih v bs all list blocks most A c allA allc listA listc w0 H hx hall hn_all lx lall hls hcl hln hm hmm hnw lal hbm hfew
end Go.Proofs.Ytjpfngmoabnffaa
