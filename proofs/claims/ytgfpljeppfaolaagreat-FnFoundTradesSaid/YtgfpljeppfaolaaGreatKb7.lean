/-
  Contracts, part 7.
-/
import Derived.Test.YtgfpljeppfaolaaGreatKb6
set_option linter.unusedVariables false
set_option linter.unusedSimpArgs false
namespace Go.Proofs.YtgfpljeppfaolaaGreat
open Go Go.RowKit Go.Vc Go.Proofs
set_option maxRecDepth 100000 in
set_option maxHeartbeats 1000000 in
theorem l04ExchangedT_ok (b : B3) (p : Int) (q : Int) (w : World) (hb : 0 ≤ b.1 ∧ b.1 ≤ 15 ∧ 0 ≤ b.2.1 ∧ b.2.1 ≤ 15 ∧ 0 ≤ b.2.2 ∧ b.2.2 ≤ 15) (hp : 0 ≤ p ∧ p ≤ 15) (hq : 0 ≤ q ∧ q ≤ 15) : Does Tryz.prog 142 [B3.v b, .int .i64 p, .int .i64 q] w [] (fun r => [.pur (r = B3.v (exB p q b))]) := by
 refine Does.enter Tryz.func142 rfl rfl [(0, B3.v b), (1, .int .i64 p), (2, .int .i64 q)] rfl (Za (O.f rfl (Ef.box rfl rfl rfl) ?_))
 rintro _ _ ⟨b1, rfl, rfl⟩
 refine O.f rfl (Ef.alloc rfl zr81 rfl) ?_
 rintro _ _ ⟨b2, rfl, rfl⟩
 refine Zb (O.q rfl (Pu.indexArr 0 0 rfl ut81 sz2 rfl rfl (by decide) (by decide) (by decide)) (O.q rfl (Pu.load rfl pl2 rfl (Ld.blk 1 rfl rfl)) (O.q rfl (Pu.indexArr 1 1 rfl ut81 sz2 rfl rfl (by decide) (by decide) (by decide)) (O.q rfl (Pu.load rfl pl2 rfl (Ld.blk 1 rfl rfl)) (O.q rfl (Pu.indexArr 2 2 rfl ut81 sz2 rfl rfl (by decide) (by decide) (by decide)) (O.q rfl (Pu.load rfl pl2 rfl (Ld.blk 1 rfl rfl)) (O.f rfl (Ef.build I64 ([b.1, b.2.1, b.2.2] : List Int) rfl ut49 inf2 rfl rfl rfl (by first | decide | (simp; done)) (by kernel_rfl)) ?_)))))))
 rintro _ _ ⟨A1, hA1, rfl, rfl⟩
 refine O.m rfl (Zc (O.m rfl (Zi (V.loop3 (β := Nat × (List Int)) (fun x => [(8, .int .i64 (x.1 : Int))]) _ (fun x => [Own 2 I64 A1 3 x.2]) _ (fun x => x.1 ≤ 3 ∧ x.2 = exS p q (bl b) x.1) (fun x => 3 - x.1) (0, ([b.1, b.2.1, b.2.2] : List Int)) (by (try dsimp only); exact ⟨by omega, exS_zero.symm⟩) (Ent.cons rfl (Ent.nil _)) (Ent.cons (t := 1) rfl (Ent.cons (t := 2) rfl (Ent.cons (t := 6) rfl (Ent.cons (t := 7) rfl (Ent.nil _))))) (Sub.s [0,0,0] rfl) ?_))))
 rintro ⟨i, z⟩ ⟨hi, hz⟩
 dsimp only at hi hz ⊢
 have hzl0 : z.length = 3 := by rw [hz]; exact exS_len (show i ≤ (bl b).length from hi)
 have hbl3 : ([b.1, b.2.1, b.2.2] : List Int).length = 3 := rfl
 refine Zj (O.m rfl (O.q rfl (Pu.lss rfl rfl rfl) (Zf (V.condD rfl (fun c1 => ?_) (fun c1 => ?_)))))
 ·refine Vk (Xn (Vs (Vb (Vs ?_))))
  have hb3 : (bl b).length = 3 := rfl
  have eb : i < (bl b).length := by omega
  have hzl : z.length = 3 := by rw [hz]; exact (exS_len (by omega)).trans hb3
  have ez : i < z.length := by omega
  have hzi : z[i]'ez = ((bl b)[i]'eb) := (List.getElem_of_eq hz ez).trans (exS_at eb _)
  refine Vr (O.m rfl (O.m rfl (O.q rfl (Pu.indexAddrS (i) rfl ut49 sz2 rfl rfl (by omega) (by omega) (fun w hw => Own.some hw (i := 0) (by exact rfl) (by omega))) (O.q rfl (Pu.load rfl pl2 rfl (Ld.rd (Ld.own 0 (by exact rfl)) (k := i) ez rfl rfl)) (O.m rfl (O.q rfl (Pu.eql rfl rfl rfl) (Zf (V.condD rfl (fun c2 => ?_) (fun c2 => ?_)))))))))
  ·refine Vr (O.m rfl (O.m rfl (O.m rfl (O.q rfl (Pu.indexAddrS (i) rfl ut49 sz2 rfl rfl (by omega) (by omega) (fun w hw => Own.some hw (i := 0) (by exact rfl) (by omega))) (O.s rfl rfl (Ef.storeOwn 0 (i) q rfl sz2 rfl rfl rfl rfl (by omega) rfl) ?_)))))
   rintro _ _ rfl
   exact Zk (O.m rfl (O.q rfl (Pu.add64 (r := ((i + 1 : Nat) : Int)) rfl (by omega) rfl rfl rfl) (O.m rfl (On (X.back3 (i + 1, (z.set (i) q)) (by (try dsimp only); exact ⟨by omega, by rw [hz, ← exS_set eb]; congr 1; exact (show sw2 p q ((bl b)[i]'eb) = _ from (by unfold sw2; rw [if_pos (hzi.symm.trans c2)])).symm⟩) (by first | omega | (dsimp only; omega)) (Ent.cons rfl (Ent.nil _)) (Ent.cons (t := 1) rfl (Ent.cons (t := 2) rfl (Ent.cons (t := 6) rfl (Ent.cons (t := 7) rfl (Ent.nil _))))) (Sub.s [0,0,0] rfl))))))
  ·refine Za (O.m rfl (O.m rfl (O.q rfl (Pu.indexAddrS (i) rfl ut49 sz2 rfl rfl (by omega) (by omega) (fun w hw => Own.some hw (i := 0) (by exact rfl) (by omega))) (O.q rfl (Pu.load rfl pl2 rfl (Ld.rd (Ld.own 0 (by exact rfl)) (k := i) ez rfl rfl)) (O.m rfl (O.q rfl (Pu.eql rfl rfl rfl) (Zf (V.condD rfl (fun c3 => ?_) (fun c3 => ?_)))))))))
   ·refine Vr (O.m rfl (O.m rfl (O.m rfl (O.q rfl (Pu.indexAddrS (i) rfl ut49 sz2 rfl rfl (by omega) (by omega) (fun w hw => Own.some hw (i := 0) (by exact rfl) (by omega))) (O.s rfl rfl (Ef.storeOwn 0 (i) p rfl sz2 rfl rfl rfl rfl (by omega) rfl) ?_)))))
    rintro _ _ rfl
    exact Zk (O.m rfl (O.q rfl (Pu.add64 (r := ((i + 1 : Nat) : Int)) rfl (by omega) rfl rfl rfl) (O.m rfl (On (X.back3 (i + 1, (z.set (i) p)) (by (try dsimp only); exact ⟨by omega, by rw [hz, ← exS_set eb]; congr 1; exact (show sw2 p q ((bl b)[i]'eb) = _ from (by unfold sw2; rw [if_neg (fun h => c2 (hzi.trans h)), if_pos (hzi.symm.trans c3)])).symm⟩) (by first | omega | (dsimp only; omega)) (Ent.cons rfl (Ent.nil _)) (Ent.cons (t := 1) rfl (Ent.cons (t := 2) rfl (Ent.cons (t := 6) rfl (Ent.cons (t := 7) rfl (Ent.nil _))))) (Sub.s [0,0,0] rfl))))))
   ·exact Zg (O.m rfl (O.q rfl (Pu.add64 (r := ((i + 1 : Nat) : Int)) rfl (by omega) rfl rfl rfl) (O.m rfl (On (X.back3 (i + 1, z) (by (try dsimp only); exact ⟨by omega, by rw [← exS_set eb, ← hz, show sw2 p q ((bl b)[i]'eb) = ((bl b)[i]'eb) from (by unfold sw2; rw [if_neg (fun h => c2 (hzi.trans h)), if_neg (fun h => c3 (hzi.trans h))]), ← hzi, List.set_getElem_self]⟩) (by first | omega | (dsimp only; omega)) (Ent.cons rfl (Ent.nil _)) (Ent.cons (t := 1) rfl (Ent.cons (t := 2) rfl (Ent.cons (t := 6) rfl (Ent.cons (t := 7) rfl (Ent.nil _))))) (Sub.s [0,0,0] rfl))))))
 ·refine Ve (Xe (Xe (Xh (Xn (Vs ?_)))))
  have hz2 : z = [sw2 p q b.1, sw2 p q b.2.1, sw2 p q b.2.2] := by rw [hz, show i = 3 by omega]; exact exS_all rfl
  have hzl2 := congrArg List.length hz2
  simp only [List.length_cons, List.length_nil] at hzl2
  have ek0 : 0 < z.length := by omega
  have ek1 : 1 < z.length := by omega
  have ek2 : 2 < z.length := by omega
  have hk0 : z[0]'ek0 = sw2 p q b.1 := List.getElem_of_eq hz2 ek0
  have hk1 : z[1]'ek1 = sw2 p q b.2.1 := List.getElem_of_eq hz2 ek1
  have hk2 : z[2]'ek2 = sw2 p q b.2.2 := List.getElem_of_eq hz2 ek2
  have hw0 : -100 ≤ sw2 p q b.1 ∧ sw2 p q b.1 ≤ 100 := by unfold sw2; (repeat' split) <;> omega
  have hw1 : -100 ≤ sw2 p q b.2.1 ∧ sw2 p q b.2.1 ≤ 100 := by unfold sw2; (repeat' split) <;> omega
  have hw2 : -100 ≤ sw2 p q b.2.2 ∧ sw2 p q b.2.2 ≤ 100 := by unfold sw2; (repeat' split) <;> omega
  refine V.draw mo (by kernel_rfl) (fun hwf => D.m 0 rfl (D.q 1 rfl (Pu.indexAddrS (0) rfl ut49 sz2 rfl rfl (by omega) (by omega) (fun w hw => Own.some hw (i := 0) (by exact rfl) (by omega))) (D.q 2 rfl (Pu.load rfl pl2 rfl (Ld.rd (Ld.own 0 (by exact rfl)) (k := 0) ek0 rfl rfl)) (D.m 3 rfl (D.q 4 rfl (Pu.indexAddrS (1) rfl ut49 sz2 rfl rfl (by omega) (by omega) (fun w hw => Own.some hw (i := 0) (by exact rfl) (by omega))) (D.q 5 rfl (Pu.load rfl pl2 rfl (Ld.rd (Ld.own 0 (by exact rfl)) (k := 1) ek1 rfl rfl)) (D.m 6 rfl (D.q 7 rfl (Pu.indexAddrS (2) rfl ut49 sz2 rfl rfl (by omega) (by omega) (fun w hw => Own.some hw (i := 0) (by exact rfl) (by omega))) (D.q 8 rfl (Pu.load rfl pl2 rfl (Ld.rd (Ld.own 0 (by exact rfl)) (k := 2) ek2 rfl rfl)) (D.f hwf 9 rfl (Ef.callP call80 rfl rfl (fun w hw => l01BlockD_ok  (z[0]'ek0) (z[1]'ek1) (z[2]'ek2) w   (by omega) (by omega) (by omega))) ?_))))))))))
  rintro _ _ ⟨rfl, rfl⟩ hs
  refine ⟨fun w hw => hw, (D.effX (Hs' := []) hwf (e := 10) rfl rfl rfl rfl (Ef.storeAll 1 rfl sz81 rfl rfl rfl rfl (by simp [Value.oneCell']) rfl) rfl [] rfl (List.forall_mem_nil _) ?_)⟩
  rintro _ _ rfl
  exact ⟨fun w hw => hw.sub (Sub.nil _), (D.done hwf rfl (Xn (Vt (X.retCell rfl ag81 sz81 rfl rfl (Ld.whole 1 rfl) (fun w hw => St.retP (by rw [hk0, hk1, hk2]; rfl) hw)))))⟩
set_option maxRecDepth 100000 in
set_option maxHeartbeats 1000000 in
theorem l04Four_ok (v_ : Int) (four : List B3) (fourA : Option Addr) (fourc : Nat) (w : World) (hfour : Rd B3C w fourA four) (lfour : four.length ≤ 1099511627776) (hv : 0 ≤ v_ ∧ v_ ≤ 15) (h4 : four.length = 4) (hg : ∀ b ∈ four, good v_ b) (hlt : four.Pairwise B3.lt) : Does Tryz.prog 66 [.int .i64 v_, .slice fourA four.length fourc] w [] (fun r => [.exi fun (oA : Option Addr) => .exi fun (oc : Nat) => .exi fun (o : List B3) => .exi fun (iA : Option Addr) => .exi fun (ic : Nat) => .exi fun (i : List B3) => .sep (.pur (r = .tuple #[.agg #[.int .i64 (if PasB four then v_ else 0), .slice oA o.length oc, .slice iA i.length ic], .bool (decide (PasB four))] ∧ (PasB four → o = four ∧ (i.Perm (four.map (exB (ptA four) (ptB v_.toNat four))) ∧ SrtB i)))) (.sep (Own 81 B3C oA oc o) (Own 81 B3C iA ic i))]) := by
 refine Does.enter Tryz.func66 rfl rfl [(0, .int .i64 v_), (1, .slice fourA four.length fourc)] rfl (Za (O.f rfl (Ef.alloc rfl zr35 rfl) ?_))
 rintro _ _ ⟨b1, rfl, rfl⟩
 refine O.m rfl (Zb (O.m rfl (O.f rfl (Ef.makeI (n := (v_).toNat) I64 (0 : Int) rfl ut49 inf2 rfl rfl rfl rfl (by omega) (by omega) (by omega)) ?_)))
 rintro _ _ ⟨A1, hA1, rfl, rfl⟩
 refine O.f rfl (Ef.build I64 ([] : List Int) rfl ut49 inf2 rfl rfl rfl (by first | decide | (simp; done)) (by kernel_rfl)) ?_
 rintro _ _ ⟨A2, hA2, rfl, rfl⟩
 refine O.m rfl (O.m rfl (Zc (O.m rfl (Zi (V.loop3 (β := Nat × (List Int)) (fun x => [(8, .int .i64 (x.1 : Int))]) _ (fun x => [Own 2 I64 A1 ((v_).toNat) x.2]) _ (fun x => x.1 ≤ 4 ∧ x.2 = cntV ((four.take x.1).flatMap bl) v_.toNat) (fun x => 4 - x.1) (0, (List.replicate ((v_).toNat) (0 : Int))) (by (try dsimp only); exact ⟨by omega, by rw [List.take_zero]; exact cntV_nil.symm⟩) (Ent.cons rfl (Ent.nil _)) (Ent.cons (t := 0) rfl (Ent.cons (t := 1) rfl (Ent.cons (t := 4) rfl (Ent.cons (t := 6) rfl (Ent.cons (t := 7) rfl (Ent.nil _)))))) (Sub.s [1,0,0] rfl) ?_)))))
 rintro ⟨i, cs⟩ ⟨hi, hcs⟩
 dsimp only at hi hcs ⊢
 subst hcs
 refine Zj (O.m rfl (O.q rfl (Pu.lss rfl rfl rfl) (Zf (V.condD rfl (fun c1 => ?_) (fun c1 => ?_)))))
 ·refine Zh (O.m rfl (Zi (V.unroll 3 (Vs ?_))))
  refine Za (O.m rfl (O.q rfl (Pu.isT (by decide) (Pu.lss rfl rfl rfl)) (Zf (V.condT rfl (Vk (Xn (Vs (Vb ?_))))))))
  have e1 : i < four.length := by omega
  have hgi := hg _ (List.getElem_mem e1)
  unfold good at hgi
  have hfl := flat_len (four.take i)
  rw [List.length_take] at hfl
  have hbd0 := cN_bd (ps := ((four.take i).flatMap bl)) (p := (four[i]'e1).1)
  try simp only [List.length_append, List.length_singleton] at hbd0
  refine Vr (O.m rfl (O.m rfl (O.m rfl (O.m rfl (O.q rfl (Pu.indexAddr (i) rfl ut24 sz81 rfl rfl (by omega) (by omega) (hfour.some (by omega))) (O.q rfl (Pu.indexArr' (0) rfl ut81 sz2 rfl rfl (by omega) (by omega) rfl (fun w hw => by have := Rd.some ((Ld.old hfour) w hw) (by omega); simpa using this)) (O.q rfl (Pu.load rfl pl2 rfl (Ld.part (k := i) (j := 0) (Ld.old hfour) e1 rfl rfl)) (O.q rfl (Pu.indexAddrS ((((four[i]'e1).1)).toNat) rfl ut49 sz2 rfl rfl (by omega) (by omega) (fun w hw => Own.some hw (i := 0) (by exact rfl) (by rw [cntV_len]; omega))) (O.q rfl (Pu.load rfl pl2 rfl (Ld.rd (C := I64) (u := .int .i64 (cN ((four.take i).flatMap bl) (four[i]'e1).1)) (Ld.own 0 (by exact rfl)) (k := (((four[i]'e1).1)).toNat) (by rw [cntV_len]; omega) rfl (by rw [cntV_get (by omega) (by omega)]; rfl))) (O.q rfl (Pu.add64 rfl (by omega) rfl rfl rfl) (O.q rfl (Pu.indexAddrS ((((four[i]'e1).1)).toNat) rfl ut49 sz2 rfl rfl (by omega) (by omega) (fun w hw => Own.some hw (i := 0) (by exact rfl) (by rw [cntV_len]; omega))) ?_)))))))))))
  refine O.s rfl rfl (Ef.storeOwn 0 ((((four[i]'e1).1)).toNat) ((cN ((four.take i).flatMap bl) (four[i]'e1).1) + (1 : Int)) rfl sz2 rfl rfl rfl rfl (by rw [cntV_len]; omega) rfl) ?_
  rintro _ _ rfl
  refine On (Xb (Xn (V.map (fun w hw => hw.sub (Sub.cons 0 rfl (fun w F h => by rw [cntV_set (ps := ((four.take i).flatMap bl)) (by omega) (by omega)] at h; exact h) (Sub.s [0,0] rfl))) (Vr (O.m rfl (O.q rfl (Pu.add64 (r := 1) (by decide) (by decide) rfl rfl rfl) (O.m rfl (On (X.again 2 (Vs (Vs ?_)))))))))))
  refine Vr (O.m rfl (O.q rfl (Pu.isT (by decide) (Pu.lss rfl rfl rfl)) (Zf (V.condT rfl (Vk (Xn (Vs (Vb ?_))))))))
  have hbd1 := cN_bd (ps := (((four.take i).flatMap bl) ++ [(four[i]'e1).1])) (p := (four[i]'e1).2.1)
  try simp only [List.length_append, List.length_singleton] at hbd1
  refine Vr (O.m rfl (O.m rfl (O.m rfl (O.m rfl (O.q rfl (Pu.indexAddr (i) rfl ut24 sz81 rfl rfl (by omega) (by omega) (hfour.some (by omega))) (O.q rfl (Pu.indexArr' (1) rfl ut81 sz2 rfl rfl (by omega) (by omega) rfl (fun w hw => by have := Rd.some ((Ld.old hfour) w hw) (by omega); simpa using this)) (O.q rfl (Pu.load rfl pl2 rfl (Ld.part (k := i) (j := 1) (Ld.old hfour) e1 rfl rfl)) (O.q rfl (Pu.indexAddrS ((((four[i]'e1).2.1)).toNat) rfl ut49 sz2 rfl rfl (by omega) (by omega) (fun w hw => Own.some hw (i := 0) (by exact rfl) (by rw [cntV_len]; omega))) (O.q rfl (Pu.load rfl pl2 rfl (Ld.rd (C := I64) (u := .int .i64 (cN (((four.take i).flatMap bl) ++ [(four[i]'e1).1]) (four[i]'e1).2.1)) (Ld.own 0 (by exact rfl)) (k := (((four[i]'e1).2.1)).toNat) (by rw [cntV_len]; omega) rfl (by rw [cntV_get (by omega) (by omega)]; rfl))) (O.q rfl (Pu.add64 rfl (by omega) rfl rfl rfl) (O.q rfl (Pu.indexAddrS ((((four[i]'e1).2.1)).toNat) rfl ut49 sz2 rfl rfl (by omega) (by omega) (fun w hw => Own.some hw (i := 0) (by exact rfl) (by rw [cntV_len]; omega))) ?_)))))))))))
  refine O.s rfl rfl (Ef.storeOwn 0 ((((four[i]'e1).2.1)).toNat) ((cN (((four.take i).flatMap bl) ++ [(four[i]'e1).1]) (four[i]'e1).2.1) + (1 : Int)) rfl sz2 rfl rfl rfl rfl (by rw [cntV_len]; omega) rfl) ?_
  rintro _ _ rfl
  refine On (Xb (Xn (V.map (fun w hw => hw.sub (Sub.cons 0 rfl (fun w F h => by rw [cntV_set (ps := (((four.take i).flatMap bl) ++ [(four[i]'e1).1])) (by omega) (by omega)] at h; exact h) (Sub.s [0,0] rfl))) (Vr (O.m rfl (O.q rfl (Pu.add64 (r := 2) (by decide) (by decide) rfl rfl rfl) (O.m rfl (On (X.again 1 (Vs (Vs ?_)))))))))))
  refine Vr (O.m rfl (O.q rfl (Pu.isT (by decide) (Pu.lss rfl rfl rfl)) (Zf (V.condT rfl (Vk (Xn (Vs (Vb ?_))))))))
  have hbd2 := cN_bd (ps := ((((four.take i).flatMap bl) ++ [(four[i]'e1).1]) ++ [(four[i]'e1).2.1])) (p := (four[i]'e1).2.2)
  try simp only [List.length_append, List.length_singleton] at hbd2
  refine Vr (O.m rfl (O.m rfl (O.m rfl (O.m rfl (O.q rfl (Pu.indexAddr (i) rfl ut24 sz81 rfl rfl (by omega) (by omega) (hfour.some (by omega))) (O.q rfl (Pu.indexArr' (2) rfl ut81 sz2 rfl rfl (by omega) (by omega) rfl (fun w hw => by have := Rd.some ((Ld.old hfour) w hw) (by omega); simpa using this)) (O.q rfl (Pu.load rfl pl2 rfl (Ld.part (k := i) (j := 2) (Ld.old hfour) e1 rfl rfl)) (O.q rfl (Pu.indexAddrS ((((four[i]'e1).2.2)).toNat) rfl ut49 sz2 rfl rfl (by omega) (by omega) (fun w hw => Own.some hw (i := 0) (by exact rfl) (by rw [cntV_len]; omega))) (O.q rfl (Pu.load rfl pl2 rfl (Ld.rd (C := I64) (u := .int .i64 (cN ((((four.take i).flatMap bl) ++ [(four[i]'e1).1]) ++ [(four[i]'e1).2.1]) (four[i]'e1).2.2)) (Ld.own 0 (by exact rfl)) (k := (((four[i]'e1).2.2)).toNat) (by rw [cntV_len]; omega) rfl (by rw [cntV_get (by omega) (by omega)]; rfl))) (O.q rfl (Pu.add64 rfl (by omega) rfl rfl rfl) (O.q rfl (Pu.indexAddrS ((((four[i]'e1).2.2)).toNat) rfl ut49 sz2 rfl rfl (by omega) (by omega) (fun w hw => Own.some hw (i := 0) (by exact rfl) (by rw [cntV_len]; omega))) ?_)))))))))))
  refine O.s rfl rfl (Ef.storeOwn 0 ((((four[i]'e1).2.2)).toNat) ((cN ((((four.take i).flatMap bl) ++ [(four[i]'e1).1]) ++ [(four[i]'e1).2.1]) (four[i]'e1).2.2) + (1 : Int)) rfl sz2 rfl rfl rfl rfl (by rw [cntV_len]; omega) rfl) ?_
  rintro _ _ rfl
  refine On (Xb (Xn (V.map (fun w hw => hw.sub (Sub.cons 0 rfl (fun w F h => by rw [cntV_set (ps := ((((four.take i).flatMap bl) ++ [(four[i]'e1).1]) ++ [(four[i]'e1).2.1])) (by omega) (by omega)] at h; exact h) (Sub.s [0,0] rfl))) (Vr (O.m rfl (O.q rfl (Pu.add64 (r := 3) (by decide) (by decide) rfl rfl rfl) (O.m rfl (On (X.again 0 (Vs (Vs ?_)))))))))))
  refine Vr (O.m rfl (O.q rfl (Pu.isF (by decide) (Pu.lss rfl rfl rfl)) (Zf (V.condF rfl (Ve (Xe (Xe (Xh (Xb (Xn ?_))))))))))
  exact Vr (O.m rfl (O.q rfl (Pu.add64 (r := ((i + 1 : Nat) : Int)) rfl (by omega) rfl rfl rfl) (O.m rfl (On (X.back3 (i + 1, (cntV (((((four.take i).flatMap bl) ++ [(four[i]'e1).1]) ++ [(four[i]'e1).2.1]) ++ [(four[i]'e1).2.2]) v_.toNat)) (by (try dsimp only); exact ⟨by omega, by rw [flat_snoc _ e1]⟩) (by first | omega | (dsimp only; omega)) (Ent.cons rfl (Ent.nil _)) (Ent.cons (t := 0) rfl (Ent.cons (t := 1) rfl (Ent.cons (t := 4) rfl (Ent.cons (t := 6) rfl (Ent.cons (t := 7) rfl (Ent.nil _)))))) (Sub.s [0,0,0] rfl))))))
 ·refine Ve (Xe (Xe (Xh (Xn (Vs (Vs ?_))))))
  have hi4 : four.take i = four := List.take_of_length_le (by omega)
  rw [hi4]
  refine Vr (O.m rfl (Zi (V.loop3 (β := (Option Addr) × Nat × (List Int) × Nat) (fun x => [(7, .slice x.1 x.2.2.1.length x.2.1), (10, .int .i64 (x.2.2.2 : Int))]) _ (fun x => [Own 2 I64 x.1 x.2.1 x.2.2.1]) _ (fun x => x.2.2.2 ≤ v_.toNat ∧ x.2.2.1 = ptsN (four.flatMap bl) x.2.2.2 ∧ ∀ q : Nat, q < x.2.2.2 → cN (four.flatMap bl) (q : Int) ≤ 2) (fun x => v_.toNat - x.2.2.2) (A2, 0, ([] : List Int), 0) (by (try dsimp only); exact ⟨by omega, rfl, fun q hq => by omega⟩) (Ent.cons rfl (Ent.cons rfl (Ent.nil _))) (Ent.cons (t := 0) rfl (Ent.cons (t := 1) rfl (Ent.cons (t := 4) rfl (Ent.cons (t := 6) rfl (Ent.nil _))))) (Sub.s [1,0,0] rfl) ?_)))
  rintro ⟨pointsA, pointsc, points, p⟩ ⟨hp, hpt, h2⟩
  dsimp only at hp hpt h2 ⊢
  have hpl : points.length ≤ p := by rw [hpt]; exact ptsN_len
  refine Zj (O.m rfl (O.m rfl (O.q rfl (Pu.lss rfl rfl rfl) (Zf (V.condD rfl (fun c2 => ?_) (fun c2 => ?_))))))
  ·refine Vk (Xn (Vs (Vb (Zj (O.m rfl (O.m rfl (O.q rfl (Pu.indexAddrS (p) rfl ut49 sz2 rfl rfl (by omega) (by omega) (fun w hw => Own.some hw (i := 1) (by exact rfl) (by rw [cntV_len]; omega))) (O.q rfl (Pu.load rfl pl2 rfl (Ld.rd (C := I64) (u := .int .i64 (cN (four.flatMap bl) (p : Int))) (Ld.own 1 (by exact rfl)) (k := p) (by rw [cntV_len]; omega) rfl (by rw [cntV_at (by omega)]; rfl))) (O.q rfl (Pu.gtr rfl rfl rfl) ?_)))))))))
   refine Zf (V.condD rfl (fun c3 => ?_) (fun c3 => ?_))
   ·refine Vr (O.m rfl (O.m rfl (O.f rfl (Ef.build I64 ([(↑p : Int)] : List Int) rfl ut49 inf2 rfl rfl rfl (by first | decide | (simp; done)) (by kernel_rfl)) ?_)))
    rintro _ _ ⟨A3, hA3, rfl, rfl⟩
    refine O.f rfl (Ef.append (xs := points) (ys := ([(↑p : Int)] : List Int)) 1 rfl ut49 inf2 rfl rfl rfl rfl rfl rfl hA3 (Ld.own 0 (by exact rfl)) (by simp only [List.length_append, List.length_cons, List.length_nil] at *; omega) (by decide)) ?_
    rintro _ _ ⟨A4, k1, rfl, rfl, hA4⟩
    replace hA4 := hA4 (.inr (by simp))
    refine O.m rfl (Zb (O.m rfl (O.m rfl (O.q rfl (Pu.indexAddrS (p) rfl ut49 sz2 rfl rfl (by omega) (by omega) (fun w hw => Own.some hw (i := 2) (by exact rfl) (by rw [cntV_len]; omega))) (O.q rfl (Pu.load rfl pl2 rfl (Ld.rd (C := I64) (u := .int .i64 (cN (four.flatMap bl) (p : Int))) (Ld.own 2 (by exact rfl)) (k := p) (by rw [cntV_len]; omega) rfl (by rw [cntV_at (by omega)]; rfl))) (O.q rfl (Pu.gtr rfl rfl rfl) (Zf (V.condD rfl (fun c4 => ?_) (fun c4 => ?_)))))))))
    ·refine Za (O.q rfl (Pu.buildS (cs := [.int .i64 (0 : Int), .slice none 0 0, .slice none 0 0]) rfl rfl ut35 zr35 (by kernel_rfl) rfl (by kernel_rfl)) (O.s rfl rfl (Ef.storeAll 3 rfl sz35 rfl rfl rfl rfl (by simp [Value.oneCell']) rfl) ?_))
     rintro _ _ rfl
     exact O.m rfl (Ze (Xq (Xr (Xr (Xq (Xr (X.retCell2 rfl ag35 sz35 rfl rfl rfl (Ld.whole 3 rfl) (fun w hw => St.mkExi none (St.mkExi 0 (St.mkExi [] (St.mkExi none (St.mkExi 0 (St.mkExi [] (St.unsep (St.addPur ⟨(by rw [if_neg (fun h => by have := (six_to hv h4 hg h).2 (p : Int); omega), decide_eq_false (fun h => by have := (six_to hv h4 hg h).2 (p : Int); omega)]; rfl), (fun h => absurd h (fun h => by have := (six_to hv h4 hg h).2 (p : Int); omega))⟩ (St.unsep (St.addNil (T := 81) (C := B3C) (St.addNil (T := 81) (C := B3C) (hw.sub (Sub.nil _))))))))))))))))))))
    ·exact Zg (O.m rfl (O.q rfl (Pu.add64 (r := ((p + 1 : Nat) : Int)) rfl (by omega) rfl rfl rfl) (O.m rfl (On (X.back3 (A4, k1, (points ++ ([(↑p : Int)] : List Int)), p + 1) (by (try dsimp only); exact ⟨by omega, by rw [hpt, ptsN_yes (by omega)], fun q hq => by by_cases e : q = p; (· subst e; omega); (· exact h2 q (by omega))⟩) (by first | omega | (dsimp only; omega)) (Ent.cons rfl (Ent.cons rfl (Ent.nil _))) (Ent.cons (t := 0) rfl (Ent.cons (t := 1) rfl (Ent.cons (t := 4) rfl (Ent.cons (t := 6) rfl (Ent.nil _))))) (Sub.s [1,1,1] rfl))))))
   ·refine Vk (Xn (Za (O.m rfl (O.m rfl (O.q rfl (Pu.indexAddrS (p) rfl ut49 sz2 rfl rfl (by omega) (by omega) (fun w hw => Own.some hw (i := 1) (by exact rfl) (by rw [cntV_len]; omega))) (O.q rfl (Pu.load rfl pl2 rfl (Ld.rd (C := I64) (u := .int .i64 (cN (four.flatMap bl) (p : Int))) (Ld.own 1 (by exact rfl)) (k := p) (by rw [cntV_len]; omega) rfl (by rw [cntV_at (by omega)]; rfl))) (O.q rfl (Pu.gtr rfl rfl rfl) (Zf (V.condD rfl (fun c5 => ?_) (fun c5 => ?_))))))))))
    ·refine Za (O.q rfl (Pu.buildS (cs := [.int .i64 (0 : Int), .slice none 0 0, .slice none 0 0]) rfl rfl ut35 zr35 (by kernel_rfl) rfl (by kernel_rfl)) (O.s rfl rfl (Ef.storeAll 2 rfl sz35 rfl rfl rfl rfl (by simp [Value.oneCell']) rfl) ?_))
     rintro _ _ rfl
     exact O.m rfl (Ze (Xq (Xr (Xr (Xq (Xr (X.retCell2 rfl ag35 sz35 rfl rfl rfl (Ld.whole 2 rfl) (fun w hw => St.mkExi none (St.mkExi 0 (St.mkExi [] (St.mkExi none (St.mkExi 0 (St.mkExi [] (St.unsep (St.addPur ⟨(by rw [if_neg (fun h => by have := (six_to hv h4 hg h).2 (p : Int); omega), decide_eq_false (fun h => by have := (six_to hv h4 hg h).2 (p : Int); omega)]; rfl), (fun h => absurd h (fun h => by have := (six_to hv h4 hg h).2 (p : Int); omega))⟩ (St.unsep (St.addNil (T := 81) (C := B3C) (St.addNil (T := 81) (C := B3C) (hw.sub (Sub.nil _))))))))))))))))))))
    ·exact Zg (O.m rfl (O.q rfl (Pu.add64 (r := ((p + 1 : Nat) : Int)) rfl (by omega) rfl rfl rfl) (O.m rfl (On (X.back3 (pointsA, pointsc, points, p + 1) (by (try dsimp only); exact ⟨by omega, by rw [hpt, ptsN_no (by omega)], fun q hq => by by_cases e : q = p; (· subst e; omega); (· exact h2 q (by omega))⟩) (by first | omega | (dsimp only; omega)) (Ent.cons rfl (Ent.cons rfl (Ent.nil _))) (Ent.cons (t := 0) rfl (Ent.cons (t := 1) rfl (Ent.cons (t := 4) rfl (Ent.cons (t := 6) rfl (Ent.nil _))))) (Sub.s [0,0,0] rfl))))))
  ·refine Ve (Xe (Xe (Xh (Xn (Vs (Vs ?_))))))
   have hpN : points = (ptsN (four.flatMap bl) v_.toNat) := by rw [hpt, show p = v_.toNat by omega]
   refine Vr (O.m rfl (O.q rfl (Pu.len rfl ut49 rfl) (O.q rfl (Pu.neq rfl rfl rfl) (Zf (V.condNot rfl (fun c6 => ?_) (fun c6 => ?_))))))
   ·refine Za (O.q rfl (Pu.buildS (cs := [.int .i64 (0 : Int), .slice none 0 0, .slice none 0 0]) rfl rfl ut35 zr35 (by kernel_rfl) rfl (by kernel_rfl)) (O.s rfl rfl (Ef.storeAll 2 rfl sz35 rfl rfl rfl rfl (by simp [Value.oneCell']) rfl) ?_))
    rintro _ _ rfl
    exact O.m rfl (Ze (Xr (X.retCell2 rfl ag35 sz35 rfl rfl rfl (Ld.whole 2 rfl) (fun w hw => St.mkExi none (St.mkExi 0 (St.mkExi [] (St.mkExi none (St.mkExi 0 (St.mkExi [] (St.unsep (St.addPur ⟨(by rw [if_neg (fun h => by have := (six_to hv h4 hg h).1; rw [← hpN] at this; omega), decide_eq_false (fun h => by have := (six_to hv h4 hg h).1; rw [← hpN] at this; omega)]; rfl), (fun h => absurd h (fun h => by have := (six_to hv h4 hg h).1; rw [← hpN] at this; omega))⟩ (St.unsep (St.addNil (T := 81) (C := B3C) (St.addNil (T := 81) (C := B3C) (hw.sub (Sub.nil _))))))))))))))))
   ·refine Vk (Xn (Vs ?_))
    have e0 : 0 < points.length := by omega
    have hP : PasB four := six_of hv h4 hg (by rw [← hpN]; omega) (fun q hq => h2 q (by omega))
    have hf : points[0]'e0 = ptA four := by rw [List.getElem_of_eq hpN e0]; exact pts_head h4 hg hlt rfl _
    refine Vr (O.m rfl (O.q rfl (Pu.indexAddrS (0) rfl ut49 sz2 rfl rfl (by omega) (by omega) (fun w hw => Own.some hw (i := 0) (by exact rfl) (by omega))) (O.q rfl (Pu.load rfl pl2 rfl (Ld.rd (Ld.own 0 (by exact rfl)) (k := 0) e0 rfl rfl)) (O.m rfl (O.m rfl (Zc (O.m rfl ?_)))))))
    refine Zi (V.loop3 (β := Int × Nat) (fun x => [(12, .int .i64 (x.1 : Int)), (13, .int .i64 (x.2 : Int))]) _ (fun x => []) _ (fun x => 1 ≤ x.2 ∧ x.2 ≤ 6 ∧ x.1 = lastL (PtC four) (points.take x.2)) (fun x => 6 - x.2) ((-1 : Int), 1) (by (try dsimp only); exact ⟨by omega, by omega, by rw [take_snoc e0, lastL_snoc, if_neg (by rw [hf]; exact ptc_first)]; rfl⟩) (Ent.cons rfl (Ent.cons rfl (Ent.nil _))) (Ent.cons (t := 0) rfl (Ent.cons (t := 1) rfl (Ent.cons (t := 4) rfl (Ent.cons (t := 7) rfl (Ent.cons (t := 11) rfl (Ent.nil _)))))) (Sub.s [0,0,0] rfl) ?_)
    rintro ⟨last, i⟩ ⟨hi1, hi6, hla⟩
    dsimp only at hi1 hi6 hla ⊢
    refine Zj (O.m rfl (O.q rfl (Pu.lss rfl rfl rfl) (Zf (V.condD rfl (fun c7 => ?_) (fun c7 => ?_)))))
    ·refine Zh (O.m rfl (Zf (Vs (Vs ?_))))
     have ei : i < points.length := by omega
     have hpc : PtC four (points[i]'ei) ↔ ¬ ∃ c ∈ four, has c (points[0]'e0) ∧ has c (points[i]'ei) := by subst hpN; exact ptc_at ei e0 rfl hf (by omega)
     refine Vr (O.m rfl (Zi (V.loop3 (β := Bool × Nat) (fun x => [(14, .bool x.1), (15, .int .i64 (x.2 : Int))]) _ (fun x => []) _ (fun x => x.2 ≤ 4 ∧ x.1 = apB four (points[0]'e0) (points[i]'ei) x.2) (fun x => 4 - x.2) (true, 0) (by (try dsimp only); exact ⟨by omega, apB_zero.symm⟩) (Ent.cons rfl (Ent.cons rfl (Ent.nil _))) (Ent.cons (t := 0) rfl (Ent.cons (t := 1) rfl (Ent.cons (t := 4) rfl (Ent.cons (t := 7) rfl (Ent.cons (t := 11) rfl (Ent.cons (t := 12) rfl (Ent.cons (t := 13) rfl (Ent.nil _)))))))) (Sub.s [0,0,0] rfl) ?_)))
     rintro ⟨apart, k⟩ ⟨hk, hap⟩
     dsimp only at hk hap ⊢
     refine Zj (O.m rfl (O.q rfl (Pu.lss rfl rfl rfl) (Zf (V.condD rfl (fun c8 => ?_) (fun c8 => ?_)))))
     ·refine Vk (Xn (Vs (Vb ?_)))
      have ek : k < four.length := by omega
      refine V.draw mo (by kernel_rfl) (fun hwf => D.m 0 rfl (D.m 1 rfl (D.splitB 76 rfl (fun c9 => ?_) (fun c9 => ?_))))
      ·subst c9
       refine D.gm 2 rfl (D.gm 3 rfl (D.gq 4 rfl (Pu.indexAddr (k) rfl ut24 sz81 rfl rfl (by omega) (by omega) (hfour.some (by omega))) (D.gq 5 rfl (Pu.loadAgg' (v := B3.v (four[k]'ek)) rfl rfl ag81 sz81 rfl rfl (Ld.rds (Ld.old hfour) (k := k) ek rfl)) (D.gm 6 rfl (D.geff hwf (e := 7) rfl rfl rfl rfl rfl rfl (Ef.callP call141 rfl rfl (fun w hw => l01With_ok (four[k]'ek) _ w)) rfl rfl rfl ?_)))))
       rintro _ _ ⟨rfl, rfl⟩ hs
       refine ⟨fun w hw => hw, (D.gm 8 rfl (D.splitD 83 rfl (fun c10 => ?_) (fun c10 => ?_)))⟩
       ·refine D.gm 9 rfl (D.gm 10 rfl (D.gq 11 rfl (Pu.indexAddr (k) rfl ut24 sz81 rfl rfl (by omega) (by omega) (hfour.some (by omega))) (D.gq 12 rfl (Pu.loadAgg' (v := B3.v (four[k]'ek)) rfl rfl ag81 sz81 rfl rfl (Ld.rds (Ld.old hfour) (k := k) ek rfl)) (D.gm 13 rfl (D.gm 14 rfl (D.gq 15 rfl (Pu.indexAddrS (i) rfl ut49 sz2 rfl rfl (by omega) (by omega) (fun w hw => Own.some hw (i := 0) (by exact rfl) (by omega))) (D.gq 16 rfl (Pu.load rfl pl2 rfl (Ld.rd (Ld.own 0 (by exact rfl)) (k := i) ei rfl rfl)) (D.geff hwf (e := 17) rfl rfl rfl rfl rfl rfl (Ef.callP call141 rfl rfl (fun w hw => l01With_ok (four[k]'ek) _ w)) rfl rfl rfl ?_))))))))
        rintro _ _ ⟨rfl, rfl⟩ hs
        exact ⟨fun w hw => hw, (D.gm 18 rfl (D.gq 19 rfl (Pu.not rfl rfl) (D.m 20 rfl (D.last hwf (e := 21) rfl rfl rfl rfl rfl rfl (Pu.assign rfl rfl) (Xb (Xn (Vr (O.m rfl (O.q rfl (Pu.add64 (r := ((k + 1 : Nat) : Int)) rfl (by omega) rfl rfl rfl) (O.m rfl (On (X.back3 (_, k + 1) (by (try dsimp only); exact ⟨by omega, apart_yes ek hap c10⟩) (by first | omega | (dsimp only; omega)) (Ent.cons rfl (Ent.cons rfl (Ent.nil _))) (Ent.cons (t := 0) rfl (Ent.cons (t := 1) rfl (Ent.cons (t := 4) rfl (Ent.cons (t := 7) rfl (Ent.cons (t := 11) rfl (Ent.cons (t := 12) rfl (Ent.cons (t := 13) rfl (Ent.nil _)))))))) (Sub.s [0,0,0] rfl)))))))))))))⟩
       ·refine D.g 9 rfl (D.g 10 rfl (D.g 11 rfl (D.g 12 rfl (D.g 13 rfl (D.g 14 rfl (D.g 15 rfl (D.g 16 rfl (D.g 17 rfl (D.gm 18 rfl (D.gq 19 rfl (Pu.notF rfl rfl) (D.m 20 rfl ?_)))))))))))
        exact D.last hwf (e := 21) rfl rfl rfl rfl rfl rfl (Pu.assign rfl rfl) (Xb (Xn (Vr (O.m rfl (O.q rfl (Pu.add64 (r := ((k + 1 : Nat) : Int)) rfl (by omega) rfl rfl rfl) (O.m rfl (On (X.back3 (true, k + 1) (by (try dsimp only); exact ⟨by omega, apart_no ek hap c10⟩) (by first | omega | (dsimp only; omega)) (Ent.cons rfl (Ent.cons rfl (Ent.nil _))) (Ent.cons (t := 0) rfl (Ent.cons (t := 1) rfl (Ent.cons (t := 4) rfl (Ent.cons (t := 7) rfl (Ent.cons (t := 11) rfl (Ent.cons (t := 12) rfl (Ent.cons (t := 13) rfl (Ent.nil _)))))))) (Sub.s [0,0,0] rfl)))))))))
      ·subst c9
       refine D.g 2 rfl (D.g 3 rfl (D.g 4 rfl (D.g 5 rfl (D.g 6 rfl (D.g 7 rfl (D.g 8 rfl (D.g 9 rfl (D.g 10 rfl (D.g 11 rfl (D.g 12 rfl (D.g 13 rfl ?_)))))))))))
       refine D.g 14 rfl (D.g 15 rfl (D.g 16 rfl (D.g 17 rfl (D.g 18 rfl (D.g 19 rfl (D.m 20 rfl (D.last hwf (e := 21) rfl rfl rfl rfl rfl rfl (Pu.assign rfl rfl) (Xb (Xn (Vr (O.m rfl ?_)))))))))))
       exact O.q rfl (Pu.add64 (r := ((k + 1 : Nat) : Int)) rfl (by omega) rfl rfl rfl) (O.m rfl (On (X.back3 (false, k + 1) (by (try dsimp only); exact ⟨by omega, apart_off ek hap⟩) (by first | omega | (dsimp only; omega)) (Ent.cons rfl (Ent.cons rfl (Ent.nil _))) (Ent.cons (t := 0) rfl (Ent.cons (t := 1) rfl (Ent.cons (t := 4) rfl (Ent.cons (t := 7) rfl (Ent.cons (t := 11) rfl (Ent.cons (t := 12) rfl (Ent.cons (t := 13) rfl (Ent.nil _)))))))) (Sub.s [0,0,0] rfl))))
     ·refine Zd (O.m rfl (Zf (V.cond rfl (fun c11 => ?_) (fun c11 => ?_))))
      ·subst c11
       have hap2 := (apB_iff (by omega)).1 hap.symm
       refine Vr (O.m rfl (O.m rfl (O.q rfl (Pu.indexAddrS (i) rfl ut49 sz2 rfl rfl (by omega) (by omega) (fun w hw => Own.some hw (i := 0) (by exact rfl) (by omega))) (O.q rfl (Pu.load rfl pl2 rfl (Ld.rd (Ld.own 0 (by exact rfl)) (k := i) ei rfl rfl)) (O.m rfl (Zk (O.m rfl (O.q rfl (Pu.add64 (r := ((i + 1 : Nat) : Int)) rfl (by omega) rfl rfl rfl) ?_))))))))
       exact O.m rfl (On (X.back3 ((points[i]'ei), i + 1) (by (try dsimp only); exact ⟨by omega, by omega, by rw [take_snoc ei, lastL_snoc, if_pos (hpc.2 hap2)]⟩) (by first | omega | (dsimp only; omega)) (Ent.cons rfl (Ent.cons rfl (Ent.nil _))) (Ent.cons (t := 0) rfl (Ent.cons (t := 1) rfl (Ent.cons (t := 4) rfl (Ent.cons (t := 7) rfl (Ent.cons (t := 11) rfl (Ent.nil _)))))) (Sub.s [0,0,0] rfl)))
      ·subst c11
       have hap2 := fun h => Bool.false_ne_true (hap.trans ((apB_iff (fs := four) (a := points[0]'e0) (q := points[i]'ei) (k := k) (by omega)).2 h))
       exact Zg (O.m rfl (O.q rfl (Pu.add64 (r := ((i + 1 : Nat) : Int)) rfl (by omega) rfl rfl rfl) (O.m rfl (On (X.back3 (last, i + 1) (by (try dsimp only); exact ⟨by omega, by omega, by rw [take_snoc ei, lastL_snoc, if_neg (fun h => hap2 (hpc.1 h))]; exact hla⟩) (by first | omega | (dsimp only; omega)) (Ent.cons rfl (Ent.cons rfl (Ent.nil _))) (Ent.cons (t := 0) rfl (Ent.cons (t := 1) rfl (Ent.cons (t := 4) rfl (Ent.cons (t := 7) rfl (Ent.cons (t := 11) rfl (Ent.nil _)))))) (Sub.s [0,0,0] rfl))))))
    ·refine Ve (Xe (Xe (Xh (Xn (Vs (Vs ?_))))))
     have hlb : last = ptB v_.toNat four := by rw [hla, List.take_of_length_le (by omega), hpN]; exact last_pts
     have hl0 := ptB_nonneg hv.1 h4 hg hP
     refine Vr (O.m rfl (O.q rfl (Pu.lss rfl rfl rfl) (Zf (V.condD rfl (fun c12 => ?_) (fun c12 => ?_)))))
     ·exact absurd c12 (by omega)
     ·refine Vk (Xn (Vs ?_))
      have hpm : points[0]'e0 ∈ (ptsN (four.flatMap bl) v_.toNat) := by rw [← hpN]; exact List.getElem_mem e0
      have hpb := ptsN_mem.1 hpm
      have hlb2 : last < (v_.toNat : Int) := by rw [hlb]; exact lastP_lt.2
      refine Vr (O.f rfl (Ef.build B3C ([] : List B3) rfl ut24 inf81 rfl rfl rfl (by first | decide | (simp; done)) (by kernel_rfl)) ?_)
      rintro _ _ ⟨A5, hA5, rfl, rfl⟩
      refine O.m rfl (Zc (O.m rfl (Zi (V.loop3 (β := (Option Addr) × Nat × (List B3) × Nat) (fun x => [(16, .slice x.1 x.2.2.1.length x.2.1), (17, .int .i64 (x.2.2.2 : Int))]) _ (fun x => [Own 81 B3C x.1 x.2.1 x.2.2.1]) _ (fun x => x.2.2.2 ≤ 4 ∧ x.2.2.1 = (four.take x.2.2.2).map (exB (points[0]'e0) last)) (fun x => 4 - x.2.2.2) (A5, 0, ([] : List B3), 0) (by (try dsimp only); exact ⟨by omega, rfl⟩) (Ent.cons rfl (Ent.cons rfl (Ent.nil _))) (Ent.cons (t := 0) rfl (Ent.cons (t := 1) rfl (Ent.cons (t := 4) rfl (Ent.cons (t := 11) rfl (Ent.cons (t := 12) rfl (Ent.nil _)))))) (Sub.s [0,0,0,0] rfl) ?_))))
      rintro ⟨in_A, in_c, in_, i⟩ ⟨hi, hin⟩
      dsimp only at hi hin ⊢
      have hil : in_.length = i := by rw [hin, List.length_map, List.length_take]; omega
      refine Zj (O.m rfl (O.q rfl (Pu.lss rfl rfl rfl) (Zf (V.condD rfl (fun c13 => ?_) (fun c13 => ?_)))))
      ·refine Vk (Xn (Vs (Vb ?_)))
       have ej : i < four.length := by omega
       have hgj := hg _ (List.getElem_mem ej)
       unfold good at hgj
       refine Vr (O.m rfl (O.m rfl (O.m rfl (O.q rfl (Pu.indexAddr (i) rfl ut24 sz81 rfl rfl (by omega) (by omega) (hfour.some (by omega))) (O.q rfl (Pu.loadAgg' (v := B3.v (four[i]'ej)) rfl rfl ag81 sz81 rfl rfl (Ld.rds (Ld.old hfour) (k := i) ej rfl)) (O.m rfl (O.m rfl (O.f rfl (Ef.callP call142 rfl rfl (fun w hw => l04ExchangedT_ok  (four[i]'ej) (points[0]'e0) last w   (by omega) (by omega) (by omega))) ?_))))))))
       rintro _ _ ⟨rfl, rfl⟩
       refine O.f rfl (Ef.build B3C ([(exB (points[0]'e0) last (four[i]'ej))] : List B3) rfl ut24 inf81 rfl rfl rfl (by first | decide | (simp; done)) (by kernel_rfl)) ?_
       rintro _ _ ⟨A6, hA6, rfl, rfl⟩
       refine O.f rfl (Ef.append (xs := in_) (ys := ([(exB (points[0]'e0) last (four[i]'ej))] : List B3)) 1 rfl ut24 inf81 rfl rfl rfl rfl rfl rfl hA6 (Ld.own 0 (by exact rfl)) (by simp only [List.length_append, List.length_cons, List.length_nil] at *; omega) (by decide)) ?_
       rintro _ _ ⟨A7, k2, rfl, rfl, hA7⟩
       replace hA7 := hA7 (.inr (by simp))
       exact O.m rfl (Zk (O.m rfl (O.q rfl (Pu.add64 (r := ((i + 1 : Nat) : Int)) rfl (by omega) rfl rfl rfl) (O.m rfl (On (X.back3 (A7, k2, (in_ ++ ([(exB (points[0]'e0) last (four[i]'ej))] : List B3)), i + 1) (by (try dsimp only); exact ⟨by omega, by rw [take_snoc ej, List.map_append, hin]; rfl⟩) (by first | omega | (dsimp only; omega)) (Ent.cons rfl (Ent.cons rfl (Ent.nil _))) (Ent.cons (t := 0) rfl (Ent.cons (t := 1) rfl (Ent.cons (t := 4) rfl (Ent.cons (t := 11) rfl (Ent.cons (t := 12) rfl (Ent.nil _)))))) (Sub.s [1,1,1,1] rfl)))))))
      ·refine Zd (O.m rfl (O.m rfl (O.m rfl (O.f rfl (Ef.call1 call81 rfl rfl (fun w hw => l04MadeT_ok  v_ four in_ _ _ _ _ w ((Ld.old hfour) w hw) ((Ld.own 0 (by exact rfl)) w hw) (by first | omega | (simp only [tops_len, conts_len, bl, List.length_append, List.length_cons, List.length_nil] at *; omega)) (by first | omega | (simp only [tops_len, conts_len, bl, List.length_append, List.length_cons, List.length_nil] at *; omega)) (by omega) (by omega))) ?_))))
       rintro _ _ rfl
       refine O.exi (fun o1A => O.exi (fun o1c => O.exi (fun o1 => O.exi (fun i1A => O.exi (fun i1c => O.exi (fun i1 => O.sep (O.pur ?_)))))))
       rintro ⟨rfl, ho1_1, ho1_2⟩
       refine O.sep (O.s rfl rfl (Ef.storeAll 5 rfl sz35 rfl rfl rfl rfl (by simp [Value.oneCell']) rfl) ?_)
       rintro _ _ rfl
       exact O.m rfl (Ze (X.retCell2 rfl ag35 sz35 rfl rfl rfl (Ld.whole 5 rfl) (fun w hw => St.mkExi o1A (St.mkExi o1c (St.mkExi o1 (St.mkExi i1A (St.mkExi i1c (St.mkExi i1 (St.unsep (St.addPur ⟨(by rw [if_pos hP, decide_eq_true hP]), (fun _ => ⟨srtB_unique ho1_1.2 (srtB_lt hlt) ho1_1.1, by rw [← hf, ← hlb]; exact ⟨by have h := ho1_2.1; rw [hin, List.take_of_length_le (by omega)] at h; exact h, ho1_2.2⟩⟩)⟩ (St.unsep (hw.sub (Sub.s [0,0] rfl)))))))))))))
set_option maxRecDepth 100000 in
set_option maxHeartbeats 1000000 in
theorem specPaschTrades_ok (v : Int) (bs : List B3) (A : Option Addr) (c : Nat) (w : World) (hx : Rd B3C w A bs) (lx : bs.length ≤ 4611686018427387904) : Does Tryz.prog 9 [.agg #[.int .i64 v, .slice A bs.length c]] w [] (fun rv_ => [.exi fun (rA : Option Addr) => .exi fun (rc : Nat) => .exi fun (r : TrL) => .sep (.pur (rv_ = .tuple #[.slice rA (topT r).length rc, .int .i64 (if STS v bs then 0 else 1)] ∧ TRL v bs (contT r) ∧ r.length ≤ 1500625)) (.sep (Own 35 (TrC v) rA rc (topT r)) (TrsA 81 r))]) := by
 refine Does.enter Tryz.func9 rfl rfl [(0, .agg #[.int .i64 v, .slice A bs.length c])] rfl (Za (O.f rfl (Ef.box rfl rfl rfl) ?_))
 rintro _ _ ⟨b1, rfl, rfl⟩
 refine O.m rfl (O.m rfl (Zc (O.q rfl (Pu.loadAgg rfl ag26 sz26 rfl rfl (Ld.whole 0 rfl)) (O.f rfl (Ef.callP call64 rfl rfl (fun w hw => l01Is_ok _ bs _ _ w ((Ld.old hx) w hw) (by omega))) ?_))))
 rintro _ _ ⟨rfl, rfl⟩
 refine O.q rfl (Pu.not rfl rfl) (Zf (V.condNot rfl (fun c1 => ?_) (fun c1 => ?_)))
 ·exact Za (O.m rfl (O.m rfl (Ze (Xr (X.ret2 rfl rfl rfl (fun w hw => St.mkExi none (St.mkExi 0 (St.mkExi [] (St.unsep (St.addPur ⟨(by rw [if_neg c1]; rfl), ⟨fun h => absurd h c1, fun _ => rfl⟩, by simp⟩ (St.unsep (St.addNil (T := 35) (C := TrC v) (TrsA.nil (T := 81) (hw.sub (Sub.nil _)))))))))))))))
 ·have hS := c1
  have hlo := c1.lo
  have hhi := c1.hi
  have hfew := hS.few
  have hgv := hS.good
  have hg : ∀ b ∈ bs, good 15 b := fun b h => (hS.good b h).mono hS.hi
  refine Vk (Xn (Vs (V.draw mo (by kernel_rfl) (fun hwf => D.q 1 rfl (Pu.fieldAddr 1 rfl ut26 rfl sz24 rfl rfl) (D.q 2 rfl (Pu.load rfl pl24 rfl (Ld.blk 0 rfl rfl)) (D.q 3 rfl (Pu.len rfl ut24 rfl) (D.f hwf 0 rfl (Ef.build (TrC v) ([] : List (Sl × Sl)) rfl ut28 inf35 rfl rfl rfl (by first | decide | (simp; done)) (by kernel_rfl)) ?_)))))))
  rintro _ _ ⟨A1, hA1, rfl, rfl⟩ hs
  refine ⟨fun w hw => hw.sub (Sub.s [1] rfl), (D.m 4 rfl (D.m 5 rfl (D.done hwf rfl (Xn (Zj (O.m rfl (Zi ?_)))))))⟩
  refine V.map (fun w hw => TrsA.nil (T := 81) hw) (V.loop3 (β := (Option Addr) × Nat × TrL × Nat) (fun x => [(4, .slice x.1 (topT x.2.2.1).length x.2.1), (6, .int .i64 (x.2.2.2 : Int))]) _ (fun x => [Own 35 (TrC v) x.1 x.2.1 (topT x.2.2.1), TrsA 81 x.2.2.1]) _ (fun x => x.2.2.2 ≤ bs.length ∧ (∃ ls, IsList (PreB (PQ bs) [] x.2.2.2) ls ∧ contT x.2.2.1 = ls.map (trQ v bs)) ∧ x.2.2.1.length ≤ x.2.2.2 * 42875) (fun x => bs.length - x.2.2.2) (A1, 0, [], 0) (by (try dsimp only); exact ⟨by omega, ⟨[], pas0, rfl⟩, by simp⟩) (Ent.cons rfl (Ent.cons rfl (Ent.nil _))) (Ent.cons (t := 1) rfl (Ent.cons (t := 5) rfl (Ent.nil _))) (Sub.s [1,0,0] rfl) ?_)
  rintro ⟨z0A, z0c, z0, i⟩ ⟨hi, ⟨ls0, g0, q0⟩, b0⟩
  dsimp only at hi ls0 g0 q0 b0 ⊢
  have htl_z0 := topT_len z0
  have hcl_z0 := contT_len z0
  refine Zj (O.m rfl (O.m rfl (O.q rfl (Pu.lss rfl rfl rfl) (Zf (V.condD rfl (fun c2 => ?_) (fun c2 => ?_))))))
  ·refine Zh (O.m rfl (O.q rfl (Pu.add64 (r := ((i + 1 : Nat) : Int)) rfl (by omega) rfl rfl rfl) (O.m rfl (Zi ?_))))
   refine V.loop3 (β := (Option Addr) × Nat × TrL × Nat) (fun x => [(4, .slice x.1 (topT x.2.2.1).length x.2.1), (7, .int .i64 (x.2.2.2 : Int))]) _ (fun x => [Own 35 (TrC v) x.1 x.2.1 (topT x.2.2.1), TrsA 81 x.2.2.1]) _ (fun x => i < x.2.2.2 ∧ x.2.2.2 ≤ bs.length ∧ (∃ ls, contT x.2.2.1 = contT z0 ++ ls.map (trQ v bs) ∧ IsList (PreB (PQ bs) [(i : Int)] x.2.2.2) ls) ∧ x.2.2.1.length ≤ i * 42875 + x.2.2.2 * 1225) (fun x => bs.length - x.2.2.2) (z0A, z0c, z0, i + 1) (by (try dsimp only); exact ⟨by omega, by omega, ⟨[], by simp, pas1⟩, by omega⟩) (Ent.cons rfl (Ent.cons rfl (Ent.nil _))) (Ent.cons (t := 1) rfl (Ent.cons (t := 5) rfl (Ent.cons (t := 6) rfl (Ent.nil _)))) (Sub.s [0,0,0] rfl) ?_
   rintro ⟨z1A, z1c, z1, j⟩ ⟨hij, hj, ⟨ls1, q1, g1⟩, b1⟩
   dsimp only at hij hj ls1 q1 g1 b1 ⊢
   have htl_z1 := topT_len z1
   have hcl_z1 := contT_len z1
   refine Zj (O.m rfl (O.m rfl (O.q rfl (Pu.lss rfl rfl rfl) (Zf (V.condD rfl (fun c3 => ?_) (fun c3 => ?_))))))
   ·refine Vk (Xn (Vs (Vb (Vs (Vs (V.draw mo (by kernel_rfl) (fun hwf => D.q 0 rfl (Pu.fieldAddr 1 rfl ut26 rfl sz24 rfl rfl) (D.q 1 rfl (Pu.load rfl pl24 rfl (Ld.blk 2 rfl rfl)) (D.m 2 rfl (D.q 3 rfl (Pu.indexAddr (i) rfl ut24 sz81 rfl rfl (by omega) (by omega) (hx.some (by omega))) ?_))))))))))
    have e1 : i < bs.length := by omega
    refine D.q 4 rfl (Pu.loadAgg' (v := B3.v (bs[i]'e1)) rfl rfl ag81 sz81 rfl rfl (Ld.rds (Ld.old hx) (k := i) e1 rfl)) (D.q 5 rfl (Pu.fieldAddr 1 rfl ut26 rfl sz24 rfl rfl) (D.q 6 rfl (Pu.load rfl pl24 rfl (Ld.blk 2 rfl rfl)) (D.m 7 rfl (D.q 8 rfl (Pu.indexAddr (j) rfl ut24 sz81 rfl rfl (by omega) (by omega) (hx.some (by omega))) ?_))))
    have e2 : j < bs.length := by omega
    refine D.q 9 rfl (Pu.loadAgg' (v := B3.v (bs[j]'e2)) rfl rfl ag81 sz81 rfl rfl (Ld.rds (Ld.old hx) (k := j) e2 rfl)) (D.f hwf 10 rfl (Ef.callP call65 rfl rfl (fun w hw => l01Common_ok _ _ _)) ?_)
    rintro _ _ ⟨rfl, rfl⟩ hs
    refine ⟨fun w hw => hw, (D.q 11 rfl (Pu.neq rfl rfl rfl) (D.done hwf rfl (Xn (V.condNot rfl (fun c4 => ?_) (fun c4 => ?_)))))⟩
    ·exact Ve (Xe (Xh (Xn (Vr (O.m rfl (O.q rfl (Pu.add64 (r := ((j + 1 : Nat) : Int)) rfl (by omega) rfl rfl rfl) (O.m rfl (On (X.back3 (z1A, z1c, z1, j + 1) (by (try dsimp only); exact ⟨by omega, by omega, ⟨ls1, q1, pas_skip1 hS hij (by omega) (common_ne hS (by omega) (by omega) (by omega) c4) g1⟩, by omega⟩) (by first | omega | (dsimp only; omega)) (Ent.cons' rfl (by first | rfl | (simp only [topT_append]; done) | (simp only [topT_append]; rfl)) (Ent.cons rfl (Ent.nil _))) (Ent.cons (t := 1) rfl (Ent.cons (t := 5) rfl (Ent.cons (t := 6) rfl (Ent.nil _)))) (Sub.s [0,0,0] rfl))))))))))
    ·refine Vk (Xn (Za (O.m rfl (O.q rfl (Pu.add64 (r := ((j + 1 : Nat) : Int)) rfl (by omega) rfl rfl rfl) (O.m rfl (Zi (V.loop3 (β := (Option Addr) × Nat × TrL × Nat) (fun x => [(4, .slice x.1 (topT x.2.2.1).length x.2.1), (8, .int .i64 (x.2.2.2 : Int))]) _ (fun x => [Own 35 (TrC v) x.1 x.2.1 (topT x.2.2.1), TrsA 81 x.2.2.1]) _ (fun x => j < x.2.2.2 ∧ x.2.2.2 ≤ bs.length ∧ (∃ ls, contT x.2.2.1 = contT z1 ++ ls.map (trQ v bs) ∧ IsList (PreB (PQ bs) [(i : Int), (j : Int)] x.2.2.2) ls) ∧ x.2.2.1.length ≤ i * 42875 + j * 1225 + x.2.2.2 * 35) (fun x => bs.length - x.2.2.2) (z1A, z1c, z1, j + 1) (by (try dsimp only); exact ⟨by omega, by omega, ⟨[], by simp, pas2⟩, by omega⟩) (Ent.cons rfl (Ent.cons rfl (Ent.nil _))) (Ent.cons (t := 1) rfl (Ent.cons (t := 5) rfl (Ent.cons (t := 6) rfl (Ent.cons (t := 7) rfl (Ent.nil _))))) (Sub.s [0,0,0] rfl) ?_)))))))
     rintro ⟨z2A, z2c, z2, k⟩ ⟨hjk, hk, ⟨ls2, q2, g2⟩, b2⟩
     dsimp only at hjk hk ls2 q2 g2 b2 ⊢
     have htl_z2 := topT_len z2
     have hcl_z2 := contT_len z2
     refine Zj (O.m rfl (O.m rfl (O.q rfl (Pu.lss rfl rfl rfl) (Zf (V.condD rfl (fun c5 => ?_) (fun c5 => ?_))))))
     ·refine Vk (Xn (Vs (Vb (Vs (Vs (V.draw mo (by kernel_rfl) (fun hwf => D.q 0 rfl (Pu.fieldAddr 1 rfl ut26 rfl sz24 rfl rfl) (D.q 1 rfl (Pu.load rfl pl24 rfl (Ld.blk 2 rfl rfl)) (D.m 2 rfl (D.q 3 rfl (Pu.indexAddr (i) rfl ut24 sz81 rfl rfl (by omega) (by omega) (hx.some (by omega))) (D.q 4 rfl (Pu.loadAgg' (v := B3.v (bs[i]'e1)) rfl rfl ag81 sz81 rfl rfl (Ld.rds (Ld.old hx) (k := i) e1 rfl)) ?_)))))))))))
      refine D.q 5 rfl (Pu.fieldAddr 1 rfl ut26 rfl sz24 rfl rfl) (D.q 6 rfl (Pu.load rfl pl24 rfl (Ld.blk 2 rfl rfl)) (D.m 7 rfl (D.q 8 rfl (Pu.indexAddr (k) rfl ut24 sz81 rfl rfl (by omega) (by omega) (hx.some (by omega))) ?_)))
      have e3 : k < bs.length := by omega
      refine D.q 9 rfl (Pu.loadAgg' (v := B3.v (bs[k]'e3)) rfl rfl ag81 sz81 rfl rfl (Ld.rds (Ld.old hx) (k := k) e3 rfl)) (D.f hwf 10 rfl (Ef.callP call65 rfl rfl (fun w hw => l01Common_ok _ _ _)) ?_)
      rintro _ _ ⟨rfl, rfl⟩ hs
      refine ⟨fun w hw => hw, (D.q 11 rfl (Pu.neq rfl rfl rfl) (D.m 12 rfl (D.splitN 62 rfl (fun c6 => ?_) (fun c6 => ?_))))⟩
      ·refine D.g 13 rfl (D.g 14 rfl (D.g 15 rfl (D.g 16 rfl (D.g 17 rfl (D.g 18 rfl (D.g 19 rfl (D.g 20 rfl (D.g 21 rfl (D.g 22 rfl (D.g 23 rfl (D.g 24 rfl ?_)))))))))))
       refine D.m 25 rfl (D.done hwf rfl (Xn (V.condT rfl (Ve (Xe (Xh (Xn (Vr (O.m rfl (O.q rfl (Pu.add64 (r := ((k + 1 : Nat) : Int)) rfl (by omega) rfl rfl rfl) (O.m rfl ?_)))))))))))
       exact On (X.back3 (z2A, z2c, z2, k + 1) (by (try dsimp only); exact ⟨by omega, by omega, ⟨ls2, q2, pas_skip2 hS hij hjk (by omega) (.inl (common_ne hS (by omega) (by omega) (by omega) c6)) g2⟩, by omega⟩) (by first | omega | (dsimp only; omega)) (Ent.cons' rfl (by first | rfl | (simp only [topT_append]; done) | (simp only [topT_append]; rfl)) (Ent.cons rfl (Ent.nil _))) (Ent.cons (t := 1) rfl (Ent.cons (t := 5) rfl (Ent.cons (t := 6) rfl (Ent.cons (t := 7) rfl (Ent.nil _))))) (Sub.s [0,0,0] rfl))
      ·refine D.gq 13 rfl (Pu.fieldAddr 1 rfl ut26 rfl sz24 rfl rfl) (D.gq 14 rfl (Pu.load rfl pl24 rfl (Ld.blk 2 rfl rfl)) (D.gm 15 rfl (D.gq 16 rfl (Pu.indexAddr (j) rfl ut24 sz81 rfl rfl (by omega) (by omega) (hx.some (by omega))) (D.gq 17 rfl (Pu.loadAgg' (v := B3.v (bs[j]'e2)) rfl rfl ag81 sz81 rfl rfl (Ld.rds (Ld.old hx) (k := j) e2 rfl)) (D.gq 18 rfl (Pu.fieldAddr 1 rfl ut26 rfl sz24 rfl rfl) (D.gq 19 rfl (Pu.load rfl pl24 rfl (Ld.blk 2 rfl rfl)) (D.gm 20 rfl (D.gq 21 rfl (Pu.indexAddr (k) rfl ut24 sz81 rfl rfl (by omega) (by omega) (hx.some (by omega))) (D.gq 22 rfl (Pu.loadAgg' (v := B3.v (bs[k]'e3)) rfl rfl ag81 sz81 rfl rfl (Ld.rds (Ld.old hx) (k := k) e3 rfl)) (D.geff hwf (e := 23) rfl rfl rfl rfl rfl rfl (Ef.callP call65 rfl rfl (fun w hw => l01Common_ok _ _ _)) rfl rfl rfl ?_))))))))))
       rintro _ _ ⟨rfl, rfl⟩ hs
       refine ⟨fun w hw => hw, (D.gq 24 rfl (Pu.neq rfl rfl rfl) (D.m 25 rfl (D.done hwf rfl (Xn (V.condNot rfl (fun c7 => ?_) (fun c7 => ?_))))))⟩
       ·exact Ve (Xe (Xh (Xn (Vr (O.m rfl (O.q rfl (Pu.add64 (r := ((k + 1 : Nat) : Int)) rfl (by omega) rfl rfl rfl) (O.m rfl (On (X.back3 (z2A, z2c, z2, k + 1) (by (try dsimp only); exact ⟨by omega, by omega, ⟨ls2, q2, pas_skip2 hS hij hjk (by omega) (.inr (common_ne hS (by omega) (by omega) (by omega) c7)) g2⟩, by omega⟩) (by first | omega | (dsimp only; omega)) (Ent.cons' rfl (by first | rfl | (simp only [topT_append]; done) | (simp only [topT_append]; rfl)) (Ent.cons rfl (Ent.nil _))) (Ent.cons (t := 1) rfl (Ent.cons (t := 5) rfl (Ent.cons (t := 6) rfl (Ent.cons (t := 7) rfl (Ent.nil _))))) (Sub.s [0,0,0] rfl))))))))))
       ·refine Vk (Xn (Za (O.m rfl (O.q rfl (Pu.add64 (r := ((k + 1 : Nat) : Int)) rfl (by omega) rfl rfl rfl) (O.m rfl (Zi (V.loop3 (β := (Option Addr) × Nat × TrL × Nat) (fun x => [(4, .slice x.1 (topT x.2.2.1).length x.2.1), (9, .int .i64 (x.2.2.2 : Int))]) _ (fun x => [Own 35 (TrC v) x.1 x.2.1 (topT x.2.2.1), TrsA 81 x.2.2.1]) _ (fun x => k < x.2.2.2 ∧ x.2.2.2 ≤ bs.length ∧ (∃ ls, contT x.2.2.1 = contT z2 ++ ls.map (trQ v bs) ∧ IsList (PreB (PQ bs) [(i : Int), (j : Int), (k : Int)] x.2.2.2) ls) ∧ x.2.2.1.length ≤ i * 42875 + j * 1225 + k * 35 + x.2.2.2) (fun x => bs.length - x.2.2.2) (z2A, z2c, z2, k + 1) (by (try dsimp only); exact ⟨by omega, by omega, ⟨[], by simp, pas3⟩, by omega⟩) (Ent.cons rfl (Ent.cons rfl (Ent.nil _))) (Ent.cons (t := 1) rfl (Ent.cons (t := 5) rfl (Ent.cons (t := 6) rfl (Ent.cons (t := 7) rfl (Ent.cons (t := 8) rfl (Ent.nil _)))))) (Sub.s [0,0,0] rfl) ?_)))))))
        rintro ⟨z3A, z3c, z3, m⟩ ⟨hkm, hm, ⟨ls3, q3, g3⟩, b3⟩
        dsimp only at hkm hm ls3 q3 g3 b3 ⊢
        have htl_z3 := topT_len z3
        have hcl_z3 := contT_len z3
        refine Zj (O.m rfl (O.m rfl (O.q rfl (Pu.lss rfl rfl rfl) (Zf (V.condD rfl (fun c8 => ?_) (fun c8 => ?_))))))
        ·refine Vk (Xn (Vs (Vb (Vs ?_))))
         have e1 : i < bs.length := by omega
         have e2 : j < bs.length := by omega
         have e3 : k < bs.length := by omega
         have e4 : m < bs.length := by omega
         refine V.draw mo (by kernel_rfl) (fun hwf => D.q 0 rfl (Pu.fieldAddr 0 rfl ut26 rfl sz2 rfl rfl) (D.q 1 rfl (Pu.load rfl pl2 rfl (Ld.blk 2 rfl rfl)) (D.q 2 rfl (Pu.fieldAddr 1 rfl ut26 rfl sz24 rfl rfl) (D.q 3 rfl (Pu.load rfl pl24 rfl (Ld.blk 2 rfl rfl)) (D.m 4 rfl (D.q 5 rfl (Pu.indexAddr (i) rfl ut24 sz81 rfl rfl (by omega) (by omega) (hx.some (by omega))) (D.q 6 rfl (Pu.loadAgg' (v := B3.v (bs[i]'e1)) rfl rfl ag81 sz81 rfl rfl (Ld.rds (Ld.old hx) (k := i) e1 rfl)) (D.q 7 rfl (Pu.fieldAddr 1 rfl ut26 rfl sz24 rfl rfl) (D.q 8 rfl (Pu.load rfl pl24 rfl (Ld.blk 2 rfl rfl)) (D.m 9 rfl (D.q 10 rfl (Pu.indexAddr (j) rfl ut24 sz81 rfl rfl (by omega) (by omega) (hx.some (by omega))) ?_)))))))))))
         refine D.q 11 rfl (Pu.loadAgg' (v := B3.v (bs[j]'e2)) rfl rfl ag81 sz81 rfl rfl (Ld.rds (Ld.old hx) (k := j) e2 rfl)) (D.q 12 rfl (Pu.fieldAddr 1 rfl ut26 rfl sz24 rfl rfl) (D.q 13 rfl (Pu.load rfl pl24 rfl (Ld.blk 2 rfl rfl)) (D.m 14 rfl (D.q 15 rfl (Pu.indexAddr (k) rfl ut24 sz81 rfl rfl (by omega) (by omega) (hx.some (by omega))) (D.q 16 rfl (Pu.loadAgg' (v := B3.v (bs[k]'e3)) rfl rfl ag81 sz81 rfl rfl (Ld.rds (Ld.old hx) (k := k) e3 rfl)) (D.q 17 rfl (Pu.fieldAddr 1 rfl ut26 rfl sz24 rfl rfl) (D.q 18 rfl (Pu.load rfl pl24 rfl (Ld.blk 2 rfl rfl)) (D.m 19 rfl (D.q 20 rfl (Pu.indexAddr (m) rfl ut24 sz81 rfl rfl (by omega) (by omega) (hx.some (by omega))) (D.q 21 rfl (Pu.loadAgg' (v := B3.v (bs[m]'e4)) rfl rfl ag81 sz81 rfl rfl (Ld.rds (Ld.old hx) (k := m) e4 rfl)) (D.either hwf (e1 := 22) (e2 := 27) rfl ?_ ?_)))))))))))
         ·refine ⟨_, _, rfl, rfl, fun _ _ => wanted_none rfl _, Ef.build B3C ([(bs[i]'e1), (bs[j]'e2), (bs[k]'e3), (bs[m]'e4)] : List B3) rfl ut24 inf81 rfl rfl rfl (by first | decide | (simp; done)) (by kernel_rfl), rfl, rfl, ?_⟩
          rintro _ _ ⟨A2, hA2, rfl, rfl⟩ hs
          refine ⟨fun w hw => hw.sub (Sub.s [1,1,1] rfl), (D.either hwf (e1 := 23) (e2 := 27) rfl ?_ ?_)⟩
          ·refine ⟨_, _, rfl, rfl, fun _ _ => wanted_none rfl _, Ef.call1 call66 rfl rfl (fun w hw => l04Four_ok  v ([(bs[i]'e1), (bs[j]'e2), (bs[k]'e3), (bs[m]'e4)] : List B3) _ _ w ((Ld.own 0 (by exact rfl)) w hw) (by simp only [List.length_cons, List.length_nil]; decide) ⟨by omega, by omega⟩ rfl (fun b hb => by simp only [List.mem_cons, List.not_mem_nil, or_false] at hb; rcases hb with rfl | rfl | rfl | rfl <;> exact hgv _ (List.getElem_mem _)) (four_lt (v := v) (sts_lt hS) hij hjk hkm e4)), rfl, rfl, ?_⟩
           rintro _ _ rfl hs
           refine ⟨fun w hw => hs w hw.tail, (D.exi (fun o1A => D.exi (fun o1c => D.exi (fun o1 => D.exi (fun i1A => D.exi (fun i1c => D.exi (fun i1 => D.sep (D.pur1 ?_))))))))⟩
           rintro ⟨rfl, ho1_1⟩
           refine D.sep (D.m 24 rfl (D.m 25 rfl (D.m 26 rfl (D.f hwf 27 rfl (Ef.alloc rfl zr35 rfl) ?_))))
           rintro _ _ ⟨b2, rfl, rfl⟩ hs
           refine ⟨fun w hw => hw.sub (Sub.s [4,4,4] rfl), (D.f hwf 28 rfl (Ef.storeAll 0 rfl sz35 rfl rfl rfl rfl (by simp [Value.oneCell']) rfl) ?_)⟩
           rintro _ _ rfl hs
           refine ⟨fun w hw => hw.sub (Sub.s [4,4,4] rfl), (D.m 29 rfl (D.done hwf rfl (Xn (Za (O.m rfl (Zf (V.condD rfl (fun c9 => ?_) (fun c9 => ?_))))))))⟩
           ·refine V.map (fun w hw => hw.sub (Sub.cons 0 rfl (fun w F h => by rw [if_pos c9] at h; exact h) (Sub.s [0,0,0,0,0,0] rfl))) ?_
            have htq := trQ_four (v := v) e1 e2 e3 e4 (ho1_1 c9)
            refine Vr (O.m rfl (O.q rfl (Pu.loadAgg rfl ag35 sz35 rfl rfl (Ld.whole 0 rfl)) (O.f rfl (Ef.build (TrC v) ([(⟨o1A, o1.length, o1c⟩, ⟨i1A, i1.length, i1c⟩)] : List (Sl × Sl)) rfl ut28 inf35 rfl rfl rfl (by first | decide | (simp; done)) (by kernel_rfl)) ?_)))
            rintro _ _ ⟨A3, hA3, rfl, rfl⟩
            refine O.f rfl (Ef.append (xs := (topT z3)) (ys := ([(⟨o1A, o1.length, o1c⟩, ⟨i1A, i1.length, i1c⟩)] : List (Sl × Sl))) 5 rfl ut28 inf35 rfl rfl rfl rfl rfl rfl hA3 (Ld.own 0 (by exact rfl)) (by simp only [List.length_append, List.length_cons, List.length_nil] at *; omega) (by decide)) ?_
            rintro _ _ ⟨A4, k1, rfl, rfl, hA4⟩
            replace hA4 := hA4 (.inr (by simp))
            refine O.m rfl (Zk (O.m rfl (O.q rfl (Pu.add64 (r := ((m + 1 : Nat) : Int)) rfl (by omega) rfl rfl rfl) (O.m rfl (On (X.map (fun w hw => trs_snoc (ts := z3) (hw.sub (Sub.s [5,5,2,2,0,0,0,0] rfl))) ?_))))))
            exact X.back3 (A4, k1, (z3 ++ [((⟨o1A, o1.length, o1c⟩, o1), (⟨i1A, i1.length, i1c⟩, i1))]), m + 1) (by (try dsimp only); exact ⟨by omega, by omega, ⟨ls3 ++ [[(i : Int), (j : Int), (k : Int), (m : Int)]], by rw [contT_append, q3, List.append_assoc, List.map_append]; refine congrArg _ (congrArg _ ?_); show [(o1, i1)] = [trQ v bs _]; rw [htq], pas_yes hij hjk hkm (by omega) ((pasB_four (hg _ (List.getElem_mem _)) (hg _ (List.getElem_mem _)) (hg _ (List.getElem_mem _)) (hg _ (List.getElem_mem _))).1 c9) g3⟩, by simp only [List.length_append, List.length_singleton]; omega⟩) (by first | omega | (dsimp only; omega)) (Ent.cons' rfl (by first | rfl | (simp only [topT_append]; done) | (simp only [topT_append]; rfl)) (Ent.cons rfl (Ent.nil _))) (Ent.cons (t := 1) rfl (Ent.cons (t := 5) rfl (Ent.cons (t := 6) rfl (Ent.cons (t := 7) rfl (Ent.cons (t := 8) rfl (Ent.nil _)))))) (Sub.s [0,0,3] rfl)
           ·exact Zg (O.m rfl (O.q rfl (Pu.add64 (r := ((m + 1 : Nat) : Int)) rfl (by omega) rfl rfl rfl) (O.m rfl (On (X.back3 (z3A, z3c, z3, m + 1) (by (try dsimp only); exact ⟨by omega, by omega, ⟨ls3, q3, pas_no hij hjk hkm (by omega) (fun h => c9 ((pasB_four (hg _ (List.getElem_mem _)) (hg _ (List.getElem_mem _)) (hg _ (List.getElem_mem _)) (hg _ (List.getElem_mem _))).2 h)) g3⟩, by omega⟩) (by first | omega | (dsimp only; omega)) (Ent.cons' rfl (by first | rfl | (simp only [topT_append]; done) | (simp only [topT_append]; rfl)) (Ent.cons rfl (Ent.nil _))) (Ent.cons (t := 1) rfl (Ent.cons (t := 5) rfl (Ent.cons (t := 6) rfl (Ent.cons (t := 7) rfl (Ent.cons (t := 8) rfl (Ent.nil _)))))) (Sub.s [4,4,4] rfl))))))
          ·refine ⟨_, _, rfl, rfl, fun _ _ => wanted_none rfl _, Ef.alloc rfl zr35 rfl, rfl, rfl, ?_⟩
           rintro _ _ ⟨b2, rfl, rfl⟩ hs
           refine ⟨fun w hw => hw.sub (Sub.s [2,2,2] rfl), (D.f hwf 23 rfl (Ef.call1 call66 rfl rfl (fun w hw => l04Four_ok  v ([(bs[i]'e1), (bs[j]'e2), (bs[k]'e3), (bs[m]'e4)] : List B3) _ _ w ((Ld.own 1 (by exact rfl)) w hw) (by simp only [List.length_cons, List.length_nil]; decide) ⟨by omega, by omega⟩ rfl (fun b hb => by simp only [List.mem_cons, List.not_mem_nil, or_false] at hb; rcases hb with rfl | rfl | rfl | rfl <;> exact hgv _ (List.getElem_mem _)) (four_lt (v := v) (sts_lt hS) hij hjk hkm e4))) ?_)⟩
           rintro _ _ rfl hs
           refine ⟨fun w hw => hs w hw.tail, (D.exi (fun o1A => D.exi (fun o1c => D.exi (fun o1 => D.exi (fun i1A => D.exi (fun i1c => D.exi (fun i1 => D.sep (D.pur1 ?_))))))))⟩
           rintro ⟨rfl, ho1_1⟩
           refine D.sep (D.m 24 rfl (D.m 25 rfl (D.m 26 rfl (D.f hwf 28 rfl (Ef.storeAll 2 rfl sz35 rfl rfl rfl rfl (by simp [Value.oneCell']) rfl) ?_))))
           rintro _ _ rfl hs
           refine ⟨fun w hw => hw.sub (Sub.s [4,4,4] rfl), (D.m 29 rfl (D.done hwf rfl (Xn (Za (O.m rfl (Zf (V.condD rfl (fun c9 => ?_) (fun c9 => ?_))))))))⟩
           ·refine V.map (fun w hw => hw.sub (Sub.cons 2 rfl (fun w F h => by rw [if_pos c9] at h; exact h) (Sub.s [0,0,0,0,0,0] rfl))) ?_
            have htq := trQ_four (v := v) e1 e2 e3 e4 (ho1_1 c9)
            refine Vr (O.m rfl (O.q rfl (Pu.loadAgg rfl ag35 sz35 rfl rfl (Ld.whole 0 rfl)) (O.f rfl (Ef.build (TrC v) ([(⟨o1A, o1.length, o1c⟩, ⟨i1A, i1.length, i1c⟩)] : List (Sl × Sl)) rfl ut28 inf35 rfl rfl rfl (by first | decide | (simp; done)) (by kernel_rfl)) ?_)))
            rintro _ _ ⟨A3, hA3, rfl, rfl⟩
            refine O.f rfl (Ef.append (xs := (topT z3)) (ys := ([(⟨o1A, o1.length, o1c⟩, ⟨i1A, i1.length, i1c⟩)] : List (Sl × Sl))) 5 rfl ut28 inf35 rfl rfl rfl rfl rfl rfl hA3 (Ld.own 0 (by exact rfl)) (by simp only [List.length_append, List.length_cons, List.length_nil] at *; omega) (by decide)) ?_
            rintro _ _ ⟨A4, k1, rfl, rfl, hA4⟩
            replace hA4 := hA4 (.inr (by simp))
            refine O.m rfl (Zk (O.m rfl (O.q rfl (Pu.add64 (r := ((m + 1 : Nat) : Int)) rfl (by omega) rfl rfl rfl) (O.m rfl (On (X.map (fun w hw => trs_snoc (ts := z3) (hw.sub (Sub.s [5,5,2,2,0,0,0,0] rfl))) ?_))))))
            exact X.back3 (A4, k1, (z3 ++ [((⟨o1A, o1.length, o1c⟩, o1), (⟨i1A, i1.length, i1c⟩, i1))]), m + 1) (by (try dsimp only); exact ⟨by omega, by omega, ⟨ls3 ++ [[(i : Int), (j : Int), (k : Int), (m : Int)]], by rw [contT_append, q3, List.append_assoc, List.map_append]; refine congrArg _ (congrArg _ ?_); show [(o1, i1)] = [trQ v bs _]; rw [htq], pas_yes hij hjk hkm (by omega) ((pasB_four (hg _ (List.getElem_mem _)) (hg _ (List.getElem_mem _)) (hg _ (List.getElem_mem _)) (hg _ (List.getElem_mem _))).1 c9) g3⟩, by simp only [List.length_append, List.length_singleton]; omega⟩) (by first | omega | (dsimp only; omega)) (Ent.cons' rfl (by first | rfl | (simp only [topT_append]; done) | (simp only [topT_append]; rfl)) (Ent.cons rfl (Ent.nil _))) (Ent.cons (t := 1) rfl (Ent.cons (t := 5) rfl (Ent.cons (t := 6) rfl (Ent.cons (t := 7) rfl (Ent.cons (t := 8) rfl (Ent.nil _)))))) (Sub.s [0,0,3] rfl)
           ·exact Zg (O.m rfl (O.q rfl (Pu.add64 (r := ((m + 1 : Nat) : Int)) rfl (by omega) rfl rfl rfl) (O.m rfl (On (X.back3 (z3A, z3c, z3, m + 1) (by (try dsimp only); exact ⟨by omega, by omega, ⟨ls3, q3, pas_no hij hjk hkm (by omega) (fun h => c9 ((pasB_four (hg _ (List.getElem_mem _)) (hg _ (List.getElem_mem _)) (hg _ (List.getElem_mem _)) (hg _ (List.getElem_mem _))).2 h)) g3⟩, by omega⟩) (by first | omega | (dsimp only; omega)) (Ent.cons' rfl (by first | rfl | (simp only [topT_append]; done) | (simp only [topT_append]; rfl)) (Ent.cons rfl (Ent.nil _))) (Ent.cons (t := 1) rfl (Ent.cons (t := 5) rfl (Ent.cons (t := 6) rfl (Ent.cons (t := 7) rfl (Ent.cons (t := 8) rfl (Ent.nil _)))))) (Sub.s [4,4,4] rfl))))))
         ·refine ⟨_, _, rfl, rfl, fun _ _ => wanted_none rfl _, Ef.alloc rfl zr35 rfl, rfl, rfl, ?_⟩
          rintro _ _ ⟨b2, rfl, rfl⟩ hs
          refine ⟨fun w hw => hw.sub (Sub.s [1,1,1] rfl), (D.f hwf 22 rfl (Ef.build B3C ([(bs[i]'e1), (bs[j]'e2), (bs[k]'e3), (bs[m]'e4)] : List B3) rfl ut24 inf81 rfl rfl rfl (by first | decide | (simp; done)) (by kernel_rfl)) ?_)⟩
          rintro _ _ ⟨A2, hA2, rfl, rfl⟩ hs
          refine ⟨fun w hw => hw.sub (Sub.s [2,2,2] rfl), (D.f hwf 23 rfl (Ef.call1 call66 rfl rfl (fun w hw => l04Four_ok  v ([(bs[i]'e1), (bs[j]'e2), (bs[k]'e3), (bs[m]'e4)] : List B3) _ _ w ((Ld.own 0 (by exact rfl)) w hw) (by simp only [List.length_cons, List.length_nil]; decide) ⟨by omega, by omega⟩ rfl (fun b hb => by simp only [List.mem_cons, List.not_mem_nil, or_false] at hb; rcases hb with rfl | rfl | rfl | rfl <;> exact hgv _ (List.getElem_mem _)) (four_lt (v := v) (sts_lt hS) hij hjk hkm e4))) ?_)⟩
          rintro _ _ rfl hs
          refine ⟨fun w hw => hs w hw.tail, (D.exi (fun o1A => D.exi (fun o1c => D.exi (fun o1 => D.exi (fun i1A => D.exi (fun i1c => D.exi (fun i1 => D.sep (D.pur1 ?_))))))))⟩
          rintro ⟨rfl, ho1_1⟩
          refine D.sep (D.m 24 rfl (D.m 25 rfl (D.m 26 rfl (D.f hwf 28 rfl (Ef.storeAll 3 rfl sz35 rfl rfl rfl rfl (by simp [Value.oneCell']) rfl) ?_))))
          rintro _ _ rfl hs
          refine ⟨fun w hw => hw.sub (Sub.s [4,4,4] rfl), (D.m 29 rfl (D.done hwf rfl (Xn (Za (O.m rfl (Zf (V.condD rfl (fun c9 => ?_) (fun c9 => ?_))))))))⟩
          ·refine V.map (fun w hw => hw.sub (Sub.cons 3 rfl (fun w F h => by rw [if_pos c9] at h; exact h) (Sub.s [0,0,0,0,0,0] rfl))) ?_
           have htq := trQ_four (v := v) e1 e2 e3 e4 (ho1_1 c9)
           refine Vr (O.m rfl (O.q rfl (Pu.loadAgg rfl ag35 sz35 rfl rfl (Ld.whole 0 rfl)) (O.f rfl (Ef.build (TrC v) ([(⟨o1A, o1.length, o1c⟩, ⟨i1A, i1.length, i1c⟩)] : List (Sl × Sl)) rfl ut28 inf35 rfl rfl rfl (by first | decide | (simp; done)) (by kernel_rfl)) ?_)))
           rintro _ _ ⟨A3, hA3, rfl, rfl⟩
           refine O.f rfl (Ef.append (xs := (topT z3)) (ys := ([(⟨o1A, o1.length, o1c⟩, ⟨i1A, i1.length, i1c⟩)] : List (Sl × Sl))) 5 rfl ut28 inf35 rfl rfl rfl rfl rfl rfl hA3 (Ld.own 0 (by exact rfl)) (by simp only [List.length_append, List.length_cons, List.length_nil] at *; omega) (by decide)) ?_
           rintro _ _ ⟨A4, k1, rfl, rfl, hA4⟩
           replace hA4 := hA4 (.inr (by simp))
           refine O.m rfl (Zk (O.m rfl (O.q rfl (Pu.add64 (r := ((m + 1 : Nat) : Int)) rfl (by omega) rfl rfl rfl) (O.m rfl (On (X.map (fun w hw => trs_snoc (ts := z3) (hw.sub (Sub.s [5,5,2,2,0,0,0,0] rfl))) ?_))))))
           exact X.back3 (A4, k1, (z3 ++ [((⟨o1A, o1.length, o1c⟩, o1), (⟨i1A, i1.length, i1c⟩, i1))]), m + 1) (by (try dsimp only); exact ⟨by omega, by omega, ⟨ls3 ++ [[(i : Int), (j : Int), (k : Int), (m : Int)]], by rw [contT_append, q3, List.append_assoc, List.map_append]; refine congrArg _ (congrArg _ ?_); show [(o1, i1)] = [trQ v bs _]; rw [htq], pas_yes hij hjk hkm (by omega) ((pasB_four (hg _ (List.getElem_mem _)) (hg _ (List.getElem_mem _)) (hg _ (List.getElem_mem _)) (hg _ (List.getElem_mem _))).1 c9) g3⟩, by simp only [List.length_append, List.length_singleton]; omega⟩) (by first | omega | (dsimp only; omega)) (Ent.cons' rfl (by first | rfl | (simp only [topT_append]; done) | (simp only [topT_append]; rfl)) (Ent.cons rfl (Ent.nil _))) (Ent.cons (t := 1) rfl (Ent.cons (t := 5) rfl (Ent.cons (t := 6) rfl (Ent.cons (t := 7) rfl (Ent.cons (t := 8) rfl (Ent.nil _)))))) (Sub.s [0,0,3] rfl)
          ·exact Zg (O.m rfl (O.q rfl (Pu.add64 (r := ((m + 1 : Nat) : Int)) rfl (by omega) rfl rfl rfl) (O.m rfl (On (X.back3 (z3A, z3c, z3, m + 1) (by (try dsimp only); exact ⟨by omega, by omega, ⟨ls3, q3, pas_no hij hjk hkm (by omega) (fun h => c9 ((pasB_four (hg _ (List.getElem_mem _)) (hg _ (List.getElem_mem _)) (hg _ (List.getElem_mem _)) (hg _ (List.getElem_mem _))).2 h)) g3⟩, by omega⟩) (by first | omega | (dsimp only; omega)) (Ent.cons' rfl (by first | rfl | (simp only [topT_append]; done) | (simp only [topT_append]; rfl)) (Ent.cons rfl (Ent.nil _))) (Ent.cons (t := 1) rfl (Ent.cons (t := 5) rfl (Ent.cons (t := 6) rfl (Ent.cons (t := 7) rfl (Ent.cons (t := 8) rfl (Ent.nil _)))))) (Sub.s [4,4,4] rfl))))))
        ·exact Ve (Xe (Xe (Xh (Xb (Xn (Vr (O.m rfl (O.q rfl (Pu.add64 (r := ((k + 1 : Nat) : Int)) rfl (by omega) rfl rfl rfl) (O.m rfl (On (X.back3 (z3A, z3c, z3, k + 1) (by (try dsimp only); exact ⟨by omega, by omega, ⟨ls2 ++ ls3, by rw [q3, q2, List.append_assoc, List.map_append], preB_step g2 (pas3_all (by omega) g3)⟩, by omega⟩) (by first | omega | (dsimp only; omega)) (Ent.cons' rfl (by first | rfl | (simp only [topT_append]; done) | (simp only [topT_append]; rfl)) (Ent.cons rfl (Ent.nil _))) (Ent.cons (t := 1) rfl (Ent.cons (t := 5) rfl (Ent.cons (t := 6) rfl (Ent.cons (t := 7) rfl (Ent.nil _))))) (Sub.s [0,0,0] rfl))))))))))))
     ·exact Ve (Xe (Xe (Xh (Xb (Xn (Vr (O.m rfl (O.q rfl (Pu.add64 (r := ((j + 1 : Nat) : Int)) rfl (by omega) rfl rfl rfl) (O.m rfl (On (X.back3 (z2A, z2c, z2, j + 1) (by (try dsimp only); exact ⟨by omega, by omega, ⟨ls1 ++ ls2, by rw [q2, q1, List.append_assoc, List.map_append], preB_step g1 (pas2_all (by omega) g2)⟩, by omega⟩) (by first | omega | (dsimp only; omega)) (Ent.cons' rfl (by first | rfl | (simp only [topT_append]; done) | (simp only [topT_append]; rfl)) (Ent.cons rfl (Ent.nil _))) (Ent.cons (t := 1) rfl (Ent.cons (t := 5) rfl (Ent.cons (t := 6) rfl (Ent.nil _)))) (Sub.s [0,0,0] rfl))))))))))))
   ·exact Ve (Xe (Xe (Xh (Xb (Xn (Vr (O.m rfl (O.q rfl (Pu.add64 (r := ((i + 1 : Nat) : Int)) rfl (by omega) rfl rfl rfl) (O.m rfl (On (X.back3 (z1A, z1c, z1, i + 1) (by (try dsimp only); exact ⟨by omega, ⟨ls0 ++ ls1, preB_step g0 (pas1_all (by omega) g1), by rw [q1, q0, List.map_append]⟩, by omega⟩) (by first | omega | (dsimp only; omega)) (Ent.cons' rfl (by first | rfl | (simp only [topT_append]; done) | (simp only [topT_append]; rfl)) (Ent.cons rfl (Ent.nil _))) (Ent.cons (t := 1) rfl (Ent.cons (t := 5) rfl (Ent.nil _))) (Sub.s [0,0,0] rfl))))))))))))
  ·refine Zd (O.m rfl (O.m rfl (O.m rfl (Zf ?_))))
   exact Vt (X.ret2 rfl rfl rfl (fun w hw => St.mkExi z0A (St.mkExi z0c (St.mkExi z0 (St.unsep (St.addPur ⟨(by rw [if_pos c1]), ⟨fun _ => ⟨ls0, pas0_all (by omega) g0, q0⟩, fun h => absurd c1 h⟩, by omega⟩ (St.unsep (hw.sub (Sub.s [0,0] rfl)))))))))
set_option maxRecDepth 100000 in
set_option maxHeartbeats 1000000 in
theorem isFullC_ok (v : Int) (bs : List B3) (A : Option Addr) (c : Nat) (w : World) (hx : Rd B3C w A bs) (lx : bs.length ≤ 4611686018427387904) (hf : bs.length ≤ 1000000) (hvv : -1000000 ≤ v ∧ v ≤ 1000000) (hmul : 0 ≤ v * (v - 1) ∧ v * (v - 1) ≤ 1000000) : Does Tryz.prog 72 [.agg #[.int .i64 v, .slice A bs.length c]] w [] (fun r => [.pur (r = .bool (decide (6 * (bs.length : Int) = v * (v - 1))))]) := by
 refine Does.enter Tryz.func72 rfl rfl [(0, .agg #[.int .i64 v, .slice A bs.length c])] rfl (Za (O.f rfl (Ef.box rfl rfl rfl) ?_))
 rintro _ _ ⟨b1, rfl, rfl⟩
 refine O.m rfl (Zb (O.q rfl (Pu.fieldAddr 1 rfl ut26 rfl sz24 rfl rfl) (O.q rfl (Pu.load rfl pl24 rfl (Ld.blk 0 rfl rfl)) (O.q rfl (Pu.len rfl ut24 rfl) (O.q rfl (Pu.mul64 rfl (by omega) rfl rfl rfl) (O.q rfl (Pu.fieldAddr 0 rfl ut26 rfl sz2 rfl rfl) (O.q rfl (Pu.load rfl pl2 rfl (Ld.blk 0 rfl rfl)) (O.q rfl (Pu.fieldAddr 0 rfl ut26 rfl sz2 rfl rfl) ?_))))))))
 exact O.q rfl (Pu.load rfl pl2 rfl (Ld.blk 0 rfl rfl)) (O.q rfl (Pu.sub64 rfl (by omega) rfl rfl rfl) (O.q rfl (Pu.mul64 rfl (by omega) rfl rfl rfl) (O.q rfl (Pu.eql rfl rfl rfl) (O.m rfl (Ze (X.ret1 rfl rfl (fun w hw => St.retP (boolD (Iff.rfl)) hw)))))))
set_option maxRecDepth 100000 in
set_option maxHeartbeats 1000000 in
theorem l01FullC_ok (v : Int) (bs : List B3) (A : Option Addr) (c : Nat) (w : World) (hx : Rd B3C w A bs) (lx : bs.length ≤ 4611686018427387904) (hf : bs.length ≤ 1000000) (hvv : -1000000 ≤ v ∧ v ≤ 1000000) (hmul : 0 ≤ v * (v - 1) ∧ v * (v - 1) ≤ 1000000) : Does Tryz.prog 79 [.agg #[.int .i64 v, .slice A bs.length c]] w [] (fun r => [.pur (r = .bool (decide (6 * (bs.length : Int) = v * (v - 1))))]) := by
 refine Does.enter Tryz.func79 rfl rfl [(0, .agg #[.int .i64 v, .slice A bs.length c])] rfl (Za (O.f rfl (Ef.box rfl rfl rfl) ?_))
 rintro _ _ ⟨b1, rfl, rfl⟩
 refine O.m rfl (Zb (O.q rfl (Pu.fieldAddr 1 rfl ut26 rfl sz24 rfl rfl) (O.q rfl (Pu.load rfl pl24 rfl (Ld.blk 0 rfl rfl)) (O.q rfl (Pu.len rfl ut24 rfl) (O.q rfl (Pu.mul64 rfl (by omega) rfl rfl rfl) (O.q rfl (Pu.fieldAddr 0 rfl ut26 rfl sz2 rfl rfl) (O.q rfl (Pu.load rfl pl2 rfl (Ld.blk 0 rfl rfl)) (O.q rfl (Pu.fieldAddr 0 rfl ut26 rfl sz2 rfl rfl) ?_))))))))
 exact O.q rfl (Pu.load rfl pl2 rfl (Ld.blk 0 rfl rfl)) (O.q rfl (Pu.sub64 rfl (by omega) rfl rfl rfl) (O.q rfl (Pu.mul64 rfl (by omega) rfl rfl rfl) (O.q rfl (Pu.eql rfl rfl rfl) (O.m rfl (Ze (X.ret1 rfl rfl (fun w hw => St.retP (boolD (Iff.rfl)) hw)))))))
set_option maxRecDepth 100000 in
set_option maxHeartbeats 1000000 in
theorem isPoint_ok (v : Int) (bs : List B3) (p : Int) (A : Option Addr) (c : Nat) (w : World) (hx : Rd B3C w A bs) (lx : bs.length ≤ 4611686018427387904) (hv : -1000000 ≤ v ∧ v ≤ 1000000) : Does Tryz.prog 71 [.agg #[.int .i64 v, .slice A bs.length c], .int .i64 p] w [] (fun r => [.pur (r = .bool (decide (Pt v p)))]) := by
 refine Does.enter Tryz.func71 rfl rfl [(0, .agg #[.int .i64 v, .slice A bs.length c]), (1, .int .i64 p)] rfl (Za (O.f rfl (Ef.box rfl rfl rfl) ?_))
 rintro _ _ ⟨b1, rfl, rfl⟩
 refine O.m rfl (Zb (O.m rfl (O.q rfl (Pu.fieldAddr 0 rfl ut26 rfl sz2 rfl rfl) (O.q rfl (Pu.load rfl pl2 rfl (Ld.blk 0 rfl rfl)) (O.q rfl (Pu.sub64 rfl (by omega) rfl rfl rfl) (O.f rfl (Ef.callP call105 rfl rfl (fun w hw => within_ok _ _ _ _)) ?_))))))
 rintro _ _ ⟨rfl, rfl⟩
 exact O.m rfl (Ze (X.ret1 rfl rfl (fun w hw => St.retP (boolD (by unfold Pt; omega)) hw)))
set_option maxRecDepth 100000 in
set_option maxHeartbeats 1000000 in
theorem pairCode_ok (v : Int) (bs : List B3) (a : Int) (b : Int) (A : Option Addr) (c : Nat) (w : World) (hx : Rd B3C w A bs) (lx : bs.length ≤ 4611686018427387904) : Does Tryz.prog 69 [.agg #[.int .i64 v, .slice A bs.length c], .int .i64 a, .int .i64 b] w [] (fun r => [.pur (r = .int .i64 (if STS v bs then if Pt v a ∧ Pt v b ∧ a ≠ b then 0 else 2 else 1))]) := by
 refine Does.enter Tryz.func69 rfl rfl [(0, .agg #[.int .i64 v, .slice A bs.length c]), (1, .int .i64 a), (2, .int .i64 b)] rfl (Za (O.f rfl (Ef.box rfl rfl rfl) ?_))
 rintro _ _ ⟨b1, rfl, rfl⟩
 refine O.m rfl (Zf (Vs (Vb (Za (O.q rfl (Pu.loadAgg rfl ag26 sz26 rfl rfl (Ld.whole 0 rfl)) (O.f rfl (Ef.callP call62 rfl rfl (fun w hw => IsSystem_ok _ bs _ _ w ((Ld.old hx) w hw) (by omega))) ?_))))))
 rintro _ _ ⟨rfl, rfl⟩
 refine O.q rfl (Pu.not rfl rfl) (O.m rfl (Zf (V.condNot rfl (fun c1 => ?_) (fun c1 => ?_))))
 ·exact Za (O.m rfl (Ze (Xq (Xr (X.ret1 rfl rfl (fun w hw => St.retP (iv (by rw [if_neg c1])) hw))))))
 ·have hlo := c1.lo
  have hhi := c1.hi
  refine Za (O.q rfl (Pu.loadAgg rfl ag26 sz26 rfl rfl (Ld.whole 0 rfl)) (O.m rfl (O.f rfl (Ef.callP call71 rfl rfl (fun w hw => isPoint_ok  v bs a _ _ w ((Ld.old hx) w hw) (by first | omega | (simp only [tops_len, conts_len, bl, List.length_append, List.length_cons, List.length_nil] at *; omega)) (by first | assumption | omega | (try dsimp only at *; omega)))) ?_)))
  rintro _ _ ⟨rfl, rfl⟩
  refine O.q rfl (Pu.not rfl rfl) (O.m rfl (O.splitN 16 rfl (fun c2 => ?_) (fun c2 => ?_)))
  ·refine O.g rfl (O.g rfl (O.g rfl (O.g rfl (O.m rfl (O.m rfl (O.g rfl (O.g rfl (O.g rfl (O.m rfl (O.m rfl (On ?_)))))))))))
   exact Xn (V.condT rfl (Za (O.m rfl (Ze (Xq (Xr (X.ret1 rfl rfl (fun w hw => St.retP (iv (by rw [if_pos c1, if_neg (fun h => c2 h.1)])) hw))))))))
  ·refine O.gq rfl (Pu.loadAgg rfl ag26 sz26 rfl rfl (Ld.whole 0 rfl)) (O.gm rfl (O.gf rfl (Ef.callP call71 rfl rfl (fun w hw => isPoint_ok  v bs b _ _ w ((Ld.old hx) w hw) (by first | omega | (simp only [tops_len, conts_len, bl, List.length_append, List.length_cons, List.length_nil] at *; omega)) (by first | assumption | omega | (try dsimp only at *; omega)))) ?_))
   rintro _ _ ⟨rfl, rfl⟩
   refine O.gq rfl (Pu.not rfl rfl) (O.m rfl (O.m rfl (O.splitN 22 rfl (fun c3 => ?_) (fun c3 => ?_))))
   ·refine O.g rfl (O.g rfl (O.g rfl (O.m rfl (O.m rfl (Zf (V.condT rfl (Za (O.m rfl (On ?_)))))))))
    exact Xn (Vt (Xq (Xr (X.ret1 rfl rfl (fun w hw => St.retP (iv (by rw [if_pos c1, if_neg (fun h => c3 h.2.1)])) hw)))))
   ·refine O.gm rfl (O.gm rfl (O.gq rfl (Pu.eql rfl rfl rfl) (O.m rfl (O.m rfl (Zf (V.condD rfl (fun c4 => ?_) (fun c4 => ?_)))))))
    ·exact Za (O.m rfl (Ze (Xq (Xr (X.ret1 rfl rfl (fun w hw => St.retP (iv (by rw [if_pos c1, if_neg (fun h => h.2.2 c4)])) hw))))))
    ·exact Vk (Xb (Xn (Za (O.m rfl (Ze (X.ret1 rfl rfl (fun w hw => St.retP (iv (by rw [if_pos c1, if_pos ⟨c2, c3, c4⟩])) hw)))))))
set_option maxRecDepth 100000 in
set_option maxHeartbeats 1000000 in
theorem l01Points_ok (v : Int) (bs : List B3) (list : List Int) (A : Option Addr) (c : Nat) (listA : Option Addr) (listc : Nat) (w : World) (hx : Rd B3C w A bs) (hlist : Rd I64 w listA list) (lx : bs.length ≤ 4611686018427387904) (llist : list.length ≤ 1099511627776) : Does Tryz.prog 77 [.agg #[.int .i64 v, .slice A bs.length c], .slice listA list.length listc] w [] (fun r => [.pur (r = .int .i64 (if STS v bs then if ∀ q ∈ list, Pt v q then 0 else 2 else 1))]) := by
 refine Does.enter Tryz.func77 rfl rfl [(0, .agg #[.int .i64 v, .slice A bs.length c]), (1, .slice listA list.length listc)] rfl (Za (O.f rfl (Ef.box rfl rfl rfl) ?_))
 rintro _ _ ⟨b1, rfl, rfl⟩
 refine O.m rfl (Zc (O.q rfl (Pu.loadAgg rfl ag26 sz26 rfl rfl (Ld.whole 0 rfl)) (O.f rfl (Ef.callP call64 rfl rfl (fun w hw => l01Is_ok _ bs _ _ w ((Ld.old hx) w hw) (by omega))) ?_)))
 rintro _ _ ⟨rfl, rfl⟩
 refine O.q rfl (Pu.not rfl rfl) (Zf (V.condNot rfl (fun c1 => ?_) (fun c1 => ?_)))
 ·exact Za (O.m rfl (Ze (Xr (X.ret1 rfl rfl (fun w hw => St.retP (iv (by rw [if_neg c1])) hw)))))
 ·have hlo := c1.lo
  have hhi := c1.hi
  refine Vk (Xn (Zj (O.m rfl (Zi (V.loop3 (β := Nat) (fun i => [(5, .int .i64 (i : Int))]) _ (fun i => []) _ (fun i => i ≤ list.length ∧ ∀ j (hj : j < list.length), j < i → Pt v list[j]) (fun i => list.length - i) 0 ⟨by omega, fun j hj h => by omega⟩ (Ent.cons rfl (Ent.nil _)) (Ent.cons (t := 1) rfl (Ent.cons (t := 2) rfl (Ent.nil _))) (Sub.s [0] rfl) ?_)))))
  rintro i ⟨hi, hp⟩
  refine Zj (O.m rfl (O.m rfl (O.q rfl (Pu.len rfl ut49 rfl) (O.q rfl (Pu.lss rfl rfl rfl) (Zf (V.condD rfl (fun c2 => ?_) (fun c2 => ?_)))))))
  ·refine Vk (Xn (Vs (Vb (Vs (V.draw mo (by kernel_rfl) (fun hwf => D.m 0 rfl (D.m 1 rfl (D.q 2 rfl (Pu.indexAddr (i) rfl ut49 sz2 rfl rfl (by omega) (by omega) (hlist.some (by omega))) ?_))))))))
   have e1 : i < list.length := by omega
   refine D.q 3 rfl (Pu.load rfl pl2 rfl (Ld.rd (Ld.old hlist) (k := i) e1 rfl rfl)) (D.q 4 rfl (Pu.fieldAddr 0 rfl ut26 rfl sz2 rfl rfl) (D.q 5 rfl (Pu.load rfl pl2 rfl (Ld.blk 0 rfl rfl)) (D.q 6 rfl (Pu.sub64 rfl (by omega) rfl rfl rfl) (D.f hwf 7 rfl (Ef.callP call120 rfl rfl (fun w hw => l01In_ok _ _ _ _)) ?_))))
   rintro _ _ ⟨rfl, rfl⟩ hs
   refine ⟨fun w hw => hw, (D.q 8 rfl (Pu.not rfl rfl) (D.done hwf rfl (Xn (V.condNot rfl (fun c3 => ?_) (fun c3 => ?_)))))⟩
   ·exact Za (O.m rfl (Ze (Xq (Xr (Xr (Xq (Xr (X.ret1 rfl rfl (fun w hw => St.retP (iv (by rw [if_pos c1, if_neg (fun h => by have := h _ (List.getElem_mem e1); unfold Pt at this; omega)])) hw)))))))))
   ·exact Zg (O.m rfl (O.q rfl (Pu.add64 (r := ((i + 1 : Nat) : Int)) rfl (by omega) rfl rfl rfl) (O.m rfl (On (X.back3 (i + 1) ⟨by omega, fun j hj h => by by_cases e : j = i; (· subst e; unfold Pt; omega); (· exact hp j hj (by omega))⟩ (by first | omega | (dsimp only; omega)) (Ent.cons rfl (Ent.nil _)) (Ent.cons (t := 1) rfl (Ent.cons (t := 2) rfl (Ent.nil _))) (Sub.s [0] rfl))))))
  ·exact Zd (O.m rfl (Ze (X.ret1 rfl rfl (fun w hw => St.retP (iv (by rw [if_pos c1, if_pos (fun q hq => by obtain ⟨j, hj, rfl⟩ := List.mem_iff_getElem.1 hq; exact hp j hj (by omega))])) hw))))
set_option maxRecDepth 100000 in
set_option maxHeartbeats 1000000 in
theorem cycle_ok (v : Int) (bs : List B3) (N : Nat) (g : Nat) (G : Int → Int → Int) (a : Int) (b : Int) (p : Int) (w : World) (hg : GridAt w g G 198) (g0 : Ab v bs a b) (c0 : Cy v bs a b p) (P : Per bs a b p N) (hG : G = tab bs) : Does Tryz.prog 73 [.pointer (some ⟨g, 0, none⟩), .int .i64 a, .int .i64 b, .int .i64 p] w [] (fun rv_ => [.exi fun (rA : Option Addr) => .exi fun (rc : Nat) => .exi fun (r : List Int) => .sep (.pur (rv_ = .slice rA r.length rc ∧ r = cycL bs a b p N)) (Own 2 I64 rA rc r)]) := by
 refine Does.enter Tryz.func73 rfl rfl [(0, .pointer (some ⟨g, 0, none⟩)), (1, .int .i64 a), (2, .int .i64 b), (3, .int .i64 p)] rfl (Za (O.m rfl (Zb (O.m rfl (Zf (Vs ?_))))))
 refine Vr (O.m rfl (O.m rfl (Zi (V.map (fun w hw => St.addNil (T := 2) (C := I64) hw) (V.map (fun w hw => St.addNil (T := 2) (C := I64) hw) (V.loop2 (β := (Option Addr) × Nat × (List Int) × (Option Addr) × Nat × (List Int) × Int × Nat) (fun x => [(8, .slice x.1 x.2.2.1.length x.2.1), (9, .slice x.2.2.2.1 x.2.2.2.2.2.1.length x.2.2.2.2.1), (10, .int .i64 (x.2.2.2.2.2.2.1 : Int))]) _ (fun x => [Own 2 I64 x.1 x.2.1 x.2.2.1, Own 2 I64 x.2.2.2.1 x.2.2.2.2.1 x.2.2.2.2.2.1]) (fun x => (x.2.2.2.2.2.2.2 < N ∧ x.2.2.2.2.2.2.1 = uc bs a b p (2 * x.2.2.2.2.2.2.2)) ∧ x.2.2.2.2.2.1 = (List.range (2 * x.2.2.2.2.2.2.2)).map (uc bs a b p) ∧ x.2.2.2.2.2.1.length = 2 * x.2.2.2.2.2.2.2) (fun x => N - x.2.2.2.2.2.2.2) (none, 0, [], none, 0, [], p, 0) (by (try dsimp only); exact ⟨⟨P.pos, rfl⟩, rfl, rfl⟩) (Ent.cons rfl (Ent.cons rfl (Ent.cons rfl (Ent.nil _)))) (Ent.cons (t := 0) rfl (Ent.cons (t := 1) rfl (Ent.cons (t := 2) rfl (Ent.cons (t := 3) rfl (Ent.nil _))))) (Sub.s [1,0] rfl) ?_))))))
 rintro ⟨t8A, t8c, t8, outA, outc, out, now, i⟩ ⟨⟨hi, hn⟩, ho, hl⟩
 dsimp only at hi hn ho hl ⊢
 refine Vb (Vs ?_)
 have hhi := g0.h.hi
 have pa := g0.pa
 have pb := g0.pb
 unfold Pt at pa pb
 have hN := P.le
 have pn : 0 ≤ now ∧ now < 15 := by rw [hn]; exact uc_pt15 g0 c0 _
 have q1 : G a now = uc bs a b p (2 * i + 1) := by rw [hG, hn]; exact (uc_tab g0 c0 i).1.1
 have pg : 0 ≤ G a now ∧ G a now < 15 := by rw [q1]; exact uc_pt15 g0 c0 _
 have q2 : G b (G a now) = uc bs a b p (2 * (i + 1)) := by rw [q1, hG]; exact (uc_tab g0 c0 i).1.2
 refine Vr (O.m rfl (O.m rfl (O.m rfl (O.m rfl (O.q rfl (Pu.indexArr ((a).toNat) (0 + (a).toNat * 15) rfl ut198 sz89 rfl rfl (by omega) (by omega) rfl) (O.q rfl (Pu.indexArr ((now).toNat) (0 + (a).toNat * 15 + (now).toNat * 1) rfl ut89 sz2 rfl rfl (by omega) (by omega) rfl) (O.q rfl (Pu.load rfl pl2 rfl (Ld.gridOld (x := a) (y := now) hg (by omega) (by omega) (by omega))) (O.m rfl (Zf (Vs ?_))))))))))
 refine Vr (O.m rfl (O.m rfl (O.m rfl (O.f rfl (Ef.build I64 ([now, (G a now)] : List Int) rfl ut49 inf2 rfl rfl rfl (by first | decide | (simp; done)) (by kernel_rfl)) ?_))))
 rintro _ _ ⟨A1, hA1, rfl, rfl⟩
 refine O.f rfl (Ef.append (xs := out) (ys := ([now, (G a now)] : List Int)) 2 rfl ut49 inf2 rfl rfl rfl rfl rfl rfl hA1 (Ld.own 0 (by exact rfl)) (by simp only [List.length_append, List.length_cons, List.length_nil] at *; omega) (by decide)) ?_
 rintro _ _ ⟨A2, k1, rfl, rfl, hA2⟩
 replace hA2 := hA2 (.inr (by simp))
 refine O.m rfl (Zb (O.m rfl (O.m rfl (O.m rfl (O.m rfl (O.q rfl (Pu.indexArr ((b).toNat) (0 + (b).toNat * 15) rfl ut198 sz89 rfl rfl (by omega) (by omega) rfl) (O.q rfl (Pu.indexArr (((G a now)).toNat) (0 + (b).toNat * 15 + ((G a now)).toNat * 1) rfl ut89 sz2 rfl rfl (by omega) (by omega) rfl) (O.q rfl (Pu.load rfl pl2 rfl (Ld.gridOld (x := b) (y := (G a now)) hg (by omega) (by omega) (by omega))) ?_))))))))
 refine O.m rfl (Zb (O.m rfl (O.m rfl (O.q rfl (Pu.eql rfl rfl rfl) (Zf (V.condD rfl (fun c1 => ?_) (fun c1 => ?_)))))))
 ·exact Za (O.m rfl (O.m rfl (Ze (Xq (Xr (Xq (X.ret1 rfl rfl (fun w hw => St.mkExi A2 (St.mkExi k1 (St.mkExi (out ++ ([now, (G a now)] : List Int)) (St.unsep (St.addPur ⟨rfl, by rw [q2] at c1; rw [per_end P hi c1]; unfold cycL; rw [rg_snoc, ← q1, ← hn, ho]⟩ (hw.sub (Sub.s [2] rfl))))))))))))))
 ·exact Vk (Xb (X.back2 (t8A, t8c, t8, A2, k1, (out ++ ([now, (G a now)] : List Int)), (G b (G a now)), (i + 1)) (by (try dsimp only); exact ⟨⟨per_more P hi (by rw [← q2]; exact c1), q2⟩, by rw [ho, rg_snoc, ← q1, ← hn], by simp only [List.length_append, List.length_cons, List.length_nil]; omega⟩) (by first | omega | (dsimp only; omega)) (Ent.cons rfl (Ent.cons rfl (Ent.cons rfl (Ent.nil _)))) (Ent.cons (t := 0) rfl (Ent.cons (t := 1) rfl (Ent.cons (t := 2) rfl (Ent.cons (t := 3) rfl (Ent.nil _))))) (Sub.s [1,1] rfl)))
set_option maxRecDepth 100000 in
set_option maxHeartbeats 1000000 in
theorem l04Made_ok (v_ : Int) (out : List B3) (in_ : List B3) (outA : Option Addr) (outc : Nat) (in_A : Option Addr) (in_c : Nat) (w : World) (hout : Rd B3C w outA out) (hin_ : Rd B3C w in_A in_) (lout : out.length ≤ 1099511627776) (lin_ : in_.length ≤ 1099511627776) (lo : out.length ≤ 1000) (li : in_.length ≤ 1000) : Does Tryz.prog 81 [.int .i64 v_, .slice outA out.length outc, .slice in_A in_.length in_c] w [] (fun r => [.exi fun (oA : Option Addr) => .exi fun (oc : Nat) => .exi fun (o : List B3) => .exi fun (iA : Option Addr) => .exi fun (ic : Nat) => .exi fun (i : List B3) => .sep (.pur (r = .agg #[.int .i64 v_, .slice oA o.length oc, .slice iA i.length ic] ∧ (o.Perm out ∧ SrtB o) ∧ (i.Perm in_ ∧ SrtB i))) (.sep (Own 81 B3C oA oc o) (Own 81 B3C iA ic i))]) := by
 refine Does.enter Tryz.func81 rfl rfl [(0, .int .i64 v_), (1, .slice outA out.length outc), (2, .slice in_A in_.length in_c)] rfl (Za (O.f rfl (Ef.alloc rfl zr35 rfl) ?_))
 rintro _ _ ⟨b1, rfl, rfl⟩
 refine Zb (O.m rfl (O.m rfl (O.f rfl (Ef.call1 call150 rfl rfl (fun w hw => l01Sort_ok  out _ _ w ((Ld.old hout) w hw) (by first | omega | (simp only [tops_len, conts_len, bl, List.length_append, List.length_cons, List.length_nil] at *; omega)) (by first | assumption | omega | (try dsimp only at *; omega)))) ?_)))
 rintro _ _ rfl
 refine O.exi (fun r1A => O.exi (fun r1c => O.exi (fun r1 => O.sep (O.pur ?_))))
 rintro ⟨rfl, hr1_1, hr1_2⟩
 refine O.m rfl (O.f rfl (Ef.call1 call150 rfl rfl (fun w hw => l01Sort_ok  in_ _ _ w ((Ld.old hin_) w hw) (by first | omega | (simp only [tops_len, conts_len, bl, List.length_append, List.length_cons, List.length_nil] at *; omega)) (by first | assumption | omega | (try dsimp only at *; omega)))) ?_)
 rintro _ _ rfl
 refine O.exi (fun r2A => O.exi (fun r2c => O.exi (fun r2 => O.sep (O.pur ?_))))
 rintro ⟨rfl, hr2_1, hr2_2⟩
 refine O.q rfl (Pu.buildS (cs := [.int .i64 v_, .slice r1A r1.length r1c, .slice r2A r2.length r2c]) rfl rfl ut35 zr35 (by kernel_rfl) rfl (by kernel_rfl)) (O.s rfl rfl (Ef.storeAll 2 rfl sz35 rfl rfl rfl rfl (by simp [Value.oneCell']) rfl) ?_)
 rintro _ _ rfl
 exact Ze (X.retCell rfl ag35 sz35 rfl rfl (Ld.whole 2 rfl) (fun w hw => St.mkExi r1A (St.mkExi r1c (St.mkExi r1 (St.mkExi r2A (St.mkExi r2c (St.mkExi r2 (St.unsep (St.addPur ⟨rfl, ⟨hr1_1, hr1_2⟩, ⟨hr2_1, hr2_2⟩⟩ (St.unsep (hw.sub (Sub.s [1,0] rfl))))))))))))
theorem cyCode_ne {v : Int} {bs : List B3} {a b p : Int} (h : ¬ (if STS v bs then if ∀ q ∈ ([a, b, p] : List Int), Pt v q then (0 : Int) else 2 else 1) = 0) : cyCode v bs a b p = (if STS v bs then if ∀ q ∈ ([a, b, p] : List Int), Pt v q then (0 : Int) else 2 else 1) := by
 by_cases hS : STS v bs
 ·rw [if_pos hS] at h ⊢
  by_cases hP : ∀ q ∈ ([a, b, p] : List Int), Pt v q
  ·rw [if_pos hP] at h; exact absurd rfl h
  ·rw [if_neg hP]
   refine cyCode_2 hS fun hc => hP fun q hq => ?_
   simp only [List.mem_cons, List.not_mem_nil, or_false] at hq
   rcases hq with rfl | rfl | rfl
   ·exact hc.1
   ·exact hc.2.1
   ·exact hc.2.2.1
 ·rw [if_neg hS]; exact cyCode_1 hS
set_option maxRecDepth 100000 in
set_option maxHeartbeats 1000000 in
theorem specCycle_ok (v : Int) (bs : List B3) (a : Int) (b : Int) (p : Int) (A : Option Addr) (c : Nat) (w : World) (hx : Rd B3C w A bs) (lx : bs.length ≤ 4611686018427387904) : Does Tryz.prog 13 [.agg #[.int .i64 v, .slice A bs.length c], .int .i64 a, .int .i64 b, .int .i64 p] w [] (fun r => [.exi fun (oA : Option Addr) => .exi fun (oc : Nat) => .exi fun (o : List B3) => .exi fun (iA : Option Addr) => .exi fun (ic : Nat) => .exi fun (i : List B3) => .sep (.pur (r = .tuple #[.agg #[.int .i64 (if cyCode v bs a b p = 0 then v else 0), .slice oA o.length oc, .slice iA i.length ic], .int .i64 (cyCode v bs a b p)] ∧ CYR v bs a b p o i)) (.sep (Own 81 B3C oA oc o) (Own 81 B3C iA ic i))]) := by
 refine Does.enter Tryz.func13 rfl rfl [(0, .agg #[.int .i64 v, .slice A bs.length c]), (1, .int .i64 a), (2, .int .i64 b), (3, .int .i64 p)] rfl (Za (O.f rfl (Ef.box rfl rfl rfl) ?_))
 rintro _ _ ⟨b1, rfl, rfl⟩
 refine O.f rfl (Ef.alloc rfl zr35 rfl) ?_
 rintro _ _ ⟨b2, rfl, rfl⟩
 refine O.m rfl (Zb (O.q rfl (Pu.loadAgg rfl ag26 sz26 rfl rfl (Ld.whole 1 rfl)) (O.m rfl (O.m rfl (O.m rfl (O.f rfl (Ef.build I64 ([a, b, p] : List Int) rfl ut49 inf2 rfl rfl rfl (by first | decide | (simp; done)) (by kernel_rfl)) ?_))))))
 rintro _ _ ⟨A1, hA1, rfl, rfl⟩
 refine O.f rfl (Ef.callP call77 rfl rfl (fun w hw => l01Points_ok  v bs ([a, b, p] : List Int) _ _ _ _ w ((Ld.old hx) w hw) ((Ld.own 0 (by exact rfl)) w hw) (by first | omega | (simp only [tops_len, conts_len, bl, List.length_append, List.length_cons, List.length_nil] at *; omega)) (by first | omega | (simp only [tops_len, conts_len, bl, List.length_append, List.length_cons, List.length_nil] at *; omega)) )) ?_
 rintro _ _ ⟨rfl, rfl⟩
 refine O.m rfl (Zc (O.m rfl (O.q rfl (Pu.eql rfl rfl rfl) (O.m rfl (O.splitD 24 rfl (fun c1 => ?_) (fun c1 => ?_))))))
 ·have hc0 := c1
  have hS : STS v bs := by apply Decidable.byContradiction; intro h; rw [if_neg h] at c1; omega
  rw [if_pos hS] at c1
  have hP : ∀ q ∈ [a, b, p], Pt v q := by apply Decidable.byContradiction; intro h; rw [if_neg h] at c1; omega
  have pa := hP a (by simp)
  have pb := hP b (by simp)
  have pp := hP p (by simp)
  unfold Pt at pa pb pp
  have hhi := hS.hi
  have hlo := hS.lo
  have hfew := hS.few
  have hg : ∀ b ∈ bs, good 15 b := fun b h => (hS.good b h).mono hS.hi
  have hmul := sts_mul' hS
  refine O.gm rfl (O.gm rfl (O.gq rfl (Pu.eql rfl rfl rfl) (O.gm rfl (O.splitD 28 rfl (fun c2 => ?_) (fun c2 => ?_)))))
  ·refine O.g rfl (O.g rfl (O.g rfl (O.gm rfl (O.gm rfl (O.g rfl (O.g rfl (O.g rfl (O.gm rfl (O.gm rfl (O.g rfl (O.g rfl ?_)))))))))))
   refine O.g rfl (O.g rfl (O.g rfl (O.g rfl (O.gm rfl (O.m rfl (Zf (V.condT rfl (Vr (O.m rfl (On ?_))))))))))
   refine Xn (Zj (O.m rfl (O.q rfl (Pu.isF (by decide) (Pu.eql rfl rfl rfl)) (O.m rfl (O.g rfl (O.g rfl (O.g rfl (O.m rfl (On ?_)))))))))
   refine Xn (V.condF rfl (Vk (Xn (Zj (O.m rfl (O.q rfl (Pu.neq rfl rfl rfl) (Zf (V.condNot rfl (fun c3 => ?_) (fun c3 => ?_)))))))))
   ·refine Za (O.q rfl (Pu.buildS (cs := [.int .i64 (0 : Int), .slice none 0 0, .slice none 0 0]) rfl rfl ut35 zr35 (by kernel_rfl) rfl (by kernel_rfl)) (O.m rfl (O.s rfl rfl (Ef.storeAll 1 rfl sz35 rfl rfl rfl rfl (by simp [Value.oneCell']) rfl) ?_)))
    rintro _ _ rfl
    exact O.m rfl (Ze (Xr (X.retCell2 rfl ag35 sz35 rfl rfl rfl (Ld.whole 1 rfl) (fun w hw => St.mkExi none (St.mkExi 0 (St.mkExi [] (St.mkExi none (St.mkExi 0 (St.mkExi [] (St.unsep (St.addPur ⟨(by rw [cyCode_2 hS (fun h => h.2.2.2.1 c2)]; rfl), cyR_no (cyCode_2 hS (fun h => h.2.2.2.1 c2)) (by decide)⟩ (St.unsep (St.addNil (T := 81) (C := B3C) (St.addNil (T := 81) (C := B3C) (hw.sub (Sub.nil _))))))))))))))))
   ·exact absurd c3 (by decide)
  ·refine O.gm rfl (O.gm rfl (O.gq rfl (Pu.eql rfl rfl rfl) (O.gm rfl (O.gm rfl (O.splitD 33 rfl (fun c4 => ?_) (fun c4 => ?_))))))
   ·refine O.g rfl (O.g rfl (O.g rfl (O.gm rfl (O.gm rfl (O.g rfl (O.g rfl (O.g rfl (O.g rfl (O.g rfl (O.g rfl (O.gm rfl ?_)))))))))))
    refine O.m rfl (Zf (V.condT rfl (Vr (O.m rfl (Zc (O.m rfl ?_))))))
    refine O.q rfl (Pu.isF (by decide) (Pu.eql rfl rfl rfl)) (O.m rfl (O.g rfl (O.g rfl (O.g rfl (O.m rfl (Zf (V.condF rfl (Vk (Xn (Vs ?_))))))))))
    refine Za (O.m rfl (O.q rfl (Pu.neq rfl rfl rfl) (Zf (V.condNot rfl (fun c5 => ?_) (fun c5 => ?_)))))
    ·refine Za (O.q rfl (Pu.buildS (cs := [.int .i64 (0 : Int), .slice none 0 0, .slice none 0 0]) rfl rfl ut35 zr35 (by kernel_rfl) rfl (by kernel_rfl)) (O.m rfl (O.s rfl rfl (Ef.storeAll 1 rfl sz35 rfl rfl rfl rfl (by simp [Value.oneCell']) rfl) ?_)))
     rintro _ _ rfl
     exact O.m rfl (Ze (Xr (X.retCell2 rfl ag35 sz35 rfl rfl rfl (Ld.whole 1 rfl) (fun w hw => St.mkExi none (St.mkExi 0 (St.mkExi [] (St.mkExi none (St.mkExi 0 (St.mkExi [] (St.unsep (St.addPur ⟨(by rw [cyCode_2 hS (fun h => h.2.2.2.2.1 c4)]; rfl), cyR_no (cyCode_2 hS (fun h => h.2.2.2.2.1 c4)) (by decide)⟩ (St.unsep (St.addNil (T := 81) (C := B3C) (St.addNil (T := 81) (C := B3C) (hw.sub (Sub.nil _))))))))))))))))
    ·exact absurd c5 (by decide)
   ·refine O.gm rfl (O.gm rfl (O.gq rfl (Pu.eql rfl rfl rfl) (O.gm rfl (O.gm rfl (O.splitD 38 rfl (fun c6 => ?_) (fun c6 => ?_))))))
    ·refine O.g rfl (O.g rfl (O.g rfl (O.g rfl (O.g rfl (O.g rfl (O.gm rfl (O.m rfl (Zf (V.condT rfl (Vr ?_))))))))))
     refine O.m rfl (Zc (O.m rfl (O.q rfl (Pu.isF (by decide) (Pu.eql rfl rfl rfl)) (O.m rfl (O.g rfl (O.g rfl (O.g rfl ?_)))))))
     refine O.m rfl (Zf (V.condF rfl (Vk (Xn (Zj (O.m rfl (O.q rfl (Pu.neq rfl rfl rfl) (On ?_))))))))
     refine Xn (V.condNot rfl (fun c7 => ?_) (fun c7 => ?_))
     ·refine Za (O.q rfl (Pu.buildS (cs := [.int .i64 (0 : Int), .slice none 0 0, .slice none 0 0]) rfl rfl ut35 zr35 (by kernel_rfl) rfl (by kernel_rfl)) (O.m rfl (O.s rfl rfl (Ef.storeAll 1 rfl sz35 rfl rfl rfl rfl (by simp [Value.oneCell']) rfl) ?_)))
      rintro _ _ rfl
      exact O.m rfl (Ze (Xr (X.retCell2 rfl ag35 sz35 rfl rfl rfl (Ld.whole 1 rfl) (fun w hw => St.mkExi none (St.mkExi 0 (St.mkExi [] (St.mkExi none (St.mkExi 0 (St.mkExi [] (St.unsep (St.addPur ⟨(by rw [cyCode_2 hS (fun h => h.2.2.2.2.2.1 c6)]; rfl), cyR_no (cyCode_2 hS (fun h => h.2.2.2.2.2.1 c6)) (by decide)⟩ (St.unsep (St.addNil (T := 81) (C := B3C) (St.addNil (T := 81) (C := B3C) (hw.sub (Sub.nil _))))))))))))))))
     ·exact absurd c7 (by decide)
    ·refine O.gm rfl (O.gq rfl (Pu.loadAgg rfl ag26 sz26 rfl rfl (Ld.whole 2 rfl)) (O.gm rfl (O.gm rfl (O.gf rfl (Ef.callP call78 rfl rfl (fun w hw => l01Third_ok  v bs a b _ _ w ((Ld.old hx) w hw) (by first | omega | (simp only [tops_len, conts_len, bl, List.length_append, List.length_cons, List.length_nil] at *; omega)) hg (by omega) (by omega))) ?_))))
     rintro _ _ ⟨rfl, rfl⟩
     refine O.gq rfl (Pu.eql rfl rfl rfl) (O.gm rfl (O.m rfl (Zf (V.condD rfl (fun c8 => ?_) (fun c8 => ?_)))))
     ·refine Vr (O.m rfl (Zc (O.m rfl (O.q rfl (Pu.isF (by decide) (Pu.eql rfl rfl rfl)) (O.m rfl (O.g rfl (O.g rfl ?_)))))))
      refine O.g rfl (O.m rfl (Zf (V.condF rfl (Vk (Xn (Zj (O.m rfl (O.q rfl (Pu.neq rfl rfl rfl) ?_))))))))
      refine Zf (V.condNot rfl (fun c9 => ?_) (fun c9 => ?_))
      ·refine Za (O.q rfl (Pu.buildS (cs := [.int .i64 (0 : Int), .slice none 0 0, .slice none 0 0]) rfl rfl ut35 zr35 (by kernel_rfl) rfl (by kernel_rfl)) (O.m rfl (O.s rfl rfl (Ef.storeAll 1 rfl sz35 rfl rfl rfl rfl (by simp [Value.oneCell']) rfl) ?_)))
       rintro _ _ rfl
       exact O.m rfl (Ze (Xr (X.retCell2 rfl ag35 sz35 rfl rfl rfl (Ld.whole 1 rfl) (fun w hw => St.mkExi none (St.mkExi 0 (St.mkExi [] (St.mkExi none (St.mkExi 0 (St.mkExi [] (St.unsep (St.addPur ⟨(by rw [cyCode_2 hS (fun h => h.2.2.2.2.2.2 c8)]; rfl), cyR_no (cyCode_2 hS (fun h => h.2.2.2.2.2.2 c8)) (by decide)⟩ (St.unsep (St.addNil (T := 81) (C := B3C) (St.addNil (T := 81) (C := B3C) (hw.sub (Sub.nil _))))))))))))))))
      ·exact absurd c9 (by decide)
     ·have hok : CyOk v bs a b p := ⟨pa, pb, pp, c2, c4, c6, c8⟩
      refine Vk (Xn (Zj (O.m rfl (O.q rfl (Pu.eql rfl rfl rfl) (O.m rfl (O.splitD 49 rfl (fun c10 => ?_) (fun c10 => ?_)))))))
      ·refine O.gq rfl (Pu.loadAgg rfl ag26 sz26 rfl rfl (Ld.whole 2 rfl)) (O.gf rfl (Ef.callP call79 rfl rfl (fun w hw => l01FullC_ok  v bs _ _ w ((Ld.old hx) w hw) (by first | omega | (simp only [tops_len, conts_len, bl, List.length_append, List.length_cons, List.length_nil] at *; omega)) (by omega) (by omega) hmul)) ?_)
       rintro _ _ ⟨rfl, rfl⟩
       refine O.gq rfl (Pu.not rfl rfl) (O.m rfl (Zf (V.condNot rfl (fun c11 => ?_) (fun c11 => ?_))))
       ·refine Vr (O.m rfl (Zc (O.m rfl (O.q rfl (Pu.neq rfl rfl rfl) (Zf (V.condNot rfl (fun c12 => ?_) (fun c12 => ?_)))))))
        ·refine Za (O.q rfl (Pu.buildS (cs := [.int .i64 (0 : Int), .slice none 0 0, .slice none 0 0]) rfl rfl ut35 zr35 (by kernel_rfl) rfl (by kernel_rfl)) (O.m rfl (O.s rfl rfl (Ef.storeAll 1 rfl sz35 rfl rfl rfl rfl (by simp [Value.oneCell']) rfl) ?_)))
         rintro _ _ rfl
         exact O.m rfl (Ze (Xr (X.retCell2 rfl ag35 sz35 rfl rfl rfl (Ld.whole 1 rfl) (fun w hw => St.mkExi none (St.mkExi 0 (St.mkExi [] (St.mkExi none (St.mkExi 0 (St.mkExi [] (St.unsep (St.addPur ⟨(by rw [cyCode_5 hS hok c11]; rfl), cyR_no (cyCode_5 hS hok c11) (by decide)⟩ (St.unsep (St.addNil (T := 81) (C := B3C) (St.addNil (T := 81) (C := B3C) (hw.sub (Sub.nil _))))))))))))))))
        ·exact absurd c12 (by decide)
       ·have hcode := cyCode_0 hS hok c11
        have hab := cy_ok hcode
        obtain ⟨N, P⟩ := per_some hab.1 hab.2
        have hN := P.le
        refine Vk (Xn (Zj (O.m rfl (O.q rfl (Pu.neq rfl rfl rfl) (Zf (V.condNot rfl (fun c13 => ?_) (fun c13 => ?_)))))))
        ·exact absurd hc0 c13
        ·refine Vk (Xn (Za (O.f rfl (Ef.build B3C ([] : List B3) rfl ut24 inf81 rfl rfl rfl (by first | decide | (simp; done)) (by kernel_rfl)) ?_)))
         rintro _ _ ⟨A2, hA2, rfl, rfl⟩
         refine O.f rfl (Ef.build B3C ([] : List B3) rfl ut24 inf81 rfl rfl rfl (by first | decide | (simp; done)) (by kernel_rfl)) ?_
         rintro _ _ ⟨A3, hA3, rfl, rfl⟩
         refine O.m rfl (O.m rfl (O.m rfl (O.m rfl (Zi (V.loop3 (β := Nat × (Option Addr) × Nat × (List B3) × (Option Addr) × Nat × (List B3) × Int × Nat) (fun x => [(9, .int .i64 (x.1 : Int)), (11, .slice x.2.1 x.2.2.2.1.length x.2.2.1), (12, .slice x.2.2.2.2.1 x.2.2.2.2.2.2.1.length x.2.2.2.2.2.1), (13, .int .i64 (x.2.2.2.2.2.2.2.1 : Int))]) _ (fun x => [Own 81 B3C x.2.1 x.2.2.1 x.2.2.2.1, Own 81 B3C x.2.2.2.2.1 x.2.2.2.2.2.1 x.2.2.2.2.2.2.1]) _ (fun x => (x.2.2.2.2.2.2.2.2 < N ∧ x.2.2.2.2.2.2.2.1 = uc bs a b p (2 * x.2.2.2.2.2.2.2.2)) ∧ (x.2.2.2.1 = (List.range (2 * x.2.2.2.2.2.2.2.2)).map (ucE bs a b p) ∧ x.2.2.2.2.2.2.1 = (List.range (2 * x.2.2.2.2.2.2.2.2)).map (ucF bs a b p)) ∧ x.2.2.2.1.length = 2 * x.2.2.2.2.2.2.2.2 ∧ x.2.2.2.2.2.2.1.length = 2 * x.2.2.2.2.2.2.2.2) (fun x => N - x.2.2.2.2.2.2.2.2) (0, A2, 0, ([] : List B3), A3, 0, ([] : List B3), p, 0) (by (try dsimp only); exact ⟨⟨P.pos, rfl⟩, ⟨rfl, rfl⟩, rfl, rfl⟩) (Ent.cons rfl (Ent.cons rfl (Ent.cons rfl (Ent.cons rfl (Ent.nil _))))) (Ent.cons (t := 1) rfl (Ent.cons (t := 2) rfl (Ent.cons (t := 3) rfl (Ent.cons (t := 4) rfl (Ent.cons (t := 8) rfl (Ent.nil _)))))) (Sub.s [1,0,0,0,0] rfl) ?_)))))
         rintro ⟨t9, outA, outc, out, in_A, in_c, in_, at_, i⟩ ⟨⟨hi, hn⟩, ⟨ho, hj⟩, hl1, hl2⟩
         dsimp only at hi hn ho hj hl1 hl2 ⊢
         refine Vb (Vs ?_)
         have pn : 0 ≤ at_ ∧ at_ < 15 := by rw [hn]; exact uc_pt15 hab.1 hab.2 _
         have q1 : third bs a at_ = uc bs a b p (2 * i + 1) := by rw [hn]; exact (uc_tab hab.1 hab.2 i).2.1
         have pg : 0 ≤ third bs a at_ ∧ third bs a at_ < 15 := by rw [q1]; exact uc_pt15 hab.1 hab.2 _
         have q2 : third bs b (third bs a at_) = uc bs a b p (2 * (i + 1)) := by rw [q1]; exact (uc_tab hab.1 hab.2 i).2.2
         have ph : 0 ≤ third bs b (third bs a at_) ∧ third bs b (third bs a at_) < 15 := by rw [q2]; exact uc_pt15 hab.1 hab.2 _
         have hout : out ++ [(bk3 a at_ (third bs a at_)), (bk3 b (third bs a at_) (third bs b (third bs a at_)))] = (List.range (2 * (i + 1))).map (ucE bs a b p) := by rw [ho, rg_snoc, ucE_ev, ucE_od, ← q2, ← q1, ← hn]
         have hin : in_ ++ [(bk3 b at_ (third bs a at_)), (bk3 a (third bs a at_) (third bs b (third bs a at_)))] = (List.range (2 * (i + 1))).map (ucF bs a b p) := by rw [hj, rg_snoc, ucF_ev, ucF_od, ← q2, ← q1, ← hn]
         refine Vr (O.q rfl (Pu.loadAgg rfl ag26 sz26 rfl rfl (Ld.whole 4 rfl)) (O.m rfl (O.m rfl (O.f rfl (Ef.callP call78 rfl rfl (fun w hw => l01Third_ok  v bs a at_ _ _ w ((Ld.old hx) w hw) (by first | omega | (simp only [tops_len, conts_len, bl, List.length_append, List.length_cons, List.length_nil] at *; omega)) hg (by omega) (by omega))) ?_))))
         rintro _ _ ⟨rfl, rfl⟩
         refine O.m rfl (Zb (O.q rfl (Pu.loadAgg rfl ag26 sz26 rfl rfl (Ld.whole 4 rfl)) (O.m rfl (O.m rfl (O.f rfl (Ef.callP call78 rfl rfl (fun w hw => l01Third_ok  v bs b (third bs a at_) _ _ w ((Ld.old hx) w hw) (by first | omega | (simp only [tops_len, conts_len, bl, List.length_append, List.length_cons, List.length_nil] at *; omega)) hg (by omega) (by omega))) ?_)))))
         rintro _ _ ⟨rfl, rfl⟩
         refine O.m rfl (Zb (O.m rfl (O.m rfl (O.m rfl (O.m rfl (O.f rfl (Ef.callP call80 rfl rfl (fun w hw => l01BlockD_ok  a at_ (third bs a at_) w   (by omega) (by omega) (by omega))) ?_))))))
         rintro _ _ ⟨rfl, rfl⟩
         refine O.m rfl (O.m rfl (O.m rfl (O.f rfl (Ef.callP call80 rfl rfl (fun w hw => l01BlockD_ok  b (third bs a at_) (third bs b (third bs a at_)) w   (by omega) (by omega) (by omega))) ?_)))
         rintro _ _ ⟨rfl, rfl⟩
         refine O.f rfl (Ef.build B3C ([(bk3 a at_ (third bs a at_)), (bk3 b (third bs a at_) (third bs b (third bs a at_)))] : List B3) rfl ut24 inf81 rfl rfl rfl (by first | decide | (simp; done)) (by kernel_rfl)) ?_
         rintro _ _ ⟨A4, hA4, rfl, rfl⟩
         refine O.f rfl (Ef.append (xs := out) (ys := ([(bk3 a at_ (third bs a at_)), (bk3 b (third bs a at_) (third bs b (third bs a at_)))] : List B3)) 1 rfl ut24 inf81 rfl rfl rfl rfl rfl rfl hA4 (Ld.own 0 (by exact rfl)) (by simp only [List.length_append, List.length_cons, List.length_nil] at *; omega) (by decide)) ?_
         rintro _ _ ⟨A5, k1, rfl, rfl, hA5⟩
         replace hA5 := hA5 (.inr (by simp))
         refine O.m rfl (Zb (O.m rfl (O.m rfl (O.m rfl (O.m rfl (O.f rfl (Ef.callP call80 rfl rfl (fun w hw => l01BlockD_ok  b at_ (third bs a at_) w   (by omega) (by omega) (by omega))) ?_))))))
         rintro _ _ ⟨rfl, rfl⟩
         refine O.m rfl (O.m rfl (O.m rfl (O.f rfl (Ef.callP call80 rfl rfl (fun w hw => l01BlockD_ok  a (third bs a at_) (third bs b (third bs a at_)) w   (by omega) (by omega) (by omega))) ?_)))
         rintro _ _ ⟨rfl, rfl⟩
         refine O.f rfl (Ef.build B3C ([(bk3 b at_ (third bs a at_)), (bk3 a (third bs a at_) (third bs b (third bs a at_)))] : List B3) rfl ut24 inf81 rfl rfl rfl (by first | decide | (simp; done)) (by kernel_rfl)) ?_
         rintro _ _ ⟨A6, hA6, rfl, rfl⟩
         refine O.f rfl (Ef.append (xs := in_) (ys := ([(bk3 b at_ (third bs a at_)), (bk3 a (third bs a at_) (third bs b (third bs a at_)))] : List B3)) 3 rfl ut24 inf81 rfl rfl rfl rfl rfl rfl hA6 (Ld.own 0 (by exact rfl)) (by simp only [List.length_append, List.length_cons, List.length_nil] at *; omega) (by decide)) ?_
         rintro _ _ ⟨A7, k2, rfl, rfl, hA7⟩
         replace hA7 := hA7 (.inr (by simp))
         refine O.m rfl (Zb (O.m rfl (O.m rfl (Zb (O.m rfl ?_)))))
         refine O.m rfl (O.q rfl (Pu.eql rfl rfl rfl) (Zf (V.condD rfl (fun c14 => ?_) (fun c14 => ?_))))
         ·refine Za (O.q rfl (Pu.fieldAddr 0 rfl ut26 rfl sz2 rfl rfl) (O.q rfl (Pu.load rfl pl2 rfl (Ld.blk 6 rfl rfl)) (O.m rfl (O.m rfl (O.f rfl (Ef.call1 call81 rfl rfl (fun w hw => l04Made_ok  v (out ++ ([(bk3 a at_ (third bs a at_)), (bk3 b (third bs a at_) (third bs b (third bs a at_)))] : List B3)) (in_ ++ ([(bk3 b at_ (third bs a at_)), (bk3 a (third bs a at_) (third bs b (third bs a at_)))] : List B3)) _ _ _ _ w ((Ld.own 2 (by exact rfl)) w hw) ((Ld.own 3 (by exact rfl)) w hw) (by simp only [List.length_append, List.length_cons, List.length_nil]; omega) (by simp only [List.length_append, List.length_cons, List.length_nil]; omega) (by simp only [List.length_append, List.length_cons, List.length_nil]; omega) (by simp only [List.length_append, List.length_cons, List.length_nil]; omega))) ?_)))))
          rintro _ _ rfl
          refine O.exi (fun o1A => O.exi (fun o1c => O.exi (fun o1 => O.exi (fun i1A => O.exi (fun i1c => O.exi (fun i1 => O.sep (O.pur ?_)))))))
          rintro ⟨rfl, ho1_1, ho1_2⟩
          refine O.sep (O.s rfl rfl (Ef.storeAll 7 rfl sz35 rfl rfl rfl rfl (by simp [Value.oneCell']) rfl) ?_)
          rintro _ _ rfl
          exact O.m rfl (Ze (Xq (Xr (Xq (X.retCell2 rfl ag35 sz35 rfl rfl rfl (Ld.whole 7 rfl) (fun w hw => St.mkExi o1A (St.mkExi o1c (St.mkExi o1 (St.mkExi i1A (St.mkExi i1c (St.mkExi i1 (St.unsep (St.addPur ⟨(by rw [hcode]; rfl), ⟨fun _ => ⟨N, P, by rw [per_end P hi (by rw [← q2]; exact c14)]; unfold outL inL; rw [← hout, ← hin]; exact ⟨ho1_1, ho1_2⟩⟩, fun h => absurd hcode h⟩⟩ (St.unsep (hw.sub (Sub.s [0,0] rfl))))))))))))))))
         ·exact Vk (Xb (X.back3 (t9, A5, k1, (out ++ ([(bk3 a at_ (third bs a at_)), (bk3 b (third bs a at_) (third bs b (third bs a at_)))] : List B3)), A7, k2, (in_ ++ ([(bk3 b at_ (third bs a at_)), (bk3 a (third bs a at_) (third bs b (third bs a at_)))] : List B3)), (third bs b (third bs a at_)), (i + 1)) (by (try dsimp only); exact ⟨⟨per_more P hi (by rw [← q2]; exact c14), q2⟩, ⟨hout, hin⟩, by simp only [List.length_append, List.length_cons, List.length_nil]; omega, by simp only [List.length_append, List.length_cons, List.length_nil]; omega⟩) (by first | omega | (dsimp only; omega)) (Ent.cons rfl (Ent.cons rfl (Ent.cons rfl (Ent.cons rfl (Ent.nil _))))) (Ent.cons (t := 1) rfl (Ent.cons (t := 2) rfl (Ent.cons (t := 3) rfl (Ent.cons (t := 4) rfl (Ent.cons (t := 8) rfl (Ent.nil _)))))) (Sub.s [2,2,2,2,2] rfl)))
      ·exact absurd hc0 c10
 ·have h7 := cyCode_ne c1
  refine O.g rfl (O.g rfl (O.g rfl (O.g rfl (O.g rfl (O.g rfl (O.g rfl (O.g rfl (O.g rfl (O.g rfl (O.g rfl (O.g rfl ?_)))))))))))
  refine O.g rfl (O.g rfl (O.g rfl (O.g rfl (O.g rfl (O.g rfl (O.g rfl (O.g rfl (O.g rfl (O.m rfl (Zf ?_))))))))))
  refine V.condF rfl (Vk (Xn (Zj (O.m rfl (O.q rfl (Pu.eql rfl rfl rfl) (O.m rfl (O.splitD 49 rfl (fun c15 => ?_) (fun c15 => ?_))))))))
  ·exact absurd c15 c1
  ·refine O.g rfl (O.g rfl (O.g rfl (O.m rfl (Zf (V.condF rfl (Vk (Xn (Zj ?_))))))))
   refine O.m rfl (O.q rfl (Pu.neq rfl rfl rfl) (Zf (V.condNot rfl (fun c16 => ?_) (fun c16 => ?_))))
   ·refine Za (O.q rfl (Pu.buildS (cs := [.int .i64 (0 : Int), .slice none 0 0, .slice none 0 0]) rfl rfl ut35 zr35 (by kernel_rfl) rfl (by kernel_rfl)) (O.m rfl (O.s rfl rfl (Ef.storeAll 1 rfl sz35 rfl rfl rfl rfl (by simp [Value.oneCell']) rfl) ?_)))
    rintro _ _ rfl
    exact O.m rfl (Ze (Xr (X.retCell2 rfl ag35 sz35 rfl rfl rfl (Ld.whole 1 rfl) (fun w hw => St.mkExi none (St.mkExi 0 (St.mkExi [] (St.mkExi none (St.mkExi 0 (St.mkExi [] (St.unsep (St.addPur ⟨(by rw [h7, if_neg c1]; rfl), cyR_no h7 c1⟩ (St.unsep (St.addNil (T := 81) (C := B3C) (St.addNil (T := 81) (C := B3C) (hw.sub (Sub.nil _))))))))))))))))
   ·exact absurd c16 c1
set_option maxRecDepth 100000 in
set_option maxHeartbeats 1000000 in
theorem deleteBl_ok (s : List B3) (p : B3 → Prop) [DecidablePred p] (gf : Nat) (caps : Array Value) (sA : Option Addr) (sc : Nat) (w0 : World) (H : List Assn) (hok : CallOk Tryz.prog gf) (ls : s.length ≤ 1099511627776) (hf : ∀ (k : Nat) (hk : k < s.length) (zs : List B3) w', St w0 (Own 81 B3C sA sc zs :: H) w' → Does Tryz.prog gf ([B3.v s[k]] ++ caps.toList) w' [] (fun v => [.pur (v = .bool (decide (p s[k])))])) : Does Tryz.prog 154 [.slice sA s.length sc, .func (.func gf) #[] caps] w0 (Own 81 B3C sA sc s :: H) (fun rv_ => [.exi fun (rA : Option Addr) => .exi fun (rc : Nat) => .exi fun (r : List B3) => .sep (.pur (rv_ = .slice rA r.length rc ∧ r = (s.filter fun x => !decide (p x)))) (Own 81 B3C rA rc r)] ++ H) := by
 refine Does.enter Tryz.func154 rfl rfl [(0, .slice sA s.length sc), (1, .func (.func gf) #[] caps)] rfl (Za (O.m rfl (Zb (O.m rfl (O.m rfl (O.f rfl (Ef.callP call163 rfl rfl (fun w hw => indexFuncB_ok p gf caps s _ _ w hok ((Ld.own 0 (by exact rfl)) w hw) (by omega) (fun k hk w' hb => hf k hk s w' (hw.grow hb)))) ?_))))))
 rintro _ _ ⟨rfl, rfl⟩
 refine O.m rfl (Zc (O.m rfl (O.q rfl (Pu.eql rfl rfl rfl) (Zf (V.condD rfl (fun c1 => ?_) (fun c1 => ?_))))))
 ·exact Za (O.m rfl (O.m rfl (Ze (Xr (X.ret1 rfl rfl (fun w hw => St.mkExi sA (St.mkExi sc (St.mkExi s (St.unsep (St.addPur ⟨rfl, (keep_none (idxP_not c1)).symm⟩ (hw.sub (Sub.t [0] 0 rfl))))))))))))
 ·obtain ⟨i0, hi0, q1, q2, q3⟩ := idxP_at c1
  have qj : (idxP p s + 1).toNat = i0 + 1 := by omega
  have qi : (idxP p s).toNat = i0 := by omega
  have qm := movL_start q3 hi0 q2
  refine Vk (Xn (Zj (O.m rfl (O.q rfl (Pu.add64 rfl (by omega) rfl rfl rfl) (O.m rfl (Zi (V.loop3 (β := Nat × Nat × (List B3)) (fun x => [(5, .int .i64 (x.1 : Int)), (6, .int .i64 (x.2.1 : Int))]) _ (fun x => [Own 81 B3C sA sc x.2.2]) _ (fun x => i0 < x.2.1 ∧ x.2.1 ≤ s.length ∧ x.1 = (keptL p s x.2.1).length ∧ x.2.2 = movL p s x.2.1) (fun x => s.length - x.2.1) (((idxP p s)).toNat, (((idxP p s) + (1 : Int))).toNat, s) (by (try dsimp only); exact ⟨by omega, by omega, by rw [qj, qm.2]; exact qi, by rw [qj]; exact qm.1⟩) (Ent.cons' rfl (iv (by (try dsimp only); omega)) (Ent.cons' rfl (iv (by (try dsimp only); omega)) (Ent.nil _))) (Ent.cons (t := 0) rfl (Ent.cons (t := 1) rfl (Ent.nil _))) (Sub.t [0] 0 rfl) ?_)))))))
  rintro ⟨i, j, z⟩ ⟨hj0, hj, hi, hz⟩
  dsimp only at hj0 hj hi hz ⊢
  subst hz
  have hml := movL_len (p := p) (ps := s) (j := j)
  have hkl := keptL_le (p := p) (ps := s) (j := j)
  refine Zj (O.m rfl (O.m rfl (O.q rfl (Pu.len rfl ut24 rfl) (O.q rfl (Pu.lss rfl rfl rfl) (Zf (V.condD rfl (fun c2 => ?_) (fun c2 => ?_)))))))
  ·refine Zh (O.m rfl (O.m rfl (O.q rfl (Pu.indexAddrS (j) rfl ut24 sz81 rfl rfl (by omega) (by omega) (fun w hw => Own.some hw (i := 0) (by exact rfl) (by omega))) ?_)))
   have e1 : j < (movL p s j).length := by omega
   refine O.q rfl (Pu.loadAgg' (v := B3.v ((movL p s j)[j]'e1)) rfl rfl ag81 sz81 rfl rfl (Ld.rds (C := B3C) (Ld.own 0 (by exact rfl)) (k := j) e1 rfl)) (O.f rfl (Ef.alloc rfl zr81 rfl) ?_)
   rintro _ _ ⟨b1, rfl, rfl⟩
   refine O.s rfl rfl (Ef.storeAll 0 rfl sz81 rfl rfl rfl rfl (by simp [Value.oneCell']) rfl) ?_
   rintro _ _ rfl
   refine Zb (O.m rfl (O.q rfl (Pu.loadAgg' (v := B3.v ((movL p s j)[j]'e1)) rfl rfl ag81 sz81 rfl rfl (Ld.whole 0 rfl)) (O.f rfl (Ef.callPV hok rfl rfl rfl (fun w' hw => by rw [movL_get (by omega)]; exact hf j (by omega) _ w' (hw.sub (Sub.t [1] 1 rfl)))) ?_)))
   rintro _ _ ⟨rfl, rfl⟩
   refine O.q rfl (Pu.not rfl rfl) (Zf (V.condNot rfl (fun c3 => ?_) (fun c3 => ?_)))
   ·refine Za (O.m rfl (O.m rfl (O.q rfl (Pu.loadAgg' (v := B3.v ((movL p s j)[j]'e1)) rfl rfl ag81 sz81 rfl rfl (Ld.whole 0 rfl)) (O.q rfl (Pu.indexAddrS (i) rfl ut24 sz81 rfl rfl (by omega) (by omega) (fun w hw => Own.some hw (i := 1) (by exact rfl) (by omega))) (O.s rfl rfl (Ef.storeOwn 1 (i) ((movL p s j)[j]'e1) rfl sz81 rfl rfl rfl rfl (by rw [movL_len]; omega) rfl) ?_)))))
    rintro _ _ rfl
    refine Zf (Vr (O.m rfl (O.q rfl (Pu.add64 (r := ((i + 1 : Nat) : Int)) rfl (by omega) rfl rfl rfl) (O.m rfl (Zk (O.m rfl (O.q rfl (Pu.add64 (r := ((j + 1 : Nat) : Int)) rfl (by omega) rfl rfl rfl) ?_)))))))
    exact O.m rfl (On (X.back3 (i + 1, j + 1, ((movL p s j).set (i) ((movL p s j)[j]'e1))) (by (try dsimp only); exact ⟨by omega, by omega, by rw [keptL_no (by omega) c3, List.length_append, hi]; rfl, by rw [movL_get (by omega), hi]; exact movL_no (by omega) c3⟩) (by first | omega | (dsimp only; omega)) (Ent.cons rfl (Ent.cons rfl (Ent.nil _))) (Ent.cons (t := 0) rfl (Ent.cons (t := 1) rfl (Ent.nil _))) (Sub.t [1] 1 rfl)))
   ·exact Zg (O.m rfl (O.q rfl (Pu.add64 (r := ((j + 1 : Nat) : Int)) rfl (by omega) rfl rfl rfl) (O.m rfl (On (X.back3 (i, j + 1, (movL p s j)) (by (try dsimp only); exact ⟨by omega, by omega, by rw [keptL_yes (by omega) c3]; exact hi, movL_yes (by omega) c3⟩) (by first | omega | (dsimp only; omega)) (Ent.cons rfl (Ent.cons rfl (Ent.nil _))) (Ent.cons (t := 0) rfl (Ent.cons (t := 1) rfl (Ent.nil _))) (Sub.t [1] 1 rfl))))))
  ·refine Ve (Xe (Xe (Xh (Xn (Vs (V.fact (fun w hw => Own.cap hw (i := 0) rfl) (fun hcap => Vr (O.m rfl (O.m rfl (O.q rfl (Pu.sliceL i rfl ut24 sz81 rfl rfl (by omega) (by omega)) (O.s rfl rfl (Ef.clearTail (xs := (movL p s j)) (y := ((0, 0, 0) : B3)) 0 i rfl ut24 inf81 rfl rfl rfl rfl hml.symm (by omega)) ?_)))))))))))
   rintro _ _ ⟨rfl, rfl⟩
   exact Zb (O.m rfl (O.m rfl (O.q rfl (Pu.sliceH i rfl ut24 sz81 rfl rfl (by omega) (by omega)) (O.m rfl (Ze (X.ret1 rfl rfl (fun w hw => St.mkExi sA (St.mkExi sc (St.mkExi (s.filter fun x => !decide (p x)) (St.unsep (St.addPur ⟨by rw [← keptL_end (p := p) (ps := s) (j := j) (by omega), ← hi], rfl⟩ (hw.sub (Sub.cons 0 rfl (fun w F h => by have h2 := Own.takeP i w F h; rw [List.take_append_of_le_length (by rw [List.length_take]; omega), List.take_take, Nat.min_self, hi, movL_take, keptL_end (by omega)] at h2; exact h2) (Sub.refl _))))))))))))))
set_option maxRecDepth 100000 in
set_option maxHeartbeats 1000000 in
theorem less1_ok (b : B3) (y : List B3) (b_0 : Nat) (yA : Option Addr) (yc : Nat) (w : World) (hy : Rd B3C w yA y) (hb_0 : RdB w b_0 [.slice yA y.length yc]) (ly : y.length ≤ 1099511627776) : Does Tryz.prog 156 [B3.v b, .pointer (some ⟨b_0, 0, none⟩)] w [] (fun r => [.pur (r = .bool (decide (b ∈ y)))]) := by
 refine Does.enter Tryz.func156 rfl rfl [(0, B3.v b), (1, .pointer (some ⟨b_0, 0, none⟩))] rfl (Za (O.f rfl (Ef.box rfl rfl rfl) ?_))
 rintro _ _ ⟨b1, rfl, rfl⟩
 refine O.m rfl (Zb (O.q rfl (Pu.load rfl pl24 rfl (Ld.rdb hb_0 rfl)) (O.q rfl (Pu.loadAgg' (v := B3.v b) rfl rfl ag81 sz81 rfl rfl (Ld.whole 0 rfl)) (O.f rfl (Ef.callP call157 rfl rfl (fun w hw => containsBl_ok  y b _ _ w ((Ld.old hy) w hw) (by first | omega | (simp only [tops_len, conts_len, bl, List.length_append, List.length_cons, List.length_nil] at *; omega)) )) ?_))))
 rintro _ _ ⟨rfl, rfl⟩
 exact O.m rfl (Ze (X.ret1 rfl rfl (fun w hw => St.retP (boolD (Iff.rfl)) hw)))
set_option maxRecDepth 100000 in
set_option maxHeartbeats 1000000 in
theorem less_ok (xs : List B3) (y : List B3) (xsA : Option Addr) (xsc : Nat) (yA : Option Addr) (yc : Nat) (w : World) (hxs : Rd B3C w xsA xs) (hy : Rd B3C w yA y) (lxs : xs.length ≤ 1099511627776) (ly : y.length ≤ 1099511627776) : Does Tryz.prog 87 [.slice xsA xs.length xsc, .slice yA y.length yc] w [] (fun rv_ => [.exi fun (rA : Option Addr) => .exi fun (rc : Nat) => .exi fun (r : List B3) => .sep (.pur (rv_ = .slice rA r.length rc ∧ r = lessB xs y)) (Own 81 B3C rA rc r)]) := by
 refine Does.enter Tryz.func87 rfl rfl [(0, .slice xsA xs.length xsc), (1, .slice yA y.length yc)] rfl (Za (O.f rfl (Ef.box rfl rfl rfl) ?_))
 rintro _ _ ⟨b1, rfl, rfl⟩
 refine O.m rfl (Zb (O.m rfl (O.f rfl (Ef.call1 call155 rfl rfl (fun w hw => cloneB_ok xs _ _ w ((Ld.old hxs) w hw) (by first | omega | (simp only [tops_len] at *; omega)))) ?_)))
 rintro _ _ rfl
 refine O.exi (fun p1 => O.sep (O.pur ?_))
 rintro ⟨rfl, hp1⟩
 refine O.q rfl (Pu.makeFunc rfl rfl) (O.f rfl (Ef.call call154 rfl rfl (Does.pre (fun w hw => hw.sub (Sub.s [0,0] rfl)) (deleteBl_ok  (p1.2) (fun b => b ∈ y) (156) _ _ _ w _   (call156) (by rw [hp1]; omega) (fun k hk zs w' hw' => less1_ok _ y _ _ _ w' (hy.st hw') (Blk.rdb hw' (i := 1) (by exact rfl)) (by omega))))) ?_)
 rintro _ _ rfl
 refine O.exi (fun r1A => O.exi (fun r1c => O.exi (fun r1 => O.sep (O.pur ?_))))
 rintro ⟨rfl, hr1_1⟩
 exact O.m rfl (Ze (X.ret1 rfl rfl (fun w hw => St.mkExi r1A (St.mkExi r1c (St.mkExi r1 (St.unsep (St.addPur ⟨rfl, (by rw [hr1_1, hp1]; rfl)⟩ (hw.sub (Sub.s [0] rfl)))))))))
end Go.Proofs.YtgfpljeppfaolaaGreat
