/-
  Contracts, part 3.
-/
import Derived.Test.YtgfpljeppfaolaaKb2
set_option linter.unusedVariables false
set_option linter.unusedSimpArgs false
namespace Go.Proofs.Ytgfpljeppfaolaa
open Go Go.RowKit Go.Vc Go.Proofs
set_option maxRecDepth 100000 in
set_option maxHeartbeats 1000000 in
theorem areDisjoint_ok (v : Int) (bs : List B3) (list : List Int) (A : Option Addr) (c : Nat) (listA : Option Addr) (listc : Nat) (w : World) (hx : Rd B3C w A bs) (hlist : Rd I64 w listA list) (lx : bs.length ≤ 4611686018427387904) (llist : list.length ≤ 1099511627776) (hix : ∀ k ∈ list, okIx bs k) (hcap : list.length ≤ listc) : Does Try.prog 39 [.agg #[.int .i64 v, .slice A bs.length c], .slice listA list.length listc] w [] (fun r => [.pur (r = .bool (decide (Djs bs list)))]) := by
 refine Does.enter Try.func39 rfl rfl [(0, .agg #[.int .i64 v, .slice A bs.length c]), (1, .slice listA list.length listc)] rfl (Za (O.f rfl (Ef.box rfl rfl rfl) ?_))
 rintro _ _ ⟨b1, rfl, rfl⟩
 refine O.m rfl (Zc (O.m rfl (O.q rfl (Pu.len rfl ut40 rfl) (O.m rfl (Zi ?_)))))
 refine V.loop3 (β := Nat) (fun i => [(11, .int .i64 (i : Int))]) _ (fun i => []) _ (fun i => i ≤ list.length ∧ DjA bs list i) (fun i => list.length - i) 0 ⟨by omega, djA_zero⟩ (Ent.cons rfl (Ent.nil _)) (Ent.cons (t := 1) rfl (Ent.cons (t := 2) rfl (Ent.cons (t := 9) rfl (Ent.cons (t := 10) rfl (Ent.nil _))))) (Sub.s [0] rfl) ?_
 rintro i ⟨hi, hd⟩
 refine Za (O.q rfl (Pu.lss rfl rfl rfl) (Zf (Vs (V.condD rfl (fun c1 => ?_) (fun c1 => ?_)))))
 ·refine Zh (O.m rfl (O.q rfl (Pu.indexAddr (i) rfl ut40 sz2 rfl rfl (by omega) (by omega) (hlist.some (by omega))) ?_))
  have e1 : i < list.length := by omega
  refine O.q rfl (Pu.load rfl pl2 rfl (Ld.rd (Ld.old hlist) (k := i) e1 rfl rfl)) (O.m rfl (O.m rfl (Zb (O.m rfl (O.m rfl (O.q rfl (Pu.sliceH i rfl ut40 sz2 rfl rfl (by omega) (by omega)) (O.q rfl (Pu.len rfl ut40 rfl) (O.m rfl ?_))))))))
  refine Zi (V.loop3 (β := Nat) (fun j => [(20, .int .i64 (j : Int))]) _ (fun j => []) _ (fun j => j ≤ i ∧ ∀ p (hp : p < list.length), p < j → disj (blk bs list[p]) (blk bs (list[i]'e1))) (fun j => i - j) 0 ⟨by omega, fun p hp h => by omega⟩ (Ent.cons rfl (Ent.nil _)) (Ent.cons (t := 1) rfl (Ent.cons (t := 2) rfl (Ent.cons (t := 6) rfl (Ent.cons (t := 9) rfl (Ent.cons (t := 10) rfl (Ent.cons (t := 11) rfl (Ent.cons (t := 18) rfl (Ent.cons (t := 19) rfl (Ent.nil _))))))))) (Sub.s [0] rfl) ?_)
  rintro j ⟨hj, hj2⟩
  refine Za (O.q rfl (Pu.lss rfl rfl rfl) (Zf (Vs (V.condD rfl (fun c2 => ?_) (fun c2 => ?_)))))
  ·refine Zh (O.q rfl (Pu.indexAddr (j) rfl ut40 sz2 rfl rfl (by omega) (by omega) (hlist.some (by omega))) ?_)
   have e2 : j < (list.take i).length := by rw [List.length_take]; omega
   refine O.q rfl (Pu.load rfl pl2 rfl (Ld.rd (fun w hw => ((Ld.old hlist) w hw).take i) (k := j) e2 rfl rfl)) (O.m rfl (Zf (Vs ?_)))
   have hi1 := hix _ (List.getElem_mem e1)
   have hi2 := hix _ (List.mem_of_mem_take (List.getElem_mem e2))
   have e9 : (list.take i)[j]'e2 = list[j]'(by omega) := List.getElem_take
   have hk1 := hi1
   have hk2 := hi2
   unfold okIx at hk1 hk2
   refine V.draw mo (by kernel_rfl) (fun hwf => D.q 0 rfl (Pu.fieldAddr 1 rfl ut32 rfl sz30 rfl rfl) (D.q 1 rfl (Pu.load rfl pl30 rfl (Ld.blk 0 rfl rfl)) (D.m 2 rfl (D.q 3 rfl (Pu.indexAddr (((list[i]'e1)).toNat) rfl ut30 sz57 rfl rfl (by omega) (by omega) (hx.some (by omega))) ?_))))
   have e3 : ((list[i]'e1)).toNat < bs.length := by omega
   refine D.q 4 rfl (Pu.loadAgg' (v := B3.v (bs[((list[i]'e1)).toNat]'e3)) rfl rfl ag57 sz57 rfl rfl (Ld.rds (Ld.old hx) (k := ((list[i]'e1)).toNat) e3 rfl)) (D.q 5 rfl (Pu.fieldAddr 1 rfl ut32 rfl sz30 rfl rfl) (D.q 6 rfl (Pu.load rfl pl30 rfl (Ld.blk 0 rfl rfl)) (D.m 7 rfl (D.q 8 rfl (Pu.indexAddr ((((list.take i)[j]'e2)).toNat) rfl ut30 sz57 rfl rfl (by omega) (by omega) (hx.some (by omega))) ?_))))
   have e4 : (((list.take i)[j]'e2)).toNat < bs.length := by omega
   refine D.q 9 rfl (Pu.loadAgg' (v := B3.v (bs[(((list.take i)[j]'e2)).toNat]'e4)) rfl rfl ag57 sz57 rfl rfl (Ld.rds (Ld.old hx) (k := (((list.take i)[j]'e2)).toNat) e4 rfl)) (D.f hwf 10 rfl (Ef.callP call51 rfl rfl (fun w hw => meets_ok (bs[((list[i]'e1)).toNat]'e3) (bs[(((list.take i)[j]'e2)).toNat]'e4) w)) ?_)
   rintro _ _ ⟨rfl, rfl⟩ hs
   refine ⟨fun w hw => hw, (D.done hwf rfl (Xn (V.condD rfl (fun c3 => ?_) (fun c3 => ?_))))⟩
   ·refine Za (O.m rfl (Ze (Xq (Xr (Xr (Xq (Xq (Xr ?_))))))))
    exact Xr (Xq (Xr (X.ret1 rfl rfl (fun w hw => St.retP (boolF (fun h => absurd (djs_at h (p := j) (q := i) (by omega) (by omega) (by omega)) (fun hd2 => meets_disj.2 (by rw [← e9, blk_ix hi2, blk_ix hi1] at hd2; exact hd2.symm) c3))) hw))))
   ·exact Zg (O.q rfl (Pu.add64 (r := ((j + 1 : Nat) : Int)) rfl (by omega) rfl rfl rfl) (O.m rfl (On (X.back3 (j + 1) ⟨by omega, fun p hp h => by by_cases e : p = j; (· subst e; rw [← e9, blk_ix hi2, blk_ix hi1]; exact (meets_disj.1 c3).symm); (· exact hj2 p hp (by omega))⟩ (by first | omega | (dsimp only; omega)) (Ent.cons rfl (Ent.nil _)) (Ent.cons (t := 1) rfl (Ent.cons (t := 2) rfl (Ent.cons (t := 6) rfl (Ent.cons (t := 9) rfl (Ent.cons (t := 10) rfl (Ent.cons (t := 11) rfl (Ent.cons (t := 18) rfl (Ent.cons (t := 19) rfl (Ent.nil _))))))))) (Sub.s [0] rfl)))))
  ·exact Ve (Xe (Xe (Xh (Xb (Xn (Vr (O.q rfl (Pu.add64 (r := ((i + 1 : Nat) : Int)) rfl (by omega) rfl rfl rfl) (O.m rfl (On (X.back3 (i + 1) ⟨by omega, djA_succ hd e1 (fun p hp hpi => hj2 p hp (by omega))⟩ (by first | omega | (dsimp only; omega)) (Ent.cons rfl (Ent.nil _)) (Ent.cons (t := 1) rfl (Ent.cons (t := 2) rfl (Ent.cons (t := 9) rfl (Ent.cons (t := 10) rfl (Ent.nil _))))) (Sub.s [0] rfl)))))))))))
 ·exact Zd (O.m rfl (Ze (X.ret1 rfl rfl (fun w hw => St.retP (boolT (djA_all hd (by omega))) hw))))
set_option maxRecDepth 100000 in
set_option maxHeartbeats 1000000 in
theorem isClass_ok (v : Int) (bs : List B3) (list : List Int) (A : Option Addr) (c : Nat) (listA : Option Addr) (listc : Nat) (w : World) (hx : Rd B3C w A bs) (hlist : Rd I64 w listA list) (lx : bs.length ≤ 4611686018427387904) (llist : list.length ≤ 1099511627776) (hix : ∀ k ∈ list, okIx bs k) (ll : list.length ≤ 1000) (hcap : list.length ≤ listc) : Does Try.prog 24 [.agg #[.int .i64 v, .slice A bs.length c], .slice listA list.length listc] w [] (fun r => [.pur (r = .bool (decide (3 * (list.length : Int) = v ∧ Djs bs list)))]) := by
 refine Does.enter Try.func24 rfl rfl [(0, .agg #[.int .i64 v, .slice A bs.length c]), (1, .slice listA list.length listc)] rfl (Za (O.f rfl (Ef.box rfl rfl rfl) ?_))
 rintro _ _ ⟨b1, rfl, rfl⟩
 refine O.m rfl (Zb (O.m rfl (O.q rfl (Pu.len rfl ut40 rfl) (O.q rfl (Pu.mul64 rfl (by omega) rfl rfl rfl) (O.q rfl (Pu.fieldAddr 0 rfl ut32 rfl sz2 rfl rfl) (O.q rfl (Pu.load rfl pl2 rfl (Ld.blk 0 rfl rfl)) (O.q rfl (Pu.eql rfl rfl rfl) (O.m rfl (O.splitD 11 rfl (fun c1 => ?_) (fun c1 => ?_))))))))))
 ·refine O.gq rfl (Pu.loadAgg rfl ag32 sz32 rfl rfl (Ld.whole 0 rfl)) (O.gm rfl (O.gf rfl (Ef.callP call39 rfl rfl (fun w hw => areDisjoint_ok  v bs list _ _ _ _ w ((Ld.old hx) w hw) ((Ld.old hlist) w hw) (by first | omega | (simp only [tops_len, conts_len, bl, List.length_append, List.length_cons, List.length_nil] at *; omega)) (by first | omega | (simp only [tops_len, conts_len, bl, List.length_append, List.length_cons, List.length_nil] at *; omega)) hix hcap)) ?_))
  rintro _ _ ⟨rfl, rfl⟩
  exact O.m rfl (O.m rfl (Ze (X.ret1 rfl rfl (fun w hw => St.retP (boolD (by first | exact fun h => c1 h.1 | exact ⟨fun h => ⟨c1, h⟩, fun h => h.2⟩)) hw))))
 ·exact O.g rfl (O.g rfl (O.g rfl (O.m rfl (O.m rfl (Ze (X.ret1 rfl rfl (fun w hw => St.retP (boolF (by first | exact fun h => c1 h.1 | exact ⟨fun h => ⟨c1, h⟩, fun h => h.2⟩)) hw)))))))
set_option maxRecDepth 100000 in
set_option maxHeartbeats 1000000 in
theorem l05Set_ok (v : Int) (bs : List B3) (list : List Int) (A : Option Addr) (c : Nat) (listA : Option Addr) (listc : Nat) (w : World) (hx : Rd B3C w A bs) (hlist : Rd I64 w listA list) (lx : bs.length ≤ 4611686018427387904) (llist : list.length ≤ 1099511627776) : Does Try.prog 15 [.agg #[.int .i64 v, .slice A bs.length c], .slice listA list.length listc] w [] (fun r => [.pur (r = .int .i64 (if STS v bs then if rises (bs.length : Int) list then 0 else 2 else 1))]) := by
 refine Does.enter Try.func15 rfl rfl [(0, .agg #[.int .i64 v, .slice A bs.length c]), (1, .slice listA list.length listc)] rfl (Za (O.f rfl (Ef.box rfl rfl rfl) ?_))
 rintro _ _ ⟨b1, rfl, rfl⟩
 refine O.m rfl (Zc (O.q rfl (Pu.loadAgg rfl ag32 sz32 rfl rfl (Ld.whole 0 rfl)) (O.f rfl (Ef.callP call14 rfl rfl (fun w hw => l01Is_ok _ bs _ _ w ((Ld.old hx) w hw) (by omega))) ?_)))
 rintro _ _ ⟨rfl, rfl⟩
 refine O.q rfl (Pu.not rfl rfl) (Zf (V.condNot rfl (fun c1 => ?_) (fun c1 => ?_)))
 ·exact Za (O.m rfl (Ze (Xr (X.ret1 rfl rfl (fun w hw => St.retP (iv (by rw [if_neg c1])) hw)))))
 ·have hlo := c1.lo
  have hhi := c1.hi
  have hfw := c1.few
  have hg : ∀ b ∈ bs, good v b := c1.good
  have hg15 : ∀ b ∈ bs, good 15 b := fun b h => (c1.good b h).mono c1.hi
  refine Vk (Xn (Zj (O.m rfl (Zi (V.loop3 (β := Nat) (fun i => [(5, .int .i64 (i : Int))]) _ (fun i => []) _ (fun i => i ≤ list.length ∧ risesAt (bs.length : Int) list i) (fun i => list.length - i) 0 ⟨by omega, fun q hq h => by omega⟩ (Ent.cons rfl (Ent.nil _)) (Ent.cons (t := 1) rfl (Ent.cons (t := 2) rfl (Ent.nil _))) (Sub.s [0] rfl) ?_)))))
  rintro i ⟨hi, hr⟩
  refine Zj (O.m rfl (O.m rfl (O.q rfl (Pu.len rfl ut40 rfl) (O.q rfl (Pu.lss rfl rfl rfl) (Zf (V.condD rfl (fun c2 => ?_) (fun c2 => ?_)))))))
  ·refine Vk (Xn (Vs (Vb (Vs (V.draw mo (by kernel_rfl) (fun hwf => D.m 0 rfl (D.m 1 rfl (D.q 2 rfl (Pu.indexAddr (i) rfl ut40 sz2 rfl rfl (by omega) (by omega) (hlist.some (by omega))) ?_))))))))
   have e1 : i < list.length := by omega
   refine D.q 3 rfl (Pu.load rfl pl2 rfl (Ld.rd (Ld.old hlist) (k := i) e1 rfl rfl)) (D.q 4 rfl (Pu.fieldAddr 1 rfl ut32 rfl sz30 rfl rfl) (D.q 5 rfl (Pu.load rfl pl30 rfl (Ld.blk 0 rfl rfl)) (D.q 6 rfl (Pu.len rfl ut30 rfl) (D.q 7 rfl (Pu.sub64 rfl (by omega) rfl rfl rfl) (D.f hwf 8 rfl (Ef.callP call30 rfl rfl (fun w hw => l01In_ok _ _ _ _)) ?_)))))
   rintro _ _ ⟨rfl, rfl⟩ hs
   refine ⟨fun w hw => hw, (D.q 9 rfl (Pu.not rfl rfl) (D.m 10 rfl (D.splitN 25 rfl (fun c3 => ?_) (fun c3 => ?_))))⟩
   ·refine D.g 11 rfl (D.g 12 rfl (D.g 13 rfl (D.g 14 rfl (D.g 15 rfl (D.g 16 rfl (D.g 17 rfl (D.g 18 rfl (D.g 19 rfl (D.g 20 rfl (D.g 21 rfl (D.g 22 rfl ?_)))))))))))
    refine D.g 23 rfl (D.g 24 rfl (D.m 25 rfl (D.done hwf rfl (Xn (V.condT rfl (Za (O.m rfl (Ze ?_))))))))
    exact Xq (Xr (Xr (Xq (Xr (X.ret1 rfl rfl (fun w hw => St.retP (iv (by rw [if_pos c1, if_neg (fun h => by have := (rises_iff _ _).1 h i (by omega) (by omega); first | omega | (have := this.2 (i - 1) (by omega) (by omega); omega))])) hw))))))
   ·refine D.gm 11 rfl (D.gq 12 rfl (Pu.gtr rfl rfl rfl) (D.gm 13 rfl (D.splitD 28 rfl (fun c4 => ?_) (fun c4 => ?_))))
    ·refine D.gm 14 rfl (D.gm 15 rfl (D.gq 16 rfl (Pu.indexAddr (i) rfl ut40 sz2 rfl rfl (by omega) (by omega) (hlist.some (by omega))) (D.gq 17 rfl (Pu.load rfl pl2 rfl (Ld.rd (Ld.old hlist) (k := i) e1 rfl rfl)) (D.gm 18 rfl (D.gm 19 rfl (D.gq 20 rfl (Pu.sub64 (r := ((i - 1 : Nat) : Int)) (by omega) (by omega) rfl rfl rfl) (D.gq 21 rfl (Pu.indexAddr (i - 1) rfl ut40 sz2 rfl rfl (by omega) (by omega) (hlist.some (by omega))) ?_)))))))
     have e2 : i - 1 < list.length := by omega
     refine D.gq 22 rfl (Pu.load rfl pl2 rfl (Ld.rd (Ld.old hlist) (k := i - 1) e2 rfl rfl)) (D.gq 23 rfl (Pu.leq rfl rfl rfl) (D.gm 24 rfl (D.m 25 rfl (D.done hwf rfl (Xn (V.condD rfl (fun c5 => ?_) (fun c5 => ?_)))))))
     ·exact Za (O.m rfl (Ze (Xq (Xr (Xr (Xq (Xr (X.ret1 rfl rfl (fun w hw => St.retP (iv (by rw [if_pos c1, if_neg (fun h => by have := (rises_iff _ _).1 h i (by omega) (by omega); first | omega | (have := this.2 (i - 1) (by omega) (by omega); omega))])) hw)))))))))
     ·exact Zg (O.m rfl (O.q rfl (Pu.add64 (r := ((i + 1 : Nat) : Int)) rfl (by omega) rfl rfl rfl) (O.m rfl (On (X.back3 (i + 1) ⟨by omega, risesAt_succ (by omega) hr (by omega) (fun j hj e => by first | (exfalso; omega) | (obtain rfl : j = i - 1 := (by omega); omega))⟩ (by first | omega | (dsimp only; omega)) (Ent.cons rfl (Ent.nil _)) (Ent.cons (t := 1) rfl (Ent.cons (t := 2) rfl (Ent.nil _))) (Sub.s [0] rfl))))))
    ·refine D.g 14 rfl (D.g 15 rfl (D.g 16 rfl (D.g 17 rfl (D.g 18 rfl (D.g 19 rfl (D.g 20 rfl (D.g 21 rfl (D.g 22 rfl (D.g 23 rfl (D.gm 24 rfl (D.m 25 rfl ?_)))))))))))
     exact D.done hwf rfl (Xn (V.condF rfl (Zg (O.m rfl (O.q rfl (Pu.add64 (r := ((i + 1 : Nat) : Int)) rfl (by omega) rfl rfl rfl) (O.m rfl (On (X.back3 (i + 1) ⟨by omega, risesAt_succ (by omega) hr (by omega) (fun j hj e => by first | (exfalso; omega) | (obtain rfl : j = i - 1 := (by omega); omega))⟩ (by first | omega | (dsimp only; omega)) (Ent.cons rfl (Ent.nil _)) (Ent.cons (t := 1) rfl (Ent.cons (t := 2) rfl (Ent.nil _))) (Sub.s [0] rfl)))))))))
  ·exact Zd (O.m rfl (Ze (X.ret1 rfl rfl (fun w hw => St.retP (iv (by rw [if_pos c1, if_pos ((rises_iff _ _).2 (fun q hq h => hr q hq (by omega)))])) hw))))
set_option maxRecDepth 100000 in
set_option maxHeartbeats 1000000 in
theorem l05Disjoint_ok (v : Int) (bs : List B3) (list : List Int) (A : Option Addr) (c : Nat) (listA : Option Addr) (listc : Nat) (w : World) (hx : Rd B3C w A bs) (hlist : Rd I64 w listA list) (lx : bs.length ≤ 4611686018427387904) (llist : list.length ≤ 1099511627776) (hg : ∀ b ∈ bs, good v b) (hv : v ≤ 15) (hix : ∀ k ∈ list, okIx bs k) : Does Try.prog 34 [.agg #[.int .i64 v, .slice A bs.length c], .slice listA list.length listc] w [] (fun r => [.exi fun (m : Nat) => .pur (r = .tuple #[.bool (decide (Djs bs list)), .int .i64 (m : Int)] ∧ (Djs bs list → m = maskOf bs list) ∧ m < 65536)]) := by
 refine Does.enter Try.func34 rfl rfl [(0, .agg #[.int .i64 v, .slice A bs.length c]), (1, .slice listA list.length listc)] rfl ?_
 have hg15 : ∀ b ∈ bs, good 15 b := fun b h => (hg b h).mono hv
 refine Za (O.f rfl (Ef.box rfl rfl rfl) ?_)
 rintro _ _ ⟨b1, rfl, rfl⟩
 refine O.m rfl (O.m rfl (Zb (O.m rfl (Zc ?_))))
 refine O.m rfl (Zi (V.loop3 (β := Nat × Nat) (fun x => [(6, .int .i64 (x.1 : Int)), (7, .int .i64 (x.2 : Int))]) _ (fun x => []) _ (fun x => x.2 ≤ list.length ∧ x.1 = maskOf bs (list.take x.2) ∧ Djs bs (list.take x.2) ∧ x.1 < 65536) (fun x => list.length - x.2) (0, 0) (by (try dsimp only); exact ⟨by omega, rfl, List.Pairwise.nil, by decide⟩) (Ent.cons rfl (Ent.cons rfl (Ent.nil _))) (Ent.cons (t := 1) rfl (Ent.cons (t := 2) rfl (Ent.nil _))) (Sub.s [0] rfl) ?_))
 rintro ⟨points, i⟩ ⟨hi, hp, hd, hpl⟩
 dsimp only at hi hp hd hpl ⊢
 refine Zj (O.m rfl (O.m rfl (O.q rfl (Pu.len rfl ut40 rfl) (O.q rfl (Pu.lss rfl rfl rfl) (Zf (V.condD rfl (fun c1 => ?_) (fun c1 => ?_)))))))
 ·refine Vk (Xn (Vs (Vb (Vs ?_))))
  have ei : i < list.length := by omega
  have hk := hix _ (List.getElem_mem ei)
  have hk2 := hk
  unfold okIx at hk2
  have hxt : ∀ k ∈ list.take i, okIx bs k := fun k h => hix k (List.mem_of_mem_take h)
  have hsn := djs_snoc hg hxt hk
  have hml := maskOf_lt hg15 hxt
  have hbm := bmask_lt (hg15 _ (blk_mem hk))
  have hms := maskOf_snoc (bs := bs) (r := list.take i) (k := list[i])
  rw [← take_snoc ei] at hsn hms
  rw [blk_ix hk] at hsn hms hbm
  have hml2 := maskOf_lt hg15 (r := list.take (i + 1)) (fun k h => hix k (List.mem_of_mem_take h))
  refine V.draw mo (by kernel_rfl) (fun hwf => D.q 0 rfl (Pu.fieldAddr 1 rfl ut32 rfl sz30 rfl rfl) (D.q 1 rfl (Pu.load rfl pl30 rfl (Ld.blk 0 rfl rfl)) (D.m 2 rfl (D.m 3 rfl (D.q 4 rfl (Pu.indexAddr (i) rfl ut40 sz2 rfl rfl (by omega) (by omega) (hlist.some (by omega))) (D.q 5 rfl (Pu.load rfl pl2 rfl (Ld.rd (Ld.old hlist) (k := i) ei rfl rfl)) (D.q 6 rfl (Pu.indexAddr (((list[i]'ei)).toNat) rfl ut30 sz57 rfl rfl (by omega) (by omega) (hx.some (by omega))) ?_)))))))
  have e1 : ((list[i]'ei)).toNat < bs.length := by omega
  refine D.q 7 rfl (Pu.loadAgg' (v := B3.v (bs[((list[i]'ei)).toNat]'e1)) rfl rfl ag57 sz57 rfl rfl (Ld.rds (Ld.old hx) (k := ((list[i]'ei)).toNat) e1 rfl)) (D.f hwf 8 rfl (Ef.callP call46 rfl rfl (fun w hw => l05Bits_ok (bs[((list[i]'ei)).toNat]'e1) w (hg15 _ (List.getElem_mem _)))) ?_)
  rintro _ _ ⟨rfl, rfl⟩ hs
  refine ⟨fun w hw => hw, (D.m 9 rfl (D.done hwf rfl (Xn (Zj (O.m rfl (O.m rfl (O.q rfl (Pu.and (m := points) (n := (bmask (bs[((list[i]'ei)).toNat]'e1))) K64.i (by omega) (by omega) rfl rfl rfl) (O.q rfl (Pu.neq rfl rfl rfl) (On ?_)))))))))⟩
  refine Xn (V.condNot rfl (fun c2 => ?_) (fun c2 => ?_))
  ·refine Za (O.m rfl (O.m rfl (O.m rfl (Ze (Xr (Xq (Xr (Xr ?_))))))))
   exact Xq (Xr (X.ret2 rfl rfl rfl (fun w hw => St.mkExi points (St.addPur ⟨(by rw [decide_eq_false (fun h => c2 (by have h9 := (hsn.1 (djs_take h (i + 1))).2; rw [← hp] at h9; omega))]), (fun h => absurd h (fun h => c2 (by have h9 := (hsn.1 (djs_take h (i + 1))).2; rw [← hp] at h9; omega))), hpl⟩ (hw.sub (Sub.nil _))))))
  ·refine Vk (Xn (Vr (O.m rfl (O.m rfl (O.q rfl (Pu.or (m := points) (n := (bmask (bs[((list[i]'ei)).toNat]'e1))) K64.i (by omega) (by omega) rfl rfl rfl) (O.m rfl (Zk (O.m rfl ?_))))))))
   exact O.q rfl (Pu.add64 (r := ((i + 1 : Nat) : Int)) rfl (by omega) rfl rfl rfl) (O.m rfl (On (X.back3 ((points ||| (bmask (bs[((list[i]'ei)).toNat]'e1))), i + 1) (by (try dsimp only); exact ⟨by omega, by rw [hms, hp], hsn.2 ⟨hd, by rw [← hp]; omega⟩, by rw [hp, ← hms]; exact hml2⟩) (by first | omega | (dsimp only; omega)) (Ent.cons rfl (Ent.cons rfl (Ent.nil _))) (Ent.cons (t := 1) rfl (Ent.cons (t := 2) rfl (Ent.nil _))) (Sub.s [0] rfl))))
 ·refine Zd (O.m rfl (O.m rfl (O.m rfl (Zf ?_))))
  exact Vt (X.ret2 rfl rfl rfl (fun w hw => St.mkExi points (St.addPur ⟨(by rw [List.take_of_length_le (by omega)] at hd; rw [decide_eq_true hd]), (fun _ => by rw [hp, List.take_of_length_le (by omega)]), hpl⟩ (hw.sub (Sub.nil _)))))
set_option maxRecDepth 100000 in
set_option maxHeartbeats 1000000 in
theorem l05Class_ok (v : Int) (bs : List B3) (list : List Int) (A : Option Addr) (c : Nat) (listA : Option Addr) (listc : Nat) (w : World) (hx : Rd B3C w A bs) (hlist : Rd I64 w listA list) (lx : bs.length ≤ 4611686018427387904) (llist : list.length ≤ 1099511627776) (hg : ∀ b ∈ bs, good v b) (hv : 0 ≤ v ∧ v ≤ 15) (hix : ∀ k ∈ list, okIx bs k) : Does Try.prog 16 [.agg #[.int .i64 v, .slice A bs.length c], .slice listA list.length listc] w [] (fun r => [.pur (r = .bool (decide (3 * (list.length : Int) = v ∧ Djs bs list)))]) := by
 refine Does.enter Try.func16 rfl rfl [(0, .agg #[.int .i64 v, .slice A bs.length c]), (1, .slice listA list.length listc)] rfl ?_
 have hpw : 2 ^ v.toNat ≤ 2 ^ 15 := Nat.pow_le_pow_right (by decide) (by omega)
 have hp0 := Nat.two_pow_pos v.toNat
 refine Za (O.f rfl (Ef.box rfl rfl rfl) ?_)
 rintro _ _ ⟨b1, rfl, rfl⟩
 refine O.m rfl (Zb (O.q rfl (Pu.loadAgg rfl ag32 sz32 rfl rfl (Ld.whole 0 rfl)) (O.m rfl (O.f rfl (Ef.call1 call34 rfl rfl (fun w hw => l05Disjoint_ok  v bs list _ _ _ _ w ((Ld.old hx) w hw) ((Ld.old hlist) w hw) (by first | omega | (simp only [tops_len, conts_len, bl, List.length_append, List.length_cons, List.length_nil] at *; omega)) (by first | omega | (simp only [tops_len, conts_len, bl, List.length_append, List.length_cons, List.length_nil] at *; omega)) hg (by omega) hix)) ?_))))
 rintro _ _ rfl
 refine O.exi (fun m1 => O.pur ?_)
 rintro ⟨rfl, hm1_1, hm1_2⟩
 refine O.m rfl (O.m rfl (O.m rfl (O.m rfl (O.m rfl (Zb (O.m rfl (O.m rfl (O.splitD 14 rfl (fun c1 => ?_) (fun c1 => ?_)))))))))
 ·refine O.gm rfl (O.gq rfl (Pu.fieldAddr 0 rfl ut32 rfl sz2 rfl rfl) (O.gq rfl (Pu.load rfl pl2 rfl (Ld.blk 0 rfl rfl)) (O.gq rfl (Pu.convU' ((v).toNat) (by omega) ⟨_, ut2⟩ ut61 (by omega) rfl rfl) (O.gq rfl (Pu.shl1 (p := (v).toNat) K64.i (by omega) rfl rfl rfl) (O.gq rfl (Pu.sub64 rfl (by omega) rfl rfl rfl) (O.gq rfl (Pu.eql rfl rfl rfl) (O.m rfl (O.m rfl (Ze ?_)))))))))
  exact X.ret1 rfl rfl (fun w hw => St.retP (boolD (⟨fun h => ⟨(mask_full hg hv.1 hix c1).1 (by rw [← hm1_1 c1]; omega), c1⟩, fun h => by have h9 := (mask_full hg hv.1 hix c1).2 h.1; rw [← hm1_1 c1] at h9; omega⟩)) hw)
 ·refine O.g rfl (O.g rfl (O.g rfl (O.g rfl (O.g rfl (O.g rfl (O.g rfl (O.m rfl (O.m rfl (Ze ?_)))))))))
  exact X.ret1 rfl rfl (fun w hw => St.retP (boolF (fun h => c1 h.2)) hw)
set_option maxRecDepth 100000 in
set_option maxHeartbeats 1000000 in
theorem values1_each (xs : List Int) (xsA : Option Addr) (xsc b : Nat) (w0 : World) (hxs : Rd I64 w0 xsA xs) (hb : RdB w0 b [.slice xsA xs.length xsc]) (lxs : xs.length ≤ 1099511627776) : Each Try.prog 55 [.pointer (some ⟨b, 0, none⟩)] xs w0 [] := by
 intro l J hY
 refine Does.enter Try.func55 rfl rfl [(0, .func (.yield l) #[] #[]), (1, .pointer (some ⟨b, 0, none⟩))] rfl (Za (O.q rfl (Pu.load rfl pl40 rfl (Ld.rdb hb rfl)) (O.q rfl (Pu.len rfl ut40 rfl) (O.m rfl (Zi (V.loop (α := Nat) (fun k => [(0, .func (.yield l) #[] #[]), (5, .slice xsA xs.length xsc), (6, .int .i64 (xs.length : Int)), (7, .int .i64 (k : Int))]) (fun k => J k) (fun k => k ≤ xs.length) (fun k => xs.length - k) 0 (Nat.zero_le _) (Ent.cons rfl (Ent.cons rfl (Ent.cons rfl (Ent.cons rfl (Ent.nil _))))) (Sub.refl _) ?_))))))
 intro k hk
 refine Za (O.q rfl (Pu.lss rfl rfl rfl) (Zf (Vs (V.condD rfl (fun c1 => ?_) (fun c1 => ?_)))))
 ·have e1 : k < xs.length := by omega
  refine Zh (O.q rfl (Pu.indexAddr (k) rfl ut40 sz2 rfl rfl (by omega) (by omega) (hxs.some (by omega))) (O.q rfl (Pu.load rfl pl2 rfl (Ld.rd (Ld.old hxs) (k := k) e1 rfl rfl)) (O.m rfl (Zf (Vs ?_)))))
  refine V.ofI (VI.region (OI.p (fun _ h => by cases h) rfl rfl rfl (Pu.move rfl rfl) (OI.p (fun _ h => by cases h) rfl rfl rfl (Pu.move rfl rfl) (OI.yield rfl rfl rfl rfl rfl rfl (fun w hw => hY k e1 w hw) (OI.p (fun _ h => by cases h) rfl rfl rfl (Pu.not rfl rfl) (OI.nil (Xn (V.condF rfl (Zg ?_)))))))))
  exact O.q rfl (Pu.add64 (r := ((k + 1 : Nat) : Int)) rfl (by omega) rfl rfl rfl) (O.m rfl (On (X.back (k + 1) (by omega) (by omega) (Ent.cons rfl (Ent.cons rfl (Ent.cons rfl (Ent.cons rfl (Ent.nil _))))) (Sub.refl _))))
 ·obtain rfl : k = xs.length := by omega
  exact Ve (Xe (Xe (Xh (X.endBody (X.ret0 rfl (fun w hw => hw))))))
set_option maxRecDepth 100000 in
set_option maxHeartbeats 1000000 in
theorem appendSeq_ok (xs : List Int) (f : FuncId) (lb : List Value) (w0 : World) (H0 : List Assn) (lxs : xs.length ≤ 1099511627776) (hok : CallOk Try.prog f) (hit : Each Try.prog f lb xs w0 H0) : Does Try.prog 60 [.slice none 0 0, .func (.func f) #[] lb.toArray] w0 H0 (fun v => (.exi fun A : Option Addr => .exi fun c : Nat => .sep (.pur (v = .slice A xs.length c)) (Own 2 I64 A c xs)) :: H0) := by
 refine Does.enterM Try.func60 rfl rfl [(0, .slice none 0 0), (1, .func (.func f) #[] lb.toArray)] rfl (Za (O.f rfl (Ef.box rfl rfl rfl) ?_))
 rintro _ _ ⟨b2, rfl, rfl⟩
 refine O.m rfl (Zc (O.m rfl (Zf (V.pre (H' := H0 ++ [BoxI 40 2 b2 (xs.take 0)]) (fun w hw => (BoxI.mk (A := none) (c := 0) (hw.addNil.perm (.swap _ _ _))).perm (List.perm_append_comm (l₁ := [_]))) (Vb (V.rangeFunc (fun k => [BoxI 40 2 b2 (xs.take k)]) (fun x => [(2, .pointer (some ⟨b2, 0, none⟩)), (5, .int .i64 x)]) rfl hok rfl hit (Sub.refl _) (fun l Fr k hk => ?_) (fun l Fr k hk => ?_) (fun D => ?_)))))))
 ·exact VI.region (OI.p (fun _ h => by cases h) rfl rfl rfl (Pu.assign rfl rfl) (OI.nil (fun w hw a ha => ⟨rfl, ha.ent (Ent.cons rfl (Ent.cons rfl (Ent.nil _))), hw⟩)))
 ·refine VI.block (VI.region (OI.pre (fun w hw => hw.perm List.perm_middle) (OI.exi fun A1 => OI.exi fun c1 => OI.sep (OI.p (fun _ h => by cases h) rfl rfl rfl (Pu.load rfl pl40 rfl (Ld.blk 0 rfl rfl)) (OI.p (fun _ h => by cases h) rfl rfl rfl (Pu.move rfl rfl) (OI.ef (fun _ h => by cases h) rfl rfl rfl (Ef.build I64 ([xs[k]] : List Int) rfl ut40 inf2 rfl rfl rfl (by first | decide | (simp; done)) (by kernel_rfl)) ?_))))))
  rintro _ _ ⟨A2, hA2, rfl, rfl⟩
  refine OI.ef (fun _ h => by cases h) rfl rfl rfl (Ef.append (xs := xs.take k) (ys := ([xs[k]] : List Int)) 2 rfl ut40 inf2 rfl rfl rfl rfl rfl rfl hA2 (Ld.own 0 (by exact rfl)) (by simp only [List.length_take, List.length_cons, List.length_nil]; omega) (by decide)) ?_
  rintro _ _ ⟨A3, c3, rfl, rfl, hA3⟩
  refine OI.ef (fun _ h => by cases h) rfl rfl rfl (Ef.store1 (cs' := [_]) 1 rfl sz40 rfl rfl rfl rfl rfl (ltb rfl) rfl) ?_
  rintro _ _ rfl
  refine OI.nil ?_
  have ek : xs.take (k + 1) = xs.take k ++ [xs[k]] := by rw [List.take_succ_eq_append_getElem hk]
  refine Xb ?_
  intro w hw a ha
  refine ⟨rfl, ?_⟩
  rw [ek]
  exact (BoxI.mk (A := A3) (c := c3) hw.tail).perm List.perm_middle.symm
 ·refine XM.blockNormal (XM.next (VM.seq (VM.region (OM.pre (H' := BoxI 40 2 b2 (xs.take xs.length) :: (ObjA D (.deferred (some [])) :: H0)) (fun w hw => hw.perm (List.perm_append_comm (l₁ := _ :: H0) (l₂ := [_]))) (OM.exi fun A1 => OM.exi fun c1 => OM.sep (OM.p rfl rfl rfl (Pu.load rfl pl40 rfl (Ld.blk 0 rfl rfl)) (OM.p rfl rfl rfl (Pu.assign rfl rfl) (OM.nil (XM.next ?_)))))))))
  rw [List.take_length]
  exact VM.pre (fun w hw => (hw.tail.perm (.swap _ _ _))) (VM.ret1 rfl rfl (fun w hw => St.mkExi A1 (St.mkExi c1 (St.addPur rfl hw).unsep)))
set_option maxRecDepth 100000 in
set_option maxHeartbeats 1000000 in
theorem collect_ok (xs : List Int) (f : FuncId) (lb : List Value) (w0 : World) (H0 : List Assn) (lxs : xs.length ≤ 1099511627776) (hok : CallOk Try.prog f) (hit : Each Try.prog f lb xs w0 H0) : Does Try.prog 53 [.func (.func f) #[] lb.toArray] w0 H0 (fun v => (.exi fun A : Option Addr => .exi fun c : Nat => .sep (.pur (v = .slice A xs.length c)) (Own 2 I64 A c xs)) :: H0) := by
 refine Does.enter Try.func53 rfl rfl [(0, .func (.func f) #[] lb.toArray)] rfl (Za (O.m rfl (Zb (O.m rfl (O.f rfl (Ef.call call60 rfl rfl (appendSeq_ok xs f lb w0 H0 lxs hok hit)) ?_)))))
 rintro v _ rfl
 refine O.exi fun A => O.exi fun c => O.sep (O.pur ?_)
 rintro rfl
 exact O.m rfl (Ze (X.ret1 rfl rfl (fun w hw => St.mkExi A (St.mkExi c (St.addPur rfl hw).unsep))))
set_option maxRecDepth 100000 in
set_option maxHeartbeats 1000000 in
theorem sortedV_ok (xs : List Int) (f : FuncId) (lb : List Value) (w0 : World) (H0 : List Assn) (lxs : xs.length ≤ 1099511627776) (hok : CallOk Try.prog f) (hit : Each Try.prog f lb xs w0 H0) : Does Try.prog 41 [.func (.func f) #[] lb.toArray] w0 H0 (fun v => (.exi fun A : Option Addr => .exi fun c : Nat => .sep (.pur (v = .slice A (sortI xs).length c)) (Own 2 I64 A c (sortI xs))) :: H0) := by
 refine Does.enter Try.func41 rfl rfl [(0, .func (.func f) #[] lb.toArray)] rfl (Za (O.m rfl (Zb (O.m rfl (O.f rfl (Ef.call call53 rfl rfl (collect_ok xs f lb w0 H0 lxs hok hit)) ?_)))))
 rintro v _ rfl
 refine O.exi fun A => O.exi fun c => O.sep (O.pur ?_)
 rintro rfl
 refine O.m rfl (Zb (O.m rfl (O.f rfl (Ef.call call54 rfl rfl (sortInt_ok xs A c w0 H0 lxs)) ?_)))
 rintro v _ rfl
 refine O.sep (O.pur ?_)
 rintro rfl
 exact Zb (O.m rfl (O.m rfl (Ze (X.ret1 rfl rfl (fun w hw => St.mkExi A (St.mkExi c (St.addPur (by rw [sortI_len]) hw).unsep))))))
set_option maxRecDepth 100000 in
set_option maxHeartbeats 1000000 in
theorem values_ok (xsA : Option Addr) (n xsc : Nat) (w0 : World) (H : List Assn) : Does Try.prog 42 [.slice xsA n xsc] w0 H (fun v => (.exi fun b : Nat => .sep (.pur (v = .func (.func 55) #[] #[.pointer (some ⟨b, 0, none⟩)])) (Blk b [.slice xsA n xsc] 40)) :: H) := by
 refine Does.enter Try.func42 rfl rfl [(0, .slice xsA n xsc)] rfl (Za (O.f rfl (Ef.box rfl rfl rfl) ?_))
 rintro _ _ ⟨b, rfl, rfl⟩
 exact O.m rfl (Zb (O.q rfl (Pu.makeFunc rfl rfl) (O.m rfl (Ze (X.ret1 rfl rfl (fun w hw => St.mkExi b (St.addPur rfl hw).unsep))))))
set_option maxRecDepth 100000 in
set_option maxHeartbeats 1000000 in
theorem isOrder_ok (list : List Int) (n : Int) (listA : Option Addr) (listc : Nat) (w : World) (hlist : Rd I64 w listA list) (llist : list.length ≤ 1099511627776) : Does Try.prog 26 [.slice listA list.length listc, .int .i64 n] w [] (fun r => [.pur (r = .bool (decide ((list.length : Int) = n ∧ rises n (sortI list))))]) := by
 refine Does.enter Try.func26 rfl rfl [(0, .slice listA list.length listc), (1, .int .i64 n)] rfl (Za (O.m rfl (Zb (O.m rfl (O.q rfl (Pu.len rfl ut40 rfl) (O.m rfl (O.q rfl (Pu.eql rfl rfl rfl) ?_)))))))
 refine O.m rfl (O.splitD 9 rfl (fun c1 => ?_) (fun c1 => ?_))
 ·refine O.gm rfl (O.gf rfl (Ef.call1 call42 rfl rfl (fun w hw => values_ok _ _ _ w [])) ?_)
  rintro _ _ rfl
  refine O.exi (fun b1 => O.sep (O.pur ?_))
  rintro rfl
  refine O.gf rfl (Ef.call1 call41 rfl rfl (fun w hw => sortedV_ok list 55 [.pointer (some ⟨b1, 0, none⟩)] w [] (by omega) call55 (values1_each _ _ _ _ w ((Ld.old hlist) w hw) (Blk.rdb (i := 0) hw rfl) (by omega)))) ?_
  rintro _ _ rfl
  refine O.exi (fun A1 => O.exi (fun k1 => O.sep (O.pur ?_)))
  rintro rfl
  refine O.gm rfl (O.gf rfl (Ef.callP call38 rfl rfl (fun w hw => rises_ok _ _ _ _ w ((Ld.own 0 (by exact rfl)) w hw) (by rw [sortI_len]; omega) (by omega))) ?_)
  rintro _ _ ⟨rfl, rfl⟩
  exact O.m rfl (O.m rfl (Ze (X.ret1 rfl rfl (fun w hw => St.retP (boolD (by first | exact ⟨fun h => ⟨c1, h⟩, fun h => h.2⟩ | exact fun h => c1 h.1)) hw))))
 ·exact O.g rfl (O.g rfl (O.g rfl (O.g rfl (O.g rfl (O.m rfl (O.m rfl (Ze (X.ret1 rfl rfl (fun w hw => St.retP (boolF (by first | exact ⟨fun h => ⟨c1, h⟩, fun h => h.2⟩ | exact fun h => c1 h.1)) hw)))))))))
set_option maxRecDepth 100000 in
set_option maxHeartbeats 1000000 in
theorem growNil_ok (n : Nat) (w : World) (hn : n ≤ 1099511627776) : Does Try.prog 43 [.slice none 0 0, .int .i64 (n : Int)] w [] (fun v => [.exi fun A : Option Addr => .exi fun c : Nat => .sep (.pur (v = .slice A 0 c)) (Own 2 I64 A c ([] : List Int))]) := by
 refine Does.enter Try.func43 rfl rfl [(0, .slice none 0 0), (1, .int .i64 (n : Int))] rfl (Za (O.m rfl (Zc (O.m rfl (O.q rfl (Pu.lssF (by omega) rfl rfl rfl) (On ?_))))))
 refine Xn (V.condF rfl (Vk (Xn (Zj (O.m rfl (O.m rfl (O.q rfl (Pu.capS rfl ut40 rfl) (O.m rfl (O.q rfl (Pu.len rfl ut40 rfl) ?_)))))))))
 refine O.q rfl (Pu.sub64 (r := 0) rfl (by omega) rfl rfl rfl) (O.q rfl (Pu.sub64 (r := (n : Int)) (by omega) (by omega) rfl rfl rfl) (O.m rfl (Zb (O.m rfl (O.q rfl (Pu.gtr rfl rfl rfl) (Zf (V.condD rfl (fun c1 => ?_) (fun c1 => ?_))))))))
 ·refine Vr (O.m rfl (O.m rfl (O.q rfl (Pu.capS rfl ut40 rfl) (O.q rfl (Pu.sliceH 0 rfl ut40 sz2 rfl rfl rfl (by omega)) (O.m rfl (O.f rfl (Ef.appendZ I64 (0 : Int) rfl ut40 ut3 inf2 rfl rfl rfl rfl (by omega) (by omega) (by omega)) ?_))))))
  rintro _ _ ⟨A, c, rfl, hc, rfl⟩
  refine O.m rfl (O.q rfl (Pu.len rfl ut40 rfl) (O.q rfl (Pu.sliceH 0 rfl ut40 sz2 rfl rfl rfl (by omega)) (O.m rfl (Zb (O.m rfl (O.m rfl (Zf ?_)))))))
  exact Vt (X.ret1 rfl rfl (fun w hw => St.mkExi A (St.mkExi c (St.addPur rfl hw).unsep)))
 ·exact Vk (Xn (Za (O.m rfl (O.m rfl (Ze (X.ret1 rfl rfl (fun w hw => St.mkExi none (St.mkExi 0 (St.addPur rfl hw.addNil).unsep))))))))
set_option maxRecDepth 100000 in
set_option maxHeartbeats 1000000 in
theorem concat_ok (ss : List (Sl × List Int)) (ssA : Option Addr) (ssc : Nat) (w : World) (hss : RdL I64 w ssA ss) (lss : ss.length ≤ 1099511627776) (hsum : (conts ss).flatten.length ≤ 1048576) (hro : RowOk ss) : Does Try.prog 27 [.slice ssA (tops ss).length ssc] w [] (fun rv_ => [.exi fun (rA : Option Addr) => .exi fun (rc : Nat) => .exi fun (r : List Int) => .sep (.pur (rv_ = .slice rA r.length rc ∧ r = (conts ss).flatten)) (Own 2 I64 rA rc r)]) := by
 refine Does.enter Try.func27 rfl rfl [(0, .slice ssA (tops ss).length ssc)] rfl ?_
 have htl := tops_len ss
 refine Za (O.m rfl (Zb (O.m rfl (Zf (Vs (Vs ?_))))))
 refine Vr (O.m rfl (O.q rfl (Pu.len rfl ut25 rfl) (O.m rfl (Zi (V.loop2 (β := Nat × Nat) (fun x => [(3, .int .i64 (x.1 : Int)), (11, .int .i64 (x.2 : Int))]) _ (fun x => []) (fun x => x.2 ≤ ss.length ∧ x.1 = sumL ss x.2) (fun x => ss.length - x.2) (0, 0) (by (try dsimp only); exact ⟨by omega, rfl⟩) (Ent.cons rfl (Ent.cons rfl (Ent.nil _))) (Ent.cons (t := 0) rfl (Ent.cons (t := 9) rfl (Ent.cons (t := 10) rfl (Ent.nil _)))) (Sub.nil _) ?_)))))
 rintro ⟨size, i⟩ ⟨hi, hz⟩
 dsimp only at hi hz ⊢
 refine Za (O.q rfl (Pu.lss rfl rfl rfl) (Zf (Vs (V.condD rfl (fun c1 => ?_) (fun c1 => ?_)))))
 ·refine Zh (O.q rfl (Pu.indexAddr (i) rfl ut25 sz40 rfl rfl (by omega) (by omega) (hss.top.some (by omega))) ?_)
  have e1 : i < ss.length := by have := tops_len ss; omega
  refine O.q rfl (Pu.load rfl pl40 rfl (Ld.row (Ld.old hss.top) hss.len e1 rfl)) (O.m rfl (Zf (Vs ?_)))
  have hsl := sumL_succ (show i < ss.length by omega)
  have hsle := sumL_le ss (i + 1)
  refine Vr (O.m rfl (O.m rfl (O.q rfl (Pu.len rfl ut40 rfl) (O.q rfl (Pu.add64 (r := ((size + (ss[i]'e1).2.length : Nat) : Int)) (by omega) (by omega) rfl rfl rfl) (O.m rfl (Zb (O.m rfl (O.q rfl (Pu.lss rfl rfl rfl) ?_))))))))
  refine Zf (V.condD rfl (fun c2 => ?_) (fun c2 => ?_))
  ·omega
  ·exact Zg (O.q rfl (Pu.add64 (r := ((i + 1 : Nat) : Int)) rfl (by omega) rfl rfl rfl) (O.m rfl (On (X.back2 (size + (ss[i]'e1).2.length, i + 1) (by (try dsimp only); exact ⟨by omega, by rw [hz, sumL_succ (by omega)]⟩) (by first | omega | (dsimp only; omega)) (Ent.cons rfl (Ent.cons rfl (Ent.nil _))) (Ent.cons (t := 0) rfl (Ent.cons (t := 9) rfl (Ent.cons (t := 10) rfl (Ent.nil _)))) (Sub.nil _)))))
 ·refine Zd (O.m rfl (O.f rfl (Ef.call1 call43 rfl rfl (fun w hw => growNil_ok _ w (by have := sumL_le ss i; omega))) ?_))
  rintro _ _ rfl
  refine O.exi (fun A1 => O.exi (fun k1 => O.sep (O.pur ?_)))
  rintro rfl
  refine O.m rfl (Zc (O.m rfl (O.q rfl (Pu.len rfl ut25 rfl) (O.m rfl (Zi ?_)))))
  refine V.loop2 (β := (Option Addr) × Nat × (List Int) × Nat) (fun x => [(6, .slice x.1 x.2.2.1.length x.2.1), (27, .int .i64 (x.2.2.2 : Int))]) _ (fun x => [Own 2 I64 x.1 x.2.1 x.2.2.1]) (fun x => x.2.2.2 ≤ ss.length ∧ x.2.2.1 = ((conts ss).take x.2.2.2).flatten) (fun x => ss.length - x.2.2.2) (A1, k1, [], 0) (by (try dsimp only); exact ⟨by omega, rfl⟩) (Ent.cons rfl (Ent.cons rfl (Ent.nil _))) (Ent.cons (t := 25) rfl (Ent.cons (t := 26) rfl (Ent.nil _))) (Sub.s [0] rfl) ?_
  rintro ⟨newsliceA, newslicec, newslice, i⟩ ⟨hi, hr⟩
  dsimp only at hi hr ⊢
  refine Za (O.q rfl (Pu.lss rfl rfl rfl) (Zf (Vs (V.condD rfl (fun c3 => ?_) (fun c3 => ?_)))))
  ·refine Zh (O.q rfl (Pu.indexAddr (i) rfl ut25 sz40 rfl rfl (by omega) (by omega) (hss.top.some (by omega))) ?_)
   have e2 : i < ss.length := by have := tops_len ss; omega
   refine O.q rfl (Pu.load rfl pl40 rfl (Ld.row (Ld.old hss.top) hss.len e2 rfl)) (O.m rfl (Zf ?_))
   have hsl := sumL_succ (show i < ss.length by omega)
   have hsle := sumL_le ss (i + 1)
   have hnl : newslice.length = sumL ss i := by rw [hr]; rfl
   refine Vr (O.m rfl (O.m rfl (O.f rfl (Ef.appendN (xs := newslice) (ys := (ss[i]'e2).2) 0 rfl ut40 inf2 rfl rfl rfl rfl rfl rfl (fun w hw h => ⟨by rw [Rd.none ((Ld.old (hss.row i e2)) w hw) h]; rfl, (fun h => (hro (ss[i]'e2) (List.getElem_mem _)).2 h) h⟩) (Ld.old (hss.row i e2)) (by omega) (by decide)) ?_)))
   rintro _ _ ⟨A2, k2, rfl, rfl, hA2⟩
   exact O.m rfl (Zk (O.q rfl (Pu.add64 (r := ((i + 1 : Nat) : Int)) rfl (by omega) rfl rfl rfl) (O.m rfl (On (X.back2 (A2, k2, (newslice ++ (ss[i]'e2).2), i + 1) (by (try dsimp only); exact ⟨by omega, by rw [hr, conts_take_flat (by omega)]⟩) (by first | omega | (dsimp only; omega)) (Ent.cons rfl (Ent.cons rfl (Ent.nil _))) (Ent.cons (t := 25) rfl (Ent.cons (t := 26) rfl (Ent.nil _))) (Sub.s [0] rfl))))))
  ·refine Zd (O.m rfl (O.m rfl (Ze ?_)))
   exact X.ret1 rfl rfl (fun w hw => St.mkExi newsliceA (St.mkExi newslicec (St.mkExi newslice (St.unsep (St.addPur ⟨rfl, by rw [hr, List.take_of_length_le (by rw [conts_len]; omega)]⟩ (hw.sub (Sub.s [0] rfl)))))))
set_option maxRecDepth 100000 in
set_option maxHeartbeats 1000000 in
theorem containsFuncS_ok (s : List (Sl × List Int)) (p : Sl × List Int → Prop) [DecidablePred p] (gf : Nat) (caps : Array Value) (sA : Option Addr) (sc : Nat) (w : World) (hs : RdL I64 w sA s) (ls : s.length ≤ 1099511627776) (hok : CallOk Try.prog gf) (hf : ∀ (k : Nat) (hk : k < s.length) w', Bel w.heap.size w w' → Does Try.prog gf ([.slice (s[k]).1.A (s[k]).2.length (s[k]).1.c] ++ caps.toList) w' [] (fun v => [.pur (v = .bool (decide (p s[k])))])) : Does Try.prog 21 [.slice sA (tops s).length sc, .func (.func gf) #[] caps] w [] (fun r => [.pur (r = .bool (decide (∃ x ∈ s, p x)))]) := by
 refine Does.enter Try.func21 rfl rfl [(0, .slice sA (tops s).length sc), (1, .func (.func gf) #[] caps)] rfl (Za (O.m rfl (Zb (O.m rfl (O.m rfl (O.f rfl (Ef.callP call37 rfl rfl (fun w hw => indexFuncS_ok  s p gf caps _ _ w ((fun w hw => hs.st hw) w hw) (by first | omega | (simp only [tops_len, conts_len, bl, List.length_append, List.length_cons, List.length_nil] at *; omega)) hok (fun k hk w' hb => hf k hk w' (hw.grow hb).below))) ?_))))))
 rintro _ _ ⟨rfl, rfl⟩
 exact O.q rfl (Pu.geq rfl rfl rfl) (O.m rfl (Ze (X.ret1 rfl rfl (fun w hw => St.retP (boolD (idxP_nonneg)) hw))))
set_option maxRecDepth 100000 in
set_option maxHeartbeats 1000000 in
theorem isResolution1_ok (l : List Int) (v : Int) (bs : List B3) (b_0 : Nat) (lA : Option Addr) (lc : Nat) (A : Option Addr) (c : Nat) (w : World) (hl : Rd I64 w lA l) (hx : Rd B3C w A bs) (hb_0 : RdB w b_0 [.int .i64 v, .slice A bs.length c]) (ll : l.length ≤ 1099511627776) (lx : bs.length ≤ 4611686018427387904) (lb : bs.length ≤ 1000000) : Does Try.prog 22 [.slice lA l.length lc, .pointer (some ⟨b_0, 0, none⟩)] w [] (fun r => [.pur (r = .bool (decide (¬ rises (bs.length : Int) l)))]) := by
 refine Does.enter Try.func22 rfl rfl [(0, .slice lA l.length lc), (1, .pointer (some ⟨b_0, 0, none⟩))] rfl (Za (O.m rfl (Zb (O.q rfl (Pu.loadAgg rfl ag32 sz32 rfl rfl (Ld.rdbs hb_0)) (O.m rfl (O.f rfl (Ef.callP call23 rfl rfl (fun w hw => areNumbers_ok  v bs l _ _ _ _ w ((Ld.old hx) w hw) ((Ld.old hl) w hw) (by first | omega | (simp only [tops_len, conts_len, bl, List.length_append, List.length_cons, List.length_nil] at *; omega)) (by first | omega | (simp only [tops_len, conts_len, bl, List.length_append, List.length_cons, List.length_nil] at *; omega)) lb)) ?_))))))
 rintro _ _ ⟨rfl, rfl⟩
 exact O.q rfl (Pu.not rfl rfl) (O.m rfl (Ze (X.ret1 rfl rfl (fun w hw => St.retP ((by rw [← decide_not]; try exact boolD (Iff.rfl))) hw))))
set_option maxRecDepth 100000 in
set_option maxHeartbeats 1000000 in
theorem implIsResolution_ok (v : Int) (bs : List B3) (classes : List (Sl × List Int)) (A : Option Addr) (c : Nat) (classesA : Option Addr) (classesc : Nat) (w : World) (hx : Rd B3C w A bs) (hclasses : RdL I64 w classesA classes) (lx : bs.length ≤ 4611686018427387904) (lclasses : classes.length ≤ 1099511627776) (hsum : (conts classes).flatten.length ≤ 1048576) (hro : RowOk classes) : Does Try.prog 9 [.agg #[.int .i64 v, .slice A bs.length c], .slice classesA (tops classes).length classesc] w [] (fun r => [.pur (r = .tuple #[.bool (decide (STS v bs ∧ AllR (bs.length : Int) (conts classes) ∧ ResP v bs (conts classes))), .int .i64 (if STS v bs then if AllR (bs.length : Int) (conts classes) then 0 else 2 else 1)])]) := by
 refine Does.enter Try.func9 rfl rfl [(0, .agg #[.int .i64 v, .slice A bs.length c]), (1, .slice classesA (tops classes).length classesc)] rfl (Za (O.f rfl (Ef.box rfl rfl rfl) ?_))
 rintro _ _ ⟨b1, rfl, rfl⟩
 refine O.m rfl (O.m rfl (Zc (O.q rfl (Pu.loadAgg rfl ag32 sz32 rfl rfl (Ld.whole 0 rfl)) (O.f rfl (Ef.callP call20 rfl rfl (fun w hw => IsSystem_ok _ bs _ _ w ((Ld.old hx) w hw) (by omega))) ?_))))
 rintro _ _ ⟨rfl, rfl⟩
 refine O.q rfl (Pu.not rfl rfl) (Zf (V.condNot rfl (fun c1 => ?_) (fun c1 => ?_)))
 ·exact Za (O.m rfl (O.m rfl (Ze (Xr (X.ret2 rfl rfl rfl (fun w hw => St.addPur (by rw [if_neg c1]; simp [c1]) (hw.sub (Sub.nil _))))))))
 ·have hlo := c1.lo
  have hhi := c1.hi
  have hfw := c1.few
  have hg15 : ∀ b ∈ bs, good 15 b := fun b h => (c1.good b h).mono c1.hi
  have htl := tops_len classes
  have hcl := conts_len classes
  refine Vk (Xn (Zj (O.m rfl (O.q rfl (Pu.makeFunc rfl rfl) (O.f rfl (Ef.callP call21 rfl rfl (fun w hw => containsFuncS_ok  classes (fun x => ¬ rises (bs.length : Int) x.2) (22) _ _ _ w ((fun w hw => hclasses.st hw) w hw) (by first | omega | (simp only [tops_len, conts_len, bl, List.length_append, List.length_cons, List.length_nil] at *; omega)) (call22) (fun k hk w' hb => isResolution1_ok _ v bs _ _ _ _ _ w' (Rd.below ((Ld.old (hclasses.row k hk)) w hw) hb) (Rd.below (hx.st hw) hb) ((Blk.rdb hw (i := 0) rfl).below hb) (by have := row_flat hk; omega) (by omega) (by omega)))) ?_)))))
  rintro _ _ ⟨rfl, rfl⟩
  refine Zf (V.condD rfl (fun c2 => ?_) (fun c2 => ?_))
  ·have hna : ¬ AllR (bs.length : Int) (conts classes) := fun h => by obtain ⟨p, hp, hn⟩ := c2; exact hn (h _ (List.mem_map_of_mem hp))
   exact Za (O.m rfl (O.m rfl (Ze (Xr (X.ret2 rfl rfl rfl (fun w hw => St.addPur (by rw [if_pos c1, if_neg hna]; simp [hna]) (hw.sub (Sub.nil _))))))))
  ·have hal : AllR (bs.length : Int) (conts classes) := fun q hq => by obtain ⟨p, hp, rfl⟩ := List.mem_map.1 hq; exact Decidable.byContradiction (fun h => c2 ⟨p, hp, h⟩)
   refine Vk (Xn (Zj (O.m rfl (O.q rfl (Pu.len rfl ut25 rfl) (O.m rfl (Zi (V.loop3 (β := Nat) (fun i => [(16, .int .i64 (i : Int))]) _ (fun i => []) _ (fun i => i ≤ classes.length ∧ ResAt v bs (conts classes) i) (fun i => classes.length - i) 0 ⟨by omega, resAt_zero⟩ (Ent.cons rfl (Ent.nil _)) (Ent.cons (t := 1) rfl (Ent.cons (t := 2) rfl (Ent.cons (t := 14) rfl (Ent.cons (t := 15) rfl (Ent.nil _))))) (Sub.s [0] rfl) ?_)))))))
   rintro i ⟨hi, hr⟩
   refine Za (O.q rfl (Pu.lss rfl rfl rfl) (Zf (Vs (V.condD rfl (fun c3 => ?_) (fun c3 => ?_)))))
   ·refine Zh (O.m rfl (O.q rfl (Pu.indexAddr (i) rfl ut25 sz40 rfl rfl (by omega) (by omega) (hclasses.top.some (by omega))) ?_))
    have e1 : i < classes.length := by have := tops_len classes; omega
    refine O.q rfl (Pu.load rfl pl40 rfl (Ld.row (Ld.old hclasses.top) hclasses.len e1 rfl)) (O.m rfl (O.m rfl (Zf (Vs ?_))))
    have hic : i < classes.length := by omega
    have hri : rises (bs.length : Int) (classes[i]).2 := hal _ (List.mem_map_of_mem (List.getElem_mem hic))
    have hix := rises_ix hri
    have hls := rises_len hri
    have hcp := (hro _ (List.getElem_mem hic)).1
    refine Vr (O.q rfl (Pu.loadAgg rfl ag32 sz32 rfl rfl (Ld.whole 0 rfl)) (O.m rfl (O.f rfl (Ef.callP call24 rfl rfl (fun w hw => isClass_ok  v bs ((classes[i]'e1).2) _ _ _ _ w ((Ld.old hx) w hw) ((Ld.old (hclasses.row i e1)) w hw) (by first | omega | (simp only [tops_len, conts_len, bl, List.length_append, List.length_cons, List.length_nil] at *; omega)) (by omega) hix (by omega) hcp)) ?_)))
    rintro _ _ ⟨rfl, rfl⟩
    refine O.q rfl (Pu.not rfl rfl) (O.m rfl (O.splitN 25 rfl (fun c4 => ?_) (fun c4 => ?_)))
    ·refine O.g rfl (O.g rfl (O.g rfl (O.g rfl (O.g rfl (O.g rfl (O.g rfl (O.g rfl (O.g rfl (O.g rfl (O.g rfl (O.g rfl ?_)))))))))))
     refine O.m rfl (Zf (V.condT rfl (Za (O.m rfl (O.m rfl (Ze (Xq ?_)))))))
     exact Xr (Xr (Xq (Xr (X.ret2 rfl rfl rfl (fun w hw => St.addPur (by rw [if_pos c1, if_pos hal, show decide (STS v bs ∧ AllR (bs.length : Int) (conts classes) ∧ ResP v bs (conts classes)) = false from decide_eq_false (fun h => c4 (h.2.2.cls hic))]) (hw.sub (Sub.nil _)))))))
    ·refine O.gm rfl (O.gq rfl (Pu.gtr rfl rfl rfl) (O.gm rfl (O.splitD 28 rfl (fun c5 => ?_) (fun c5 => ?_))))
     ·have hpl := row_flat (s := classes) (k := i - 1) (by omega)
      refine O.gm rfl (O.gm rfl (O.gq rfl (Pu.sub64 (r := (((i - 1) : Nat) : Int)) (by omega) (by omega) rfl rfl rfl) (O.gq rfl (Pu.indexAddr ((i - 1)) rfl ut25 sz40 rfl rfl (by omega) (by omega) (hclasses.top.some (by omega))) ?_)))
      have e2 : (i - 1) < classes.length := by have := tops_len classes; omega
      refine O.gq rfl (Pu.load rfl pl40 rfl (Ld.row (Ld.old hclasses.top) hclasses.len e2 rfl)) (O.gm rfl (O.gf rfl (Ef.callP call25 rfl rfl (fun w hw => slicesCompare_ok (classes[(i - 1)]'e2).2 (classes[i]'e1).2 _ _ _ _ w ((Ld.old (hclasses.row (i - 1) e2)) w hw) ((Ld.old (hclasses.row i e1)) w hw) (by first | omega | (simp [bl]; done)) (by first | omega | (simp [bl]; done)))) ?_))
      rintro _ _ ⟨rfl, rfl⟩
      refine O.gq rfl (Pu.geq rfl rfl rfl) (O.gm rfl (O.m rfl (Zf (V.condD rfl (fun c6 => ?_) (fun c6 => ?_)))))
      ·refine Za (O.m rfl (O.m rfl (Ze (Xq (Xr (Xr (Xq (Xr ?_))))))))
       exact X.ret2 rfl rfl rfl (fun w hw => St.addPur (by rw [if_pos c1, if_pos hal, show decide (STS v bs ∧ AllR (bs.length : Int) (conts classes) ∧ ResP v bs (conts classes)) = false from decide_eq_false (fun h => by have h9 := h.2.2.ord hic (by omega); omega)]) (hw.sub (Sub.nil _)))
      ·exact Zg (O.q rfl (Pu.add64 (r := ((i + 1 : Nat) : Int)) rfl (by omega) rfl rfl rfl) (O.m rfl (On (X.back3 (i + 1) ⟨by omega, resAt_succS hr hic c4 (fun _ => by omega)⟩ (by first | omega | (dsimp only; omega)) (Ent.cons rfl (Ent.nil _)) (Ent.cons (t := 1) rfl (Ent.cons (t := 2) rfl (Ent.cons (t := 14) rfl (Ent.cons (t := 15) rfl (Ent.nil _))))) (Sub.s [0] rfl)))))
     ·refine O.g rfl (O.g rfl (O.g rfl (O.g rfl (O.g rfl (O.g rfl (O.g rfl (O.g rfl (O.gm rfl (O.m rfl (Zf ?_))))))))))
      exact V.condF rfl (Zg (O.q rfl (Pu.add64 (r := ((i + 1 : Nat) : Int)) rfl (by omega) rfl rfl rfl) (O.m rfl (On (X.back3 (i + 1) ⟨by omega, resAt_succS hr hic c4 (fun h0 => by omega)⟩ (by first | omega | (dsimp only; omega)) (Ent.cons rfl (Ent.nil _)) (Ent.cons (t := 1) rfl (Ent.cons (t := 2) rfl (Ent.cons (t := 14) rfl (Ent.cons (t := 15) rfl (Ent.nil _))))) (Sub.s [0] rfl))))))
   ·refine Ve (Xe (Xe (Xh (Xn (Vs (V.draw mo (by kernel_rfl) (fun hwf => D.m 0 rfl (D.q 2 rfl (Pu.fieldAddr 1 rfl ut32 rfl sz30 rfl rfl) (D.q 3 rfl (Pu.load rfl pl30 rfl (Ld.blk 0 rfl rfl)) (D.q 4 rfl (Pu.len rfl ut30 rfl) (D.f hwf 1 rfl (Ef.call1 call27 rfl rfl (fun w hw => concat_ok  classes _ _ w ((fun w hw => hclasses.st hw) w hw) (by first | omega | (simp only [tops_len, conts_len, bl, List.length_append, List.length_cons, List.length_nil] at *; omega)) hsum hro)) ?_)))))))))))
    rintro _ _ rfl hs
    refine ⟨fun w hw => hs w hw.tail, (D.exi (fun r1A => D.exi (fun r1c => D.exi (fun r1 => D.sep (D.pur1 ?_)))))⟩
    rintro ⟨rfl, hr1_1⟩
    have hrl : r1.length ≤ 1048576 := by rw [hr1_1]; exact hsum
    refine D.f hwf 5 rfl (Ef.callP call26 rfl rfl (fun w hw => isOrder_ok  r1 (↑bs.length : Int) _ _ w ((Ld.own 0 (by exact rfl)) w hw) (by first | omega | (simp only [tops_len, conts_len, bl, List.length_append, List.length_cons, List.length_nil] at *; omega)) )) ?_
    rintro _ _ ⟨rfl, rfl⟩ hs
    exact ⟨fun w hw => hw.sub (Sub.s [1] rfl), (D.m 6 rfl (D.m 7 rfl (D.done hwf rfl (Xn (Vt (X.ret2 rfl rfl rfl (fun w hw => St.addPur (by rw [if_pos c1, if_pos hal]; exact congrArg (fun b => Value.tuple #[.bool b, .int .i64 0]) (decide_eq_decide.2 (res_iff c1 hal hr (by omega) hr1_1))) (hw.sub (Sub.nil _)))))))))⟩
set_option maxRecDepth 100000 in
set_option maxHeartbeats 1000000 in
theorem specIsResolution_ok (v : Int) (bs : List B3) (classes : List (Sl × List Int)) (A : Option Addr) (c : Nat) (classesA : Option Addr) (classesc : Nat) (w : World) (hx : Rd B3C w A bs) (hclasses : RdL I64 w classesA classes) (lx : bs.length ≤ 4611686018427387904) (lclasses : classes.length ≤ 1099511627776) (hsum : (conts classes).flatten.length ≤ 1048576) : Does Try.prog 6 [.agg #[.int .i64 v, .slice A bs.length c], .slice classesA (tops classes).length classesc] w [] (fun r => [.pur (r = .tuple #[.bool (decide (STS v bs ∧ AllR (bs.length : Int) (conts classes) ∧ ResP v bs (conts classes))), .int .i64 (if STS v bs then if AllR (bs.length : Int) (conts classes) then 0 else 2 else 1)])]) := by
 refine Does.enter Try.func6 rfl rfl [(0, .agg #[.int .i64 v, .slice A bs.length c]), (1, .slice classesA (tops classes).length classesc)] rfl (Za (O.f rfl (Ef.box rfl rfl rfl) ?_))
 rintro _ _ ⟨b1, rfl, rfl⟩
 refine O.m rfl (O.m rfl (Zc (O.q rfl (Pu.loadAgg rfl ag32 sz32 rfl rfl (Ld.whole 0 rfl)) (O.f rfl (Ef.callP call14 rfl rfl (fun w hw => l01Is_ok _ bs _ _ w ((Ld.old hx) w hw) (by omega))) ?_))))
 rintro _ _ ⟨rfl, rfl⟩
 refine O.q rfl (Pu.not rfl rfl) (Zf (V.condNot rfl (fun c1 => ?_) (fun c1 => ?_)))
 ·exact Za (O.m rfl (O.m rfl (Ze (Xr (X.ret2 rfl rfl rfl (fun w hw => St.addPur (by rw [if_neg c1]; simp [c1]) (hw.sub (Sub.nil _))))))))
 ·have hlo := c1.lo
  have hhi := c1.hi
  have hfw := c1.few
  have hg := c1.good
  have htl := tops_len classes
  have hcl := conts_len classes
  refine Vk (Xn (Zj (O.m rfl (Zi (V.loop3 (β := Nat) (fun i => [(6, .int .i64 (i : Int))]) _ (fun i => []) _ (fun i => i ≤ classes.length ∧ ∀ k (hk : k < classes.length), k < i → rises (bs.length : Int) (classes[k]).2) (fun i => classes.length - i) 0 ⟨by omega, fun k hk h => by omega⟩ (Ent.cons rfl (Ent.nil _)) (Ent.cons (t := 1) rfl (Ent.cons (t := 2) rfl (Ent.nil _))) (Sub.s [0] rfl) ?_)))))
  rintro i ⟨hi, hq⟩
  refine Zj (O.m rfl (O.m rfl (O.q rfl (Pu.len rfl ut25 rfl) (O.q rfl (Pu.lss rfl rfl rfl) (Zf (V.condD rfl (fun c2 => ?_) (fun c2 => ?_)))))))
  ·refine Vk (Xn (Vs (Vb (Vs ?_))))
   have hic : i < classes.length := by omega
   have hrl := row_flat hic
   refine V.draw mo (by kernel_rfl) (fun hwf => D.q 0 rfl (Pu.loadAgg rfl ag32 sz32 rfl rfl (Ld.whole 0 rfl)) (D.m 1 rfl (D.m 2 rfl (D.q 3 rfl (Pu.indexAddr (i) rfl ut25 sz40 rfl rfl (by omega) (by omega) (hclasses.top.some (by omega))) ?_))))
   have e1 : i < classes.length := by have := tops_len classes; omega
   refine D.q 4 rfl (Pu.load rfl pl40 rfl (Ld.row (Ld.old hclasses.top) hclasses.len e1 rfl)) (D.f hwf 5 rfl (Ef.callP call15 rfl rfl (fun w hw => l05Set_ok  v bs ((classes[i]'e1).2) _ _ _ _ w ((Ld.old hx) w hw) ((Ld.old (hclasses.row i e1)) w hw) (by first | omega | (simp only [tops_len, conts_len, bl, List.length_append, List.length_cons, List.length_nil] at *; omega)) (by omega) )) ?_)
   rintro _ _ ⟨rfl, rfl⟩ hs
   refine ⟨fun w hw => hw, (D.m 6 rfl (D.done hwf rfl (Xn (Za (O.m rfl (O.q rfl (Pu.neq rfl rfl rfl) (Zf (V.condNot rfl (fun c3 => ?_) (fun c3 => ?_)))))))))⟩
   ·have hnr : ¬ rises (bs.length : Int) (classes[i]'hic).2 := fun h => c3 (by rw [if_pos c1, if_pos h])
    have hna : ¬ AllR (bs.length : Int) (conts classes) := fun h => hnr (allR_at h hic)
    refine Za (O.m rfl (O.m rfl (O.m rfl (Ze (Xq (Xr (Xr (Xq ?_))))))))
    exact Xr (X.ret2 rfl rfl rfl (fun w hw => St.addPur (by simp [c1, hnr, hna]) (hw.sub (Sub.nil _))))
   ·exact Zg (O.m rfl (O.q rfl (Pu.add64 (r := ((i + 1 : Nat) : Int)) rfl (by omega) rfl rfl rfl) (O.m rfl (On (X.back3 (i + 1) ⟨by omega, fun k hk h => by by_cases e : k = i; (· subst e; exact Decidable.byContradiction (fun hn => by rw [if_pos c1, if_neg hn] at c3; exact absurd c3 (by decide))); (· exact hq k hk (by omega))⟩ (by first | omega | (dsimp only; omega)) (Ent.cons rfl (Ent.nil _)) (Ent.cons (t := 1) rfl (Ent.cons (t := 2) rfl (Ent.nil _))) (Sub.s [0] rfl))))))
  ·have hal : AllR (bs.length : Int) (conts classes) := allR_of hq (by omega)
   refine Zd (O.q rfl (Pu.fieldAddr 1 rfl ut32 rfl sz30 rfl rfl) (O.q rfl (Pu.load rfl pl30 rfl (Ld.blk 0 rfl rfl)) (O.q rfl (Pu.len rfl ut30 rfl) (O.f rfl (Ef.make BoolC false rfl ut43 inf4 rfl rfl rfl rfl (by omega) (by omega)) ?_))))
   rintro _ _ ⟨A1, hA1, rfl, rfl⟩
   refine O.m rfl (O.m rfl (Zc (O.m rfl (Zi (V.loop3 (β := Nat × Nat × (List Bool)) (fun x => [(9, .int .i64 (x.1 : Int)), (10, .int .i64 (x.2.1 : Int))]) _ (fun x => [Own 4 BoolC A1 bs.length x.2.2]) _ (fun x => (x.2.1 ≤ classes.length ∧ x.1 = sumL classes x.2.1) ∧ ResAt v bs (conts classes) x.2.1 ∧ SeenB bs.length x.2.2 ((conts classes).take x.2.1).flatten ∧ ((conts classes).take x.2.1).flatten.Nodup) (fun x => classes.length - x.2.1) (0, 0, (List.replicate (bs.length) false)) (by (try dsimp only); exact ⟨⟨by omega, rfl⟩, resAt_zero, seen_zero _, List.nodup_nil⟩) (Ent.cons rfl (Ent.cons rfl (Ent.nil _))) (Ent.cons (t := 1) rfl (Ent.cons (t := 2) rfl (Ent.cons (t := 8) rfl (Ent.nil _)))) (Sub.s [0,0] rfl) ?_)))))
   rintro ⟨count, i, z⟩ ⟨⟨hi, ht⟩, hr, hz, hn⟩
   dsimp only at hi ht hr hz hn ⊢
   have hzl := hz.1
   refine Zj (O.m rfl (O.m rfl (O.q rfl (Pu.len rfl ut25 rfl) (O.q rfl (Pu.lss rfl rfl rfl) (Zf (V.condD rfl (fun c4 => ?_) (fun c4 => ?_)))))))
   ·refine Vk (Xn (Vs (Vb (Vs (Vs ?_)))))
    have hic : i < classes.length := by omega
    have hri := allR_at hal hic
    have hix := rises_ix hri
    have hls := rises_len hri
    have hsl := sumL_le classes (i + 1)
    have hss := sumL_succ hic
    refine V.draw mo (by kernel_rfl) (fun hwf => D.q 0 rfl (Pu.loadAgg rfl ag32 sz32 rfl rfl (Ld.whole 1 rfl)) (D.m 1 rfl (D.m 2 rfl (D.q 3 rfl (Pu.indexAddr (i) rfl ut25 sz40 rfl rfl (by omega) (by omega) (hclasses.top.some (by omega))) ?_))))
    have e2 : i < classes.length := by have := tops_len classes; omega
    refine D.q 4 rfl (Pu.load rfl pl40 rfl (Ld.row (Ld.old hclasses.top) hclasses.len e2 rfl)) (D.f hwf 5 rfl (Ef.callP call16 rfl rfl (fun w hw => l05Class_ok  v bs ((classes[i]'e2).2) _ _ _ _ w ((Ld.old hx) w hw) ((Ld.old (hclasses.row i e2)) w hw) (by first | omega | (simp only [tops_len, conts_len, bl, List.length_append, List.length_cons, List.length_nil] at *; omega)) (by omega) hg (by omega) hix)) ?_)
    rintro _ _ ⟨rfl, rfl⟩ hs
    refine ⟨fun w hw => hw, (D.q 6 rfl (Pu.not rfl rfl) (D.m 7 rfl (D.splitN 47 rfl (fun c5 => ?_) (fun c5 => ?_))))⟩
    ·refine D.g 8 rfl (D.g 9 rfl (D.g 10 rfl (D.g 11 rfl (D.g 12 rfl (D.g 13 rfl (D.g 14 rfl (D.g 15 rfl (D.g 16 rfl (D.g 17 rfl (D.g 18 rfl (D.g 19 rfl ?_)))))))))))
     refine D.g 20 rfl (D.g 21 rfl (D.g 22 rfl (D.m 23 rfl (D.done hwf rfl (Xn (V.condT rfl (Za (O.m rfl (O.m rfl (On ?_))))))))))
     exact Xn (Vt (Xr (Xq (Xr (Xr (Xq (Xr (X.ret2 rfl rfl rfl (fun w hw => St.addPur (by rw [if_pos c1, if_pos hal, show decide (STS v bs ∧ AllR (bs.length : Int) (conts classes) ∧ ResP v bs (conts classes)) = false from decide_eq_false (fun h => c5 (h.2.2.cls hic))]) (hw.sub (Sub.nil _)))))))))))
    ·refine D.gm 8 rfl (D.gq 9 rfl (Pu.gtr rfl rfl rfl) (D.gm 10 rfl (D.splitD 50 rfl (fun c6 => ?_) (fun c6 => ?_))))
     ·have hpl := row_flat (s := classes) (k := i - 1) (by omega)
      refine D.gm 11 rfl (D.gm 12 rfl (D.gq 13 rfl (Pu.sub64 (r := (((i - 1) : Nat) : Int)) (by omega) (by omega) rfl rfl rfl) (D.gq 14 rfl (Pu.indexAddr ((i - 1)) rfl ut25 sz40 rfl rfl (by omega) (by omega) (hclasses.top.some (by omega))) ?_)))
      have e3 : (i - 1) < classes.length := by have := tops_len classes; omega
      refine D.gq 15 rfl (Pu.load rfl pl40 rfl (Ld.row (Ld.old hclasses.top) hclasses.len e3 rfl)) (D.gm 16 rfl (D.gm 17 rfl (D.gq 18 rfl (Pu.indexAddr (i) rfl ut25 sz40 rfl rfl (by omega) (by omega) (hclasses.top.some (by omega))) (D.gq 19 rfl (Pu.load rfl pl40 rfl (Ld.row (Ld.old hclasses.top) hclasses.len e2 rfl)) (D.geff hwf (e := 20) rfl rfl rfl rfl rfl rfl (Ef.callP call17 rfl rfl (fun w hw => l03Less_ok (classes[(i - 1)]'e3).2 (classes[i]'e2).2 _ _ _ _ w ((Ld.old (hclasses.row (i - 1) e3)) w hw) ((Ld.old (hclasses.row i e2)) w hw) (hclasses.len.le e3) (hclasses.len.le e2))) rfl rfl rfl ?_)))))
      rintro _ _ ⟨rfl, rfl⟩ hs
      refine ⟨fun w hw => hw, (D.gq 21 rfl (Pu.not rfl rfl) (D.gm 22 rfl (D.m 23 rfl (D.done hwf rfl (Xn (V.condNot rfl (fun c7 => ?_) (fun c7 => ?_)))))))⟩
      ·refine Za (O.m rfl (O.m rfl (Ze (Xr (Xq (Xr (Xr (Xq ?_))))))))
       exact Xr (X.ret2 rfl rfl rfl (fun w hw => St.addPur (by rw [if_pos c1, if_pos hal, show decide (STS v bs ∧ AllR (bs.length : Int) (conts classes) ∧ ResP v bs (conts classes)) = false from decide_eq_false (fun h => by have h9 := h.2.2.ord hic (by omega); omega)]) (hw.sub (Sub.nil _))))
      ·refine Vk (Xn (Za (O.m rfl (Zi (V.loop3 (β := Nat × Nat × (List Bool)) (fun x => [(9, .int .i64 (x.1 : Int)), (11, .int .i64 (x.2.1 : Int))]) _ (fun x => [Own 4 BoolC A1 bs.length x.2.2]) _ (fun x => (x.2.1 ≤ (classes[i]'hic).2.length ∧ x.1 = sumL classes i + x.2.1) ∧ SeenB bs.length x.2.2 (((conts classes).take i).flatten ++ (classes[i]'hic).2.take x.2.1) ∧ (((conts classes).take i).flatten ++ (classes[i]'hic).2.take x.2.1).Nodup) (fun x => (classes[i]'hic).2.length - x.2.1) (count, 0, z) (by (try dsimp only); exact ⟨⟨by omega, by omega⟩, by simpa using hz, by simpa using hn⟩) (Ent.cons rfl (Ent.cons rfl (Ent.nil _))) (Ent.cons (t := 1) rfl (Ent.cons (t := 2) rfl (Ent.cons (t := 8) rfl (Ent.cons (t := 10) rfl (Ent.nil _))))) (Sub.s [0,0] rfl) ?_)))))
       rintro ⟨count, k, z2⟩ ⟨⟨hj, ht2⟩, hz2, hn2⟩
       dsimp only at hj ht2 hz2 hn2 ⊢
       have hzl2 := hz2.1
       refine Zj (O.m rfl (O.m rfl (O.m rfl (O.q rfl (Pu.indexAddr (i) rfl ut25 sz40 rfl rfl (by omega) (by omega) (hclasses.top.some (by omega))) (O.q rfl (Pu.load rfl pl40 rfl (Ld.row (Ld.old hclasses.top) hclasses.len e2 rfl)) (O.q rfl (Pu.len rfl ut40 rfl) (O.q rfl (Pu.lss rfl rfl rfl) (Zf (V.condD rfl (fun c8 => ?_) (fun c8 => ?_))))))))))
       ·refine Vk (Xn (Vs (Vb (Vs (Vs ?_)))))
        have ek : k < (classes[i]'hic).2.length := by omega
        have hkx := hix _ (List.getElem_mem ek)
        unfold okIx at hkx
        refine Vr (O.m rfl (O.m rfl (O.m rfl (O.q rfl (Pu.indexAddr (i) rfl ut25 sz40 rfl rfl (by omega) (by omega) (hclasses.top.some (by omega))) (O.q rfl (Pu.load rfl pl40 rfl (Ld.row (Ld.old hclasses.top) hclasses.len e2 rfl)) (O.m rfl (O.q rfl (Pu.indexAddrS (k) rfl ut40 sz2 rfl rfl (by omega) (by omega) (fun w hw => ((Ld.old (hclasses.row i e2)) w hw).some (by omega))) ?_)))))))
        have e4 : k < (classes[i]'e2).2.length := by omega
        refine O.q rfl (Pu.load rfl pl2 rfl (Ld.rd (Ld.old (hclasses.row i e2)) (k := k) e4 rfl rfl)) (O.q rfl (Pu.indexAddrS ((((classes[i]'e2).2[k]'e4)).toNat) rfl ut43 sz4 rfl rfl (by omega) (by omega) (fun w hw => Own.some hw (i := 0) (by exact rfl) (by omega))) ?_)
        have e5 : (((classes[i]'e2).2[k]'e4)).toNat < z2.length := by omega
        refine O.q rfl (Pu.load rfl pl4 rfl (Ld.rd (Ld.own 0 (by exact rfl)) (k := (((classes[i]'e2).2[k]'e4)).toNat) e5 rfl rfl)) (Zf (V.cond rfl (fun c9 => ?_) (fun c9 => ?_)))
        ·refine Za (O.m rfl (O.m rfl (Ze (Xr (Xq (Xr (Xr (Xq ?_))))))))
         exact Xq (Xr (Xr (Xq (Xr (X.ret2 rfl rfl rfl (fun w hw => St.addPur (by rw [if_pos c1, if_pos hal, show decide (STS v bs ∧ AllR (bs.length : Int) (conts classes) ∧ ResP v bs (conts classes)) = false from decide_eq_false (fun h => h.2.2.fresh hic ek ((seen_get hz2 hkx.1 (by omega)).1 (by first | exact c9 | exact c11)))]) (hw.sub (Sub.nil _))))))))
        ·refine Vk (Xn (Za (O.m rfl (O.m rfl (O.m rfl (O.q rfl (Pu.indexAddr (i) rfl ut25 sz40 rfl rfl (by omega) (by omega) (hclasses.top.some (by omega))) (O.q rfl (Pu.load rfl pl40 rfl (Ld.row (Ld.old hclasses.top) hclasses.len e2 rfl)) (O.m rfl (O.q rfl (Pu.indexAddrS (k) rfl ut40 sz2 rfl rfl (by omega) (by omega) (fun w hw => ((Ld.old (hclasses.row i e2)) w hw).some (by omega))) (O.q rfl (Pu.load rfl pl2 rfl (Ld.rd (Ld.old (hclasses.row i e2)) (k := k) e4 rfl rfl)) ?_))))))))))
         refine O.q rfl (Pu.indexAddrS ((((classes[i]'e2).2[k]'e4)).toNat) rfl ut43 sz4 rfl rfl (by omega) (by omega) (fun w hw => Own.some hw (i := 0) (by exact rfl) (by omega))) (O.s rfl rfl (Ef.storeOwn 0 ((((classes[i]'e2).2[k]'e4)).toNat) true rfl sz4 rfl rfl rfl rfl (by omega) rfl) ?_)
         rintro _ _ rfl
         refine Zf (Vr (O.m rfl (O.q rfl (Pu.add64 (r := ((count + 1 : Nat) : Int)) rfl (by omega) rfl rfl rfl) (O.m rfl (Zk (O.m rfl (O.q rfl (Pu.add64 (r := ((k + 1 : Nat) : Int)) rfl (by omega) rfl rfl rfl) ?_)))))))
         exact O.m rfl (On (X.back3 (count + 1, k + 1, (z2.set ((((classes[i]'e2).2[k]'e4)).toNat) true)) (by (try dsimp only); exact ⟨⟨by omega, by omega⟩, by rw [take_snoc ek, ← List.append_assoc]; exact seen_set hz2 hkx.1, by rw [take_snoc ek, ← List.append_assoc]; exact nodup_snoc hn2 (fun hm => by have h9 := (seen_get hz2 hkx.1 (by omega)).2 hm; first | (rw [h9] at c9; cases c9) | (rw [h9] at c11; cases c11))⟩) (by first | omega | (dsimp only; omega)) (Ent.cons rfl (Ent.cons rfl (Ent.nil _))) (Ent.cons (t := 1) rfl (Ent.cons (t := 2) rfl (Ent.cons (t := 8) rfl (Ent.cons (t := 10) rfl (Ent.nil _))))) (Sub.s [0,0] rfl)))
       ·exact Ve (Xe (Xe (Xh (Xb (Xn (Vr (O.m rfl (O.q rfl (Pu.add64 (r := ((i + 1 : Nat) : Int)) rfl (by omega) rfl rfl rfl) (O.m rfl (On (X.back3 (count, i + 1, z2) (by (try dsimp only); exact ⟨⟨by omega, by rw [sumL_succ hic]; omega⟩, resAt_succS hr hic c5 (fun h0 => by omega), by rw [conts_take_flat hic]; rw [List.take_of_length_le (l := (classes[i]'hic).2) (i := k) (by omega)] at hz2; exact hz2, by rw [conts_take_flat hic]; rw [List.take_of_length_le (l := (classes[i]'hic).2) (i := k) (by omega)] at hn2; exact hn2⟩) (by first | omega | (dsimp only; omega)) (Ent.cons rfl (Ent.cons rfl (Ent.nil _))) (Ent.cons (t := 1) rfl (Ent.cons (t := 2) rfl (Ent.cons (t := 8) rfl (Ent.nil _)))) (Sub.s [0,0] rfl))))))))))))
     ·refine D.g 11 rfl (D.g 12 rfl (D.g 13 rfl (D.g 14 rfl (D.g 15 rfl (D.g 16 rfl (D.g 17 rfl (D.g 18 rfl (D.g 19 rfl (D.g 20 rfl (D.g 21 rfl (D.gm 22 rfl ?_)))))))))))
      refine D.m 23 rfl (D.done hwf rfl (Xn (V.condF rfl (Vk (Xn (Za (O.m rfl (Zi ?_))))))))
      refine V.loop3 (β := Nat × Nat × (List Bool)) (fun x => [(9, .int .i64 (x.1 : Int)), (11, .int .i64 (x.2.1 : Int))]) _ (fun x => [Own 4 BoolC A1 bs.length x.2.2]) _ (fun x => (x.2.1 ≤ (classes[i]'hic).2.length ∧ x.1 = sumL classes i + x.2.1) ∧ SeenB bs.length x.2.2 (((conts classes).take i).flatten ++ (classes[i]'hic).2.take x.2.1) ∧ (((conts classes).take i).flatten ++ (classes[i]'hic).2.take x.2.1).Nodup) (fun x => (classes[i]'hic).2.length - x.2.1) (count, 0, z) (by (try dsimp only); exact ⟨⟨by omega, by omega⟩, by simpa using hz, by simpa using hn⟩) (Ent.cons rfl (Ent.cons rfl (Ent.nil _))) (Ent.cons (t := 1) rfl (Ent.cons (t := 2) rfl (Ent.cons (t := 8) rfl (Ent.cons (t := 10) rfl (Ent.nil _))))) (Sub.s [0,0] rfl) ?_
      rintro ⟨count, k, z2⟩ ⟨⟨hj, ht2⟩, hz2, hn2⟩
      dsimp only at hj ht2 hz2 hn2 ⊢
      have hzl2 := hz2.1
      refine Zj (O.m rfl (O.m rfl (O.m rfl (O.q rfl (Pu.indexAddr (i) rfl ut25 sz40 rfl rfl (by omega) (by omega) (hclasses.top.some (by omega))) (O.q rfl (Pu.load rfl pl40 rfl (Ld.row (Ld.old hclasses.top) hclasses.len e2 rfl)) (O.q rfl (Pu.len rfl ut40 rfl) (O.q rfl (Pu.lss rfl rfl rfl) (Zf (V.condD rfl (fun c10 => ?_) (fun c10 => ?_))))))))))
      ·refine Vk (Xn (Vs (Vb (Vs (Vs ?_)))))
       have ek : k < (classes[i]'hic).2.length := by omega
       have hkx := hix _ (List.getElem_mem ek)
       unfold okIx at hkx
       refine Vr (O.m rfl (O.m rfl (O.m rfl (O.q rfl (Pu.indexAddr (i) rfl ut25 sz40 rfl rfl (by omega) (by omega) (hclasses.top.some (by omega))) (O.q rfl (Pu.load rfl pl40 rfl (Ld.row (Ld.old hclasses.top) hclasses.len e2 rfl)) (O.m rfl (O.q rfl (Pu.indexAddrS (k) rfl ut40 sz2 rfl rfl (by omega) (by omega) (fun w hw => ((Ld.old (hclasses.row i e2)) w hw).some (by omega))) ?_)))))))
       have e6 : k < (classes[i]'e2).2.length := by omega
       refine O.q rfl (Pu.load rfl pl2 rfl (Ld.rd (Ld.old (hclasses.row i e2)) (k := k) e6 rfl rfl)) (O.q rfl (Pu.indexAddrS ((((classes[i]'e2).2[k]'e6)).toNat) rfl ut43 sz4 rfl rfl (by omega) (by omega) (fun w hw => Own.some hw (i := 0) (by exact rfl) (by omega))) ?_)
       have e7 : (((classes[i]'e2).2[k]'e6)).toNat < z2.length := by omega
       refine O.q rfl (Pu.load rfl pl4 rfl (Ld.rd (Ld.own 0 (by exact rfl)) (k := (((classes[i]'e2).2[k]'e6)).toNat) e7 rfl rfl)) (Zf (V.cond rfl (fun c11 => ?_) (fun c11 => ?_)))
       ·refine Za (O.m rfl (O.m rfl (Ze (Xr (Xq (Xr (Xr (Xq ?_))))))))
        exact Xq (Xr (Xr (Xq (Xr (X.ret2 rfl rfl rfl (fun w hw => St.addPur (by rw [if_pos c1, if_pos hal, show decide (STS v bs ∧ AllR (bs.length : Int) (conts classes) ∧ ResP v bs (conts classes)) = false from decide_eq_false (fun h => h.2.2.fresh hic ek ((seen_get hz2 hkx.1 (by omega)).1 (by first | exact c9 | exact c11)))]) (hw.sub (Sub.nil _))))))))
       ·refine Vk (Xn (Za (O.m rfl (O.m rfl (O.m rfl (O.q rfl (Pu.indexAddr (i) rfl ut25 sz40 rfl rfl (by omega) (by omega) (hclasses.top.some (by omega))) (O.q rfl (Pu.load rfl pl40 rfl (Ld.row (Ld.old hclasses.top) hclasses.len e2 rfl)) (O.m rfl (O.q rfl (Pu.indexAddrS (k) rfl ut40 sz2 rfl rfl (by omega) (by omega) (fun w hw => ((Ld.old (hclasses.row i e2)) w hw).some (by omega))) (O.q rfl (Pu.load rfl pl2 rfl (Ld.rd (Ld.old (hclasses.row i e2)) (k := k) e6 rfl rfl)) ?_))))))))))
        refine O.q rfl (Pu.indexAddrS ((((classes[i]'e2).2[k]'e6)).toNat) rfl ut43 sz4 rfl rfl (by omega) (by omega) (fun w hw => Own.some hw (i := 0) (by exact rfl) (by omega))) (O.s rfl rfl (Ef.storeOwn 0 ((((classes[i]'e2).2[k]'e6)).toNat) true rfl sz4 rfl rfl rfl rfl (by omega) rfl) ?_)
        rintro _ _ rfl
        refine Zf (Vr (O.m rfl (O.q rfl (Pu.add64 (r := ((count + 1 : Nat) : Int)) rfl (by omega) rfl rfl rfl) (O.m rfl (Zk (O.m rfl (O.q rfl (Pu.add64 (r := ((k + 1 : Nat) : Int)) rfl (by omega) rfl rfl rfl) ?_)))))))
        exact O.m rfl (On (X.back3 (count + 1, k + 1, (z2.set ((((classes[i]'e2).2[k]'e6)).toNat) true)) (by (try dsimp only); exact ⟨⟨by omega, by omega⟩, by rw [take_snoc ek, ← List.append_assoc]; exact seen_set hz2 hkx.1, by rw [take_snoc ek, ← List.append_assoc]; exact nodup_snoc hn2 (fun hm => by have h9 := (seen_get hz2 hkx.1 (by omega)).2 hm; first | (rw [h9] at c9; cases c9) | (rw [h9] at c11; cases c11))⟩) (by first | omega | (dsimp only; omega)) (Ent.cons rfl (Ent.cons rfl (Ent.nil _))) (Ent.cons (t := 1) rfl (Ent.cons (t := 2) rfl (Ent.cons (t := 8) rfl (Ent.cons (t := 10) rfl (Ent.nil _))))) (Sub.s [0,0] rfl)))
      ·exact Ve (Xe (Xe (Xh (Xb (Xn (Vr (O.m rfl (O.q rfl (Pu.add64 (r := ((i + 1 : Nat) : Int)) rfl (by omega) rfl rfl rfl) (O.m rfl (On (X.back3 (count, i + 1, z2) (by (try dsimp only); exact ⟨⟨by omega, by rw [sumL_succ hic]; omega⟩, resAt_succS hr hic c5 (fun h0 => by omega), by rw [conts_take_flat hic]; rw [List.take_of_length_le (l := (classes[i]'hic).2) (i := k) (by omega)] at hz2; exact hz2, by rw [conts_take_flat hic]; rw [List.take_of_length_le (l := (classes[i]'hic).2) (i := k) (by omega)] at hn2; exact hn2⟩) (by first | omega | (dsimp only; omega)) (Ent.cons rfl (Ent.cons rfl (Ent.nil _))) (Ent.cons (t := 1) rfl (Ent.cons (t := 2) rfl (Ent.cons (t := 8) rfl (Ent.nil _)))) (Sub.s [0,0] rfl))))))))))))
   ·refine Zd (O.m rfl (O.q rfl (Pu.fieldAddr 1 rfl ut32 rfl sz30 rfl rfl) (O.q rfl (Pu.load rfl pl30 rfl (Ld.blk 1 rfl rfl)) (O.q rfl (Pu.len rfl ut30 rfl) (O.q rfl (Pu.eql rfl rfl rfl) ?_)))))
    exact O.m rfl (O.m rfl (Ze (X.ret2 rfl rfl rfl (fun w hw => St.addPur (by rw [if_pos c1, if_pos hal]; exact congrArg (fun b => Value.tuple #[.bool b, .int .i64 0]) (decide_eq_decide.2 (res_iff2 c1 hal hr hn ht (by omega)))) (hw.sub (Sub.nil _))))))
set_option maxRecDepth 100000 in
theorem szInt64S_ok (bs : List Int) (left : Int) (A : Option Addr) (c : Nat) (w : World) (lx : bs.length ≤ 9223372036854775807) (hl : -1 ≤ left ∧ left ≤ 1048576) : Does Try.prog 13 [.slice A bs.length c, .int .i64 left] w [] (fun v => [.pur (v = .int .i64 (roomLeft bs.length left))]) := by
 refine Does.enter Try.func13 rfl rfl [(0, .slice A bs.length c), (1, .int .i64 left)] rfl (Za (O.m rfl (Zb (O.m rfl (O.m rfl (O.q rfl (Pu.len rfl ut40 rfl) (O.q rfl (Pu.sub64 rfl (by omega) rfl rfl rfl) ?_)))))))
 refine O.m rfl (Zc (O.m rfl (O.q rfl (Pu.lss rfl rfl rfl) (Zf (V.condD rfl (fun c1 => ?_) (fun c1 => ?_))))))
 ·exact Za (O.m rfl (Ze (Xr (X.ret1 rfl rfl (fun w hw => St.retP (iv (by unfold roomLeft; rw [if_pos c1])) hw)))))
 ·exact Vk (Xn (Za (O.m rfl (O.m rfl (Ze (X.ret1 rfl rfl (fun w hw => St.retP (iv (by unfold roomLeft; rw [if_neg c1])) hw)))))))
set_option maxRecDepth 100000 in
set_option maxHeartbeats 1000000 in
theorem szInt64SS_ok (q : List (Sl × List Int)) (left : Int) (qA : Option Addr) (qc : Nat) (w : World) (hq : RdL I64 w qA q) (lq : q.length ≤ 9223372036854775807) (hl : -1 ≤ left ∧ left ≤ 1048576) : Does Try.prog 5 [.slice qA (tops q).length qc, .int .i64 left] w [] (fun rv_ => [.exi fun (r : Int) => .pur (rv_ = .int .i64 r ∧ r ≤ 1048576 ∧ (0 ≤ r → (q.length : Int) + ((conts q).flatten.length : Int) ≤ 1048576))]) := by
 refine Does.enter Try.func5 rfl rfl [(0, .slice qA (tops q).length qc), (1, .int .i64 left)] rfl ?_
 have htl := tops_len q
 refine Za (O.m rfl (Zb (O.m rfl (O.m rfl (O.q rfl (Pu.len rfl ut25 rfl) (O.q rfl (Pu.sub64 rfl (by omega) rfl rfl rfl) (O.m rfl ?_)))))))
 refine Zc (O.m rfl (O.q rfl (Pu.lss rfl rfl rfl) (Zf (V.condD rfl (fun c1 => ?_) (fun c1 => ?_)))))
 ·exact Za (O.m rfl (Ze (Xr (X.ret1 rfl rfl (fun w hw => St.mkExi (-1 : Int) (St.addPur ⟨rfl, ⟨by omega, fun h => absurd h (by decide)⟩⟩ (hw.sub (Sub.nil _))))))))
 ·refine Vk (Xn (Zj (O.m rfl (Zi (V.loop2 (β := Int × Nat) (fun x => [(1, .int .i64 (x.1 : Int)), (5, .int .i64 (x.2 : Int))]) _ (fun x => []) (fun x => x.2 ≤ q.length ∧ x.1 + (q.length : Int) + (sumL q x.2 : Int) ≤ 1048576 ∧ 0 ≤ x.1) (fun x => q.length - x.2) ((left - (↑((tops q).length) : Int)), 0) (by (try dsimp only); exact ⟨by omega, by have : sumL q 0 = 0 := rfl; omega, by omega⟩) (Ent.cons rfl (Ent.cons rfl (Ent.nil _))) (Ent.cons (t := 0) rfl (Ent.nil _)) (Sub.nil _) ?_)))))
  rintro ⟨left_, i⟩ ⟨hi, hs, h0⟩
  dsimp only at hi hs h0 ⊢
  refine Zj (O.m rfl (O.m rfl (O.q rfl (Pu.len rfl ut25 rfl) (O.q rfl (Pu.lss rfl rfl rfl) (Zf (V.condD rfl (fun c2 => ?_) (fun c2 => ?_)))))))
  ·refine Vk (Xn (Vs (Vb (Vs ?_))))
   have hic : i < q.length := by omega
   have hsl := sumL_succ hic
   refine Vr (O.m rfl (O.m rfl (O.q rfl (Pu.indexAddr (i) rfl ut25 sz40 rfl rfl (by omega) (by omega) (hq.top.some (by omega))) ?_)))
   have e1 : i < q.length := by have := tops_len q; omega
   refine O.q rfl (Pu.load rfl pl40 rfl (Ld.row (Ld.old hq.top) hq.len e1 rfl)) (O.m rfl (O.f rfl (Ef.callP call13 rfl rfl (fun w hw => szInt64S_ok ((q[i]'e1).2) _ _ _ w (by first | omega | exact LenOk.le hq.len (by omega)) (by omega))) ?_))
   rintro _ _ ⟨rfl, rfl⟩
   refine O.m rfl (Zb (O.m rfl (O.q rfl (Pu.lss rfl rfl rfl) (Zf (V.condD rfl (fun c3 => ?_) (fun c3 => ?_))))))
   ·exact Za (O.m rfl (Ze (Xq (Xr (Xr (Xq (Xr (X.ret1 rfl rfl (fun w hw => St.mkExi (-1 : Int) (St.addPur ⟨rfl, ⟨by omega, fun h => absurd h (by decide)⟩⟩ (hw.sub (Sub.nil _))))))))))))
   ·have hrp := roomLeft_pos c3
    exact Zg (O.m rfl (O.q rfl (Pu.add64 (r := ((i + 1 : Nat) : Int)) rfl (by omega) rfl rfl rfl) (O.m rfl (On (X.back2 ((roomLeft ((q[i]'e1).2).length left_), i + 1) (by (try dsimp only); exact ⟨by omega, by omega, by omega⟩) (by first | omega | (dsimp only; omega)) (Ent.cons rfl (Ent.cons rfl (Ent.nil _))) (Ent.cons (t := 0) rfl (Ent.nil _)) (Sub.nil _))))))
  ·refine Zd (O.m rfl (O.m rfl (Ze ?_)))
   exact X.ret1 rfl rfl (fun w hw => St.mkExi left_ (St.addPur ⟨rfl, ⟨by omega, fun _ => by have := sumL_all q; have e : i = q.length := (by omega); rw [e] at hs; omega⟩⟩ (hw.sub (Sub.nil _))))
set_option maxRecDepth 100000 in
theorem toInt64S_ok (bs : List Int) (A : Option Addr) (c : Nat) (w : World) (hx : Rd I64 w A bs) (lx : bs.length ≤ 1099511627776) : Does Try.prog 19 [.slice A bs.length c] w [] (fun v => [.exi fun A' : Option Addr => .sep (.pur (A'.isSome = true ∧ v = .slice A' bs.length bs.length)) (Own 2 I64 A' bs.length bs)]) := by
 refine Does.enter Try.func19 rfl rfl [(0, .slice A bs.length c)] rfl (Za (O.m rfl (Zb (O.m rfl (O.q rfl (Pu.len rfl ut40 rfl) (O.f rfl (Ef.make I64 (0 : Int) rfl ut40 inf2 rfl rfl rfl rfl (by omega) (by omega)) ?_))))))
 rintro _ _ ⟨A1, hA1, rfl, rfl⟩
 refine O.m rfl (Zc (O.m rfl (Zi (V.loop2 (β := Nat) (fun k => [(4, .int .i64 (k : Int))]) _ (fun k => [Own 2 I64 A1 bs.length (fill bs 0 k)]) (fun k => k ≤ bs.length) (fun k => bs.length - k) 0 (by omega) (Ent.cons rfl (Ent.nil _)) (Ent.cons (t := 0) rfl (Ent.cons (t := 2) rfl (Ent.cons (t := 3) rfl (Ent.nil _)))) (Sub.cons 0 rfl (fun w F h => by rw [fill_zero]; exact h) (Sub.nil _)) ?_))))
 rintro k hk
 refine Zj (O.m rfl (O.m rfl (O.q rfl (Pu.len rfl ut40 rfl) (O.q rfl (Pu.lss rfl rfl rfl) (Zf (V.condD rfl (fun c1 => ?_) (fun c1 => ?_)))))))
 ·refine Vk (Xn (Vs (Vb (Vr (O.m rfl (O.m rfl (O.m rfl (O.m rfl (O.q rfl (Pu.indexAddr (k) rfl ut40 sz2 rfl rfl (by omega) (by omega) (hx.some (by omega))) ?_)))))))))
  have e1 : k < bs.length := by omega
  refine O.q rfl (Pu.load rfl pl2 rfl (Ld.rd (Ld.old hx) (k := k) e1 rfl rfl)) (O.q rfl (Pu.indexAddr (k) rfl ut40 sz2 rfl rfl (by omega) (by omega) hA1) (O.s rfl rfl (Ef.storeOwn 0 (k) (bs[k]'e1) rfl sz2 rfl rfl rfl rfl (by rw [fill_length (by omega)]; omega) rfl) ?_))
  rintro _ _ rfl
  exact Zk (O.m rfl (O.q rfl (Pu.add64 (r := ((k + 1 : Nat) : Int)) rfl (by omega) rfl rfl rfl) (O.m rfl (On (X.back2 (k + 1) (by omega) (by omega) (Ent.cons rfl (Ent.nil _)) (Ent.cons (t := 0) rfl (Ent.cons (t := 2) rfl (Ent.cons (t := 3) rfl (Ent.nil _)))) (Sub.cons 0 rfl (fun w F h => by rw [fill_set (by omega)] at h; exact h) (Sub.nil _)))))))
 ·refine Zd (O.m rfl (O.m rfl (Ze ?_)))
  exact X.ret1 rfl rfl (fun w hw => St.retX A1 ⟨hA1, rfl⟩ (hw.sub (Sub.cons 0 rfl (fun w F h => by rwa [fill_all (by omega)] at h) (Sub.nil _))))
set_option maxRecDepth 100000 in
set_option maxHeartbeats 1000000 in
theorem toInt64SS_ok (ps : List (Sl × List Int)) (A : Option Addr) (c : Nat) (w : World) (hx : RdL I64 w A ps) (lx : ps.length ≤ 1099511627776) (lr : ∀ k (hk : k < ps.length), (ps[k]).2.length ≤ 1099511627776) : Does Try.prog 8 [.slice A (tops ps).length c] w [] (fun v => [.exi fun (rA : Option Addr) => .exi fun (rc : Nat) => .exi fun (r : List (Sl × List Int)) => .sep (.pur (v = .slice rA (tops r).length rc ∧ conts r = conts ps ∧ RowOk r)) (.sep (Own 40 SlC rA rc (tops r)) (RowsA 2 I64 r))]) := by
 have htl := tops_len ps
 refine Does.enter Try.func8 rfl rfl [(0, .slice A (tops ps).length c)] rfl (Za (O.m rfl (Zb (O.m rfl (O.q rfl (Pu.len rfl ut25 rfl) (O.f rfl (Ef.make SlC (⟨none, 0, 0⟩ : Sl) rfl ut25 inf40 rfl rfl rfl rfl (by omega) (by omega)) ?_))))))
 rintro _ _ ⟨rA, hrA, rfl, rfl⟩
 refine O.m rfl (Zf (V.pre (fun w hw => RowsA.nil (T := 2) (C := I64) hw) (Zj (O.m rfl (Zi (V.loop (α := List (Sl × List Int)) (fun r => [(0, .slice A (tops ps).length c), (3, .slice rA (tops ps).length (tops ps).length), (4, .int .i64 (r.length : Int))]) (fun r => [RowsA 2 I64 r, Own 40 SlC rA (tops ps).length (tops r ++ List.replicate ((tops ps).length - r.length) (⟨none, 0, 0⟩ : Sl))]) (fun r => conts r = (conts ps).take r.length ∧ r.length ≤ ps.length ∧ RowOk r) (fun r => ps.length - r.length) [] ⟨rfl, Nat.zero_le _, fun p hp => by cases hp⟩ (Ent.cons rfl (Ent.cons rfl (Ent.cons rfl (Ent.nil _)))) (Sub.s [0,0] rfl) ?_))))))
 rintro r ⟨hr, hl, hok⟩
 refine Zj (O.m rfl (O.m rfl (O.q rfl (Pu.len rfl ut25 rfl) (O.q rfl (Pu.lss rfl rfl rfl) (Zf (V.condD rfl (fun c1 => ?_) (fun c1 => ?_)))))))
 ·have e1 : r.length < ps.length := by omega
  refine Vk (Xn (Vs (Vb (Vr (O.m rfl (O.m rfl (O.m rfl (O.m rfl (O.q rfl (Pu.indexAddr (r.length) rfl ut25 sz40 rfl rfl (by omega) (by omega) (hx.top.some (by omega))) (O.q rfl (Pu.load rfl pl40 rfl (Ld.row (Ld.old hx.top) hx.len e1 rfl)) (O.f rfl (Ef.call1 call19 rfl rfl (fun w hw => toInt64S_ok _ _ _ w ((Ld.old (hx.row r.length e1)) w hw) (lr _ e1))) ?_)))))))))))
  rintro v _ rfl
  refine O.exi fun A2 => O.sep (O.pur ?_)
  rintro ⟨hA2, rfl⟩
  refine O.q rfl (Pu.indexAddr (r.length) rfl ut25 sz40 rfl rfl (by omega) (by omega) hrA) (O.s rfl rfl (Ef.storeOwn 2 (r.length) (⟨A2, (ps[r.length]).2.length, (ps[r.length]).2.length⟩ : Sl) rfl sz40 rfl rfl rfl rfl (by simp only [List.length_append, List.length_replicate, tops_len]; omega) rfl) ?_)
  rintro _ _ rfl
  refine Zk (O.m rfl (O.q rfl (Pu.add64 (r := ((r.length + 1 : Nat) : Int)) rfl (by omega) rfl rfl rfl) (O.m rfl (On ?_))))
  intro w hw a ha
  have hq : ∀ x : Sl × List Int, (r ++ [x]).length = r.length + 1 := fun x => by simp
  refine ⟨r ++ [(⟨A2, (ps[r.length]).2.length, (ps[r.length]).2.length⟩, (ps[r.length]).2)], ⟨?_, by rw [hq]; omega, ?_⟩, by dsimp only; rw [hq]; omega, ?_, ?_⟩
  ·rw [hq, conts_append, hr, take_snoc (by rw [conts_len]; exact e1), conts_get]
   rfl
  ·intro p hp
   rcases List.mem_append.1 hp with h | h
   ·exact hok p h
   ·obtain rfl := List.mem_singleton.1 h
    refine ⟨Nat.le_refl _, fun h2 => ?_⟩
    simp only at h2
    rw [h2] at hA2
    cases hA2
  ·dsimp only
   rw [hq]
   exact ha.ent (Ent.cons rfl (Ent.cons rfl (Ent.cons rfl (Ent.nil _))))
  ·have h1 := RowsA.perm (List.perm_append_comm (l₁ := [(⟨A2, (ps[r.length]).2.length, (ps[r.length]).2.length⟩, (ps[r.length]).2)]) (l₂ := r)) (RowsA.cons hw)
   dsimp only
   rw [← fill_next (by omega)]
   exact h1
 ·have e : r.length = ps.length := by omega
  refine Zd (O.m rfl (O.m rfl (Ze ?_)))
  have e2 : tops r ++ List.replicate ((tops ps).length - r.length) (⟨none, 0, 0⟩ : Sl) = tops r := by rw [e, htl]; simp
  rw [e2]
  exact X.ret1 rfl rfl (fun w hw => St.mkExi rA (St.mkExi (tops ps).length (St.mkExi r (St.addPur ⟨by rw [tops_len, tops_len, e], by rw [hr, e]; exact List.take_of_length_le (by rw [conts_len]; exact Nat.le_refl _), hok⟩ (hw.perm (.swap _ _ _)).unsep).unsep)))
set_option maxRecDepth 100000 in
set_option maxHeartbeats 1000000 in
theorem FnExactIsResolution_ok (v : Int) (bs : List B3) (aClasses : List (Sl × List Int)) (A : Option Addr) (c : Nat) (aClassesA : Option Addr) (aClassesc : Nat) (w : World) (hx : Rd B3C w A bs) (haClasses : RdL I64 w aClassesA aClasses) (lx : bs.length ≤ 9223372036854775807) (laClasses : aClasses.length ≤ 9223372036854775807) : Does Try.prog 3 [.agg #[.int .i64 v, .slice A bs.length c], .slice aClassesA (tops aClasses).length aClassesc] w [] (fun r => [.pur (r = .bool true)]) := by
 refine Does.enter Try.func3 rfl rfl [(0, .agg #[.int .i64 v, .slice A bs.length c]), (1, .slice aClassesA (tops aClasses).length aClassesc)] rfl (Za (O.f rfl (Ef.box rfl rfl rfl) ?_))
 rintro _ _ ⟨b1, rfl, rfl⟩
 refine O.m rfl (Zb (O.m rfl (Zb (O.q rfl (Pu.loadAgg rfl ag24 sz24 rfl rfl (Ld.whole 0 rfl)) (O.m rfl ?_)))))
 refine O.f rfl (Ef.callP call4 rfl rfl (fun w hw => szSystem_ok _ _ bs _ _ w (by first | omega | (unfold roomLeft at *; split at * <;> omega)) (by omega))) ?_
 rintro _ _ ⟨rfl, rfl⟩
 refine O.m rfl (Zc (O.m rfl (O.q rfl (Pu.lss rfl rfl rfl) (Zf (V.condD rfl (fun c1 => ?_) (fun c1 => ?_))))))
 ·exact Za (O.m rfl (Ze (Xr (X.ret1 rfl rfl (fun w hw => St.retP rfl hw)))))
 ·have hk : bs.length ≤ 1048576 := by unfold roomLeft at c1; split at c1 <;> omega
  refine Vk (Xn (Za (O.m rfl (O.m rfl (O.f rfl (Ef.call1 call5 rfl rfl (fun w hw => szInt64SS_ok  aClasses (roomLeft bs.length (1048576 : Int)) _ _ w ((fun w hw => haClasses.st hw) w hw) (by first | omega | (simp only [tops_len, conts_len, bl, List.length_append, List.length_cons, List.length_nil] at *; omega)) (by unfold roomLeft at *; split at * <;> omega))) ?_)))))
  rintro _ _ rfl
  refine O.exi (fun r1 => O.pur ?_)
  rintro ⟨rfl, hr1_1, hr1_2⟩
  refine O.m rfl (Zc (O.m rfl (O.q rfl (Pu.lss rfl rfl rfl) (Zf (V.condD rfl (fun c2 => ?_) (fun c2 => ?_))))))
  ·exact Za (O.m rfl (Ze (Xr (X.ret1 rfl rfl (fun w hw => St.retP rfl hw)))))
  ·have hsm := hr1_2 (by omega)
   have hsum : (conts aClasses).flatten.length ≤ 1048576 := by omega
   have hcn : aClasses.length ≤ 1048576 := by omega
   refine Vk (Xn (Za (O.q rfl (Pu.loadAgg rfl ag24 sz24 rfl rfl (Ld.whole 0 rfl)) (O.f rfl (Ef.call1 call7 rfl rfl (fun w hw => toSystem_ok _ bs _ _ w ((Ld.old hx) w hw) (by omega))) ?_))))
   rintro _ _ rfl
   refine O.exi (fun A1 => O.sep (O.pur ?_))
   rintro ⟨hA1, rfl⟩
   refine O.m rfl (O.f rfl (Ef.call1 call8 rfl rfl (fun w hw => toInt64SS_ok  aClasses _ _ w ((fun w hw => haClasses.st hw) w hw) (by omega) (fun k hk => by have := row_flat hk; omega))) ?_)
   rintro _ _ rfl
   refine O.exi (fun r2A => O.exi (fun r2c => O.exi (fun r2 => O.sep (O.pur ?_))))
   rintro ⟨rfl, hr2_1, hr2_2⟩
   refine O.sep (O.fact (RowsA.len 1 rfl) (fun hn_r2 => ?_))
   have htl_r2 := tops_len r2
   have hrl_r2 : r2.length = aClasses.length := by have h1 := conts_len r2; have h2 := conts_len aClasses; rw [hr2_1] at h1; omega
   refine O.f rfl (Ef.callP call6 rfl rfl (fun w hw => specIsResolution_ok  v bs r2 _ _ _ _ w ((Ld.own 2 (by exact rfl)) w hw) ((Ld.ll 0 1 (by exact rfl) (by exact rfl)) w hw) (by first | omega | (simp only [tops_len, conts_len, bl, List.length_append, List.length_cons, List.length_nil] at *; omega)) (by have := conts_len r2; have := conts_len aClasses; rw [hr2_1] at *; omega) (by rw [hr2_1]; exact hsum))) ?_
   rintro _ _ ⟨rfl, rfl⟩
   refine O.m rfl (O.m rfl (O.m rfl (O.m rfl (O.m rfl (Zb (O.q rfl (Pu.loadAgg rfl ag24 sz24 rfl rfl (Ld.whole 3 rfl)) (O.f rfl (Ef.call1 call7 rfl rfl (fun w hw => toSystem_ok _ bs _ _ w ((Ld.old hx) w hw) (by omega))) ?_)))))))
   rintro _ _ rfl
   refine O.exi (fun A2 => O.sep (O.pur ?_))
   rintro ⟨hA2, rfl⟩
   refine O.f rfl (Ef.alloc rfl zr32 rfl) ?_
   rintro _ _ ⟨b2, rfl, rfl⟩
   refine O.s rfl rfl (Ef.storeAll 0 rfl sz32 rfl rfl rfl rfl (by simp [Value.oneCell']) rfl) ?_
   rintro _ _ rfl
   refine Zb (O.m rfl (O.f rfl (Ef.call1 call8 rfl rfl (fun w hw => toInt64SS_ok  aClasses _ _ w ((fun w hw => haClasses.st hw) w hw) (by omega) (fun k hk => by have := row_flat hk; omega))) ?_))
   rintro _ _ rfl
   refine O.exi (fun r3A => O.exi (fun r3c => O.exi (fun r3 => O.sep (O.pur ?_))))
   rintro ⟨rfl, hr3_1, hr3_2⟩
   refine O.sep (O.fact (RowsA.len 1 rfl) (fun hn_r3 => ?_))
   have htl_r3 := tops_len r3
   have hrl_r3 : r3.length = aClasses.length := by have h1 := conts_len r3; have h2 := conts_len aClasses; rw [hr3_1] at h1; omega
   refine O.m rfl (Zb (O.q rfl (Pu.loadAgg rfl ag32 sz32 rfl rfl (Ld.whole 2 rfl)) (O.m rfl (O.f rfl (Ef.callP call9 rfl rfl (fun w hw => implIsResolution_ok  v bs r3 _ _ _ _ w ((Ld.own 3 (by exact rfl)) w hw) ((Ld.ll 0 1 (by exact rfl) (by exact rfl)) w hw) (by first | omega | (simp only [tops_len, conts_len, bl, List.length_append, List.length_cons, List.length_nil] at *; omega)) (by have := conts_len r3; have := conts_len aClasses; rw [hr3_1] at *; omega) (by rw [hr3_1]; exact hsum) hr3_2)) ?_))))
   rintro _ _ ⟨rfl, rfl⟩
   refine O.m rfl (O.m rfl (O.m rfl (O.m rfl (O.m rfl (Zc (O.m rfl (O.m rfl ?_)))))))
   refine O.q rfl (Pu.boolNeq ut4 rfl rfl rfl) (O.m rfl (O.splitB 43 rfl (fun c3 => ?_) (fun c3 => ?_)))
   ·exact absurd c3 (by simp [hr2_1, hr3_1])
   ·refine O.gm rfl (O.gm rfl (O.gq rfl (Pu.neq rfl rfl rfl) (O.m rfl (Zf (V.condNot rfl (fun c4 => ?_) (fun c4 => ?_))))))
    ·exact Za (O.m rfl (Ze (Xr (X.ret1 rfl rfl (absurd (by first | assumption | rfl | exact ⟨rfl, rfl⟩ | exact ⟨rfl, by assumption⟩ | exact ⟨⟨rfl, by assumption⟩, rfl, by assumption⟩ | omega | (simp only [*]; done) | (rw [rfl])) c4)))))
    ·refine Vk (Xn (Vs (Vs (V.draw mo (by kernel_rfl) (fun hwf => D.q 0 rfl (Pu.loadAgg rfl ag32 sz32 rfl rfl (Ld.whole 2 rfl)) (D.q 1 rfl (Pu.loadAgg rfl ag24 sz24 rfl rfl (Ld.whole 7 rfl)) (D.f hwf 2 rfl (Ef.call1 call7 rfl rfl (fun w hw => toSystem_ok _ bs _ _ w ((Ld.old hx) w hw) (by omega))) ?_)))))))
     rintro _ _ rfl hs
     refine ⟨fun w hw => hs w hw.tail, (D.exi (fun A3 => D.sep (D.pur1 ?_)))⟩
     rintro ⟨hA3, rfl⟩
     refine D.f hwf 3 rfl (Ef.callP call10 rfl rfl (fun w hw => eqSystem_ok _ _ bs bs _ _ _ _ w ((Ld.own 4 (by exact rfl)) w hw) ((Ld.own 0 (by exact rfl)) w hw) (by omega) (by omega))) ?_
     rintro _ _ ⟨rfl, rfl⟩ hs
     refine ⟨fun w hw => hw.sub (Sub.s [1,1,1,1,1,1,1,1] rfl), (D.q 4 rfl (Pu.not rfl rfl) (D.done hwf rfl (Xn (V.condNot rfl (fun c5 => ?_) (fun c5 => ?_)))))⟩
     ·exact Za (O.m rfl (Ze (Xr (X.ret1 rfl rfl (absurd (by first | assumption | rfl | exact ⟨rfl, rfl⟩ | exact ⟨rfl, by assumption⟩ | exact ⟨⟨rfl, by assumption⟩, rfl, by assumption⟩ | omega | (simp only [*]; done) | (rw [rfl])) c5)))))
     ·refine Vk (Xn (Zj (O.m rfl (O.m rfl (O.f rfl (Ef.call1 call8 rfl rfl (fun w hw => toInt64SS_ok  aClasses _ _ w ((fun w hw => haClasses.st hw) w hw) (by omega) (fun k hk => by have := row_flat hk; omega))) ?_)))))
      rintro _ _ rfl
      refine O.exi (fun r4A => O.exi (fun r4c => O.exi (fun r4 => O.sep (O.pur ?_))))
      rintro ⟨rfl, hr4_1, hr4_2⟩
      refine O.sep (O.fact (RowsA.len 1 rfl) (fun hn_r4 => ?_))
      have htl_r4 := tops_len r4
      have hrl_r4 : r4.length = aClasses.length := by have h1 := conts_len r4; have h2 := conts_len aClasses; rw [hr4_1] at h1; omega
      refine O.f rfl (Ef.callP call11 rfl rfl (fun w hw => eqInt64SS_ok r3 r4 _ _ _ _ w ((Ld.ll 3 4 (by exact rfl) (by exact rfl)) w hw) ((Ld.ll 0 1 (by exact rfl) (by exact rfl)) w hw) (by omega) (by omega))) ?_
      rintro _ _ ⟨rfl, rfl⟩
      refine O.q rfl (Pu.not rfl rfl) (Zf (V.condNot rfl (fun c6 => ?_) (fun c6 => ?_)))
      ·exact Za (O.m rfl (Ze (Xr (X.ret1 rfl rfl (absurd (by first | assumption | rfl | exact ⟨rfl, rfl⟩ | exact ⟨rfl, by assumption⟩ | exact ⟨⟨rfl, by assumption⟩, rfl, by assumption⟩ | omega | (simp only [*]; done) | (rw [rfl])) c6)))))
      ·exact Vk (Xn (Za (O.m rfl (Ze (X.ret1 rfl rfl (fun w hw => St.retP rfl hw))))))
end Go.Proofs.Ytgfpljeppfaolaa
