/-
  The first system that is apart.
-/
import Derived.Test.YtjpfngmoabnffaaD10
import Derived.Test.YtjpfngmoabnffaaPureApart
import Derived.Test.YtjpfngmoabnffaaVcRet
set_option linter.unusedVariables false
set_option linter.unusedSimpArgs false
namespace Go.Proofs.Ytjpfngmoabnffaa
open Go Go.RowKit Go.Vc Go.Proofs
set_option maxRecDepth 100000 in
set_option maxHeartbeats 1000000 in
theorem implCommon_ok (xs : List B3) (ys : List B3) (xsA : Option Addr) (xsc : Nat) (ysA : Option Addr) (ysc : Nat) (w : World) (hxs : Rd B3C w xsA xs) (hys : Rd B3C w ysA ys) (lxs : xs.length ≤ 1099511627776) (lys : ys.length ≤ 1099511627776) : Does Try.prog 79 [.slice xsA xs.length xsc, .slice ysA ys.length ysc] w [] (fun rv_ => [.exi fun (rA : Option Addr) => .exi fun (rc : Nat) => .exi fun (r : List B3) => .sep (.pur (rv_ = .slice rA r.length rc ∧ r = (xs.filter fun b => decide (b ∈ ys)))) (Own 75 B3C rA rc r)]) := by
  refine Does.enter Try.func79 rfl rfl [(0, .slice xsA xs.length xsc), (1, .slice ysA ys.length ysc)] rfl ?_
  refine V.seq ?_
  refine V.region ?_
  refine O.p rfl rfl rfl (Pu.assign rfl rfl) ?_
  refine O.nil ?_
  refine X.next ?_
  refine V.seq ?_
  refine V.region ?_
  refine O.p rfl rfl rfl (Pu.assign rfl rfl) ?_
  refine O.nil ?_
  refine X.next ?_
  refine V.seq ?_
  refine V.seq ?_
  refine V.region ?_
  refine O.p rfl rfl rfl (Pu.move rfl rfl) ?_
  refine O.p rfl rfl rfl (Pu.len rfl Try.underlying28 rfl) ?_
  refine O.p rfl rfl rfl (Pu.move rfl rfl) ?_
  refine O.nil ?_
  refine X.next ?_
  refine V.block ?_
  refine V.map (fun w hw => St.addNil (T := 75) (C := B3C) hw) ?_
  refine V.loop2 (β := (Option Addr) × Nat × (List B3) × Nat) (fun x => [(5, .slice x.1 x.2.2.1.length x.2.1), (10, .int .i64 (x.2.2.2 : Int))]) _ (fun x => [Own 75 B3C x.1 x.2.1 x.2.2.1]) (fun x => x.2.2.2 ≤ xs.length ∧ x.2.2.1 = ((xs.take x.2.2.2).filter fun b => decide (b ∈ ys))) (fun x => xs.length - x.2.2.2) (none, 0, [], 0) (by (try dsimp only); exact ⟨by omega, rfl⟩) (Ent.cons rfl (Ent.cons rfl (Ent.nil _))) (Ent.cons (t := 1) rfl (Ent.cons (t := 8) rfl (Ent.cons (t := 9) rfl (Ent.nil _)))) (Sub.keep 0 rfl (Sub.nil _)) ?_
  rintro ⟨outA, outc, out, i⟩ ⟨hi, ho⟩
  dsimp only at hi ho ⊢
  have hol : out.length ≤ xs.length := by rw [ho]; exact Nat.le_trans (List.length_filter_le _ _) (by rw [List.length_take]; omega)
  refine V.seq ?_
  refine V.region ?_
  refine O.p rfl rfl rfl (Pu.lss rfl rfl rfl) ?_
  refine O.nil ?_
  refine X.next ?_
  refine V.seq ?_
  refine V.condD rfl (fun c1 => ?_) (fun c1 => ?_)
  · skip
    refine V.skip ?_
    refine X.next ?_
    refine V.seq ?_
    refine V.block ?_
    refine V.seq ?_
    refine V.region ?_
    refine O.p rfl rfl rfl (Pu.indexAddr (i) rfl Try.underlying28 sz75 rfl rfl (by omega) (by omega) (hxs.some (by omega))) ?_
    have e1 : i < xs.length := by omega
    refine O.p rfl rfl rfl (Pu.loadAgg' (v := B3.v (xs[i]'e1)) rfl rfl ag75 sz75 rfl rfl (Ld.rds (Ld.old hxs) (k := i) e1 rfl)) ?_
    refine O.e rfl rfl rfl (Ef.alloc rfl zr75 rfl) ?_
    rintro _ _ ⟨b1, rfl, rfl⟩
    refine O.s rfl rfl (Ef.storeAll 0 rfl sz75 rfl rfl rfl rfl (by simp [Value.oneCell']) rfl) ?_
    rintro _ _ rfl
    refine O.nil ?_
    refine X.next ?_
    refine V.seq ?_
    refine V.region ?_
    refine O.p rfl rfl rfl (Pu.move rfl rfl) ?_
    refine O.p rfl rfl rfl (Pu.loadAgg' (v := B3.v (xs[i]'e1)) rfl rfl ag75 sz75 rfl rfl (Ld.whole 0 rfl)) ?_
    refine O.e rfl rfl rfl (Ef.callP call147 rfl rfl (fun w hw => containsBl_ok  ys (xs[i]'e1) _ _ w ((Ld.old hys) w hw) (by first | omega | (simp only [tops_len, conts_len, bl, List.length_append, List.length_cons, List.length_nil] at *; omega)) )) ?_
    rintro _ _ ⟨rfl, rfl⟩
    refine O.nil ?_
    refine X.next ?_
    refine V.condD rfl (fun c2 => ?_) (fun c2 => ?_)
    · skip
      refine V.region ?_
      refine O.p rfl rfl rfl (Pu.move rfl rfl) ?_
      refine O.p rfl rfl rfl (Pu.loadAgg' (v := B3.v (xs[i]'e1)) rfl rfl ag75 sz75 rfl rfl (Ld.whole 0 rfl)) ?_
      refine O.e rfl rfl rfl (Ef.build B3C ([(xs[i]'e1)] : List B3) rfl Try.underlying28 inf75 rfl rfl rfl (by first | decide | (simp; done)) (by kernel_rfl)) ?_
      rintro _ _ ⟨A1, hA1, rfl, rfl⟩
      refine O.e rfl rfl rfl (Ef.append (xs := out) (ys := ([(xs[i]'e1)] : List B3)) 2 rfl Try.underlying28 inf75 rfl rfl rfl rfl rfl rfl hA1 (Ld.own 0 (by exact rfl)) (by simp only [List.length_append, List.length_cons, List.length_nil] at *; omega) (by decide)) ?_
      rintro _ _ ⟨A2, k1, rfl, rfl, hA2⟩
      replace hA2 := hA2 (.inr (by simp))
      refine O.p rfl rfl rfl (Pu.assign rfl rfl) ?_
      refine O.nil ?_
      refine X.blockNormal ?_
      refine X.next ?_
      refine V.region ?_
      refine O.p rfl rfl rfl (Pu.add64 (r := ((i + 1 : Nat) : Int)) rfl (by omega) rfl rfl rfl) ?_
      refine O.p rfl rfl rfl (Pu.move rfl rfl) ?_
      refine O.nil ?_
      exact X.back2 (A2, k1, (out ++ ([(xs[i]'e1)] : List B3)), i + 1) (by (try dsimp only); exact ⟨by omega, by rw [take_snoc (by omega), List.filter_append, ho]; simp [c2]⟩) (by first | omega | (dsimp only; omega)) (Ent.cons rfl (Ent.cons rfl (Ent.nil _))) (Ent.cons (t := 1) rfl (Ent.cons (t := 8) rfl (Ent.cons (t := 9) rfl (Ent.nil _)))) (Sub.keep 2 rfl (Sub.nil _))
    · skip
      refine V.skip ?_
      refine X.blockNormal ?_
      refine X.next ?_
      refine V.region ?_
      refine O.p rfl rfl rfl (Pu.add64 (r := ((i + 1 : Nat) : Int)) rfl (by omega) rfl rfl rfl) ?_
      refine O.p rfl rfl rfl (Pu.move rfl rfl) ?_
      refine O.nil ?_
      exact X.back2 (outA, outc, out, i + 1) (by (try dsimp only); exact ⟨by omega, by rw [take_snoc (by omega), List.filter_append, ho]; simp [c2]⟩) (by first | omega | (dsimp only; omega)) (Ent.cons rfl (Ent.cons rfl (Ent.nil _))) (Ent.cons (t := 1) rfl (Ent.cons (t := 8) rfl (Ent.cons (t := 9) rfl (Ent.nil _)))) (Sub.keep 1 rfl (Sub.nil _))
  · skip
    refine V.exit ?_
    refine X.thenExit ?_
    refine X.thenExit ?_
    refine X.blockHit ?_
    refine X.next ?_
    refine V.seq ?_
    refine V.region ?_
    refine O.p rfl rfl rfl (Pu.move rfl rfl) ?_
    refine O.p rfl rfl rfl (Pu.assign rfl rfl) ?_
    refine O.nil ?_
    refine X.next ?_
    refine V.ret ?_
    refine X.ret1 rfl rfl ?_
    exact fun w hw => St.mkExi outA (St.mkExi outc (St.mkExi out (St.unsep (St.addPur ⟨rfl, by rw [ho, List.take_of_length_le (by omega)]⟩ (hw.sub (Sub.keep 0 rfl (Sub.nil _)))))))

set_option maxRecDepth 100000 in
set_option maxHeartbeats 1000000 in
theorem implFirstApart_ok (v : Int) (bs : List B3) (A : Option Addr) (c : Nat) (w : World) (hx : Rd B3C w A bs) (lx : bs.length ≤ 4611686018427387904) : Does Try.prog 29 [.agg #[.int .i64 v, .slice A bs.length c]] w [] (fun r => [.exi fun (oA : Option Addr) => .exi fun (oc : Nat) => .exi fun (o : List B3) => .sep (.pur (r = .tuple #[.agg #[.int .i64 ((apR v bs).1), .slice oA o.length oc], .int .i64 ((apR v bs).2.2)] ∧ o = (apR v bs).2.1)) (Own 75 B3C oA oc o)]) := by
  refine Does.enter Try.func29 rfl rfl [(0, .agg #[.int .i64 v, .slice A bs.length c])] rfl ?_
  refine V.seq ?_
  refine V.region ?_
  refine O.e rfl rfl rfl (Ef.box rfl rfl rfl) ?_
  rintro _ _ ⟨b1, rfl, rfl⟩
  refine O.e rfl rfl rfl (Ef.alloc rfl zr30 rfl) ?_
  rintro _ _ ⟨b2, rfl, rfl⟩
  refine O.p rfl rfl rfl (Pu.assign rfl rfl) ?_
  refine O.nil ?_
  refine X.next ?_
  refine V.seq ?_
  refine V.seq ?_
  refine V.region ?_
  refine O.p rfl rfl rfl (Pu.loadAgg rfl ag30 sz30 rfl rfl (Ld.whole 1 rfl)) ?_
  refine O.e rfl rfl rfl (Ef.callP call64 rfl rfl (fun w hw => fewCode_ok  v bs _ _ w ((Ld.old hx) w hw) (by first | omega | (simp only [tops_len, conts_len, bl, List.length_append, List.length_cons, List.length_nil] at *; omega)) )) ?_
  rintro _ _ ⟨rfl, rfl⟩
  refine O.p rfl rfl rfl (Pu.assign rfl rfl) ?_
  refine O.nil ?_
  refine X.next ?_
  refine V.seq ?_
  refine V.region ?_
  refine O.p rfl rfl rfl (Pu.move rfl rfl) ?_
  refine O.p rfl rfl rfl (Pu.neq rfl rfl rfl) ?_
  refine O.nil ?_
  refine X.next ?_
  refine V.condNot rfl (fun c1 => ?_) (fun c1 => ?_)
  · skip
    refine V.seq ?_
    refine V.region ?_
    refine O.p rfl rfl rfl (Pu.buildS (cs := [.int .i64 (0 : Int), .slice none 0 0]) rfl rfl Try.underlying30 zr30 (by kernel_rfl) rfl (by kernel_rfl)) ?_
    refine O.p rfl rfl rfl (Pu.move rfl rfl) ?_
    refine O.s rfl rfl (Ef.storeAll 0 rfl sz30 rfl rfl rfl rfl (by simp [Value.oneCell']) rfl) ?_
    rintro _ _ rfl
    refine O.p rfl rfl rfl (Pu.assign rfl rfl) ?_
    refine O.nil ?_
    refine X.next ?_
    refine V.ret ?_
    refine X.thenRet ?_
    refine X.retCell2 rfl ag30 sz30 rfl rfl rfl (Ld.whole 0 rfl) ?_
    exact fun w hw => St.mkExi none (St.mkExi 0 (St.mkExi [] (St.unsep (St.addPur ⟨(by rw [apR_no rfl c1]; try rfl), (by rw [apR_no rfl c1])⟩ (St.addNil (T := 75) (C := B3C) (hw.sub (Sub.nil _)))))))
  · skip
    have hS : STS v bs := by apply Decidable.byContradiction; intro h; rw [if_neg h] at c1; exact absurd c1 (by decide)
    rw [if_pos hS] at c1
    have hF : Few v bs := by apply Decidable.byContradiction; intro h; rw [if_neg h] at c1; exact absurd c1 (by decide)
    clear c1
    have hfl := few_len hF.1
    have hflt := few_lt hF.1
    have hfw := hS.few
    have hlb := few_left hF
    refine V.skip ?_
    refine X.next ?_
    refine V.seq ?_
    refine V.seq ?_
    refine V.region ?_
    refine O.p rfl rfl rfl (Pu.fieldAddr 0 rfl Try.underlying30 rfl sz2 rfl rfl) ?_
    refine O.p rfl rfl rfl (Pu.load rfl pl2 rfl (Ld.blk 1 rfl rfl)) ?_
    refine O.e rfl rfl rfl (Ef.call1 call66 rfl rfl (fun w hw => systemsOfI_ok 40 v w   hfl.2.2.2 hfl.2.2.1 hfl.2.1 hfl.1 (by decide))) ?_
    rintro _ _ rfl
    refine O.exi (fun r1A => ?_)
    refine O.exi (fun r1c => ?_)
    refine O.exi (fun r1 => ?_)
    refine O.sep ?_
    refine O.pur ?_
    rintro ⟨rfl, hr1_1⟩
    refine O.sep ?_
    refine O.fact (RowsA.len 1 rfl) (fun hn_r1 => ?_)
    have htl_r1 := tops_len r1
    have hclr1 := conts_len r1
    have hcl2 := hclr1
    rw [hr1_1] at hcl2
    have hrow : ∀ k (hk : k < r1.length), (r1[k]).2 ∈ compM 40 v.toNat 0 := fun k hk => by rw [← hr1_1]; exact List.mem_map_of_mem (List.getElem_mem hk)
    have hcm : ∀ k (hk : k < r1.length), (r1[k]).2.length = bs.length := fun k hk => by have h1 := comp_count 40 _ 0 _ hfl.2.2.1 (hrow k hk); omega
    have hcs : ∀ k (hk : k < r1.length), (r1[k]).2.Pairwise B3.lt := fun k hk => comp_sorted 40 _ 0 _ hfl.2.2.1 (hrow k hk)
    refine O.p rfl rfl rfl (Pu.len rfl Try.underlying70 rfl) ?_
    refine O.p rfl rfl rfl (Pu.move rfl rfl) ?_
    refine O.nil ?_
    refine X.next ?_
    refine V.block ?_
    refine V.loop3 (β := Nat) (fun i => [(17, .int .i64 (i : Int))]) _ (fun i => []) _ (fun i => i ≤ r1.length ∧ ∀ j (hj : j < r1.length), j < i → ¬ ApartB bs (r1[j]).2) (fun i => r1.length - i) 0 ⟨by omega, fun j hj h => by omega⟩ (Ent.cons rfl (Ent.nil _)) (Ent.cons (t := 1) rfl (Ent.cons (t := 2) rfl (Ent.cons (t := 15) rfl (Ent.cons (t := 16) rfl (Ent.nil _))))) (Sub.keep 0 rfl (Sub.keep 0 rfl (Sub.keep 0 rfl (Sub.keep 0 rfl (Sub.nil _))))) ?_
    rintro i ⟨hi, hno⟩
    refine V.seq ?_
    refine V.region ?_
    refine O.p rfl rfl rfl (Pu.lss rfl rfl rfl) ?_
    refine O.nil ?_
    refine X.next ?_
    refine V.seq ?_
    refine V.condD rfl (fun c2 => ?_) (fun c2 => ?_)
    · skip
      refine V.skip ?_
      refine X.next ?_
      refine V.seq ?_
      refine V.block ?_
      refine V.seq ?_
      refine V.region ?_
      refine O.p rfl rfl rfl (Pu.indexAddrS (i) rfl Try.underlying70 sz30 rfl rfl (by omega) (by omega) (fun w hw => Own.some hw (i := 0) (by exact rfl) (by omega))) ?_
      have e1 : i < r1.length := by have := tops_len r1; omega
      refine O.p rfl rfl rfl (Pu.loadAgg' (v := .agg #[.int .i64 v, .slice (r1[i]'e1).1.A (r1[i]'e1).2.length (r1[i]'e1).1.c]) rfl rfl ag30 sz30 rfl rfl (Ld.rowY (Ld.own 0 (by exact rfl)) hn_r1 e1 rfl)) ?_
      refine O.e rfl rfl rfl (Ef.alloc rfl zr30 rfl) ?_
      rintro _ _ ⟨b3, rfl, rfl⟩
      refine O.s rfl rfl (Ef.storeAll 0 rfl sz30 rfl rfl rfl rfl (by simp [Value.oneCell']) rfl) ?_
      rintro _ _ rfl
      refine O.nil ?_
      refine X.next ?_
      refine V.seq ?_
      refine V.region ?_
      refine O.p rfl rfl rfl (Pu.fieldAddr 1 rfl Try.underlying30 rfl sz28 rfl rfl) ?_
      refine O.p rfl rfl rfl (Pu.load rfl pl28 rfl (Ld.blk 4 rfl rfl)) ?_
      refine O.p rfl rfl rfl (Pu.fieldAddr 1 rfl Try.underlying30 rfl sz28 rfl rfl) ?_
      refine O.p rfl rfl rfl (Pu.load rfl pl28 rfl (Ld.blk 0 rfl rfl)) ?_
      refine O.e rfl rfl rfl (Ef.call1 call79 rfl rfl (fun w hw => implCommon_ok  bs ((r1[i]'e1).2) _ _ _ _ w ((Ld.old hx) w hw) ((Ld.rows 2 (by exact rfl) e1) w hw) (by first | omega | (simp only [tops_len, conts_len, bl, List.length_append, List.length_cons, List.length_nil] at *; omega)) (by have := hcm i e1; omega) )) ?_
      rintro _ _ rfl
      refine O.exi (fun r2A => ?_)
      refine O.exi (fun r2c => ?_)
      refine O.exi (fun r2 => ?_)
      refine O.sep ?_
      refine O.pur ?_
      rintro ⟨rfl, hr2_1⟩
      refine O.p rfl rfl rfl (Pu.len rfl Try.underlying28 rfl) ?_
      refine O.p rfl rfl rfl (Pu.eql rfl rfl rfl) ?_
      refine O.nil ?_
      refine X.next ?_
      refine V.condD rfl (fun c3 => ?_) (fun c3 => ?_)
      · skip
        have hap : ApartB bs (r1[i]'e1).2 := apart_I.1 (by rw [← hr2_1]; omega)
        refine V.seq ?_
        refine V.region ?_
        refine O.p rfl rfl rfl (Pu.loadAgg rfl ag30 sz30 rfl rfl (Ld.whole 1 rfl)) ?_
        refine O.s rfl rfl (Ef.storeAll 4 rfl sz30 rfl rfl rfl rfl (by simp [Value.oneCell']) rfl) ?_
        rintro _ _ rfl
        refine O.p rfl rfl rfl (Pu.assign rfl rfl) ?_
        refine O.nil ?_
        refine X.next ?_
        refine V.ret ?_
        refine X.blockRet ?_
        refine X.thenRet ?_
        refine X.thenRet ?_
        refine X.blockRet ?_
        refine X.thenRet ?_
        refine X.retCell2 rfl ag30 sz30 rfl rfl rfl (Ld.whole 4 rfl) ?_
        refine St.mapR (fun w hw => RowsA.out (T := 75) (C := B3C) (ps := r1) (k := i) (by omega) (hw.perm (pull_perm (i := 3) rfl))) ?_
        exact fun w hw => St.mkExi ((r1[i]).1.A) (St.mkExi ((r1[i]).1.c) (St.mkExi ((r1[i]).2) (St.unsep (St.addPur ⟨(by rw [apR_0 hS hF (firstA_at hr1_1 (by omega) hap hno)]; try rfl), (by rw [apR_0 hS hF (firstA_at hr1_1 (by omega) hap hno)])⟩ (hw.sub (Sub.keep 0 rfl (Sub.nil _)))))))
      · skip
        have hap : ¬ ApartB bs (r1[i]'e1).2 := fun h => c3 (by have h2 := apart_I.2 h; rw [← hr2_1] at h2; omega)
        refine V.skip ?_
        refine X.blockNormal ?_
        refine X.next ?_
        refine V.region ?_
        refine O.p rfl rfl rfl (Pu.add64 (r := ((i + 1 : Nat) : Int)) rfl (by omega) rfl rfl rfl) ?_
        refine O.p rfl rfl rfl (Pu.move rfl rfl) ?_
        refine O.nil ?_
        exact X.back3 (i + 1) ⟨by omega, fun j hj h => by by_cases e : j = i; (· subst e; exact hap); (· exact hno j hj (by omega))⟩ (by first | omega | (dsimp only; omega)) (Ent.cons rfl (Ent.nil _)) (Ent.cons (t := 1) rfl (Ent.cons (t := 2) rfl (Ent.cons (t := 15) rfl (Ent.cons (t := 16) rfl (Ent.nil _))))) (Sub.keep 2 rfl (Sub.keep 2 rfl (Sub.keep 2 rfl (Sub.keep 2 rfl (Sub.nil _)))))
    · skip
      refine V.exit ?_
      refine X.thenExit ?_
      refine X.thenExit ?_
      refine X.blockHit ?_
      refine X.next ?_
      refine V.seq ?_
      refine V.region ?_
      refine O.p rfl rfl rfl (Pu.buildS (cs := [.int .i64 (0 : Int), .slice none 0 0]) rfl rfl Try.underlying30 zr30 (by kernel_rfl) rfl (by kernel_rfl)) ?_
      refine O.s rfl rfl (Ef.storeAll 2 rfl sz30 rfl rfl rfl rfl (by simp [Value.oneCell']) rfl) ?_
      rintro _ _ rfl
      refine O.p rfl rfl rfl (Pu.assign rfl rfl) ?_
      refine O.nil ?_
      refine X.next ?_
      refine V.ret ?_
      refine X.retCell2 rfl ag30 sz30 rfl rfl rfl (Ld.whole 2 rfl) ?_
      exact fun w hw => St.mkExi none (St.mkExi 0 (St.mkExi [] (St.unsep (St.addPur ⟨(by rw [apR_4 hS hF (firstA_no hr1_1 (fun j hj => hno j hj (by omega)))]; try rfl), (by rw [apR_4 hS hF (firstA_no hr1_1 (fun j hj => hno j hj (by omega)))])⟩ (St.addNil (T := 75) (C := B3C) (hw.sub (Sub.nil _)))))))

set_option maxRecDepth 100000 in
set_option maxHeartbeats 1000000 in
theorem specFirstApart_ok (v : Int) (bs : List B3) (A : Option Addr) (c : Nat) (w : World) (hx : Rd B3C w A bs) (lx : bs.length ≤ 4611686018427387904) : Does Try.prog 28 [.agg #[.int .i64 v, .slice A bs.length c]] w [] (fun r => [.exi fun (oA : Option Addr) => .exi fun (oc : Nat) => .exi fun (o : List B3) => .sep (.pur (r = .tuple #[.agg #[.int .i64 ((apR v bs).1), .slice oA o.length oc], .int .i64 ((apR v bs).2.2)] ∧ o = (apR v bs).2.1)) (Own 75 B3C oA oc o)]) := by
  refine Does.enter Try.func28 rfl rfl [(0, .agg #[.int .i64 v, .slice A bs.length c])] rfl ?_
  refine V.seq ?_
  refine V.region ?_
  refine O.e rfl rfl rfl (Ef.box rfl rfl rfl) ?_
  rintro _ _ ⟨b1, rfl, rfl⟩
  refine O.e rfl rfl rfl (Ef.alloc rfl zr30 rfl) ?_
  rintro _ _ ⟨b2, rfl, rfl⟩
  refine O.p rfl rfl rfl (Pu.assign rfl rfl) ?_
  refine O.nil ?_
  refine X.next ?_
  refine V.seq ?_
  refine V.seq ?_
  refine V.region ?_
  refine O.p rfl rfl rfl (Pu.loadAgg rfl ag30 sz30 rfl rfl (Ld.whole 1 rfl)) ?_
  refine O.e rfl rfl rfl (Ef.callP call61 rfl rfl (fun w hw => l10Code_ok  v bs _ _ w ((Ld.old hx) w hw) (by first | omega | (simp only [tops_len, conts_len, bl, List.length_append, List.length_cons, List.length_nil] at *; omega)) )) ?_
  rintro _ _ ⟨rfl, rfl⟩
  refine O.p rfl rfl rfl (Pu.assign rfl rfl) ?_
  refine O.nil ?_
  refine X.next ?_
  refine V.seq ?_
  refine V.region ?_
  refine O.p rfl rfl rfl (Pu.move rfl rfl) ?_
  refine O.p rfl rfl rfl (Pu.neq rfl rfl rfl) ?_
  refine O.nil ?_
  refine X.next ?_
  refine V.condNot rfl (fun c1 => ?_) (fun c1 => ?_)
  · skip
    refine V.seq ?_
    refine V.region ?_
    refine O.p rfl rfl rfl (Pu.buildS (cs := [.int .i64 (0 : Int), .slice none 0 0]) rfl rfl Try.underlying30 zr30 (by kernel_rfl) rfl (by kernel_rfl)) ?_
    refine O.p rfl rfl rfl (Pu.move rfl rfl) ?_
    refine O.s rfl rfl (Ef.storeAll 0 rfl sz30 rfl rfl rfl rfl (by simp [Value.oneCell']) rfl) ?_
    rintro _ _ rfl
    refine O.p rfl rfl rfl (Pu.assign rfl rfl) ?_
    refine O.nil ?_
    refine X.next ?_
    refine V.ret ?_
    refine X.thenRet ?_
    refine X.retCell2 rfl ag30 sz30 rfl rfl rfl (Ld.whole 0 rfl) ?_
    exact fun w hw => St.mkExi none (St.mkExi 0 (St.mkExi [] (St.unsep (St.addPur ⟨(by rw [apR_no rfl c1]; try rfl), (by rw [apR_no rfl c1])⟩ (St.addNil (T := 75) (C := B3C) (hw.sub (Sub.nil _)))))))
  · skip
    have hS : STS v bs := by apply Decidable.byContradiction; intro h; rw [if_neg h] at c1; exact absurd c1 (by decide)
    rw [if_pos hS] at c1
    have hF : Few v bs := by apply Decidable.byContradiction; intro h; rw [if_neg h] at c1; exact absurd c1 (by decide)
    clear c1
    have hfl := few_len hF.1
    have hflt := few_lt hF.1
    have hfw := hS.few
    have hlb := few_left hF
    refine V.skip ?_
    refine X.next ?_
    refine V.seq ?_
    refine V.region ?_
    refine O.p rfl rfl rfl (Pu.fieldAddr 0 rfl Try.underlying30 rfl sz2 rfl rfl) ?_
    refine O.p rfl rfl rfl (Pu.load rfl pl2 rfl (Ld.blk 1 rfl rfl)) ?_
    refine O.e rfl rfl rfl (Ef.call1 call62 rfl rfl (fun w hw => l10AllI_ok 40 v w   hfl.2.2.2 hfl.2.2.1 hfl.2.1 hflt (by decide))) ?_
    rintro _ _ rfl
    refine O.exi (fun r1A => ?_)
    refine O.exi (fun r1c => ?_)
    refine O.exi (fun r1 => ?_)
    refine O.sep ?_
    refine O.pur ?_
    rintro ⟨rfl, hr1_1⟩
    refine O.sep ?_
    refine O.fact (RowsA.len 1 rfl) (fun hn_r1 => ?_)
    have htl_r1 := tops_len r1
    have hclr1 := conts_len r1
    have hcl2 := hclr1
    rw [hr1_1] at hcl2
    have hrow : ∀ k (hk : k < r1.length), (r1[k]).2 ∈ compM 40 v.toNat 0 := fun k hk => by rw [← hr1_1]; exact List.mem_map_of_mem (List.getElem_mem hk)
    have hcm : ∀ k (hk : k < r1.length), (r1[k]).2.length = bs.length := fun k hk => by have h1 := comp_count 40 _ 0 _ hfl.2.2.1 (hrow k hk); omega
    have hcs : ∀ k (hk : k < r1.length), (r1[k]).2.Pairwise B3.lt := fun k hk => comp_sorted 40 _ 0 _ hfl.2.2.1 (hrow k hk)
    refine O.p rfl rfl rfl (Pu.assign rfl rfl) ?_
    refine O.nil ?_
    refine X.next ?_
    refine V.seq ?_
    refine V.seq ?_
    refine V.region ?_
    refine O.p rfl rfl rfl (Pu.assign rfl rfl) ?_
    refine O.nil ?_
    refine X.next ?_
    refine V.block ?_
    refine V.loop3 (β := Nat) (fun i => [(6, .int .i64 (i : Int))]) _ (fun i => []) _ (fun i => i ≤ r1.length ∧ ∀ j (hj : j < r1.length), j < i → ¬ ApartB bs (r1[j]).2) (fun i => r1.length - i) 0 ⟨by omega, fun j hj h => by omega⟩ (Ent.cons rfl (Ent.nil _)) (Ent.cons (t := 1) rfl (Ent.cons (t := 2) rfl (Ent.cons (t := 5) rfl (Ent.nil _)))) (Sub.keep 0 rfl (Sub.keep 0 rfl (Sub.keep 0 rfl (Sub.keep 0 rfl (Sub.nil _))))) ?_
    rintro i ⟨hi, hno⟩
    refine V.seq ?_
    refine V.seq ?_
    refine V.region ?_
    refine O.p rfl rfl rfl (Pu.move rfl rfl) ?_
    refine O.p rfl rfl rfl (Pu.move rfl rfl) ?_
    refine O.p rfl rfl rfl (Pu.len rfl Try.underlying70 rfl) ?_
    refine O.p rfl rfl rfl (Pu.lss rfl rfl rfl) ?_
    refine O.nil ?_
    refine X.next ?_
    refine V.condD rfl (fun c2 => ?_) (fun c2 => ?_)
    · skip
      refine V.skip ?_
      refine X.next ?_
      refine V.seq ?_
      refine V.block ?_
      refine V.seq ?_
      have ei : i < r1.length := by omega
      have hci := hcm i ei
      refine V.draw mo (by kernel_rfl) (fun hwf => ?_)
      refine D.p 0 rfl rfl rfl rfl rfl rfl (Pu.move rfl rfl) ?_
      refine D.p 1 rfl rfl rfl rfl rfl rfl (Pu.move rfl rfl) ?_
      refine D.p 2 rfl rfl rfl rfl rfl rfl (Pu.indexAddrS (i) rfl Try.underlying70 sz30 rfl rfl (by omega) (by omega) (fun w hw => Own.some hw (i := 0) (by exact rfl) (by omega))) ?_
      refine D.p 3 rfl rfl rfl rfl rfl rfl (Pu.loadAgg' (v := .agg #[.int .i64 v, .slice (r1[i]'ei).1.A (r1[i]'ei).2.length (r1[i]'ei).1.c]) rfl rfl ag30 sz30 rfl rfl (Ld.rowY (Ld.own 0 (by exact rfl)) hn_r1 ei rfl)) ?_
      refine D.p 4 rfl rfl rfl rfl rfl rfl (Pu.loadAgg rfl ag30 sz30 rfl rfl (Ld.whole 3 rfl)) ?_
      refine D.eff hwf (e := 5) rfl rfl rfl rfl (Ef.callP call63 rfl rfl (fun w hw => l10Common_ok  v ((r1[i]'ei).2) v bs _ _ _ _ w ((Ld.rows 1 (by exact rfl) ei) w hw) ((Ld.old hx) w hw) (by omega) (by omega) (by omega) (by omega))) rfl rfl rfl ?_
      rintro _ _ ⟨rfl, rfl⟩ hs
      refine ⟨fun w hw => hw, ?_⟩
      refine D.p 6 rfl rfl rfl rfl rfl rfl (Pu.eql rfl rfl rfl) ?_
      refine D.done hwf rfl ?_
      refine X.next ?_
      refine V.condD rfl (fun c3 => ?_) (fun c3 => ?_)
      · skip
        have hap : ApartB bs (r1[i]'ei).2 := apart_S.1 (by have h := c3; omega)
        refine V.seq ?_
        refine V.region ?_
        refine O.p rfl rfl rfl (Pu.move rfl rfl) ?_
        refine O.p rfl rfl rfl (Pu.move rfl rfl) ?_
        refine O.p rfl rfl rfl (Pu.indexAddrS (i) rfl Try.underlying70 sz30 rfl rfl (by omega) (by omega) (fun w hw => Own.some hw (i := 0) (by exact rfl) (by omega))) ?_
        refine O.p rfl rfl rfl (Pu.loadAgg' (v := .agg #[.int .i64 v, .slice (r1[i]'ei).1.A (r1[i]'ei).2.length (r1[i]'ei).1.c]) rfl rfl ag30 sz30 rfl rfl (Ld.rowY (Ld.own 0 (by exact rfl)) hn_r1 ei rfl)) ?_
        refine O.s rfl rfl (Ef.storeAll 2 rfl sz30 rfl rfl rfl rfl (by simp [Value.oneCell']) rfl) ?_
        rintro _ _ rfl
        refine O.p rfl rfl rfl (Pu.assign rfl rfl) ?_
        refine O.nil ?_
        refine X.next ?_
        refine V.ret ?_
        refine X.blockRet ?_
        refine X.thenRet ?_
        refine X.thenRet ?_
        refine X.blockRet ?_
        refine X.thenRet ?_
        refine X.retCell2 rfl ag30 sz30 rfl rfl rfl (Ld.whole 2 rfl) ?_
        refine St.mapR (fun w hw => RowsA.out (T := 75) (C := B3C) (ps := r1) (k := i) (by omega) (hw.perm (pull_perm (i := 1) rfl))) ?_
        exact fun w hw => St.mkExi ((r1[i]).1.A) (St.mkExi ((r1[i]).1.c) (St.mkExi ((r1[i]).2) (St.unsep (St.addPur ⟨(by rw [apR_0 hS hF (firstA_at hr1_1 (by omega) hap hno)]; try rfl), (by rw [apR_0 hS hF (firstA_at hr1_1 (by omega) hap hno)])⟩ (hw.sub (Sub.keep 0 rfl (Sub.nil _)))))))
      · skip
        have hap : ¬ ApartB bs (r1[i]'ei).2 := fun h => c3 (by have := apart_S.2 h; omega)
        refine V.skip ?_
        refine X.blockNormal ?_
        refine X.next ?_
        refine V.region ?_
        refine O.p rfl rfl rfl (Pu.move rfl rfl) ?_
        refine O.p rfl rfl rfl (Pu.add64 (r := ((i + 1 : Nat) : Int)) rfl (by omega) rfl rfl rfl) ?_
        refine O.p rfl rfl rfl (Pu.assign rfl rfl) ?_
        refine O.nil ?_
        exact X.back3 (i + 1) ⟨by omega, fun j hj h => by by_cases e : j = i; (· subst e; exact hap); (· exact hno j hj (by omega))⟩ (by first | omega | (dsimp only; omega)) (Ent.cons rfl (Ent.nil _)) (Ent.cons (t := 1) rfl (Ent.cons (t := 2) rfl (Ent.cons (t := 5) rfl (Ent.nil _)))) (Sub.keep 0 rfl (Sub.keep 0 rfl (Sub.keep 0 rfl (Sub.keep 0 rfl (Sub.nil _)))))
    · skip
      refine V.exit ?_
      refine X.thenExit ?_
      refine X.thenExit ?_
      refine X.blockHit ?_
      refine X.next ?_
      refine V.seq ?_
      refine V.region ?_
      refine O.p rfl rfl rfl (Pu.buildS (cs := [.int .i64 (0 : Int), .slice none 0 0]) rfl rfl Try.underlying30 zr30 (by kernel_rfl) rfl (by kernel_rfl)) ?_
      refine O.s rfl rfl (Ef.storeAll 2 rfl sz30 rfl rfl rfl rfl (by simp [Value.oneCell']) rfl) ?_
      rintro _ _ rfl
      refine O.p rfl rfl rfl (Pu.assign rfl rfl) ?_
      refine O.nil ?_
      refine X.next ?_
      refine V.ret ?_
      refine X.retCell2 rfl ag30 sz30 rfl rfl rfl (Ld.whole 2 rfl) ?_
      exact fun w hw => St.mkExi none (St.mkExi 0 (St.mkExi [] (St.unsep (St.addPur ⟨(by rw [apR_4 hS hF (firstA_no hr1_1 (fun j hj => hno j hj (by omega)))]; try rfl), (by rw [apR_4 hS hF (firstA_no hr1_1 (fun j hj => hno j hj (by omega)))])⟩ (St.addNil (T := 75) (C := B3C) (hw.sub (Sub.nil _)))))))
end Go.Proofs.Ytjpfngmoabnffaa
