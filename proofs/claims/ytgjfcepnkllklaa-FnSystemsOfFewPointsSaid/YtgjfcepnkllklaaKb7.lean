/-
  Contracts, part 7.
-/
import Derived.Test.YtgjfcepnkllklaaKb6
set_option linter.unusedVariables false
set_option linter.unusedSimpArgs false
namespace Go.Proofs.Ytgjfcepnkllklaa
open Go Go.RowKit Go.Vc Go.Proofs
set_option maxRecDepth 100000 in
set_option maxHeartbeats 1000000 in
theorem implCommon_ok (xs : List B3) (ys : List B3) (xsA : Option Addr) (xsc : Nat) (ysA : Option Addr) (ysc : Nat) (w : World) (hxs : Rd B3C w xsA xs) (hys : Rd B3C w ysA ys) (lxs : xs.length ≤ 1099511627776) (lys : ys.length ≤ 1099511627776) : Does Try.prog 41 [.slice xsA xs.length xsc, .slice ysA ys.length ysc] w [] (fun rv_ => [.exi fun (rA : Option Addr) => .exi fun (rc : Nat) => .exi fun (r : List B3) => .sep (.pur (rv_ = .slice rA r.length rc ∧ r = (xs.filter fun b => decide (b ∈ ys)))) (Own 56 B3C rA rc r)]) := by
  refine Does.enter Try.func41 rfl rfl [(0, .slice xsA xs.length xsc), (1, .slice ysA ys.length ysc)] rfl ?_
  refine V.seq ?_
  refine V.region ?_
  refine O.p rfl rfl rfl (Pu.assign rfl rfl) ?_
  refine O.nil ?_
  refine X.next ?_
  refine V.seq ?_
  refine V.region ?_
  refine O.p rfl rfl rfl (Pu.assign rfl rfl) ?_
  refine O.nil ?_
  refine X.next ?_
  refine V.seq ?_
  refine V.seq ?_
  refine V.region ?_
  refine O.p rfl rfl rfl (Pu.move rfl rfl) ?_
  refine O.p rfl rfl rfl (Pu.len rfl Try.underlying24 rfl) ?_
  refine O.p rfl rfl rfl (Pu.move rfl rfl) ?_
  refine O.nil ?_
  refine X.next ?_
  refine V.block ?_
  refine V.map (fun w hw => St.addNil (T := 56) (C := B3C) hw) ?_
  refine V.loop2 (β := (Option Addr) × Nat × (List B3) × Nat) (fun x => [(5, .slice x.1 x.2.2.1.length x.2.1), (10, .int .i64 (x.2.2.2 : Int))]) _ (fun x => [Own 56 B3C x.1 x.2.1 x.2.2.1]) (fun x => x.2.2.2 ≤ xs.length ∧ x.2.2.1 = ((xs.take x.2.2.2).filter fun b => decide (b ∈ ys))) (fun x => xs.length - x.2.2.2) (none, 0, [], 0) (by (try dsimp only); exact ⟨by omega, rfl⟩) (Ent.cons rfl (Ent.cons rfl (Ent.nil _))) (Ent.cons (t := 1) rfl (Ent.cons (t := 8) rfl (Ent.cons (t := 9) rfl (Ent.nil _)))) (Sub.keep 0 rfl (Sub.nil _)) ?_
  rintro ⟨outA, outc, out, i⟩ ⟨hi, ho⟩
  dsimp only at hi ho ⊢
  have hol : out.length ≤ xs.length := by rw [ho]; exact Nat.le_trans (List.length_filter_le _ _) (by rw [List.length_take]; omega)
  refine V.seq ?_
  refine V.region ?_
  refine O.p rfl rfl rfl (Pu.lss rfl rfl rfl) ?_
  refine O.nil ?_
  refine X.next ?_
  refine V.seq ?_
  refine V.condD rfl (fun c1 => ?_) (fun c1 => ?_)
  · skip
    refine V.skip ?_
    refine X.next ?_
    refine V.seq ?_
    refine V.block ?_
    refine V.seq ?_
    refine V.region ?_
    refine O.p rfl rfl rfl (Pu.indexAddr (i) rfl Try.underlying24 sz56 rfl rfl (by omega) (by omega) (hxs.some (by omega))) ?_
    have e1 : i < xs.length := by omega
    refine O.p rfl rfl rfl (Pu.loadAgg' (v := B3.v (xs[i]'e1)) rfl rfl ag56 sz56 rfl rfl (Ld.rds (Ld.old hxs) (k := i) e1 rfl)) ?_
    refine O.e rfl rfl rfl (Ef.alloc rfl zr56 rfl) ?_
    rintro _ _ ⟨b1, rfl, rfl⟩
    refine O.s rfl rfl (Ef.storeAll 0 rfl sz56 rfl rfl rfl rfl (by simp [Value.oneCell']) rfl) ?_
    rintro _ _ rfl
    refine O.nil ?_
    refine X.next ?_
    refine V.seq ?_
    refine V.region ?_
    refine O.p rfl rfl rfl (Pu.move rfl rfl) ?_
    refine O.p rfl rfl rfl (Pu.loadAgg' (v := B3.v (xs[i]'e1)) rfl rfl ag56 sz56 rfl rfl (Ld.whole 0 rfl)) ?_
    refine O.e rfl rfl rfl (Ef.callP call55 rfl rfl (fun w hw => containsBl_ok  ys (xs[i]'e1) _ _ w ((Ld.old hys) w hw) (by first | omega | (simp only [tops_len, conts_len, bl, List.length_append, List.length_cons, List.length_nil] at *; omega)) )) ?_
    rintro _ _ ⟨rfl, rfl⟩
    refine O.nil ?_
    refine X.next ?_
    refine V.condD rfl (fun c2 => ?_) (fun c2 => ?_)
    · skip
      refine V.region ?_
      refine O.p rfl rfl rfl (Pu.move rfl rfl) ?_
      refine O.p rfl rfl rfl (Pu.loadAgg' (v := B3.v (xs[i]'e1)) rfl rfl ag56 sz56 rfl rfl (Ld.whole 0 rfl)) ?_
      refine O.e rfl rfl rfl (Ef.build B3C ([(xs[i]'e1)] : List B3) rfl Try.underlying24 inf56 rfl rfl rfl (by first | decide | (simp; done)) (by kernel_rfl)) ?_
      rintro _ _ ⟨A1, hA1, rfl, rfl⟩
      refine O.e rfl rfl rfl (Ef.append (xs := out) (ys := ([(xs[i]'e1)] : List B3)) 2 rfl Try.underlying24 inf56 rfl rfl rfl rfl rfl rfl hA1 (Ld.own 0 (by exact rfl)) (by simp only [List.length_append, List.length_cons, List.length_nil] at *; omega) (by decide)) ?_
      rintro _ _ ⟨A2, k1, rfl, rfl, hA2⟩
      replace hA2 := hA2 (.inr (by simp))
      refine O.p rfl rfl rfl (Pu.assign rfl rfl) ?_
      refine O.nil ?_
      refine X.blockNormal ?_
      refine X.next ?_
      refine V.region ?_
      refine O.p rfl rfl rfl (Pu.add64 (r := ((i + 1 : Nat) : Int)) rfl (by omega) rfl rfl rfl) ?_
      refine O.p rfl rfl rfl (Pu.move rfl rfl) ?_
      refine O.nil ?_
      exact X.back2 (A2, k1, (out ++ ([(xs[i]'e1)] : List B3)), i + 1) (by (try dsimp only); exact ⟨by omega, by rw [take_snoc (by omega), List.filter_append, ho]; simp [c2]⟩) (by first | omega | (dsimp only; omega)) (Ent.cons rfl (Ent.cons rfl (Ent.nil _))) (Ent.cons (t := 1) rfl (Ent.cons (t := 8) rfl (Ent.cons (t := 9) rfl (Ent.nil _)))) (Sub.keep 2 rfl (Sub.nil _))
    · skip
      refine V.skip ?_
      refine X.blockNormal ?_
      refine X.next ?_
      refine V.region ?_
      refine O.p rfl rfl rfl (Pu.add64 (r := ((i + 1 : Nat) : Int)) rfl (by omega) rfl rfl rfl) ?_
      refine O.p rfl rfl rfl (Pu.move rfl rfl) ?_
      refine O.nil ?_
      exact X.back2 (outA, outc, out, i + 1) (by (try dsimp only); exact ⟨by omega, by rw [take_snoc (by omega), List.filter_append, ho]; simp [c2]⟩) (by first | omega | (dsimp only; omega)) (Ent.cons rfl (Ent.cons rfl (Ent.nil _))) (Ent.cons (t := 1) rfl (Ent.cons (t := 8) rfl (Ent.cons (t := 9) rfl (Ent.nil _)))) (Sub.keep 1 rfl (Sub.nil _))
  · skip
    refine V.exit ?_
    refine X.thenExit ?_
    refine X.thenExit ?_
    refine X.blockHit ?_
    refine X.next ?_
    refine V.seq ?_
    refine V.region ?_
    refine O.p rfl rfl rfl (Pu.move rfl rfl) ?_
    refine O.p rfl rfl rfl (Pu.assign rfl rfl) ?_
    refine O.nil ?_
    refine X.next ?_
    refine V.ret ?_
    refine X.ret1 rfl rfl ?_
    exact fun w hw => St.mkExi outA (St.mkExi outc (St.mkExi out (St.unsep (St.addPur ⟨rfl, by rw [ho, List.take_of_length_le (by omega)]⟩ (hw.sub (Sub.keep 0 rfl (Sub.nil _)))))))
set_option maxRecDepth 100000 in
set_option maxHeartbeats 1000000 in
theorem implFirstApart_ok (v : Int) (bs : List B3) (A : Option Addr) (c : Nat) (w : World) (hx : Rd B3C w A bs) (lx : bs.length ≤ 4611686018427387904) : Does Try.prog 16 [.agg #[.int .i64 v, .slice A bs.length c]] w [] (fun r => [.exi fun (oA : Option Addr) => .exi fun (oc : Nat) => .exi fun (o : List B3) => .sep (.pur (r = .tuple #[.agg #[.int .i64 ((apR v bs).1), .slice oA o.length oc], .int .i64 ((apR v bs).2.2)] ∧ o = (apR v bs).2.1)) (Own 56 B3C oA oc o)]) := by
  refine Does.enter Try.func16 rfl rfl [(0, .agg #[.int .i64 v, .slice A bs.length c])] rfl ?_
  refine V.seq ?_
  refine V.region ?_
  refine O.e rfl rfl rfl (Ef.box rfl rfl rfl) ?_
  rintro _ _ ⟨b1, rfl, rfl⟩
  refine O.e rfl rfl rfl (Ef.alloc rfl zr26 rfl) ?_
  rintro _ _ ⟨b2, rfl, rfl⟩
  refine O.p rfl rfl rfl (Pu.assign rfl rfl) ?_
  refine O.nil ?_
  refine X.next ?_
  refine V.seq ?_
  refine V.seq ?_
  refine V.region ?_
  refine O.p rfl rfl rfl (Pu.loadAgg rfl ag26 sz26 rfl rfl (Ld.whole 1 rfl)) ?_
  refine O.e rfl rfl rfl (Ef.callP call26 rfl rfl (fun w hw => fewCode_ok  v bs _ _ w ((Ld.old hx) w hw) (by first | omega | (simp only [tops_len, conts_len, bl, List.length_append, List.length_cons, List.length_nil] at *; omega)) )) ?_
  rintro _ _ ⟨rfl, rfl⟩
  refine O.p rfl rfl rfl (Pu.assign rfl rfl) ?_
  refine O.nil ?_
  refine X.next ?_
  refine V.seq ?_
  refine V.region ?_
  refine O.p rfl rfl rfl (Pu.move rfl rfl) ?_
  refine O.p rfl rfl rfl (Pu.neq rfl rfl rfl) ?_
  refine O.nil ?_
  refine X.next ?_
  refine V.condNot rfl (fun c1 => ?_) (fun c1 => ?_)
  · skip
    refine V.seq ?_
    refine V.region ?_
    refine O.p rfl rfl rfl (Pu.buildS (cs := [.int .i64 (0 : Int), .slice none 0 0]) rfl rfl Try.underlying26 zr26 (by kernel_rfl) rfl (by kernel_rfl)) ?_
    refine O.p rfl rfl rfl (Pu.move rfl rfl) ?_
    refine O.s rfl rfl (Ef.storeAll 0 rfl sz26 rfl rfl rfl rfl (by simp [Value.oneCell']) rfl) ?_
    rintro _ _ rfl
    refine O.p rfl rfl rfl (Pu.assign rfl rfl) ?_
    refine O.nil ?_
    refine X.next ?_
    refine V.ret ?_
    refine X.thenRet ?_
    refine X.retCell2 rfl ag26 sz26 rfl rfl rfl (Ld.whole 0 rfl) ?_
    exact fun w hw => St.mkExi none (St.mkExi 0 (St.mkExi [] (St.unsep (St.addPur ⟨(by rw [apR_no rfl c1]; try rfl), (by rw [apR_no rfl c1])⟩ (St.addNil (T := 56) (C := B3C) (hw.sub (Sub.nil _)))))))
  · skip
    have hS : STS v bs := by apply Decidable.byContradiction; intro h; rw [if_neg h] at c1; exact absurd c1 (by decide)
    rw [if_pos hS] at c1
    have hF : Few v bs := by apply Decidable.byContradiction; intro h; rw [if_neg h] at c1; exact absurd c1 (by decide)
    clear c1
    have hfl := few_len hF.1
    have hflt := few_lt hF.1
    have hfw := hS.few
    have hlb := few_left hF
    refine V.skip ?_
    refine X.next ?_
    refine V.seq ?_
    refine V.seq ?_
    refine V.region ?_
    refine O.p rfl rfl rfl (Pu.fieldAddr 0 rfl Try.underlying26 rfl sz2 rfl rfl) ?_
    refine O.p rfl rfl rfl (Pu.load rfl pl2 rfl (Ld.blk 1 rfl rfl)) ?_
    refine O.e rfl rfl rfl (Ef.call1 call28 rfl rfl (fun w hw => systemsOfI_ok 40 v w   hfl.2.2.2 hfl.2.2.1 hfl.2.1 hfl.1 (by decide))) ?_
    rintro _ _ rfl
    refine O.exi (fun r1A => ?_)
    refine O.exi (fun r1c => ?_)
    refine O.exi (fun r1 => ?_)
    refine O.sep ?_
    refine O.pur ?_
    rintro ⟨rfl, hr1_1⟩
    refine O.sep ?_
    refine O.fact (RowsA.len 1 rfl) (fun hn_r1 => ?_)
    have htl_r1 := tops_len r1
    have hclr1 := conts_len r1
    have hcl2 := hclr1
    rw [hr1_1] at hcl2
    have hrow : ∀ k (hk : k < r1.length), (r1[k]).2 ∈ compM 40 v.toNat 0 := fun k hk => by rw [← hr1_1]; exact List.mem_map_of_mem (List.getElem_mem hk)
    have hcm : ∀ k (hk : k < r1.length), (r1[k]).2.length = bs.length := fun k hk => by have h1 := comp_count 40 _ 0 _ hfl.2.2.1 (hrow k hk); omega
    have hcs : ∀ k (hk : k < r1.length), (r1[k]).2.Pairwise B3.lt := fun k hk => comp_sorted 40 _ 0 _ hfl.2.2.1 (hrow k hk)
    refine O.p rfl rfl rfl (Pu.len rfl Try.underlying52 rfl) ?_
    refine O.p rfl rfl rfl (Pu.move rfl rfl) ?_
    refine O.nil ?_
    refine X.next ?_
    refine V.block ?_
    refine V.loop3 (β := Nat) (fun i => [(17, .int .i64 (i : Int))]) _ (fun i => []) _ (fun i => i ≤ r1.length ∧ ∀ j (hj : j < r1.length), j < i → ¬ ApartB bs (r1[j]).2) (fun i => r1.length - i) 0 ⟨by omega, fun j hj h => by omega⟩ (Ent.cons rfl (Ent.nil _)) (Ent.cons (t := 1) rfl (Ent.cons (t := 2) rfl (Ent.cons (t := 15) rfl (Ent.cons (t := 16) rfl (Ent.nil _))))) (Sub.keep 0 rfl (Sub.keep 0 rfl (Sub.keep 0 rfl (Sub.keep 0 rfl (Sub.nil _))))) ?_
    rintro i ⟨hi, hno⟩
    refine V.seq ?_
    refine V.region ?_
    refine O.p rfl rfl rfl (Pu.lss rfl rfl rfl) ?_
    refine O.nil ?_
    refine X.next ?_
    refine V.seq ?_
    refine V.condD rfl (fun c2 => ?_) (fun c2 => ?_)
    · skip
      refine V.skip ?_
      refine X.next ?_
      refine V.seq ?_
      refine V.block ?_
      refine V.seq ?_
      refine V.region ?_
      refine O.p rfl rfl rfl (Pu.indexAddrS (i) rfl Try.underlying52 sz26 rfl rfl (by omega) (by omega) (fun w hw => Own.some hw (i := 0) (by exact rfl) (by omega))) ?_
      have e1 : i < r1.length := by have := tops_len r1; omega
      refine O.p rfl rfl rfl (Pu.loadAgg' (v := .agg #[.int .i64 v, .slice (r1[i]'e1).1.A (r1[i]'e1).2.length (r1[i]'e1).1.c]) rfl rfl ag26 sz26 rfl rfl (Ld.rowY (Ld.own 0 (by exact rfl)) hn_r1 e1 rfl)) ?_
      refine O.e rfl rfl rfl (Ef.alloc rfl zr26 rfl) ?_
      rintro _ _ ⟨b3, rfl, rfl⟩
      refine O.s rfl rfl (Ef.storeAll 0 rfl sz26 rfl rfl rfl rfl (by simp [Value.oneCell']) rfl) ?_
      rintro _ _ rfl
      refine O.nil ?_
      refine X.next ?_
      refine V.seq ?_
      refine V.region ?_
      refine O.p rfl rfl rfl (Pu.fieldAddr 1 rfl Try.underlying26 rfl sz24 rfl rfl) ?_
      refine O.p rfl rfl rfl (Pu.load rfl pl24 rfl (Ld.blk 4 rfl rfl)) ?_
      refine O.p rfl rfl rfl (Pu.fieldAddr 1 rfl Try.underlying26 rfl sz24 rfl rfl) ?_
      refine O.p rfl rfl rfl (Pu.load rfl pl24 rfl (Ld.blk 0 rfl rfl)) ?_
      refine O.e rfl rfl rfl (Ef.call1 call41 rfl rfl (fun w hw => implCommon_ok  bs ((r1[i]'e1).2) _ _ _ _ w ((Ld.old hx) w hw) ((Ld.rows 2 (by exact rfl) e1) w hw) (by first | omega | (simp only [tops_len, conts_len, bl, List.length_append, List.length_cons, List.length_nil] at *; omega)) (by have := hcm i e1; omega) )) ?_
      rintro _ _ rfl
      refine O.exi (fun r2A => ?_)
      refine O.exi (fun r2c => ?_)
      refine O.exi (fun r2 => ?_)
      refine O.sep ?_
      refine O.pur ?_
      rintro ⟨rfl, hr2_1⟩
      refine O.p rfl rfl rfl (Pu.len rfl Try.underlying24 rfl) ?_
      refine O.p rfl rfl rfl (Pu.eql rfl rfl rfl) ?_
      refine O.nil ?_
      refine X.next ?_
      refine V.condD rfl (fun c3 => ?_) (fun c3 => ?_)
      · skip
        have hap : ApartB bs (r1[i]'e1).2 := apart_I.1 (by rw [← hr2_1]; omega)
        refine V.seq ?_
        refine V.region ?_
        refine O.p rfl rfl rfl (Pu.loadAgg rfl ag26 sz26 rfl rfl (Ld.whole 1 rfl)) ?_
        refine O.s rfl rfl (Ef.storeAll 4 rfl sz26 rfl rfl rfl rfl (by simp [Value.oneCell']) rfl) ?_
        rintro _ _ rfl
        refine O.p rfl rfl rfl (Pu.assign rfl rfl) ?_
        refine O.nil ?_
        refine X.next ?_
        refine V.ret ?_
        refine X.blockRet ?_
        refine X.thenRet ?_
        refine X.thenRet ?_
        refine X.blockRet ?_
        refine X.thenRet ?_
        refine X.retCell2 rfl ag26 sz26 rfl rfl rfl (Ld.whole 4 rfl) ?_
        refine St.mapR (fun w hw => RowsA.out (T := 56) (C := B3C) (ps := r1) (k := i) (by omega) (hw.perm (pull_perm (i := 3) rfl))) ?_
        exact fun w hw => St.mkExi ((r1[i]).1.A) (St.mkExi ((r1[i]).1.c) (St.mkExi ((r1[i]).2) (St.unsep (St.addPur ⟨(by rw [apR_0 hS hF (firstA_at hr1_1 (by omega) hap hno)]; try rfl), (by rw [apR_0 hS hF (firstA_at hr1_1 (by omega) hap hno)])⟩ (hw.sub (Sub.keep 0 rfl (Sub.nil _)))))))
      · skip
        have hap : ¬ ApartB bs (r1[i]'e1).2 := fun h => c3 (by have h2 := apart_I.2 h; rw [← hr2_1] at h2; omega)
        refine V.skip ?_
        refine X.blockNormal ?_
        refine X.next ?_
        refine V.region ?_
        refine O.p rfl rfl rfl (Pu.add64 (r := ((i + 1 : Nat) : Int)) rfl (by omega) rfl rfl rfl) ?_
        refine O.p rfl rfl rfl (Pu.move rfl rfl) ?_
        refine O.nil ?_
        exact X.back3 (i + 1) ⟨by omega, fun j hj h => by by_cases e : j = i; (· subst e; exact hap); (· exact hno j hj (by omega))⟩ (by first | omega | (dsimp only; omega)) (Ent.cons rfl (Ent.nil _)) (Ent.cons (t := 1) rfl (Ent.cons (t := 2) rfl (Ent.cons (t := 15) rfl (Ent.cons (t := 16) rfl (Ent.nil _))))) (Sub.keep 2 rfl (Sub.keep 2 rfl (Sub.keep 2 rfl (Sub.keep 2 rfl (Sub.nil _)))))
    · skip
      refine V.exit ?_
      refine X.thenExit ?_
      refine X.thenExit ?_
      refine X.blockHit ?_
      refine X.next ?_
      refine V.seq ?_
      refine V.region ?_
      refine O.p rfl rfl rfl (Pu.buildS (cs := [.int .i64 (0 : Int), .slice none 0 0]) rfl rfl Try.underlying26 zr26 (by kernel_rfl) rfl (by kernel_rfl)) ?_
      refine O.s rfl rfl (Ef.storeAll 2 rfl sz26 rfl rfl rfl rfl (by simp [Value.oneCell']) rfl) ?_
      rintro _ _ rfl
      refine O.p rfl rfl rfl (Pu.assign rfl rfl) ?_
      refine O.nil ?_
      refine X.next ?_
      refine V.ret ?_
      refine X.retCell2 rfl ag26 sz26 rfl rfl rfl (Ld.whole 2 rfl) ?_
      exact fun w hw => St.mkExi none (St.mkExi 0 (St.mkExi [] (St.unsep (St.addPur ⟨(by rw [apR_4 hS hF (firstA_no hr1_1 (fun j hj => hno j hj (by omega)))]; try rfl), (by rw [apR_4 hS hF (firstA_no hr1_1 (fun j hj => hno j hj (by omega)))])⟩ (St.addNil (T := 56) (C := B3C) (hw.sub (Sub.nil _)))))))
set_option maxRecDepth 100000 in
set_option maxHeartbeats 1000000 in
theorem specFirstApart_ok (v : Int) (bs : List B3) (A : Option Addr) (c : Nat) (w : World) (hx : Rd B3C w A bs) (lx : bs.length ≤ 4611686018427387904) : Does Try.prog 17 [.agg #[.int .i64 v, .slice A bs.length c]] w [] (fun r => [.exi fun (oA : Option Addr) => .exi fun (oc : Nat) => .exi fun (o : List B3) => .sep (.pur (r = .tuple #[.agg #[.int .i64 ((apR v bs).1), .slice oA o.length oc], .int .i64 ((apR v bs).2.2)] ∧ o = (apR v bs).2.1)) (Own 56 B3C oA oc o)]) := by
  refine Does.enter Try.func17 rfl rfl [(0, .agg #[.int .i64 v, .slice A bs.length c])] rfl ?_
  refine V.seq ?_
  refine V.region ?_
  refine O.e rfl rfl rfl (Ef.box rfl rfl rfl) ?_
  rintro _ _ ⟨b1, rfl, rfl⟩
  refine O.e rfl rfl rfl (Ef.alloc rfl zr26 rfl) ?_
  rintro _ _ ⟨b2, rfl, rfl⟩
  refine O.p rfl rfl rfl (Pu.assign rfl rfl) ?_
  refine O.nil ?_
  refine X.next ?_
  refine V.seq ?_
  refine V.seq ?_
  refine V.region ?_
  refine O.p rfl rfl rfl (Pu.loadAgg rfl ag26 sz26 rfl rfl (Ld.whole 1 rfl)) ?_
  refine O.e rfl rfl rfl (Ef.callP call31 rfl rfl (fun w hw => l10Code_ok  v bs _ _ w ((Ld.old hx) w hw) (by first | omega | (simp only [tops_len, conts_len, bl, List.length_append, List.length_cons, List.length_nil] at *; omega)) )) ?_
  rintro _ _ ⟨rfl, rfl⟩
  refine O.p rfl rfl rfl (Pu.assign rfl rfl) ?_
  refine O.nil ?_
  refine X.next ?_
  refine V.seq ?_
  refine V.region ?_
  refine O.p rfl rfl rfl (Pu.move rfl rfl) ?_
  refine O.p rfl rfl rfl (Pu.neq rfl rfl rfl) ?_
  refine O.nil ?_
  refine X.next ?_
  refine V.condNot rfl (fun c1 => ?_) (fun c1 => ?_)
  · skip
    refine V.seq ?_
    refine V.region ?_
    refine O.p rfl rfl rfl (Pu.buildS (cs := [.int .i64 (0 : Int), .slice none 0 0]) rfl rfl Try.underlying26 zr26 (by kernel_rfl) rfl (by kernel_rfl)) ?_
    refine O.p rfl rfl rfl (Pu.move rfl rfl) ?_
    refine O.s rfl rfl (Ef.storeAll 0 rfl sz26 rfl rfl rfl rfl (by simp [Value.oneCell']) rfl) ?_
    rintro _ _ rfl
    refine O.p rfl rfl rfl (Pu.assign rfl rfl) ?_
    refine O.nil ?_
    refine X.next ?_
    refine V.ret ?_
    refine X.thenRet ?_
    refine X.retCell2 rfl ag26 sz26 rfl rfl rfl (Ld.whole 0 rfl) ?_
    exact fun w hw => St.mkExi none (St.mkExi 0 (St.mkExi [] (St.unsep (St.addPur ⟨(by rw [apR_no rfl c1]; try rfl), (by rw [apR_no rfl c1])⟩ (St.addNil (T := 56) (C := B3C) (hw.sub (Sub.nil _)))))))
  · skip
    have hS : STS v bs := by apply Decidable.byContradiction; intro h; rw [if_neg h] at c1; exact absurd c1 (by decide)
    rw [if_pos hS] at c1
    have hF : Few v bs := by apply Decidable.byContradiction; intro h; rw [if_neg h] at c1; exact absurd c1 (by decide)
    clear c1
    have hfl := few_len hF.1
    have hflt := few_lt hF.1
    have hfw := hS.few
    have hlb := few_left hF
    refine V.skip ?_
    refine X.next ?_
    refine V.seq ?_
    refine V.region ?_
    refine O.p rfl rfl rfl (Pu.fieldAddr 0 rfl Try.underlying26 rfl sz2 rfl rfl) ?_
    refine O.p rfl rfl rfl (Pu.load rfl pl2 rfl (Ld.blk 1 rfl rfl)) ?_
    refine O.e rfl rfl rfl (Ef.call1 call32 rfl rfl (fun w hw => l10AllI_ok 40 v w   hfl.2.2.2 hfl.2.2.1 hfl.2.1 hflt (by decide))) ?_
    rintro _ _ rfl
    refine O.exi (fun r1A => ?_)
    refine O.exi (fun r1c => ?_)
    refine O.exi (fun r1 => ?_)
    refine O.sep ?_
    refine O.pur ?_
    rintro ⟨rfl, hr1_1⟩
    refine O.sep ?_
    refine O.fact (RowsA.len 1 rfl) (fun hn_r1 => ?_)
    have htl_r1 := tops_len r1
    have hclr1 := conts_len r1
    have hcl2 := hclr1
    rw [hr1_1] at hcl2
    have hrow : ∀ k (hk : k < r1.length), (r1[k]).2 ∈ compM 40 v.toNat 0 := fun k hk => by rw [← hr1_1]; exact List.mem_map_of_mem (List.getElem_mem hk)
    have hcm : ∀ k (hk : k < r1.length), (r1[k]).2.length = bs.length := fun k hk => by have h1 := comp_count 40 _ 0 _ hfl.2.2.1 (hrow k hk); omega
    have hcs : ∀ k (hk : k < r1.length), (r1[k]).2.Pairwise B3.lt := fun k hk => comp_sorted 40 _ 0 _ hfl.2.2.1 (hrow k hk)
    refine O.p rfl rfl rfl (Pu.assign rfl rfl) ?_
    refine O.nil ?_
    refine X.next ?_
    refine V.seq ?_
    refine V.seq ?_
    refine V.region ?_
    refine O.p rfl rfl rfl (Pu.assign rfl rfl) ?_
    refine O.nil ?_
    refine X.next ?_
    refine V.block ?_
    refine V.loop3 (β := Nat) (fun i => [(6, .int .i64 (i : Int))]) _ (fun i => []) _ (fun i => i ≤ r1.length ∧ ∀ j (hj : j < r1.length), j < i → ¬ ApartB bs (r1[j]).2) (fun i => r1.length - i) 0 ⟨by omega, fun j hj h => by omega⟩ (Ent.cons rfl (Ent.nil _)) (Ent.cons (t := 1) rfl (Ent.cons (t := 2) rfl (Ent.cons (t := 5) rfl (Ent.nil _)))) (Sub.keep 0 rfl (Sub.keep 0 rfl (Sub.keep 0 rfl (Sub.keep 0 rfl (Sub.nil _))))) ?_
    rintro i ⟨hi, hno⟩
    refine V.seq ?_
    refine V.seq ?_
    refine V.region ?_
    refine O.p rfl rfl rfl (Pu.move rfl rfl) ?_
    refine O.p rfl rfl rfl (Pu.move rfl rfl) ?_
    refine O.p rfl rfl rfl (Pu.len rfl Try.underlying52 rfl) ?_
    refine O.p rfl rfl rfl (Pu.lss rfl rfl rfl) ?_
    refine O.nil ?_
    refine X.next ?_
    refine V.condD rfl (fun c2 => ?_) (fun c2 => ?_)
    · skip
      refine V.skip ?_
      refine X.next ?_
      refine V.seq ?_
      refine V.block ?_
      refine V.seq ?_
      have ei : i < r1.length := by omega
      have hci := hcm i ei
      refine V.draw mo (by kernel_rfl) (fun hwf => ?_)
      refine D.p 0 rfl rfl rfl rfl rfl rfl (Pu.move rfl rfl) ?_
      refine D.p 1 rfl rfl rfl rfl rfl rfl (Pu.move rfl rfl) ?_
      refine D.p 2 rfl rfl rfl rfl rfl rfl (Pu.indexAddrS (i) rfl Try.underlying52 sz26 rfl rfl (by omega) (by omega) (fun w hw => Own.some hw (i := 0) (by exact rfl) (by omega))) ?_
      refine D.p 3 rfl rfl rfl rfl rfl rfl (Pu.loadAgg' (v := .agg #[.int .i64 v, .slice (r1[i]'ei).1.A (r1[i]'ei).2.length (r1[i]'ei).1.c]) rfl rfl ag26 sz26 rfl rfl (Ld.rowY (Ld.own 0 (by exact rfl)) hn_r1 ei rfl)) ?_
      refine D.p 4 rfl rfl rfl rfl rfl rfl (Pu.loadAgg rfl ag26 sz26 rfl rfl (Ld.whole 3 rfl)) ?_
      refine D.eff hwf (e := 5) rfl rfl rfl rfl (Ef.callP call33 rfl rfl (fun w hw => l10Common_ok  v ((r1[i]'ei).2) v bs _ _ _ _ w ((Ld.rows 1 (by exact rfl) ei) w hw) ((Ld.old hx) w hw) (by omega) (by omega) (by omega) (by omega))) rfl rfl rfl ?_
      rintro _ _ ⟨rfl, rfl⟩ hs
      refine ⟨fun w hw => hw, ?_⟩
      refine D.p 6 rfl rfl rfl rfl rfl rfl (Pu.eql rfl rfl rfl) ?_
      refine D.done hwf rfl ?_
      refine X.next ?_
      refine V.condD rfl (fun c3 => ?_) (fun c3 => ?_)
      · skip
        have hap : ApartB bs (r1[i]'ei).2 := apart_S.1 (by have h := c3; omega)
        refine V.seq ?_
        refine V.region ?_
        refine O.p rfl rfl rfl (Pu.move rfl rfl) ?_
        refine O.p rfl rfl rfl (Pu.move rfl rfl) ?_
        refine O.p rfl rfl rfl (Pu.indexAddrS (i) rfl Try.underlying52 sz26 rfl rfl (by omega) (by omega) (fun w hw => Own.some hw (i := 0) (by exact rfl) (by omega))) ?_
        refine O.p rfl rfl rfl (Pu.loadAgg' (v := .agg #[.int .i64 v, .slice (r1[i]'ei).1.A (r1[i]'ei).2.length (r1[i]'ei).1.c]) rfl rfl ag26 sz26 rfl rfl (Ld.rowY (Ld.own 0 (by exact rfl)) hn_r1 ei rfl)) ?_
        refine O.s rfl rfl (Ef.storeAll 2 rfl sz26 rfl rfl rfl rfl (by simp [Value.oneCell']) rfl) ?_
        rintro _ _ rfl
        refine O.p rfl rfl rfl (Pu.assign rfl rfl) ?_
        refine O.nil ?_
        refine X.next ?_
        refine V.ret ?_
        refine X.blockRet ?_
        refine X.thenRet ?_
        refine X.thenRet ?_
        refine X.blockRet ?_
        refine X.thenRet ?_
        refine X.retCell2 rfl ag26 sz26 rfl rfl rfl (Ld.whole 2 rfl) ?_
        refine St.mapR (fun w hw => RowsA.out (T := 56) (C := B3C) (ps := r1) (k := i) (by omega) (hw.perm (pull_perm (i := 1) rfl))) ?_
        exact fun w hw => St.mkExi ((r1[i]).1.A) (St.mkExi ((r1[i]).1.c) (St.mkExi ((r1[i]).2) (St.unsep (St.addPur ⟨(by rw [apR_0 hS hF (firstA_at hr1_1 (by omega) hap hno)]; try rfl), (by rw [apR_0 hS hF (firstA_at hr1_1 (by omega) hap hno)])⟩ (hw.sub (Sub.keep 0 rfl (Sub.nil _)))))))
      · skip
        have hap : ¬ ApartB bs (r1[i]'ei).2 := fun h => c3 (by have := apart_S.2 h; omega)
        refine V.skip ?_
        refine X.blockNormal ?_
        refine X.next ?_
        refine V.region ?_
        refine O.p rfl rfl rfl (Pu.move rfl rfl) ?_
        refine O.p rfl rfl rfl (Pu.add64 (r := ((i + 1 : Nat) : Int)) rfl (by omega) rfl rfl rfl) ?_
        refine O.p rfl rfl rfl (Pu.assign rfl rfl) ?_
        refine O.nil ?_
        exact X.back3 (i + 1) ⟨by omega, fun j hj h => by by_cases e : j = i; (· subst e; exact hap); (· exact hno j hj (by omega))⟩ (by first | omega | (dsimp only; omega)) (Ent.cons rfl (Ent.nil _)) (Ent.cons (t := 1) rfl (Ent.cons (t := 2) rfl (Ent.cons (t := 5) rfl (Ent.nil _)))) (Sub.keep 0 rfl (Sub.keep 0 rfl (Sub.keep 0 rfl (Sub.keep 0 rfl (Sub.nil _)))))
    · skip
      refine V.exit ?_
      refine X.thenExit ?_
      refine X.thenExit ?_
      refine X.blockHit ?_
      refine X.next ?_
      refine V.seq ?_
      refine V.region ?_
      refine O.p rfl rfl rfl (Pu.buildS (cs := [.int .i64 (0 : Int), .slice none 0 0]) rfl rfl Try.underlying26 zr26 (by kernel_rfl) rfl (by kernel_rfl)) ?_
      refine O.s rfl rfl (Ef.storeAll 2 rfl sz26 rfl rfl rfl rfl (by simp [Value.oneCell']) rfl) ?_
      rintro _ _ rfl
      refine O.p rfl rfl rfl (Pu.assign rfl rfl) ?_
      refine O.nil ?_
      refine X.next ?_
      refine V.ret ?_
      refine X.retCell2 rfl ag26 sz26 rfl rfl rfl (Ld.whole 2 rfl) ?_
      exact fun w hw => St.mkExi none (St.mkExi 0 (St.mkExi [] (St.unsep (St.addPur ⟨(by rw [apR_4 hS hF (firstA_no hr1_1 (fun j hj => hno j hj (by omega)))]; try rfl), (by rw [apR_4 hS hF (firstA_no hr1_1 (fun j hj => hno j hj (by omega)))])⟩ (St.addNil (T := 56) (C := B3C) (hw.sub (Sub.nil _)))))))
set_option maxRecDepth 100000 in
set_option maxHeartbeats 1000000 in
theorem implCommonNumbers_ok (v : Int) (bs : List B3) (A : Option Addr) (c : Nat) (w : World) (hx : Rd B3C w A bs) (lx : bs.length ≤ 4611686018427387904) : Does Try.prog 13 [.agg #[.int .i64 v, .slice A bs.length c]] w [] (fun r => [.exi fun (oA : Option Addr) => .exi fun (oc : Nat) => .exi fun (o : List Int) => .sep (.pur (r = .tuple #[.slice oA o.length oc, .int .i64 ((cmR v bs).2)] ∧ o = (cmR v bs).1)) (Own 2 I64 oA oc o)]) := by
  refine Does.enter Try.func13 rfl rfl [(0, .agg #[.int .i64 v, .slice A bs.length c])] rfl ?_
  refine V.seq ?_
  refine V.region ?_
  refine O.e rfl rfl rfl (Ef.box rfl rfl rfl) ?_
  rintro _ _ ⟨b1, rfl, rfl⟩
  refine O.p rfl rfl rfl (Pu.assign rfl rfl) ?_
  refine O.p rfl rfl rfl (Pu.assign rfl rfl) ?_
  refine O.nil ?_
  refine X.next ?_
  refine V.seq ?_
  refine V.seq ?_
  refine V.region ?_
  refine O.p rfl rfl rfl (Pu.loadAgg rfl ag26 sz26 rfl rfl (Ld.whole 0 rfl)) ?_
  refine O.e rfl rfl rfl (Ef.callP call26 rfl rfl (fun w hw => fewCode_ok  v bs _ _ w ((Ld.old hx) w hw) (by first | omega | (simp only [tops_len, conts_len, bl, List.length_append, List.length_cons, List.length_nil] at *; omega)) )) ?_
  rintro _ _ ⟨rfl, rfl⟩
  refine O.p rfl rfl rfl (Pu.assign rfl rfl) ?_
  refine O.nil ?_
  refine X.next ?_
  refine V.seq ?_
  refine V.region ?_
  refine O.p rfl rfl rfl (Pu.move rfl rfl) ?_
  refine O.p rfl rfl rfl (Pu.neq rfl rfl rfl) ?_
  refine O.nil ?_
  refine X.next ?_
  refine V.condNot rfl (fun c1 => ?_) (fun c1 => ?_)
  · skip
    refine V.seq ?_
    refine V.region ?_
    refine O.p rfl rfl rfl (Pu.move rfl rfl) ?_
    refine O.p rfl rfl rfl (Pu.assign rfl rfl) ?_
    refine O.p rfl rfl rfl (Pu.assign rfl rfl) ?_
    refine O.nil ?_
    refine X.next ?_
    refine V.ret ?_
    refine X.thenRet ?_
    refine X.ret2 rfl rfl rfl ?_
    exact fun w hw => St.mkExi none (St.mkExi 0 (St.mkExi [] (St.unsep (St.addPur ⟨(by rw [cmR_no rfl c1]; try rfl), (by rw [cmR_no rfl c1])⟩ (St.addNil (T := 2) (C := I64) (hw.sub (Sub.nil _)))))))
  · skip
    have hS : STS v bs := by apply Decidable.byContradiction; intro h; rw [if_neg h] at c1; exact absurd c1 (by decide)
    rw [if_pos hS] at c1
    have hF : Few v bs := by apply Decidable.byContradiction; intro h; rw [if_neg h] at c1; exact absurd c1 (by decide)
    clear c1
    have hfl := few_len hF.1
    have hflt := few_lt hF.1
    have hfw := hS.few
    have hlb := few_left hF
    refine V.skip ?_
    refine X.next ?_
    refine V.seq ?_
    refine V.region ?_
    refine O.p rfl rfl rfl (Pu.fieldAddr 1 rfl Try.underlying26 rfl sz24 rfl rfl) ?_
    refine O.p rfl rfl rfl (Pu.load rfl pl24 rfl (Ld.blk 0 rfl rfl)) ?_
    refine O.p rfl rfl rfl (Pu.len rfl Try.underlying24 rfl) ?_
    refine O.p rfl rfl rfl (Pu.add64 (r := ((bs.length + 1 : Nat) : Int)) rfl (by omega) rfl rfl rfl) ?_
    refine O.e rfl rfl rfl (Ef.make I64 (0 : Int) rfl Try.underlying34 inf2 rfl rfl rfl rfl (by omega) (by omega)) ?_
    rintro _ _ ⟨A1, hA1, rfl, rfl⟩
    refine O.p rfl rfl rfl (Pu.assign rfl rfl) ?_
    refine O.nil ?_
    refine X.next ?_
    refine V.seq ?_
    refine V.seq ?_
    refine V.region ?_
    refine O.p rfl rfl rfl (Pu.fieldAddr 0 rfl Try.underlying26 rfl sz2 rfl rfl) ?_
    refine O.p rfl rfl rfl (Pu.load rfl pl2 rfl (Ld.blk 1 rfl rfl)) ?_
    refine O.e rfl rfl rfl (Ef.call1 call28 rfl rfl (fun w hw => systemsOfI_ok 40 v w   hfl.2.2.2 hfl.2.2.1 hfl.2.1 hfl.1 (by decide))) ?_
    rintro _ _ rfl
    refine O.exi (fun r1A => ?_)
    refine O.exi (fun r1c => ?_)
    refine O.exi (fun r1 => ?_)
    refine O.sep ?_
    refine O.pur ?_
    rintro ⟨rfl, hr1_1⟩
    refine O.sep ?_
    refine O.fact (RowsA.len 1 rfl) (fun hn_r1 => ?_)
    have htl_r1 := tops_len r1
    have hclr1 := conts_len r1
    have hcl2 := hclr1
    rw [hr1_1] at hcl2
    have hrow : ∀ k (hk : k < r1.length), (r1[k]).2 ∈ compM 40 v.toNat 0 := fun k hk => by rw [← hr1_1]; exact List.mem_map_of_mem (List.getElem_mem hk)
    have hcm : ∀ k (hk : k < r1.length), (r1[k]).2.length = bs.length := fun k hk => by have h1 := comp_count 40 _ 0 _ hfl.2.2.1 (hrow k hk); omega
    have hcs : ∀ k (hk : k < r1.length), (r1[k]).2.Pairwise B3.lt := fun k hk => comp_sorted 40 _ 0 _ hfl.2.2.1 (hrow k hk)
    refine O.p rfl rfl rfl (Pu.len rfl Try.underlying52 rfl) ?_
    refine O.p rfl rfl rfl (Pu.move rfl rfl) ?_
    refine O.nil ?_
    refine X.next ?_
    refine V.block ?_
    refine V.loop3 (β := Nat × (List Int)) (fun x => [(22, .int .i64 (x.1 : Int))]) _ (fun x => [Own 2 I64 A1 (bs.length + 1) x.2]) _ (fun x => x.1 ≤ r1.length ∧ x.2 = (cntC bs (conts r1) (bs.length + 1) x.1)) (fun x => r1.length - x.1) (0, (List.replicate (bs.length + 1) (0 : Int))) (by (try dsimp only); exact ⟨by omega, cntC_start.symm⟩) (Ent.cons rfl (Ent.nil _)) (Ent.cons (t := 1) rfl (Ent.cons (t := 5) rfl (Ent.cons (t := 20) rfl (Ent.cons (t := 21) rfl (Ent.nil _))))) (Sub.keep 2 rfl (Sub.keep 0 rfl (Sub.keep 0 rfl (Sub.keep 0 rfl (Sub.nil _))))) ?_
    rintro ⟨i, o⟩ ⟨hi, ho⟩
    dsimp only at hi ho ⊢
    subst ho
    have hln := cntC_len (bs := bs) (ls := conts r1) (n := bs.length + 1) (i := i)
    refine V.seq ?_
    refine V.region ?_
    refine O.p rfl rfl rfl (Pu.lss rfl rfl rfl) ?_
    refine O.nil ?_
    refine X.next ?_
    refine V.seq ?_
    refine V.condD rfl (fun c2 => ?_) (fun c2 => ?_)
    · skip
      refine V.skip ?_
      refine X.next ?_
      refine V.seq ?_
      refine V.block ?_
      refine V.seq ?_
      refine V.region ?_
      refine O.p rfl rfl rfl (Pu.indexAddrS (i) rfl Try.underlying52 sz26 rfl rfl (by omega) (by omega) (fun w hw => Own.some hw (i := 1) (by exact rfl) (by omega))) ?_
      have e1 : i < r1.length := by have := tops_len r1; omega
      refine O.p rfl rfl rfl (Pu.loadAgg' (v := .agg #[.int .i64 v, .slice (r1[i]'e1).1.A (r1[i]'e1).2.length (r1[i]'e1).1.c]) rfl rfl ag26 sz26 rfl rfl (Ld.rowY (Ld.own 1 (by exact rfl)) hn_r1 e1 rfl)) ?_
      refine O.e rfl rfl rfl (Ef.alloc rfl zr26 rfl) ?_
      rintro _ _ ⟨b2, rfl, rfl⟩
      refine O.s rfl rfl (Ef.storeAll 0 rfl sz26 rfl rfl rfl rfl (by simp [Value.oneCell']) rfl) ?_
      rintro _ _ rfl
      refine O.nil ?_
      refine X.next ?_
      refine V.region ?_
      refine O.p rfl rfl rfl (Pu.move rfl rfl) ?_
      refine O.p rfl rfl rfl (Pu.fieldAddr 1 rfl Try.underlying26 rfl sz24 rfl rfl) ?_
      refine O.p rfl rfl rfl (Pu.load rfl pl24 rfl (Ld.blk 4 rfl rfl)) ?_
      refine O.p rfl rfl rfl (Pu.fieldAddr 1 rfl Try.underlying26 rfl sz24 rfl rfl) ?_
      refine O.p rfl rfl rfl (Pu.load rfl pl24 rfl (Ld.blk 0 rfl rfl)) ?_
      refine O.e rfl rfl rfl (Ef.call1 call41 rfl rfl (fun w hw => implCommon_ok  bs ((r1[i]'e1).2) _ _ _ _ w ((Ld.old hx) w hw) ((Ld.rows 3 (by exact rfl) e1) w hw) (by first | omega | (simp only [tops_len, conts_len, bl, List.length_append, List.length_cons, List.length_nil] at *; omega)) (by have := hcm i e1; omega) )) ?_
      rintro _ _ rfl
      refine O.exi (fun r2A => ?_)
      refine O.exi (fun r2c => ?_)
      refine O.exi (fun r2 => ?_)
      refine O.sep ?_
      refine O.pur ?_
      rintro ⟨rfl, hr2_1⟩
      have hq2 : r2.length = (bs.filter fun b => decide (b ∈ (r1[i]'e1).2)).length := by rw [hr2_1]
      have hq3 := cmn_le (bs := bs) (q := (r1[i]'e1).2)
      have hcb := cntC_bd (bs := bs) (ls := conts r1) (n := bs.length + 1) (i := i) (q := r2.length) (by rw [cntC_len]; omega)
      refine O.p rfl rfl rfl (Pu.len rfl Try.underlying24 rfl) ?_
      refine O.p rfl rfl rfl (Pu.indexAddrS (r2.length) rfl Try.underlying34 sz2 rfl rfl (by omega) (by omega) (fun w hw => Own.some hw (i := 2) (by exact rfl) (by rw [cntC_len]; omega))) ?_
      have e2 : r2.length < (cntC bs (conts r1) (bs.length + 1) i).length := by omega
      refine O.p rfl rfl rfl (Pu.load rfl pl2 rfl (Ld.rd (Ld.own 2 (by exact rfl)) (k := r2.length) e2 rfl rfl)) ?_
      refine O.p rfl rfl rfl (Pu.add64 rfl (by omega) rfl rfl rfl) ?_
      refine O.p rfl rfl rfl (Pu.indexAddrS (r2.length) rfl Try.underlying34 sz2 rfl rfl (by omega) (by omega) (fun w hw => Own.some hw (i := 2) (by exact rfl) (by rw [cntC_len]; omega))) ?_
      refine O.s rfl rfl (Ef.storeOwn 2 (r2.length) (((cntC bs (conts r1) (bs.length + 1) i)[r2.length]'e2) + (1 : Int)) rfl sz2 rfl rfl rfl rfl (by rw [cntC_len]; omega) rfl) ?_
      rintro _ _ rfl
      refine O.nil ?_
      refine X.blockNormal ?_
      refine X.next ?_
      refine V.region ?_
      refine O.p rfl rfl rfl (Pu.add64 (r := ((i + 1 : Nat) : Int)) rfl (by omega) rfl rfl rfl) ?_
      refine O.p rfl rfl rfl (Pu.move rfl rfl) ?_
      refine O.nil ?_
      exact X.back3 (i + 1, ((cntC bs (conts r1) (bs.length + 1) i).set (r2.length) (((cntC bs (conts r1) (bs.length + 1) i)[r2.length]'e2) + (1 : Int)))) (by (try dsimp only); exact ⟨by omega, cntC_step (by rw [conts_len]; exact e1) (by rw [conts_get]; exact hq2.symm) (by rw [cntC_len]; omega)⟩) (by first | omega | (dsimp only; omega)) (Ent.cons rfl (Ent.nil _)) (Ent.cons (t := 1) rfl (Ent.cons (t := 5) rfl (Ent.cons (t := 20) rfl (Ent.cons (t := 21) rfl (Ent.nil _))))) (Sub.keep 2 rfl (Sub.keep 2 rfl (Sub.keep 2 rfl (Sub.keep 2 rfl (Sub.nil _)))))
    · skip
      refine V.exit ?_
      refine X.thenExit ?_
      refine X.thenExit ?_
      refine X.blockHit ?_
      refine X.next ?_
      refine V.seq ?_
      refine V.region ?_
      refine O.p rfl rfl rfl (Pu.move rfl rfl) ?_
      refine O.p rfl rfl rfl (Pu.assign rfl rfl) ?_
      refine O.p rfl rfl rfl (Pu.assign rfl rfl) ?_
      refine O.nil ?_
      refine X.next ?_
      refine V.ret ?_
      refine X.ret2 rfl rfl rfl ?_
      exact fun w hw => St.mkExi A1 (St.mkExi (bs.length + 1) (St.mkExi (cntC bs (conts r1) (bs.length + 1) i) (St.unsep (St.addPur ⟨(by rw [cmR_0 hS hF]; simp [cntC_len]), (by rw [cmR_0 hS hF]; show _ = cntC bs (allN v) (bs.length + 1) (allN v).length; rw [show allN v = conts r1 from hr1_1.symm, conts_len, show i = r1.length by omega])⟩ (hw.sub (Sub.keep 0 rfl (Sub.nil _)))))))
set_option maxRecDepth 100000 in
set_option maxHeartbeats 1000000 in
theorem specCommonNumbers_ok (v : Int) (bs : List B3) (A : Option Addr) (c : Nat) (w : World) (hx : Rd B3C w A bs) (lx : bs.length ≤ 4611686018427387904) : Does Try.prog 14 [.agg #[.int .i64 v, .slice A bs.length c]] w [] (fun r => [.exi fun (oA : Option Addr) => .exi fun (oc : Nat) => .exi fun (o : List Int) => .sep (.pur (r = .tuple #[.slice oA o.length oc, .int .i64 ((cmR v bs).2)] ∧ o = (cmR v bs).1)) (Own 2 I64 oA oc o)]) := by
  refine Does.enter Try.func14 rfl rfl [(0, .agg #[.int .i64 v, .slice A bs.length c])] rfl ?_
  refine V.seq ?_
  refine V.region ?_
  refine O.e rfl rfl rfl (Ef.box rfl rfl rfl) ?_
  rintro _ _ ⟨b1, rfl, rfl⟩
  refine O.p rfl rfl rfl (Pu.assign rfl rfl) ?_
  refine O.p rfl rfl rfl (Pu.assign rfl rfl) ?_
  refine O.nil ?_
  refine X.next ?_
  refine V.seq ?_
  refine V.seq ?_
  refine V.region ?_
  refine O.p rfl rfl rfl (Pu.loadAgg rfl ag26 sz26 rfl rfl (Ld.whole 0 rfl)) ?_
  refine O.e rfl rfl rfl (Ef.callP call31 rfl rfl (fun w hw => l10Code_ok  v bs _ _ w ((Ld.old hx) w hw) (by first | omega | (simp only [tops_len, conts_len, bl, List.length_append, List.length_cons, List.length_nil] at *; omega)) )) ?_
  rintro _ _ ⟨rfl, rfl⟩
  refine O.p rfl rfl rfl (Pu.assign rfl rfl) ?_
  refine O.nil ?_
  refine X.next ?_
  refine V.seq ?_
  refine V.region ?_
  refine O.p rfl rfl rfl (Pu.move rfl rfl) ?_
  refine O.p rfl rfl rfl (Pu.neq rfl rfl rfl) ?_
  refine O.nil ?_
  refine X.next ?_
  refine V.condNot rfl (fun c1 => ?_) (fun c1 => ?_)
  · skip
    refine V.seq ?_
    refine V.region ?_
    refine O.p rfl rfl rfl (Pu.move rfl rfl) ?_
    refine O.p rfl rfl rfl (Pu.assign rfl rfl) ?_
    refine O.p rfl rfl rfl (Pu.assign rfl rfl) ?_
    refine O.nil ?_
    refine X.next ?_
    refine V.ret ?_
    refine X.thenRet ?_
    refine X.ret2 rfl rfl rfl ?_
    exact fun w hw => St.mkExi none (St.mkExi 0 (St.mkExi [] (St.unsep (St.addPur ⟨(by rw [cmR_no rfl c1]; try rfl), (by rw [cmR_no rfl c1])⟩ (St.addNil (T := 2) (C := I64) (hw.sub (Sub.nil _)))))))
  · skip
    have hS : STS v bs := by apply Decidable.byContradiction; intro h; rw [if_neg h] at c1; exact absurd c1 (by decide)
    rw [if_pos hS] at c1
    have hF : Few v bs := by apply Decidable.byContradiction; intro h; rw [if_neg h] at c1; exact absurd c1 (by decide)
    clear c1
    have hfl := few_len hF.1
    have hflt := few_lt hF.1
    have hfw := hS.few
    have hlb := few_left hF
    refine V.skip ?_
    refine X.next ?_
    refine V.seq ?_
    refine V.cutE (β := (Option Addr) × Nat × (List (Sl × List B3)) × (Option Addr) × Nat × (List Int)) (fun x => [(5, .slice x.1 (tops x.2.2.1).length x.2.1), (6, .slice x.2.2.2.1 (bs.length + 1) x.2.2.2.2.1)]) _ (fun x => [Own 26 (SyC v) x.1 x.2.1 (tops x.2.2.1), RowsA 56 B3C x.2.2.1, Own 2 I64 x.2.2.2.1 x.2.2.2.2.1 x.2.2.2.2.2]) _ (fun x => conts x.2.2.1 = compM 40 v.toNat 0 ∧ x.2.2.2.2.2 = List.replicate (bs.length + 1) 0 ∧ x.2.2.2.1.isSome = true) (Ent.cons (t := 1) rfl (Ent.nil _)) (Sub.keep 0 rfl (Sub.nil _)) ?_ ?_
    · skip
      refine V.draw mo (by kernel_rfl) (fun hwf => ?_)
      refine D.p 0 rfl rfl rfl rfl rfl rfl (Pu.fieldAddr 0 rfl Try.underlying26 rfl sz2 rfl rfl) ?_
      refine D.p 1 rfl rfl rfl rfl rfl rfl (Pu.load rfl pl2 rfl (Ld.blk 0 rfl rfl)) ?_
      refine D.p 3 rfl rfl rfl rfl rfl rfl (Pu.fieldAddr 1 rfl Try.underlying26 rfl sz24 rfl rfl) ?_
      refine D.p 4 rfl rfl rfl rfl rfl rfl (Pu.load rfl pl24 rfl (Ld.blk 0 rfl rfl)) ?_
      refine D.p 5 rfl rfl rfl rfl rfl rfl (Pu.len rfl Try.underlying24 rfl) ?_
      refine D.p 6 rfl rfl rfl rfl rfl rfl (Pu.add64 (r := ((bs.length + 1 : Nat) : Int)) rfl (by omega) rfl rfl rfl) ?_
      refine D.either hwf (e1 := 2) (e2 := 7) rfl ?_ ?_
      · skip
        refine ⟨_, _, rfl, rfl, fun _ _ => wanted_none rfl _, Ef.call1 call32 rfl rfl (fun w hw => l10AllI_ok 40 v w   hfl.2.2.2 hfl.2.2.1 hfl.2.1 hflt (by decide)), rfl, rfl, ?_⟩
        rintro _ _ rfl hs
        refine ⟨fun w hw => hs w hw.tail, ?_⟩
        refine D.exi (fun r1A => ?_)
        refine D.exi (fun r1c => ?_)
        refine D.exi (fun r1 => ?_)
        refine D.sep ?_
        refine D.pur1 ?_
        rintro ⟨rfl, hr1_1⟩
        refine D.sep ?_
        refine D.pur (RowsA.len 1 rfl) (fun hn_r1 => ?_)
        have htl_r1 := tops_len r1
        refine D.p 8 rfl rfl rfl rfl rfl rfl (Pu.assign rfl rfl) ?_
        refine D.eff hwf (e := 7) rfl rfl rfl rfl (Ef.make I64 (0 : Int) rfl Try.underlying34 inf2 rfl rfl rfl rfl (by omega) (by omega)) rfl rfl rfl ?_
        rintro _ _ ⟨A1, hA1, rfl, rfl⟩ hs
        refine ⟨fun w hw => hw.sub (Sub.keep 3 rfl (Sub.nil _)), ?_⟩
        refine D.p 9 rfl rfl rfl rfl rfl rfl (Pu.assign rfl rfl) ?_
        refine D.done hwf rfl ?_
        exact X.cutE (r1A, r1c, r1, A1, bs.length + 1, (List.replicate (bs.length + 1) (0 : Int))) (by (try dsimp only); exact ⟨hr1_1, rfl, hA1⟩) (Ent.cons' rfl (by first | rfl | (simp only [tops_append]; done) | (simp only [tops_append]; rfl)) (Ent.cons rfl (Ent.nil _))) (Ent.cons (t := 1) rfl (Ent.nil _)) (Sub.keep 1 rfl (Sub.keep 1 rfl (Sub.keep 0 rfl (Sub.keep 0 rfl (Sub.nil _)))))
      · skip
        refine ⟨_, _, rfl, rfl, fun _ _ => wanted_none rfl _, Ef.make I64 (0 : Int) rfl Try.underlying34 inf2 rfl rfl rfl rfl (by omega) (by omega), rfl, rfl, ?_⟩
        rintro _ _ ⟨A1, hA1, rfl, rfl⟩ hs
        refine ⟨fun w hw => hw.sub (Sub.keep 1 rfl (Sub.nil _)), ?_⟩
        refine D.eff hwf (e := 2) rfl rfl rfl rfl (Ef.call1 call32 rfl rfl (fun w hw => l10AllI_ok 40 v w   hfl.2.2.2 hfl.2.2.1 hfl.2.1 hflt (by decide))) rfl rfl rfl ?_
        rintro _ _ rfl hs
        refine ⟨fun w hw => hs w hw.tail, ?_⟩
        refine D.exi (fun r1A => ?_)
        refine D.exi (fun r1c => ?_)
        refine D.exi (fun r1 => ?_)
        refine D.sep ?_
        refine D.pur1 ?_
        rintro ⟨rfl, hr1_1⟩
        refine D.sep ?_
        refine D.pur (RowsA.len 1 rfl) (fun hn_r1 => ?_)
        have htl_r1 := tops_len r1
        refine D.p 8 rfl rfl rfl rfl rfl rfl (Pu.assign rfl rfl) ?_
        refine D.p 9 rfl rfl rfl rfl rfl rfl (Pu.assign rfl rfl) ?_
        refine D.done hwf rfl ?_
        exact X.cutE (r1A, r1c, r1, A1, bs.length + 1, (List.replicate (bs.length + 1) (0 : Int))) (by (try dsimp only); exact ⟨hr1_1, rfl, hA1⟩) (Ent.cons' rfl (by first | rfl | (simp only [tops_append]; done) | (simp only [tops_append]; rfl)) (Ent.cons rfl (Ent.nil _))) (Ent.cons (t := 1) rfl (Ent.nil _)) (Sub.keep 0 rfl (Sub.keep 0 rfl (Sub.keep 0 rfl (Sub.keep 0 rfl (Sub.nil _)))))
    · skip
      rintro ⟨r1A, r1c, r1, out0A, out0c, out0⟩ ⟨hr1_1, ho0, hs0⟩
      dsimp only at hr1_1 ho0 hs0 ⊢
      refine X.fact (RowsA.len 1 rfl) (fun hn_r1 => ?_)
      have htl_r1 := tops_len r1
      have hclr1 := conts_len r1
      have hcl2 := hclr1
      rw [hr1_1] at hcl2
      have hrow : ∀ k (hk : k < r1.length), (r1[k]).2 ∈ compM 40 v.toNat 0 := fun k hk => by rw [← hr1_1]; exact List.mem_map_of_mem (List.getElem_mem hk)
      have hcm : ∀ k (hk : k < r1.length), (r1[k]).2.length = bs.length := fun k hk => by have h1 := comp_count 40 _ 0 _ hfl.2.2.1 (hrow k hk); omega
      have hcs : ∀ k (hk : k < r1.length), (r1[k]).2.Pairwise B3.lt := fun k hk => comp_sorted 40 _ 0 _ hfl.2.2.1 (hrow k hk)
      refine X.next ?_
      refine V.seq ?_
      refine V.seq ?_
      refine V.region ?_
      refine O.p rfl rfl rfl (Pu.assign rfl rfl) ?_
      refine O.nil ?_
      refine X.next ?_
      refine V.block ?_
      refine V.loop3 (β := Nat × (List Int)) (fun x => [(7, .int .i64 (x.1 : Int))]) _ (fun x => [Own 2 I64 out0A out0c x.2]) _ (fun x => x.1 ≤ r1.length ∧ x.2 = (cntC bs (conts r1) (bs.length + 1) x.1)) (fun x => r1.length - x.1) (0, out0) (by (try dsimp only); exact ⟨by omega, by rw [ho0]; exact cntC_start.symm⟩) (Ent.cons rfl (Ent.nil _)) (Ent.cons (t := 1) rfl (Ent.cons (t := 5) rfl (Ent.cons (t := 6) rfl (Ent.nil _)))) (Sub.keep 2 rfl (Sub.keep 0 rfl (Sub.keep 0 rfl (Sub.keep 0 rfl (Sub.nil _))))) ?_
      rintro ⟨i, o⟩ ⟨hi, ho⟩
      dsimp only at hi ho ⊢
      subst ho
      have hln := cntC_len (bs := bs) (ls := conts r1) (n := bs.length + 1) (i := i)
      refine V.seq ?_
      refine V.seq ?_
      refine V.region ?_
      refine O.p rfl rfl rfl (Pu.move rfl rfl) ?_
      refine O.p rfl rfl rfl (Pu.move rfl rfl) ?_
      refine O.p rfl rfl rfl (Pu.len rfl Try.underlying52 rfl) ?_
      refine O.p rfl rfl rfl (Pu.lss rfl rfl rfl) ?_
      refine O.nil ?_
      refine X.next ?_
      refine V.condD rfl (fun c2 => ?_) (fun c2 => ?_)
      · skip
        refine V.skip ?_
        refine X.next ?_
        refine V.seq ?_
        refine V.block ?_
        have ei : i < r1.length := by omega
        have hci := hcm i ei
        have hq2 : ((r1[i]'ei).2.filter fun b => decide (b ∈ bs)).length = (bs.filter fun b => decide (b ∈ (r1[i]'ei).2)).length := cmn_comm (sts_lt hS) (hcs i ei)
        have hq3 := cmn_le (bs := bs) (q := (r1[i]'ei).2)
        have hcb := cntC_bd (bs := bs) (ls := conts r1) (n := bs.length + 1) (i := i) (q := ((r1[i]'ei).2.filter fun b => decide (b ∈ bs)).length) (by rw [cntC_len]; omega)
        refine V.draw mo (by kernel_rfl) (fun hwf => ?_)
        refine D.p 0 rfl rfl rfl rfl rfl rfl (Pu.move rfl rfl) ?_
        refine D.p 1 rfl rfl rfl rfl rfl rfl (Pu.move rfl rfl) ?_
        refine D.p 2 rfl rfl rfl rfl rfl rfl (Pu.move rfl rfl) ?_
        refine D.p 3 rfl rfl rfl rfl rfl rfl (Pu.indexAddrS (i) rfl Try.underlying52 sz26 rfl rfl (by omega) (by omega) (fun w hw => Own.some hw (i := 1) (by exact rfl) (by omega))) ?_
        refine D.p 4 rfl rfl rfl rfl rfl rfl (Pu.loadAgg' (v := .agg #[.int .i64 v, .slice (r1[i]'ei).1.A (r1[i]'ei).2.length (r1[i]'ei).1.c]) rfl rfl ag26 sz26 rfl rfl (Ld.rowY (Ld.own 1 (by exact rfl)) hn_r1 ei rfl)) ?_
        refine D.p 5 rfl rfl rfl rfl rfl rfl (Pu.loadAgg rfl ag26 sz26 rfl rfl (Ld.whole 3 rfl)) ?_
        refine D.eff hwf (e := 6) rfl rfl rfl rfl (Ef.callP call33 rfl rfl (fun w hw => l10Common_ok  v ((r1[i]'ei).2) v bs _ _ _ _ w ((Ld.rows 2 (by exact rfl) ei) w hw) ((Ld.old hx) w hw) (by omega) (by omega) (by omega) (by omega))) rfl rfl rfl ?_
        rintro _ _ ⟨rfl, rfl⟩ hs
        refine ⟨fun w hw => hw, ?_⟩
        refine D.p 7 rfl rfl rfl rfl rfl rfl (Pu.indexAddrS (((((r1[i]'ei).2).filter fun b => decide (b ∈ bs)).length)) rfl Try.underlying34 sz2 rfl rfl (by omega) (by omega) (fun w hw => Own.some hw (i := 0) (by exact rfl) (by rw [cntC_len]; omega))) ?_
        have e1 : ((((r1[i]'ei).2).filter fun b => decide (b ∈ bs)).length) < (cntC bs (conts r1) (bs.length + 1) i).length := by omega
        refine D.p 8 rfl rfl rfl rfl rfl rfl (Pu.load rfl pl2 rfl (Ld.rd (Ld.own 0 (by exact rfl)) (k := ((((r1[i]'ei).2).filter fun b => decide (b ∈ bs)).length)) e1 rfl rfl)) ?_
        refine D.p 9 rfl rfl rfl rfl rfl rfl (Pu.add64 rfl (by omega) rfl rfl rfl) ?_
        refine D.p 10 rfl rfl rfl rfl rfl rfl (Pu.indexAddrS (((((r1[i]'ei).2).filter fun b => decide (b ∈ bs)).length)) rfl Try.underlying34 sz2 rfl rfl (by omega) (by omega) (fun w hw => Own.some hw (i := 0) (by exact rfl) (by rw [cntC_len]; omega))) ?_
        refine D.effX (Hs' := []) hwf (e := 11) rfl rfl rfl rfl (Ef.storeOwn 0 (((((r1[i]'ei).2).filter fun b => decide (b ∈ bs)).length)) (((cntC bs (conts r1) (bs.length + 1) i)[((((r1[i]'ei).2).filter fun b => decide (b ∈ bs)).length)]'e1) + (1 : Int)) rfl sz2 rfl rfl rfl rfl (by rw [cntC_len]; omega) rfl) rfl [] rfl (List.forall_mem_nil _) ?_
        rintro _ _ rfl
        refine ⟨fun w hw => hw.sub (Sub.nil _), ?_⟩
        refine D.done hwf rfl ?_
        refine X.blockNormal ?_
        refine X.next ?_
        refine V.region ?_
        refine O.p rfl rfl rfl (Pu.move rfl rfl) ?_
        refine O.p rfl rfl rfl (Pu.add64 (r := ((i + 1 : Nat) : Int)) rfl (by omega) rfl rfl rfl) ?_
        refine O.p rfl rfl rfl (Pu.assign rfl rfl) ?_
        refine O.nil ?_
        exact X.back3 (i + 1, ((cntC bs (conts r1) (bs.length + 1) i).set (((((r1[i]'ei).2).filter fun b => decide (b ∈ bs)).length)) (((cntC bs (conts r1) (bs.length + 1) i)[((((r1[i]'ei).2).filter fun b => decide (b ∈ bs)).length)]'e1) + (1 : Int)))) (by (try dsimp only); exact ⟨by omega, cntC_step (by rw [conts_len]; exact ei) (by rw [conts_get]; exact hq2.symm) (by rw [cntC_len]; omega)⟩) (by first | omega | (dsimp only; omega)) (Ent.cons rfl (Ent.nil _)) (Ent.cons (t := 1) rfl (Ent.cons (t := 5) rfl (Ent.cons (t := 6) rfl (Ent.nil _)))) (Sub.keep 0 rfl (Sub.keep 0 rfl (Sub.keep 0 rfl (Sub.keep 0 rfl (Sub.nil _)))))
      · skip
        refine V.exit ?_
        refine X.thenExit ?_
        refine X.thenExit ?_
        refine X.blockHit ?_
        refine X.next ?_
        refine V.seq ?_
        refine V.region ?_
        refine O.p rfl rfl rfl (Pu.move rfl rfl) ?_
        refine O.p rfl rfl rfl (Pu.assign rfl rfl) ?_
        refine O.p rfl rfl rfl (Pu.assign rfl rfl) ?_
        refine O.nil ?_
        refine X.next ?_
        refine V.ret ?_
        refine X.ret2 rfl rfl rfl ?_
        exact fun w hw => St.mkExi out0A (St.mkExi out0c (St.mkExi (cntC bs (conts r1) (bs.length + 1) i) (St.unsep (St.addPur ⟨(by rw [cmR_0 hS hF]; simp [cntC_len]), (by rw [cmR_0 hS hF]; show _ = cntC bs (allN v) (bs.length + 1) (allN v).length; rw [show allN v = conts r1 from hr1_1.symm, conts_len, show i = r1.length by omega])⟩ (hw.sub (Sub.keep 0 rfl (Sub.nil _)))))))
set_option maxRecDepth 100000 in
set_option maxHeartbeats 1000000 in
theorem l01From_ok (code : List UInt8) (codeA : Option Addr) (codec : Nat) (w : World) (hcode : Rd U8C w codeA code) (lcode : code.length ≤ 1099511627776) (lc : code.length ≤ 1048576) : Does Try.prog 25 [.slice codeA code.length codec] w [] (fun r => [.exi fun (s : Nat) => .sep (.pur (r = .pointer (some ⟨s, 0, none⟩))) (SrcK 73 codeA codec code s)]) := by
  refine Does.enter Try.func25 rfl rfl [(0, .slice codeA code.length codec)] rfl ?_
  refine V.seq ?_
  refine V.region ?_
  refine O.p rfl rfl rfl (Pu.assign rfl rfl) ?_
  refine O.nil ?_
  refine X.next ?_
  refine V.seq ?_
  refine V.region ?_
  refine O.p rfl rfl rfl (Pu.move rfl rfl) ?_
  refine O.p rfl rfl rfl (Pu.move rfl rfl) ?_
  refine O.p rfl rfl rfl (Pu.len rfl Try.underlying22 rfl) ?_
  refine O.p rfl rfl rfl (Pu.convU' code.length (by omega) ⟨_, Try.underlying3⟩ Try.underlying71 (by omega) rfl rfl) ?_
  refine O.p rfl rfl rfl (Pu.addU (m := 13551) (n := code.length) rfl rfl rfl) ?_
  refine O.p rfl rfl rfl (Pu.buildS (cs := [.slice codeA code.length codec, .int .i64 (0 : Int), .int .u64 (↑(((13551 + code.length) % 18446744073709551616)) : Int)]) rfl rfl Try.underlying73 zr73 (by kernel_rfl) rfl (by kernel_rfl)) ?_
  refine O.e rfl rfl rfl (Ef.box rfl rfl rfl) ?_
  rintro _ _ ⟨b1, rfl, rfl⟩
  refine O.p rfl rfl rfl (Pu.assign rfl rfl) ?_
  refine O.nil ?_
  refine X.next ?_
  refine V.seq ?_
  refine V.seq ?_
  refine V.map (fun w hw => SrcK.mk (a := 0) (h := ((13551 + code.length) % 18446744073709551616)) ⟨by omega, by omega⟩ hw) ?_
  refine V.region ?_
  refine O.p rfl rfl rfl (Pu.assign rfl rfl) ?_
  refine O.nil ?_
  refine X.next ?_
  refine V.block ?_
  refine V.loop3 (β := Nat) (fun i => [(4, .int .i64 (i : Int))]) _ (fun i => []) _ (fun i => i ≤ code.length) (fun i => code.length - i) 0 (by omega) (Ent.cons rfl (Ent.nil _)) (Ent.cons (t := 0) rfl (Ent.cons (t := 3) rfl (Ent.nil _))) (Sub.keep 0 rfl (Sub.nil _)) ?_
  rintro i hi
  refine V.seq ?_
  refine V.seq ?_
  refine V.region ?_
  refine O.p rfl rfl rfl (Pu.move rfl rfl) ?_
  refine O.p rfl rfl rfl (Pu.move rfl rfl) ?_
  refine O.p rfl rfl rfl (Pu.len rfl Try.underlying22 rfl) ?_
  refine O.p rfl rfl rfl (Pu.lss rfl rfl rfl) ?_
  refine O.p rfl rfl rfl (Pu.move rfl rfl) ?_
  refine O.splitD 16 rfl (fun c1 => ?_) (fun c1 => ?_)
  · skip
    refine O.gp rfl rfl rfl rfl rfl (Pu.move rfl rfl) ?_
    refine O.gp rfl rfl rfl rfl rfl (Pu.lss rfl rfl rfl) ?_
    refine O.p rfl rfl rfl (Pu.pickT rfl rfl rfl) ?_
    refine O.nil ?_
    refine X.next ?_
    refine V.condD rfl (fun c2 => ?_) (fun c2 => ?_)
    · skip
      refine V.skip ?_
      refine X.next ?_
      refine V.seq ?_
      refine V.block ?_
      refine V.srcK (fun at1 word1 hat1 hword1 => ?_)
      refine V.draw mo (by kernel_rfl) (fun hwf => ?_)
      refine D.p 0 rfl rfl rfl rfl rfl rfl (Pu.move rfl rfl) ?_
      refine D.p 1 rfl rfl rfl rfl rfl rfl (Pu.move rfl rfl) ?_
      refine D.p 2 rfl rfl rfl rfl rfl rfl (Pu.nilCheck rfl rfl) ?_
      refine D.p 3 rfl rfl rfl rfl rfl rfl (Pu.fieldAddr 2 rfl Try.underlying73 rfl sz71 rfl rfl) ?_
      refine D.p 4 rfl rfl rfl rfl rfl rfl (Pu.load rfl pl71 rfl (Ld.blk 0 rfl rfl)) ?_
      refine D.p 5 rfl rfl rfl rfl rfl rfl (Pu.mulU (m := word1) (n := 1099511628211) rfl rfl rfl) ?_
      refine D.p 6 rfl rfl rfl rfl rfl rfl (Pu.move rfl rfl) ?_
      refine D.p 7 rfl rfl rfl rfl rfl rfl (Pu.move rfl rfl) ?_
      refine D.p 8 rfl rfl rfl rfl rfl rfl (Pu.indexAddr (i) rfl Try.underlying22 sz5 rfl rfl (by omega) (by omega) (hcode.some (by omega))) ?_
      have e1 : i < code.length := by omega
      have hu1 := UInt8.toNat_lt (code[i]'e1)
      refine D.p 9 rfl rfl rfl rfl rfl rfl (Pu.load rfl pl5 rfl (Ld.rd (Ld.old hcode) (k := i) e1 rfl rfl)) ?_
      refine D.p 10 rfl rfl rfl rfl rfl rfl (Pu.convU' ((code[i]'e1).toNat) (by omega) ⟨_, Try.underlying5⟩ Try.underlying71 (by omega) rfl rfl) ?_
      refine D.p 11 rfl rfl rfl rfl rfl rfl (Pu.addU (m := (word1 * 1099511628211 % 18446744073709551616)) (n := (code[i]'e1).toNat) rfl rfl rfl) ?_
      refine D.p 12 rfl rfl rfl rfl rfl rfl (Pu.addU (m := (((word1 * 1099511628211 % 18446744073709551616) + (code[i]'e1).toNat) % 18446744073709551616)) (n := 179) rfl rfl rfl) ?_
      refine D.p 13 rfl rfl rfl rfl rfl rfl (Pu.nilCheck rfl rfl) ?_
      refine D.p 14 rfl rfl rfl rfl rfl rfl (Pu.fieldAddr 2 rfl Try.underlying73 rfl sz71 rfl rfl) ?_
      refine D.effX (Hs' := []) hwf (e := 15) rfl rfl rfl rfl (Ef.store1 (cs' := [_, _, _]) 0 rfl sz71 rfl rfl rfl rfl rfl (ltb rfl) rfl) rfl [13] rfl (List.forall_mem_cons.2 ⟨⟨35, _, rfl, rfl, Det.of rfl rfl rfl (Pu.nilCheck rfl rfl)⟩, List.forall_mem_nil _⟩) ?_
      rintro _ _ rfl
      refine ⟨fun w hw => hw.sub (Sub.nil _), ?_⟩
      refine D.done hwf rfl ?_
      refine X.blockNormal ?_
      refine X.next ?_
      refine V.map (fun w hw => SrcK.mk (a := at1) (h := (((((word1 * 1099511628211 % 18446744073709551616) + (code[i]'e1).toNat) % 18446744073709551616) + 179) % 18446744073709551616)) ⟨by omega, by omega⟩ hw) ?_
      refine V.region ?_
      refine O.p rfl rfl rfl (Pu.move rfl rfl) ?_
      refine O.p rfl rfl rfl (Pu.add64 (r := ((i + 1 : Nat) : Int)) rfl (by omega) rfl rfl rfl) ?_
      refine O.p rfl rfl rfl (Pu.assign rfl rfl) ?_
      refine O.nil ?_
      exact X.back3 (i + 1) (by omega) (by first | omega | (dsimp only; omega)) (Ent.cons rfl (Ent.nil _)) (Ent.cons (t := 0) rfl (Ent.cons (t := 3) rfl (Ent.nil _))) (Sub.keep 0 rfl (Sub.nil _))
    · skip
      refine V.exit ?_
      refine X.thenExit ?_
      refine X.thenExit ?_
      refine X.blockHit ?_
      refine X.next ?_
      refine V.seq ?_
      refine V.region ?_
      refine O.p rfl rfl rfl (Pu.move rfl rfl) ?_
      refine O.p rfl rfl rfl (Pu.assign rfl rfl) ?_
      refine O.nil ?_
      refine X.next ?_
      refine V.ret ?_
      refine X.ret1 rfl rfl ?_
      exact fun w hw => St.mkExi b1 (St.unsep (St.addPur rfl (hw.sub (Sub.keep 0 rfl (Sub.nil _)))))
  · skip
    refine O.gs rfl rfl rfl rfl rfl rfl ?_
    refine O.gs rfl rfl rfl rfl rfl rfl ?_
    refine O.p rfl rfl rfl (Pu.pickF rfl rfl rfl) ?_
    refine O.nil ?_
    refine X.next ?_
    refine V.condF rfl ?_
    refine V.exit ?_
    refine X.thenExit ?_
    refine X.thenExit ?_
    refine X.blockHit ?_
    refine X.next ?_
    refine V.seq ?_
    refine V.region ?_
    refine O.p rfl rfl rfl (Pu.move rfl rfl) ?_
    refine O.p rfl rfl rfl (Pu.assign rfl rfl) ?_
    refine O.nil ?_
    refine X.next ?_
    refine V.ret ?_
    refine X.ret1 rfl rfl ?_
    exact fun w hw => St.mkExi b1 (St.unsep (St.addPur rfl (hw.sub (Sub.keep 0 rfl (Sub.nil _)))))
set_option maxRecDepth 100000 in
set_option maxHeartbeats 1000000 in
theorem l01Next_ok (cA : Option Addr) (cc : Nat) (code : List UInt8) (s : Nat) (n : Int) (w0 : World) (H : List Assn) (hc : Rd U8C w0 cA code) (lc : code.length ≤ 1048576) : Does Try.prog 35 [.pointer (some ⟨s, 0, none⟩), .int .i64 n] w0 (SrcK 73 cA cc code s :: H) (fun rv_ => [.exi fun (r : Int) => .sep (.pur (rv_ = .int .i64 r ∧ 0 ≤ r ∧ (n < 1 → r = 0) ∧ (1 ≤ n → r < n))) (SrcK 73 cA cc code s)] ++ H) := by
  refine Does.enter Try.func35 rfl rfl [(0, .pointer (some ⟨s, 0, none⟩)), (1, .int .i64 n)] rfl ?_
  refine V.seq ?_
  refine V.region ?_
  refine O.p rfl rfl rfl (Pu.assign rfl rfl) ?_
  refine O.nil ?_
  refine X.next ?_
  refine V.seq ?_
  refine V.seq ?_
  refine V.region ?_
  refine O.p rfl rfl rfl (Pu.move rfl rfl) ?_
  refine O.p rfl rfl rfl (Pu.lss rfl rfl rfl) ?_
  refine O.nil ?_
  refine X.next ?_
  refine V.condD rfl (fun c1 => ?_) (fun c1 => ?_)
  · skip
    refine V.seq ?_
    refine V.region ?_
    refine O.p rfl rfl rfl (Pu.assign rfl rfl) ?_
    refine O.nil ?_
    refine X.next ?_
    refine V.ret ?_
    refine X.thenRet ?_
    refine X.ret1 rfl rfl ?_
    exact fun w hw => St.mkExi (0 : Int) (St.unsep (St.addPur ⟨rfl, by omega, by omega, by omega⟩ (hw.sub (Sub.keep 0 rfl (Sub.refl _)))))
  · skip
    refine V.skip ?_
    refine X.next ?_
    refine V.seq ?_
    refine V.srcK (fun at1 word1 hat1 hword1 => ?_)
    refine V.region ?_
    refine O.p rfl rfl rfl (Pu.move rfl rfl) ?_
    refine O.p rfl rfl rfl (Pu.move rfl rfl) ?_
    refine O.p rfl rfl rfl (Pu.nilCheck rfl rfl) ?_
    refine O.p rfl rfl rfl (Pu.fieldAddr 2 rfl Try.underlying73 rfl sz71 rfl rfl) ?_
    refine O.p rfl rfl rfl (Pu.load rfl pl71 rfl (Ld.blk 0 rfl rfl)) ?_
    refine O.p rfl rfl rfl (Pu.mulU (m := word1) (n := 6364136223846793005) rfl rfl rfl) ?_
    refine O.p rfl rfl rfl (Pu.addU (m := (word1 * 6364136223846793005 % 18446744073709551616)) (n := 1442695040888963407) rfl rfl rfl) ?_
    refine O.p rfl rfl rfl (Pu.nilCheck rfl rfl) ?_
    refine O.p rfl rfl rfl (Pu.fieldAddr 2 rfl Try.underlying73 rfl sz71 rfl rfl) ?_
    refine O.s rfl rfl (Ef.store1 (cs' := [_, _, _]) 0 rfl sz71 rfl rfl rfl rfl rfl (ltb rfl) rfl) ?_
    rintro _ _ rfl
    refine O.nil ?_
    refine X.next ?_
    refine V.seq ?_
    refine V.region ?_
    refine O.p rfl rfl rfl (Pu.move rfl rfl) ?_
    refine O.p rfl rfl rfl (Pu.nilCheck rfl rfl) ?_
    refine O.p rfl rfl rfl (Pu.fieldAddr 2 rfl Try.underlying73 rfl sz71 rfl rfl) ?_
    refine O.p rfl rfl rfl (Pu.load rfl pl71 rfl (Ld.blk 0 rfl rfl)) ?_
    refine O.p rfl rfl rfl (Pu.shr (m := (((word1 * 6364136223846793005 % 18446744073709551616) + 1442695040888963407) % 18446744073709551616)) (p := 33) K64.u (by omega) rfl rfl rfl) ?_
    have hle1 := and_le_r (m := ((((word1 * 6364136223846793005 % 18446744073709551616) + 1442695040888963407) % 18446744073709551616) >>> 33)) (n := 16777215)
    refine O.p rfl rfl rfl (Pu.andU (m := ((((word1 * 6364136223846793005 % 18446744073709551616) + 1442695040888963407) % 18446744073709551616) >>> 33)) (n := 16777215) (Nat.lt_of_le_of_lt (Nat.shiftRight_le _ _) (by omega)) (by decide) rfl rfl rfl) ?_
    refine O.p rfl rfl rfl (Pu.conv64 ⟨_, Try.underlying71⟩ Try.underlying2 (by omega) rfl rfl) ?_
    refine O.p rfl rfl rfl (Pu.assign rfl rfl) ?_
    refine O.nil ?_
    refine X.next ?_
    refine V.seq ?_
    refine V.seq ?_
    refine V.draw mo (by kernel_rfl) (fun hwf => ?_)
    refine D.p 0 rfl rfl rfl rfl rfl rfl (Pu.move rfl rfl) ?_
    refine D.p 1 rfl rfl rfl rfl rfl rfl (Pu.nilCheck rfl rfl) ?_
    refine D.p 2 rfl rfl rfl rfl rfl rfl (Pu.fieldAddr 1 rfl Try.underlying73 rfl sz3 rfl rfl) ?_
    refine D.p 3 rfl rfl rfl rfl rfl rfl (Pu.load rfl pl3 rfl (Ld.blk 0 rfl rfl)) ?_
    refine D.p 4 rfl rfl rfl rfl rfl rfl (Pu.move rfl rfl) ?_
    refine D.p 5 rfl rfl rfl rfl rfl rfl (Pu.nilCheck rfl rfl) ?_
    refine D.p 6 rfl rfl rfl rfl rfl rfl (Pu.fieldAddr 0 rfl Try.underlying73 rfl sz22 rfl rfl) ?_
    refine D.p 7 rfl rfl rfl rfl rfl rfl (Pu.load rfl pl22 rfl (Ld.blk 0 rfl rfl)) ?_
    refine D.p 8 rfl rfl rfl rfl rfl rfl (Pu.len rfl Try.underlying22 rfl) ?_
    refine D.p 9 rfl rfl rfl rfl rfl rfl (Pu.lss rfl rfl rfl) ?_
    refine D.done hwf rfl ?_
    refine X.next ?_
    refine V.condD rfl (fun c2 => ?_) (fun c2 => ?_)
    · skip
      refine V.seq ?_
      refine V.draw mo (by kernel_rfl) (fun hwf => ?_)
      refine D.p 0 rfl rfl rfl rfl rfl rfl (Pu.move rfl rfl) ?_
      refine D.p 1 rfl rfl rfl rfl rfl rfl (Pu.move rfl rfl) ?_
      refine D.p 2 rfl rfl rfl rfl rfl rfl (Pu.nilCheck rfl rfl) ?_
      refine D.p 3 rfl rfl rfl rfl rfl rfl (Pu.fieldAddr 0 rfl Try.underlying73 rfl sz22 rfl rfl) ?_
      refine D.p 4 rfl rfl rfl rfl rfl rfl (Pu.load rfl pl22 rfl (Ld.blk 0 rfl rfl)) ?_
      refine D.p 5 rfl rfl rfl rfl rfl rfl (Pu.move rfl rfl) ?_
      refine D.p 6 rfl rfl rfl rfl rfl rfl (Pu.nilCheck rfl rfl) ?_
      refine D.p 7 rfl rfl rfl rfl rfl rfl (Pu.fieldAddr 1 rfl Try.underlying73 rfl sz3 rfl rfl) ?_
      refine D.p 8 rfl rfl rfl rfl rfl rfl (Pu.load rfl pl3 rfl (Ld.blk 0 rfl rfl)) ?_
      refine D.p 9 rfl rfl rfl rfl rfl rfl (Pu.indexAddr (at1) rfl Try.underlying22 sz5 rfl rfl (by omega) (by omega) (hc.some (by omega))) ?_
      have e1 : at1 < code.length := by omega
      have hu1 := UInt8.toNat_lt (code[at1]'e1)
      refine D.p 10 rfl rfl rfl rfl rfl rfl (Pu.load rfl pl5 rfl (Ld.rd (Ld.old hc) (k := at1) e1 rfl rfl)) ?_
      refine D.p 11 rfl rfl rfl rfl rfl rfl (Pu.conv64 ⟨_, Try.underlying5⟩ Try.underlying2 (by omega) rfl rfl) ?_
      refine D.p 12 rfl rfl rfl rfl rfl rfl (Pu.add64 (r := (((((((word1 * 6364136223846793005 % 18446744073709551616) + 1442695040888963407) % 18446744073709551616) >>> 33) &&& 16777215) + (code[at1]'e1).toNat : Nat) : Int)) (by omega) (by omega) rfl rfl rfl) ?_
      refine D.last hwf (e := 13) rfl rfl rfl rfl rfl rfl (Pu.assign rfl rfl) ?_
      refine X.next ?_
      refine V.region ?_
      refine O.p rfl rfl rfl (Pu.move rfl rfl) ?_
      refine O.p rfl rfl rfl (Pu.move rfl rfl) ?_
      refine O.p rfl rfl rfl (Pu.nilCheck rfl rfl) ?_
      refine O.p rfl rfl rfl (Pu.fieldAddr 1 rfl Try.underlying73 rfl sz3 rfl rfl) ?_
      refine O.p rfl rfl rfl (Pu.load rfl pl3 rfl (Ld.blk 0 rfl rfl)) ?_
      refine O.p rfl rfl rfl (Pu.add64 (r := ((at1 + 1 : Nat) : Int)) rfl (by omega) rfl rfl rfl) ?_
      refine O.p rfl rfl rfl (Pu.nilCheck rfl rfl) ?_
      refine O.p rfl rfl rfl (Pu.fieldAddr 1 rfl Try.underlying73 rfl sz3 rfl rfl) ?_
      refine O.s rfl rfl (Ef.store1 (cs' := [_, _, _]) 0 rfl sz3 rfl rfl rfl rfl rfl (ltb rfl) rfl) ?_
      rintro _ _ rfl
      refine O.nil ?_
      refine X.next ?_
      refine V.seq ?_
      refine V.map (fun w hw => SrcK.mk (a := at1 + 1) (h := (((word1 * 6364136223846793005 % 18446744073709551616) + 1442695040888963407) % 18446744073709551616)) ⟨by omega, by omega⟩ hw) ?_
      refine V.region ?_
      refine O.p rfl rfl rfl (Pu.move rfl rfl) ?_
      refine O.p rfl rfl rfl (Pu.move rfl rfl) ?_
      refine O.p rfl rfl rfl (Pu.rem64 (by omega) (by omega) rfl rfl rfl) ?_
      refine O.p rfl rfl rfl (Pu.assign rfl rfl) ?_
      refine O.nil ?_
      refine X.next ?_
      refine V.ret ?_
      refine X.ret1 rfl rfl ?_
      exact fun w hw => St.mkExi ((↑((((((word1 * 6364136223846793005 % 18446744073709551616) + 1442695040888963407) % 18446744073709551616) >>> 33) &&& 16777215) + (code[at1]'e1).toNat) : Int) % n) (St.unsep (St.addPur ⟨rfl, Int.emod_nonneg _ (by omega), fun h => by omega, fun h => Int.emod_lt_of_pos _ (by omega)⟩ (hw.sub (Sub.keep 0 rfl (Sub.refl _)))))
    · skip
      refine V.skip ?_
      refine X.next ?_
      refine V.seq ?_
      refine V.map (fun w hw => SrcK.mk (a := at1) (h := (((word1 * 6364136223846793005 % 18446744073709551616) + 1442695040888963407) % 18446744073709551616)) ⟨by omega, by omega⟩ hw) ?_
      refine V.region ?_
      refine O.p rfl rfl rfl (Pu.move rfl rfl) ?_
      refine O.p rfl rfl rfl (Pu.move rfl rfl) ?_
      refine O.p rfl rfl rfl (Pu.rem64 (by omega) (by omega) rfl rfl rfl) ?_
      refine O.p rfl rfl rfl (Pu.assign rfl rfl) ?_
      refine O.nil ?_
      refine X.next ?_
      refine V.ret ?_
      refine X.ret1 rfl rfl ?_
      exact fun w hw => St.mkExi ((↑((((((word1 * 6364136223846793005 % 18446744073709551616) + 1442695040888963407) % 18446744073709551616) >>> 33) &&& 16777215)) : Int) % n) (St.unsep (St.addPur ⟨rfl, Int.emod_nonneg _ (by omega), fun h => by omega, fun h => Int.emod_lt_of_pos _ (by omega)⟩ (hw.sub (Sub.keep 0 rfl (Sub.refl _)))))
set_option maxRecDepth 100000 in
set_option maxHeartbeats 1000000 in
theorem l01Pick_ok (cA : Option Addr) (cc : Nat) (code : List UInt8) (s : Nat) (list : List Int) (listA : Option Addr) (listc : Nat) (w0 : World) (H : List Assn) (hlist : ∀ w, St w0 H w → Rd I64 w listA list) (llist : list.length ≤ 1099511627776) (hc : Rd U8C w0 cA code) (lc : code.length ≤ 1048576) (hl : 0 < list.length) : Does Try.prog 34 [.pointer (some ⟨s, 0, none⟩), .slice listA list.length listc] w0 (SrcK 73 cA cc code s :: H) (fun rv_ => [.exi fun (r : Int) => .sep (.pur (rv_ = .int .i64 r ∧ r ∈ list)) (SrcK 73 cA cc code s)] ++ H) := by
  refine Does.enter Try.func34 rfl rfl [(0, .pointer (some ⟨s, 0, none⟩)), (1, .slice listA list.length listc)] rfl ?_
  refine V.seq ?_
  refine V.region ?_
  refine O.p rfl rfl rfl (Pu.assign rfl rfl) ?_
  refine O.nil ?_
  refine X.next ?_
  refine V.seq ?_
  refine V.region ?_
  refine O.p rfl rfl rfl (Pu.move rfl rfl) ?_
  refine O.p rfl rfl rfl (Pu.move rfl rfl) ?_
  refine O.p rfl rfl rfl (Pu.move rfl rfl) ?_
  refine O.p rfl rfl rfl (Pu.len rfl Try.underlying34 rfl) ?_
  refine O.e rfl rfl rfl (Ef.call call35 rfl rfl (Does.pre (fun w hw => hw.sub (Sub.keep 0 rfl (Sub.refl _))) (l01Next_ok _ _ _ s (↑list.length : Int) w0 _   (by first | assumption | omega | (try dsimp only at *; omega)) (by first | assumption | omega | (try dsimp only at *; omega))))) ?_
  rintro _ _ rfl
  refine O.exi (fun r1 => ?_)
  refine O.sep ?_
  refine O.pur ?_
  rintro ⟨rfl, hr1_1, hr1_2, hr1_3⟩
  refine O.p rfl rfl rfl (Pu.indexAddrS ((r1).toNat) rfl Try.underlying34 sz2 rfl rfl (by omega) (by omega) (fun w hw => ((fun w hw => hlist w (hw.sub (Sub.drop (Sub.refl _)))) w hw).some (by omega))) ?_
  have e1 : (r1).toNat < list.length := by omega
  refine O.p rfl rfl rfl (Pu.load rfl pl2 rfl (Ld.rd (fun w hw => hlist w (hw.sub (Sub.drop (Sub.refl _)))) (k := (r1).toNat) e1 rfl rfl)) ?_
  refine O.p rfl rfl rfl (Pu.assign rfl rfl) ?_
  refine O.nil ?_
  refine X.next ?_
  refine V.ret ?_
  refine X.ret1 rfl rfl ?_
  exact fun w hw => St.mkExi (list[(r1).toNat]'e1) (St.unsep (St.addPur ⟨rfl, List.getElem_mem _⟩ (hw.sub (Sub.keep 0 rfl (Sub.refl _)))))
set_option maxRecDepth 100000 in
set_option maxHeartbeats 1000000 in
theorem l01Names_ok (w : World) : Does Try.prog 84 [] w [] (fun rv_ => [.exi fun (rA : Option Addr) => .exi fun (rc : Nat) => .exi fun (r : List ByteArray) => .sep (.pur (rv_ = .slice rA r.length rc ∧ r = nmL)) (Own 9 StrC rA rc r)]) := by
  refine Does.enter Try.func84 rfl rfl [] rfl ?_
  refine V.seq ?_
  refine V.region ?_
  refine O.p rfl rfl rfl (Pu.assign rfl rfl) ?_
  refine O.nil ?_
  refine X.next ?_
  refine V.seq ?_
  refine V.region ?_
  refine O.e rfl rfl rfl (Ef.build StrC ([(ByteArray.mk #[115, 105, 110, 103, 108, 101]), (ByteArray.mk #[102, 97, 110, 111]), (ByteArray.mk #[97, 102, 102, 105, 110, 101]), (ByteArray.mk #[99, 121, 99, 108, 105, 99, 49, 51]), (ByteArray.mk #[99, 121, 99, 108, 105, 99, 49, 53]), (ByteArray.mk #[112, 114, 111, 106, 101, 99, 116, 105, 118, 101, 49, 53])] : List ByteArray) rfl Try.underlying70 inf9 rfl rfl rfl (by first | decide | (simp; done)) (by kernel_rfl)) ?_
  rintro _ _ ⟨A1, hA1, rfl, rfl⟩
  refine O.p rfl rfl rfl (Pu.assign rfl rfl) ?_
  refine O.nil ?_
  refine X.next ?_
  refine V.ret ?_
  refine X.ret1 rfl rfl ?_
  exact fun w hw => St.mkExi A1 (St.mkExi 6 (St.mkExi ([(ByteArray.mk #[115, 105, 110, 103, 108, 101]), (ByteArray.mk #[102, 97, 110, 111]), (ByteArray.mk #[97, 102, 102, 105, 110, 101]), (ByteArray.mk #[99, 121, 99, 108, 105, 99, 49, 51]), (ByteArray.mk #[99, 121, 99, 108, 105, 99, 49, 53]), (ByteArray.mk #[112, 114, 111, 106, 101, 99, 116, 105, 118, 101, 49, 53])] : List ByteArray) (St.unsep (St.addPur ⟨rfl, rfl⟩ (hw.sub (Sub.keep 0 rfl (Sub.nil _)))))))
set_option maxRecDepth 100000 in
set_option maxHeartbeats 1000000 in
theorem l01BlockD_ok (a : Int) (b : Int) (c_ : Int) (w : World) (ha : (-1000000 ≤ a ∧ a ≤ 1000000)) (hb : (-1000000 ≤ b ∧ b ≤ 1000000)) (hc : (-1000000 ≤ c_ ∧ c_ ≤ 1000000)) : Does Try.prog 61 [.int .i64 a, .int .i64 b, .int .i64 c_] w [] (fun r => [.pur (r = B3.v (bk3 a b c_))]) := by
  refine Does.enter Try.func61 rfl rfl [(0, .int .i64 a), (1, .int .i64 b), (2, .int .i64 c_)] rfl ?_
  refine V.seq ?_
  refine V.region ?_
  refine O.e rfl rfl rfl (Ef.alloc rfl zr56 rfl) ?_
  rintro _ _ ⟨b1, rfl, rfl⟩
  refine O.nil ?_
  refine X.next ?_
  refine V.seq ?_
  refine V.region ?_
  refine O.p rfl rfl rfl (Pu.move rfl rfl) ?_
  refine O.p rfl rfl rfl (Pu.move rfl rfl) ?_
  refine O.p rfl rfl rfl (Pu.move rfl rfl) ?_
  refine O.p rfl rfl rfl (Pu.min3 (r := (min (min a b) c_)) (by omega) rfl rfl rfl rfl) ?_
  refine O.p rfl rfl rfl (Pu.move rfl rfl) ?_
  refine O.p rfl rfl rfl (Pu.move rfl rfl) ?_
  refine O.p rfl rfl rfl (Pu.move rfl rfl) ?_
  refine O.p rfl rfl rfl (Pu.max3 (r := (max (max a b) c_)) (by omega) rfl rfl rfl rfl) ?_
  refine O.p rfl rfl rfl (Pu.assign rfl rfl) ?_
  refine O.p rfl rfl rfl (Pu.assign rfl rfl) ?_
  refine O.nil ?_
  refine X.next ?_
  refine V.seq ?_
  refine V.region ?_
  refine O.p rfl rfl rfl (Pu.move rfl rfl) ?_
  refine O.p rfl rfl rfl (Pu.move rfl rfl) ?_
  refine O.p rfl rfl rfl (Pu.move rfl rfl) ?_
  refine O.p rfl rfl rfl (Pu.add64 rfl (by omega) rfl rfl rfl) ?_
  refine O.p rfl rfl rfl (Pu.move rfl rfl) ?_
  refine O.p rfl rfl rfl (Pu.add64 rfl (by omega) rfl rfl rfl) ?_
  refine O.p rfl rfl rfl (Pu.move rfl rfl) ?_
  refine O.p rfl rfl rfl (Pu.sub64 rfl (by omega) rfl rfl rfl) ?_
  refine O.p rfl rfl rfl (Pu.move rfl rfl) ?_
  refine O.p rfl rfl rfl (Pu.sub64 rfl (by omega) rfl rfl rfl) ?_
  refine O.p rfl rfl rfl (Pu.move rfl rfl) ?_
  refine O.p rfl rfl rfl (Pu.buildA (cs := [.int .i64 (min (min a b) c_), .int .i64 ((((a + b) + c_) - (min (min a b) c_)) - (max (max a b) c_)), .int .i64 (max (max a b) c_)]) (v := B3.v ((min (min a b) c_), ((((a + b) + c_) - (min (min a b) c_)) - (max (max a b) c_)), (max (max a b) c_))) rfl rfl Try.underlying56 zr56 sz2 rfl (by kernel_rfl)) ?_
  refine O.s rfl rfl (Ef.storeAll 0 rfl sz56 rfl rfl rfl rfl (by simp [Value.oneCell']) rfl) ?_
  rintro _ _ rfl
  refine O.nil ?_
  refine X.next ?_
  refine V.ret ?_
  refine X.retCell rfl ag56 sz56 rfl rfl (Ld.whole 0 rfl) ?_
  exact fun w hw => St.retP (rfl) hw
set_option maxRecDepth 100000 in
set_option maxHeartbeats 1000000 in
theorem l01RenamedD_ok (v : Int) (bs : List B3) (p : List Int) (A : Option Addr) (c : Nat) (pA : Option Addr) (pc : Nat) (w : World) (hx : Rd B3C w A bs) (hp : Rd I64 w pA p) (lx : bs.length ≤ 4611686018427387904) (lp : p.length ≤ 1099511627776) (hb : ∀ b ∈ bs, good (p.length : Int) b) (lb : bs.length ≤ 100000) (hq : ∀ q ∈ p, 0 ≤ q ∧ q < 16) : Does Try.prog 44 [.agg #[.int .i64 v, .slice A bs.length c], .slice pA p.length pc] w [] (fun rv_ => [.exi fun (rA : Option Addr) => .exi fun (rc : Nat) => .exi fun (r : List B3) => .sep (.pur (rv_ = .agg #[.int .i64 v, .slice rA r.length rc] ∧ r.Perm (bs.map (renB p)) ∧ SrtB r)) (Own 56 B3C rA rc r)]) := by
  refine Does.enter Try.func44 rfl rfl [(0, .agg #[.int .i64 v, .slice A bs.length c]), (1, .slice pA p.length pc)] rfl ?_
  refine V.seq ?_
  refine V.region ?_
  refine O.e rfl rfl rfl (Ef.box rfl rfl rfl) ?_
  rintro _ _ ⟨b1, rfl, rfl⟩
  refine O.e rfl rfl rfl (Ef.alloc rfl zr26 rfl) ?_
  rintro _ _ ⟨b2, rfl, rfl⟩
  refine O.nil ?_
  refine X.next ?_
  refine V.seq ?_
  refine V.region ?_
  refine O.e rfl rfl rfl (Ef.build B3C ([] : List B3) rfl Try.underlying24 inf56 rfl rfl rfl (by first | decide | (simp; done)) (by kernel_rfl)) ?_
  rintro _ _ ⟨A1, hA1, rfl, rfl⟩
  refine O.p rfl rfl rfl (Pu.assign rfl rfl) ?_
  refine O.nil ?_
  refine X.next ?_
  refine V.seq ?_
  refine V.seq ?_
  refine V.region ?_
  refine O.p rfl rfl rfl (Pu.assign rfl rfl) ?_
  refine O.nil ?_
  refine X.next ?_
  refine V.block ?_
  refine V.loop3 (β := (Option Addr) × Nat × (List B3) × Nat) (fun x => [(5, .slice x.1 x.2.2.1.length x.2.1), (6, .int .i64 (x.2.2.2 : Int))]) _ (fun x => [Own 56 B3C x.1 x.2.1 x.2.2.1]) _ (fun x => x.2.2.2 ≤ bs.length ∧ x.2.2.1 = (bs.take x.2.2.2).map (renB p)) (fun x => bs.length - x.2.2.2) (A1, 0, ([] : List B3), 0) (by (try dsimp only); exact ⟨by omega, rfl⟩) (Ent.cons rfl (Ent.cons rfl (Ent.nil _))) (Ent.cons (t := 1) rfl (Ent.cons (t := 2) rfl (Ent.cons (t := 4) rfl (Ent.nil _)))) (Sub.keep 0 rfl (Sub.keep 0 rfl (Sub.keep 0 rfl (Sub.nil _)))) ?_
  rintro ⟨blocksA, blocksc, blocks, i⟩ ⟨hi, ho⟩
  dsimp only at hi ho ⊢
  have hol : blocks.length ≤ bs.length := by rw [ho, List.length_map, List.length_take]; omega
  refine V.seq ?_
  refine V.seq ?_
  refine V.region ?_
  refine O.p rfl rfl rfl (Pu.move rfl rfl) ?_
  refine O.p rfl rfl rfl (Pu.fieldAddr 1 rfl Try.underlying26 rfl sz24 rfl rfl) ?_
  refine O.p rfl rfl rfl (Pu.load rfl pl24 rfl (Ld.blk 2 rfl rfl)) ?_
  refine O.p rfl rfl rfl (Pu.len rfl Try.underlying24 rfl) ?_
  refine O.p rfl rfl rfl (Pu.lss rfl rfl rfl) ?_
  refine O.nil ?_
  refine X.next ?_
  refine V.condD rfl (fun c1 => ?_) (fun c1 => ?_)
  · skip
    refine V.skip ?_
    refine X.next ?_
    refine V.seq ?_
    refine V.block ?_
    refine V.seq ?_
    have ei : i < bs.length := by omega
    have hg := hb (bs[i]'ei) (List.getElem_mem ei)
    unfold good at hg
    have hq1 := hq (p[(bs[i]'ei).1.toNat]'(by omega)) (List.getElem_mem _)
    have hq2 := hq (p[(bs[i]'ei).2.1.toNat]'(by omega)) (List.getElem_mem _)
    have hq3 := hq (p[(bs[i]'ei).2.2.toNat]'(by omega)) (List.getElem_mem _)
    refine V.region ?_
    refine O.p rfl rfl rfl (Pu.fieldAddr 1 rfl Try.underlying26 rfl sz24 rfl rfl) ?_
    refine O.p rfl rfl rfl (Pu.load rfl pl24 rfl (Ld.blk 2 rfl rfl)) ?_
    refine O.p rfl rfl rfl (Pu.move rfl rfl) ?_
    refine O.p rfl rfl rfl (Pu.indexAddr (i) rfl Try.underlying24 sz56 rfl rfl (by omega) (by omega) (hx.some (by omega))) ?_
    refine O.p rfl rfl rfl (Pu.loadAgg' (v := B3.v (bs[i]'ei)) rfl rfl ag56 sz56 rfl rfl (Ld.rds (Ld.old hx) (k := i) ei rfl)) ?_
    refine O.e rfl rfl rfl (Ef.alloc rfl zr56 rfl) ?_
    rintro _ _ ⟨b3, rfl, rfl⟩
    refine O.s rfl rfl (Ef.storeAll 0 rfl sz56 rfl rfl rfl rfl (by simp [Value.oneCell']) rfl) ?_
    rintro _ _ rfl
    refine O.nil ?_
    refine X.next ?_
    refine V.drawS mo (by kernel_rfl) (Sub.keep 0 rfl (Sub.keep 1 rfl (Sub.keep 1 rfl (Sub.nil _)))) (fun hwf => ?_)
    refine D.p 0 rfl rfl rfl rfl rfl rfl (Pu.move rfl rfl) ?_
    refine D.p 1 rfl rfl rfl rfl rfl rfl (Pu.move rfl rfl) ?_
    refine D.p 2 rfl rfl rfl rfl rfl rfl (Pu.indexArr 0 0 rfl Try.underlying56 sz2 rfl rfl (by decide) (by decide) (by decide)) ?_
    refine D.p 3 rfl rfl rfl rfl rfl rfl (Pu.load rfl pl2 rfl (Ld.blk 0 rfl rfl)) ?_
    refine D.p 4 rfl rfl rfl rfl rfl rfl (Pu.indexAddr (((bs[i]'ei).1).toNat) rfl Try.underlying34 sz2 rfl rfl (by omega) (by omega) (hp.some (by omega))) ?_
    have e1 : ((bs[i]'ei).1).toNat < p.length := by omega
    refine D.p 5 rfl rfl rfl rfl rfl rfl (Pu.load rfl pl2 rfl (Ld.rd (Ld.old hp) (k := ((bs[i]'ei).1).toNat) e1 rfl rfl)) ?_
    refine D.p 6 rfl rfl rfl rfl rfl rfl (Pu.move rfl rfl) ?_
    refine D.p 7 rfl rfl rfl rfl rfl rfl (Pu.indexArr 1 1 rfl Try.underlying56 sz2 rfl rfl (by decide) (by decide) (by decide)) ?_
    refine D.p 8 rfl rfl rfl rfl rfl rfl (Pu.load rfl pl2 rfl (Ld.blk 0 rfl rfl)) ?_
    refine D.p 9 rfl rfl rfl rfl rfl rfl (Pu.indexAddr (((bs[i]'ei).2.1).toNat) rfl Try.underlying34 sz2 rfl rfl (by omega) (by omega) (hp.some (by omega))) ?_
    have e2 : ((bs[i]'ei).2.1).toNat < p.length := by omega
    refine D.p 10 rfl rfl rfl rfl rfl rfl (Pu.load rfl pl2 rfl (Ld.rd (Ld.old hp) (k := ((bs[i]'ei).2.1).toNat) e2 rfl rfl)) ?_
    refine D.p 11 rfl rfl rfl rfl rfl rfl (Pu.move rfl rfl) ?_
    refine D.p 12 rfl rfl rfl rfl rfl rfl (Pu.indexArr 2 2 rfl Try.underlying56 sz2 rfl rfl (by decide) (by decide) (by decide)) ?_
    refine D.p 13 rfl rfl rfl rfl rfl rfl (Pu.load rfl pl2 rfl (Ld.blk 0 rfl rfl)) ?_
    refine D.p 14 rfl rfl rfl rfl rfl rfl (Pu.indexAddr (((bs[i]'ei).2.2).toNat) rfl Try.underlying34 sz2 rfl rfl (by omega) (by omega) (hp.some (by omega))) ?_
    have e3 : ((bs[i]'ei).2.2).toNat < p.length := by omega
    refine D.p 15 rfl rfl rfl rfl rfl rfl (Pu.load rfl pl2 rfl (Ld.rd (Ld.old hp) (k := ((bs[i]'ei).2.2).toNat) e3 rfl rfl)) ?_
    refine D.eff hwf (e := 16) rfl rfl rfl rfl (Ef.callP call61 rfl rfl (fun w hw => l01BlockD_ok  (p[((bs[i]'ei).1).toNat]'e1) (p[((bs[i]'ei).2.1).toNat]'e2) (p[((bs[i]'ei).2.2).toNat]'e3) w   (by first | assumption | omega | (try dsimp only at *; omega)) (by first | assumption | omega | (try dsimp only at *; omega)) (by first | assumption | omega | (try dsimp only at *; omega)))) rfl rfl rfl ?_
    rintro _ _ ⟨rfl, rfl⟩ hs
    refine ⟨fun w hw => hw.sub (Sub.keep 0 rfl (Sub.keep 1 rfl (Sub.keep 1 rfl (Sub.nil _)))), ?_⟩
    refine D.eff hwf (e := 17) rfl rfl rfl rfl (Ef.build B3C ([(bk3 (p[((bs[i]'ei).1).toNat]'e1) (p[((bs[i]'ei).2.1).toNat]'e2) (p[((bs[i]'ei).2.2).toNat]'e3))] : List B3) rfl Try.underlying24 inf56 rfl rfl rfl (by first | decide | (simp; done)) (by kernel_rfl)) rfl rfl rfl ?_
    rintro _ _ ⟨A2, hA2, rfl, rfl⟩ hs
    refine ⟨fun w hw => hw.sub (Sub.keep 1 rfl (Sub.keep 2 rfl (Sub.keep 2 rfl (Sub.nil _)))), ?_⟩
    refine D.eff hwf (e := 18) rfl rfl rfl rfl (Ef.append (xs := blocks) (ys := ([(bk3 (p[((bs[i]'ei).1).toNat]'e1) (p[((bs[i]'ei).2.1).toNat]'e2) (p[((bs[i]'ei).2.2).toNat]'e3))] : List B3)) 2 rfl Try.underlying24 inf56 rfl rfl rfl rfl rfl rfl hA2 (Ld.own 0 (by exact rfl)) (by simp only [List.length_append, List.length_cons, List.length_nil] at *; omega) (by decide)) rfl rfl rfl ?_
    rintro _ _ ⟨A3, k1, rfl, rfl, hA3⟩ hs
    replace hA3 := hA3 (.inr (by simp))
    refine ⟨fun w hw => hw.sub (Sub.keep 1 rfl (Sub.keep 2 rfl (Sub.keep 2 rfl (Sub.nil _)))), ?_⟩
    refine D.last hwf (e := 19) rfl rfl rfl rfl rfl rfl (Pu.assign rfl rfl) ?_
    refine X.blockNormal ?_
    refine X.next ?_
    refine V.region ?_
    refine O.p rfl rfl rfl (Pu.move rfl rfl) ?_
    refine O.p rfl rfl rfl (Pu.add64 (r := ((i + 1 : Nat) : Int)) rfl (by omega) rfl rfl rfl) ?_
    refine O.p rfl rfl rfl (Pu.assign rfl rfl) ?_
    refine O.nil ?_
    exact X.back3 (A3, k1, (blocks ++ ([(bk3 (p[((bs[i]'ei).1).toNat]'e1) (p[((bs[i]'ei).2.1).toNat]'e2) (p[((bs[i]'ei).2.2).toNat]'e3))] : List B3)), i + 1) (by (try dsimp only); exact ⟨by omega, by rw [take_snoc ei, List.map_append, ho]; simp only [List.map_cons, List.map_nil, renB]; rw [getD_at (by omega), getD_at (by omega), getD_at (by omega)]⟩) (by first | omega | (dsimp only; omega)) (Ent.cons rfl (Ent.cons rfl (Ent.nil _))) (Ent.cons (t := 1) rfl (Ent.cons (t := 2) rfl (Ent.cons (t := 4) rfl (Ent.nil _)))) (Sub.keep 2 rfl (Sub.keep 2 rfl (Sub.keep 2 rfl (Sub.nil _))))
  · skip
    refine V.exit ?_
    refine X.thenExit ?_
    refine X.thenExit ?_
    refine X.blockHit ?_
    refine X.next ?_
    refine V.seq ?_
    refine V.region ?_
    refine O.p rfl rfl rfl (Pu.fieldAddr 0 rfl Try.underlying26 rfl sz2 rfl rfl) ?_
    refine O.p rfl rfl rfl (Pu.load rfl pl2 rfl (Ld.blk 2 rfl rfl)) ?_
    refine O.p rfl rfl rfl (Pu.move rfl rfl) ?_
    refine O.e rfl rfl rfl (Ef.call1 call62 rfl rfl (fun w hw => l01Made_ok  v blocks _ _ w ((Ld.own 0 (by exact rfl)) w hw) (by first | omega | (simp only [tops_len, conts_len, bl, List.length_append, List.length_cons, List.length_nil] at *; omega)) (by first | assumption | omega | (try dsimp only at *; omega)))) ?_
    rintro _ _ rfl
    refine O.exi (fun r1A => ?_)
    refine O.exi (fun r1c => ?_)
    refine O.exi (fun r1 => ?_)
    refine O.sep ?_
    refine O.pur ?_
    rintro ⟨rfl, hr1_1, hr1_2⟩
    refine O.s rfl rfl (Ef.storeAll 2 rfl sz26 rfl rfl rfl rfl (by simp [Value.oneCell']) rfl) ?_
    rintro _ _ rfl
    refine O.nil ?_
    refine X.next ?_
    refine V.ret ?_
    refine X.retCell rfl ag26 sz26 rfl rfl (Ld.whole 2 rfl) ?_
    exact fun w hw => St.mkExi r1A (St.mkExi r1c (St.mkExi r1 (St.unsep (St.addPur ⟨rfl, by rw [ho, List.take_of_length_le (by omega)] at hr1_1; exact hr1_1, hr1_2⟩ (hw.sub (Sub.keep 0 rfl (Sub.nil _)))))))
set_option maxRecDepth 100000 in
set_option maxHeartbeats 1000000 in
theorem l01Turned_ok (blocks : List B3) (v_ : Int) (a : Int) (b : Int) (c_ : Int) (blocksA : Option Addr) (blocksc : Nat) (w0 : World) (H : List Assn) (hv : 0 < v_ ∧ v_ ≤ 15) (ha : (0 ≤ a ∧ a ≤ 1000)) (hb : (0 ≤ b ∧ b ≤ 1000)) (hc : (0 ≤ c_ ∧ c_ ≤ 1000)) (lb : blocks.length ≤ 1000) : Does Try.prog 65 [.slice blocksA blocks.length blocksc, .int .i64 v_, .int .i64 a, .int .i64 b, .int .i64 c_] w0 (Own 56 B3C blocksA blocksc blocks :: H) (fun rv_ => [.exi fun (rA : Option Addr) => .exi fun (rc : Nat) => .exi fun (r : List B3) => .sep (.pur (rv_ = .slice rA r.length rc ∧ r = rowT v_ blocks (a, b, c_) v_.toNat)) (Own 56 B3C rA rc r)] ++ H) := by
  refine Does.enter Try.func65 rfl rfl [(0, .slice blocksA blocks.length blocksc), (1, .int .i64 v_), (2, .int .i64 a), (3, .int .i64 b), (4, .int .i64 c_)] rfl ?_
  refine V.seq ?_
  refine V.region ?_
  refine O.p rfl rfl rfl (Pu.assign rfl rfl) ?_
  refine O.nil ?_
  refine X.next ?_
  refine V.seq ?_
  refine V.seq ?_
  refine V.region ?_
  refine O.p rfl rfl rfl (Pu.assign rfl rfl) ?_
  refine O.nil ?_
  refine X.next ?_
  refine V.block ?_
  refine V.loop3 (β := (Option Addr) × Nat × (List B3) × Nat) (fun x => [(0, .slice x.1 x.2.2.1.length x.2.1), (11, .int .i64 (x.2.2.2 : Int))]) _ (fun x => [Own 56 B3C x.1 x.2.1 x.2.2.1]) _ (fun x => x.2.2.2 ≤ v_.toNat ∧ x.2.2.1 = rowT v_ blocks (a, b, c_) x.2.2.2) (fun x => v_.toNat - x.2.2.2) (blocksA, blocksc, blocks, 0) (by (try dsimp only); exact ⟨by omega, rfl⟩) (Ent.cons rfl (Ent.cons rfl (Ent.nil _))) (Ent.cons (t := 1) rfl (Ent.cons (t := 2) rfl (Ent.cons (t := 3) rfl (Ent.cons (t := 4) rfl (Ent.nil _))))) (Sub.keep 0 rfl (Sub.refl _)) ?_
  rintro ⟨zA, zc, z, i⟩ ⟨hi, hz⟩
  dsimp only at hi hz ⊢
  have hzl : z.length ≤ blocks.length + i := by rw [hz]; exact rowT_len i
  refine V.seq ?_
  refine V.seq ?_
  refine V.region ?_
  refine O.p rfl rfl rfl (Pu.move rfl rfl) ?_
  refine O.p rfl rfl rfl (Pu.move rfl rfl) ?_
  refine O.p rfl rfl rfl (Pu.lss rfl rfl rfl) ?_
  refine O.nil ?_
  refine X.next ?_
  refine V.condD rfl (fun c1 => ?_) (fun c1 => ?_)
  · skip
    refine V.skip ?_
    refine X.next ?_
    refine V.seq ?_
    refine V.block ?_
    refine V.seq ?_
    refine V.draw mo (by kernel_rfl) (fun hwf => ?_)
    refine D.p 0 rfl rfl rfl rfl rfl rfl (Pu.move rfl rfl) ?_
    refine D.p 1 rfl rfl rfl rfl rfl rfl (Pu.move rfl rfl) ?_
    refine D.p 2 rfl rfl rfl rfl rfl rfl (Pu.add64 rfl (by omega) rfl rfl rfl) ?_
    refine D.p 3 rfl rfl rfl rfl rfl rfl (Pu.move rfl rfl) ?_
    refine D.p 4 rfl rfl rfl rfl rfl rfl (Pu.rem64 (by omega) (by omega) rfl rfl rfl) ?_
    refine D.p 5 rfl rfl rfl rfl rfl rfl (Pu.move rfl rfl) ?_
    refine D.p 6 rfl rfl rfl rfl rfl rfl (Pu.move rfl rfl) ?_
    refine D.p 7 rfl rfl rfl rfl rfl rfl (Pu.add64 rfl (by omega) rfl rfl rfl) ?_
    refine D.p 8 rfl rfl rfl rfl rfl rfl (Pu.move rfl rfl) ?_
    refine D.p 9 rfl rfl rfl rfl rfl rfl (Pu.rem64 (by omega) (by omega) rfl rfl rfl) ?_
    refine D.p 10 rfl rfl rfl rfl rfl rfl (Pu.move rfl rfl) ?_
    refine D.p 11 rfl rfl rfl rfl rfl rfl (Pu.move rfl rfl) ?_
    refine D.p 12 rfl rfl rfl rfl rfl rfl (Pu.add64 rfl (by omega) rfl rfl rfl) ?_
    refine D.p 13 rfl rfl rfl rfl rfl rfl (Pu.move rfl rfl) ?_
    refine D.p 14 rfl rfl rfl rfl rfl rfl (Pu.rem64 (by omega) (by omega) rfl rfl rfl) ?_
    refine D.either hwf (e1 := 15) (e2 := 16) rfl ?_ ?_
    · skip
      refine ⟨_, _, rfl, rfl, fun _ _ => wanted_none rfl _, Ef.callP call61 rfl rfl (fun w hw => l01BlockD_ok  ((a + (↑i : Int)) % v_) ((b + (↑i : Int)) % v_) ((c_ + (↑i : Int)) % v_) w   (by have h1 := Int.emod_nonneg (a + (i : Int)) (show v_ ≠ 0 by omega); have h2 := Int.emod_lt_of_pos (a + (i : Int)) (show 0 < v_ by omega); omega) (by have h1 := Int.emod_nonneg (b + (i : Int)) (show v_ ≠ 0 by omega); have h2 := Int.emod_lt_of_pos (b + (i : Int)) (show 0 < v_ by omega); omega) (by have h1 := Int.emod_nonneg (c_ + (i : Int)) (show v_ ≠ 0 by omega); have h2 := Int.emod_lt_of_pos (c_ + (i : Int)) (show 0 < v_ by omega); omega)), rfl, rfl, ?_⟩
      rintro _ _ ⟨rfl, rfl⟩ hs
      refine ⟨fun w hw => hw, ?_⟩
      refine D.eff hwf (e := 16) rfl rfl rfl rfl (Ef.alloc rfl zr56 rfl) rfl rfl rfl ?_
      rintro _ _ ⟨b1, rfl, rfl⟩ hs
      refine ⟨fun w hw => hw.sub (Sub.keep 1 rfl (Sub.drop (Sub.refl _))), ?_⟩
      refine D.eff hwf (e := 17) rfl rfl rfl rfl (Ef.storeAll 0 rfl sz56 rfl rfl rfl rfl (by simp [Value.oneCell']) rfl) rfl rfl rfl ?_
      rintro _ _ rfl hs
      refine ⟨fun w hw => hw.sub (Sub.keep 1 rfl (Sub.drop (Sub.refl _))), ?_⟩
      refine D.p 18 rfl rfl rfl rfl rfl rfl (Pu.assign rfl rfl) ?_
      refine D.done hwf rfl ?_
      refine X.next ?_
      refine V.seq ?_
      refine V.seq ?_
      refine V.region ?_
      refine O.p rfl rfl rfl (Pu.assign rfl rfl) ?_
      refine O.nil ?_
      refine X.next ?_
      refine V.block ?_
      refine V.loop3 (β := Bool × Nat) (fun x => [(13, .bool x.1), (14, .int .i64 (x.2 : Int))]) _ (fun x => []) _ (fun x => x.2 ≤ z.length ∧ x.1 = decide (bkT v_ (a, b, c_) i ∈ z.take x.2)) (fun x => z.length - x.2) (false, 0) (by (try dsimp only); exact ⟨by omega, by simp⟩) (Ent.cons rfl (Ent.cons rfl (Ent.nil _))) (Ent.cons (t := 0) rfl (Ent.cons (t := 1) rfl (Ent.cons (t := 2) rfl (Ent.cons (t := 3) rfl (Ent.cons (t := 4) rfl (Ent.cons (t := 11) rfl (Ent.cons (t := 12) rfl (Ent.nil _)))))))) (Sub.keep 0 rfl (Sub.keep 0 rfl (Sub.refl _))) ?_
      rintro ⟨known, k⟩ ⟨hk, hk2⟩
      dsimp only at hk hk2 ⊢
      refine V.seq ?_
      refine V.seq ?_
      refine V.region ?_
      refine O.p rfl rfl rfl (Pu.move rfl rfl) ?_
      refine O.p rfl rfl rfl (Pu.move rfl rfl) ?_
      refine O.p rfl rfl rfl (Pu.len rfl Try.underlying24 rfl) ?_
      refine O.p rfl rfl rfl (Pu.lss rfl rfl rfl) ?_
      refine O.nil ?_
      refine X.next ?_
      refine V.condD rfl (fun c2 => ?_) (fun c2 => ?_)
      · skip
        refine V.skip ?_
        refine X.next ?_
        refine V.seq ?_
        refine V.block ?_
        refine V.draw mo (by kernel_rfl) (fun hwf => ?_)
        refine D.p 0 rfl rfl rfl rfl rfl rfl (Pu.move rfl rfl) ?_
        refine D.p 1 rfl rfl rfl rfl rfl rfl (Pu.move rfl rfl) ?_
        refine D.splitB 43 rfl (fun c3 => ?_) (fun c3 => ?_)
        · skip
          subst c3
          refine D.gs 2 rfl rfl rfl rfl rfl rfl rfl rfl rfl ?_
          refine D.gs 3 rfl rfl rfl rfl rfl rfl rfl rfl rfl ?_
          refine D.gs 4 rfl rfl rfl rfl rfl rfl rfl rfl rfl ?_
          refine D.gs 5 rfl rfl rfl rfl rfl rfl rfl rfl rfl ?_
          refine D.gs 6 rfl rfl rfl rfl rfl rfl rfl rfl rfl ?_
          refine D.gs 7 rfl rfl rfl rfl rfl rfl rfl rfl rfl ?_
          refine D.p 8 rfl rfl rfl rfl rfl rfl (Pu.pickT rfl rfl rfl) ?_
          refine D.last hwf (e := 9) rfl rfl rfl rfl rfl rfl (Pu.assign rfl rfl) ?_
          refine X.blockNormal ?_
          refine X.next ?_
          refine V.region ?_
          refine O.p rfl rfl rfl (Pu.move rfl rfl) ?_
          refine O.p rfl rfl rfl (Pu.add64 (r := ((k + 1 : Nat) : Int)) rfl (by omega) rfl rfl rfl) ?_
          refine O.p rfl rfl rfl (Pu.assign rfl rfl) ?_
          refine O.nil ?_
          exact X.back3 (true, k + 1) (by (try dsimp only); exact ⟨by omega, by rw [take_snoc (by omega)]; have h := hk2.symm; rw [decide_eq_true_eq] at h; exact (decide_eq_true (List.mem_append.2 (.inl h))).symm⟩) (by first | omega | (dsimp only; omega)) (Ent.cons rfl (Ent.cons rfl (Ent.nil _))) (Ent.cons (t := 0) rfl (Ent.cons (t := 1) rfl (Ent.cons (t := 2) rfl (Ent.cons (t := 3) rfl (Ent.cons (t := 4) rfl (Ent.cons (t := 11) rfl (Ent.cons (t := 12) rfl (Ent.nil _)))))))) (Sub.keep 0 rfl (Sub.keep 0 rfl (Sub.refl _)))
        · skip
          subst c3
          refine D.gp 2 rfl rfl rfl rfl rfl rfl rfl rfl (Pu.move rfl rfl) ?_
          refine D.gp 3 rfl rfl rfl rfl rfl rfl rfl rfl (Pu.move rfl rfl) ?_
          refine D.gp 4 rfl rfl rfl rfl rfl rfl rfl rfl (Pu.indexAddrS (k) rfl Try.underlying24 sz56 rfl rfl (by omega) (by omega) (fun w hw => Own.some hw (i := 1) (by exact rfl) (by omega))) ?_
          have e1 : k < z.length := by omega
          refine D.gp 5 rfl rfl rfl rfl rfl rfl rfl rfl (Pu.loadAgg' (v := B3.v (z[k]'e1)) rfl rfl ag56 sz56 rfl rfl (Ld.rds (C := B3C) (Ld.own 1 (by exact rfl)) (k := k) e1 rfl)) ?_
          refine D.gp 6 rfl rfl rfl rfl rfl rfl rfl rfl (Pu.loadAgg' (v := B3.v (bk3 ((a + (↑i : Int)) % v_) ((b + (↑i : Int)) % v_) ((c_ + (↑i : Int)) % v_))) rfl rfl ag56 sz56 rfl rfl (Ld.whole 0 rfl)) ?_
          refine D.gp 7 rfl rfl rfl rfl rfl rfl rfl rfl (Pu.eqlB3 Try.underlying56 Try.underlying2 sz2 (by kernel_rfl) rfl rfl rfl) ?_
          refine D.p 8 rfl rfl rfl rfl rfl rfl (Pu.pickF rfl rfl rfl) ?_
          refine D.last hwf (e := 9) rfl rfl rfl rfl rfl rfl (Pu.assign rfl rfl) ?_
          refine X.blockNormal ?_
          refine X.next ?_
          refine V.region ?_
          refine O.p rfl rfl rfl (Pu.move rfl rfl) ?_
          refine O.p rfl rfl rfl (Pu.add64 (r := ((k + 1 : Nat) : Int)) rfl (by omega) rfl rfl rfl) ?_
          refine O.p rfl rfl rfl (Pu.assign rfl rfl) ?_
          refine O.nil ?_
          exact X.back3 ((decide ((z[k]'e1) = (bk3 ((a + (↑i : Int)) % v_) ((b + (↑i : Int)) % v_) ((c_ + (↑i : Int)) % v_)))), k + 1) (by (try dsimp only); exact ⟨by omega, by rw [take_snoc (by omega)]; have h := hk2.symm; rw [decide_eq_false_iff_not] at h; apply decide_eq_decide.2; rw [List.mem_append, List.mem_singleton]; exact ⟨fun e => .inr e.symm, fun e => e.elim (fun e => absurd e h) Eq.symm⟩⟩) (by first | omega | (dsimp only; omega)) (Ent.cons rfl (Ent.cons rfl (Ent.nil _))) (Ent.cons (t := 0) rfl (Ent.cons (t := 1) rfl (Ent.cons (t := 2) rfl (Ent.cons (t := 3) rfl (Ent.cons (t := 4) rfl (Ent.cons (t := 11) rfl (Ent.cons (t := 12) rfl (Ent.nil _)))))))) (Sub.keep 0 rfl (Sub.keep 0 rfl (Sub.refl _)))
      · skip
        refine V.exit ?_
        refine X.thenExit ?_
        refine X.thenExit ?_
        refine X.blockHit ?_
        refine X.next ?_
        refine V.seq ?_
        refine V.region ?_
        refine O.p rfl rfl rfl (Pu.move rfl rfl) ?_
        refine O.p rfl rfl rfl (Pu.not rfl rfl) ?_
        refine O.nil ?_
        refine X.next ?_
        refine V.cond rfl (fun c4 => ?_) (fun c4 => ?_)
        · skip
          have hnk : ¬ bkT v_ (a, b, c_) i ∈ z := by rw [List.take_of_length_le (by omega)] at hk2; intro h; rw [decide_eq_true h] at hk2; simp_all
          refine V.region ?_
          refine O.p rfl rfl rfl (Pu.move rfl rfl) ?_
          refine O.p rfl rfl rfl (Pu.loadAgg' (v := B3.v (bk3 ((a + (↑i : Int)) % v_) ((b + (↑i : Int)) % v_) ((c_ + (↑i : Int)) % v_))) rfl rfl ag56 sz56 rfl rfl (Ld.whole 0 rfl)) ?_
          refine O.e rfl rfl rfl (Ef.build B3C ([(bk3 ((a + (↑i : Int)) % v_) ((b + (↑i : Int)) % v_) ((c_ + (↑i : Int)) % v_))] : List B3) rfl Try.underlying24 inf56 rfl rfl rfl (by first | decide | (simp; done)) (by kernel_rfl)) ?_
          rintro _ _ ⟨A1, hA1, rfl, rfl⟩
          refine O.e rfl rfl rfl (Ef.append (xs := z) (ys := ([(bk3 ((a + (↑i : Int)) % v_) ((b + (↑i : Int)) % v_) ((c_ + (↑i : Int)) % v_))] : List B3)) 2 rfl Try.underlying24 inf56 rfl rfl rfl rfl rfl rfl hA1 (Ld.own 0 (by exact rfl)) (by simp only [List.length_append, List.length_cons, List.length_nil] at *; omega) (by decide)) ?_
          rintro _ _ ⟨A2, k1, rfl, rfl, hA2⟩
          replace hA2 := hA2 (.inr (by simp))
          refine O.p rfl rfl rfl (Pu.assign rfl rfl) ?_
          refine O.nil ?_
          refine X.blockNormal ?_
          refine X.next ?_
          refine V.region ?_
          refine O.p rfl rfl rfl (Pu.move rfl rfl) ?_
          refine O.p rfl rfl rfl (Pu.add64 (r := ((i + 1 : Nat) : Int)) rfl (by omega) rfl rfl rfl) ?_
          refine O.p rfl rfl rfl (Pu.assign rfl rfl) ?_
          refine O.nil ?_
          exact X.back3 (A2, k1, (z ++ ([(bk3 ((a + (↑i : Int)) % v_) ((b + (↑i : Int)) % v_) ((c_ + (↑i : Int)) % v_))] : List B3)), i + 1) (by (try dsimp only); exact ⟨by omega, by rw [hz]; exact (rowT_no (by rw [← hz]; exact hnk)).symm⟩) (by first | omega | (dsimp only; omega)) (Ent.cons rfl (Ent.cons rfl (Ent.nil _))) (Ent.cons (t := 1) rfl (Ent.cons (t := 2) rfl (Ent.cons (t := 3) rfl (Ent.cons (t := 4) rfl (Ent.nil _))))) (Sub.keep 2 rfl (Sub.drop (Sub.drop (Sub.refl _))))
        · skip
          have hkn : bkT v_ (a, b, c_) i ∈ z := by rw [List.take_of_length_le (by omega)] at hk2; apply Decidable.byContradiction; intro h; rw [decide_eq_false h] at hk2; simp_all
          refine V.skip ?_
          refine X.blockNormal ?_
          refine X.next ?_
          refine V.region ?_
          refine O.p rfl rfl rfl (Pu.move rfl rfl) ?_
          refine O.p rfl rfl rfl (Pu.add64 (r := ((i + 1 : Nat) : Int)) rfl (by omega) rfl rfl rfl) ?_
          refine O.p rfl rfl rfl (Pu.assign rfl rfl) ?_
          refine O.nil ?_
          exact X.back3 (zA, zc, z, i + 1) (by (try dsimp only); exact ⟨by omega, by rw [hz]; exact (rowT_yes (by rw [← hz]; exact hkn)).symm⟩) (by first | omega | (dsimp only; omega)) (Ent.cons rfl (Ent.cons rfl (Ent.nil _))) (Ent.cons (t := 1) rfl (Ent.cons (t := 2) rfl (Ent.cons (t := 3) rfl (Ent.cons (t := 4) rfl (Ent.nil _))))) (Sub.keep 1 rfl (Sub.drop (Sub.refl _)))
    · skip
      refine ⟨_, _, rfl, rfl, fun _ _ => wanted_none rfl _, Ef.alloc rfl zr56 rfl, rfl, rfl, ?_⟩
      rintro _ _ ⟨b1, rfl, rfl⟩ hs
      refine ⟨fun w hw => hw.sub (Sub.keep 1 rfl (Sub.drop (Sub.refl _))), ?_⟩
      refine D.eff hwf (e := 15) rfl rfl rfl rfl (Ef.callP call61 rfl rfl (fun w hw => l01BlockD_ok  ((a + (↑i : Int)) % v_) ((b + (↑i : Int)) % v_) ((c_ + (↑i : Int)) % v_) w   (by have h1 := Int.emod_nonneg (a + (i : Int)) (show v_ ≠ 0 by omega); have h2 := Int.emod_lt_of_pos (a + (i : Int)) (show 0 < v_ by omega); omega) (by have h1 := Int.emod_nonneg (b + (i : Int)) (show v_ ≠ 0 by omega); have h2 := Int.emod_lt_of_pos (b + (i : Int)) (show 0 < v_ by omega); omega) (by have h1 := Int.emod_nonneg (c_ + (i : Int)) (show v_ ≠ 0 by omega); have h2 := Int.emod_lt_of_pos (c_ + (i : Int)) (show 0 < v_ by omega); omega))) rfl rfl rfl ?_
      rintro _ _ ⟨rfl, rfl⟩ hs
      refine ⟨fun w hw => hw.sub (Sub.keep 1 rfl (Sub.drop (Sub.refl _))), ?_⟩
      refine D.eff hwf (e := 17) rfl rfl rfl rfl (Ef.storeAll 0 rfl sz56 rfl rfl rfl rfl (by simp [Value.oneCell']) rfl) rfl rfl rfl ?_
      rintro _ _ rfl hs
      refine ⟨fun w hw => hw.sub (Sub.keep 1 rfl (Sub.drop (Sub.refl _))), ?_⟩
      refine D.p 18 rfl rfl rfl rfl rfl rfl (Pu.assign rfl rfl) ?_
      refine D.done hwf rfl ?_
      refine X.next ?_
      refine V.seq ?_
      refine V.seq ?_
      refine V.region ?_
      refine O.p rfl rfl rfl (Pu.assign rfl rfl) ?_
      refine O.nil ?_
      refine X.next ?_
      refine V.block ?_
      refine V.loop3 (β := Bool × Nat) (fun x => [(13, .bool x.1), (14, .int .i64 (x.2 : Int))]) _ (fun x => []) _ (fun x => x.2 ≤ z.length ∧ x.1 = decide (bkT v_ (a, b, c_) i ∈ z.take x.2)) (fun x => z.length - x.2) (false, 0) (by (try dsimp only); exact ⟨by omega, by simp⟩) (Ent.cons rfl (Ent.cons rfl (Ent.nil _))) (Ent.cons (t := 0) rfl (Ent.cons (t := 1) rfl (Ent.cons (t := 2) rfl (Ent.cons (t := 3) rfl (Ent.cons (t := 4) rfl (Ent.cons (t := 11) rfl (Ent.cons (t := 12) rfl (Ent.nil _)))))))) (Sub.keep 0 rfl (Sub.keep 0 rfl (Sub.refl _))) ?_
      rintro ⟨known, k⟩ ⟨hk, hk2⟩
      dsimp only at hk hk2 ⊢
      refine V.seq ?_
      refine V.seq ?_
      refine V.region ?_
      refine O.p rfl rfl rfl (Pu.move rfl rfl) ?_
      refine O.p rfl rfl rfl (Pu.move rfl rfl) ?_
      refine O.p rfl rfl rfl (Pu.len rfl Try.underlying24 rfl) ?_
      refine O.p rfl rfl rfl (Pu.lss rfl rfl rfl) ?_
      refine O.nil ?_
      refine X.next ?_
      refine V.condD rfl (fun c2 => ?_) (fun c2 => ?_)
      · skip
        refine V.skip ?_
        refine X.next ?_
        refine V.seq ?_
        refine V.block ?_
        refine V.draw mo (by kernel_rfl) (fun hwf => ?_)
        refine D.p 0 rfl rfl rfl rfl rfl rfl (Pu.move rfl rfl) ?_
        refine D.p 1 rfl rfl rfl rfl rfl rfl (Pu.move rfl rfl) ?_
        refine D.splitB 43 rfl (fun c3 => ?_) (fun c3 => ?_)
        · skip
          subst c3
          refine D.gs 2 rfl rfl rfl rfl rfl rfl rfl rfl rfl ?_
          refine D.gs 3 rfl rfl rfl rfl rfl rfl rfl rfl rfl ?_
          refine D.gs 4 rfl rfl rfl rfl rfl rfl rfl rfl rfl ?_
          refine D.gs 5 rfl rfl rfl rfl rfl rfl rfl rfl rfl ?_
          refine D.gs 6 rfl rfl rfl rfl rfl rfl rfl rfl rfl ?_
          refine D.gs 7 rfl rfl rfl rfl rfl rfl rfl rfl rfl ?_
          refine D.p 8 rfl rfl rfl rfl rfl rfl (Pu.pickT rfl rfl rfl) ?_
          refine D.last hwf (e := 9) rfl rfl rfl rfl rfl rfl (Pu.assign rfl rfl) ?_
          refine X.blockNormal ?_
          refine X.next ?_
          refine V.region ?_
          refine O.p rfl rfl rfl (Pu.move rfl rfl) ?_
          refine O.p rfl rfl rfl (Pu.add64 (r := ((k + 1 : Nat) : Int)) rfl (by omega) rfl rfl rfl) ?_
          refine O.p rfl rfl rfl (Pu.assign rfl rfl) ?_
          refine O.nil ?_
          exact X.back3 (true, k + 1) (by (try dsimp only); exact ⟨by omega, by rw [take_snoc (by omega)]; have h := hk2.symm; rw [decide_eq_true_eq] at h; exact (decide_eq_true (List.mem_append.2 (.inl h))).symm⟩) (by first | omega | (dsimp only; omega)) (Ent.cons rfl (Ent.cons rfl (Ent.nil _))) (Ent.cons (t := 0) rfl (Ent.cons (t := 1) rfl (Ent.cons (t := 2) rfl (Ent.cons (t := 3) rfl (Ent.cons (t := 4) rfl (Ent.cons (t := 11) rfl (Ent.cons (t := 12) rfl (Ent.nil _)))))))) (Sub.keep 0 rfl (Sub.keep 0 rfl (Sub.refl _)))
        · skip
          subst c3
          refine D.gp 2 rfl rfl rfl rfl rfl rfl rfl rfl (Pu.move rfl rfl) ?_
          refine D.gp 3 rfl rfl rfl rfl rfl rfl rfl rfl (Pu.move rfl rfl) ?_
          refine D.gp 4 rfl rfl rfl rfl rfl rfl rfl rfl (Pu.indexAddrS (k) rfl Try.underlying24 sz56 rfl rfl (by omega) (by omega) (fun w hw => Own.some hw (i := 1) (by exact rfl) (by omega))) ?_
          have e1 : k < z.length := by omega
          refine D.gp 5 rfl rfl rfl rfl rfl rfl rfl rfl (Pu.loadAgg' (v := B3.v (z[k]'e1)) rfl rfl ag56 sz56 rfl rfl (Ld.rds (C := B3C) (Ld.own 1 (by exact rfl)) (k := k) e1 rfl)) ?_
          refine D.gp 6 rfl rfl rfl rfl rfl rfl rfl rfl (Pu.loadAgg' (v := B3.v (bk3 ((a + (↑i : Int)) % v_) ((b + (↑i : Int)) % v_) ((c_ + (↑i : Int)) % v_))) rfl rfl ag56 sz56 rfl rfl (Ld.whole 0 rfl)) ?_
          refine D.gp 7 rfl rfl rfl rfl rfl rfl rfl rfl (Pu.eqlB3 Try.underlying56 Try.underlying2 sz2 (by kernel_rfl) rfl rfl rfl) ?_
          refine D.p 8 rfl rfl rfl rfl rfl rfl (Pu.pickF rfl rfl rfl) ?_
          refine D.last hwf (e := 9) rfl rfl rfl rfl rfl rfl (Pu.assign rfl rfl) ?_
          refine X.blockNormal ?_
          refine X.next ?_
          refine V.region ?_
          refine O.p rfl rfl rfl (Pu.move rfl rfl) ?_
          refine O.p rfl rfl rfl (Pu.add64 (r := ((k + 1 : Nat) : Int)) rfl (by omega) rfl rfl rfl) ?_
          refine O.p rfl rfl rfl (Pu.assign rfl rfl) ?_
          refine O.nil ?_
          exact X.back3 ((decide ((z[k]'e1) = (bk3 ((a + (↑i : Int)) % v_) ((b + (↑i : Int)) % v_) ((c_ + (↑i : Int)) % v_)))), k + 1) (by (try dsimp only); exact ⟨by omega, by rw [take_snoc (by omega)]; have h := hk2.symm; rw [decide_eq_false_iff_not] at h; apply decide_eq_decide.2; rw [List.mem_append, List.mem_singleton]; exact ⟨fun e => .inr e.symm, fun e => e.elim (fun e => absurd e h) Eq.symm⟩⟩) (by first | omega | (dsimp only; omega)) (Ent.cons rfl (Ent.cons rfl (Ent.nil _))) (Ent.cons (t := 0) rfl (Ent.cons (t := 1) rfl (Ent.cons (t := 2) rfl (Ent.cons (t := 3) rfl (Ent.cons (t := 4) rfl (Ent.cons (t := 11) rfl (Ent.cons (t := 12) rfl (Ent.nil _)))))))) (Sub.keep 0 rfl (Sub.keep 0 rfl (Sub.refl _)))
      · skip
        refine V.exit ?_
        refine X.thenExit ?_
        refine X.thenExit ?_
        refine X.blockHit ?_
        refine X.next ?_
        refine V.seq ?_
        refine V.region ?_
        refine O.p rfl rfl rfl (Pu.move rfl rfl) ?_
        refine O.p rfl rfl rfl (Pu.not rfl rfl) ?_
        refine O.nil ?_
        refine X.next ?_
        refine V.cond rfl (fun c4 => ?_) (fun c4 => ?_)
        · skip
          have hnk : ¬ bkT v_ (a, b, c_) i ∈ z := by rw [List.take_of_length_le (by omega)] at hk2; intro h; rw [decide_eq_true h] at hk2; simp_all
          refine V.region ?_
          refine O.p rfl rfl rfl (Pu.move rfl rfl) ?_
          refine O.p rfl rfl rfl (Pu.loadAgg' (v := B3.v (bk3 ((a + (↑i : Int)) % v_) ((b + (↑i : Int)) % v_) ((c_ + (↑i : Int)) % v_))) rfl rfl ag56 sz56 rfl rfl (Ld.whole 0 rfl)) ?_
          refine O.e rfl rfl rfl (Ef.build B3C ([(bk3 ((a + (↑i : Int)) % v_) ((b + (↑i : Int)) % v_) ((c_ + (↑i : Int)) % v_))] : List B3) rfl Try.underlying24 inf56 rfl rfl rfl (by first | decide | (simp; done)) (by kernel_rfl)) ?_
          rintro _ _ ⟨A1, hA1, rfl, rfl⟩
          refine O.e rfl rfl rfl (Ef.append (xs := z) (ys := ([(bk3 ((a + (↑i : Int)) % v_) ((b + (↑i : Int)) % v_) ((c_ + (↑i : Int)) % v_))] : List B3)) 2 rfl Try.underlying24 inf56 rfl rfl rfl rfl rfl rfl hA1 (Ld.own 0 (by exact rfl)) (by simp only [List.length_append, List.length_cons, List.length_nil] at *; omega) (by decide)) ?_
          rintro _ _ ⟨A2, k1, rfl, rfl, hA2⟩
          replace hA2 := hA2 (.inr (by simp))
          refine O.p rfl rfl rfl (Pu.assign rfl rfl) ?_
          refine O.nil ?_
          refine X.blockNormal ?_
          refine X.next ?_
          refine V.region ?_
          refine O.p rfl rfl rfl (Pu.move rfl rfl) ?_
          refine O.p rfl rfl rfl (Pu.add64 (r := ((i + 1 : Nat) : Int)) rfl (by omega) rfl rfl rfl) ?_
          refine O.p rfl rfl rfl (Pu.assign rfl rfl) ?_
          refine O.nil ?_
          exact X.back3 (A2, k1, (z ++ ([(bk3 ((a + (↑i : Int)) % v_) ((b + (↑i : Int)) % v_) ((c_ + (↑i : Int)) % v_))] : List B3)), i + 1) (by (try dsimp only); exact ⟨by omega, by rw [hz]; exact (rowT_no (by rw [← hz]; exact hnk)).symm⟩) (by first | omega | (dsimp only; omega)) (Ent.cons rfl (Ent.cons rfl (Ent.nil _))) (Ent.cons (t := 1) rfl (Ent.cons (t := 2) rfl (Ent.cons (t := 3) rfl (Ent.cons (t := 4) rfl (Ent.nil _))))) (Sub.keep 2 rfl (Sub.drop (Sub.drop (Sub.refl _))))
        · skip
          have hkn : bkT v_ (a, b, c_) i ∈ z := by rw [List.take_of_length_le (by omega)] at hk2; apply Decidable.byContradiction; intro h; rw [decide_eq_false h] at hk2; simp_all
          refine V.skip ?_
          refine X.blockNormal ?_
          refine X.next ?_
          refine V.region ?_
          refine O.p rfl rfl rfl (Pu.move rfl rfl) ?_
          refine O.p rfl rfl rfl (Pu.add64 (r := ((i + 1 : Nat) : Int)) rfl (by omega) rfl rfl rfl) ?_
          refine O.p rfl rfl rfl (Pu.assign rfl rfl) ?_
          refine O.nil ?_
          exact X.back3 (zA, zc, z, i + 1) (by (try dsimp only); exact ⟨by omega, by rw [hz]; exact (rowT_yes (by rw [← hz]; exact hkn)).symm⟩) (by first | omega | (dsimp only; omega)) (Ent.cons rfl (Ent.cons rfl (Ent.nil _))) (Ent.cons (t := 1) rfl (Ent.cons (t := 2) rfl (Ent.cons (t := 3) rfl (Ent.cons (t := 4) rfl (Ent.nil _))))) (Sub.keep 1 rfl (Sub.drop (Sub.refl _)))
  · skip
    refine V.exit ?_
    refine X.thenExit ?_
    refine X.thenExit ?_
    refine X.blockHit ?_
    refine X.next ?_
    refine V.seq ?_
    refine V.region ?_
    refine O.p rfl rfl rfl (Pu.move rfl rfl) ?_
    refine O.p rfl rfl rfl (Pu.assign rfl rfl) ?_
    refine O.nil ?_
    refine X.next ?_
    refine V.ret ?_
    refine X.ret1 rfl rfl ?_
    exact fun w hw => St.mkExi zA (St.mkExi zc (St.mkExi z (St.unsep (St.addPur ⟨rfl, by rw [hz, show i = v_.toNat by omega]⟩ (hw.sub (Sub.keep 0 rfl (Sub.refl _)))))))
set_option maxRecDepth 100000 in
set_option maxHeartbeats 1000000 in
theorem l01NamedD0_ok (w : World) : Does Try.prog 48 [.string (ByteArray.mk #[115, 105, 110, 103, 108, 101])] w [] (fun rv_ => [.exi fun (rA : Option Addr) => .exi fun (rc : Nat) => .exi fun (r : List B3) => .sep (.pur (rv_ = .tuple #[.agg #[.int .i64 3, .slice rA r.length rc], .bool true] ∧ DrS 4000 3 r)) (Own 56 B3C rA rc r)]) := by
  refine Does.enter Try.func48 rfl rfl [(0, .string (ByteArray.mk #[115, 105, 110, 103, 108, 101]))] rfl ?_
  refine V.seq ?_
  refine V.region ?_
  refine O.e rfl rfl rfl (Ef.alloc rfl zr26 rfl) ?_
  rintro _ _ ⟨b1, rfl, rfl⟩
  refine O.p rfl rfl rfl (Pu.assign rfl rfl) ?_
  refine O.nil ?_
  refine X.next ?_
  refine V.seq ?_
  refine V.region ?_
  refine O.e rfl rfl rfl (Ef.build B3C ([] : List B3) rfl Try.underlying24 inf56 rfl rfl rfl (by first | decide | (simp; done)) (by kernel_rfl)) ?_
  rintro _ _ ⟨A1, hA1, rfl, rfl⟩
  refine O.p rfl rfl rfl (Pu.assign rfl rfl) ?_
  refine O.nil ?_
  refine X.next ?_
  refine V.seq ?_
  refine V.seq ?_
  refine V.region ?_
  refine O.p rfl rfl rfl (Pu.move rfl rfl) ?_
  refine O.nil ?_
  refine X.next ?_
  refine V.block ?_
  refine V.seq ?_
  refine V.region ?_
  refine O.p rfl rfl rfl (Pu.eqlStr (b := true) (by kernel_rfl) rfl rfl rfl) ?_
  refine O.p rfl rfl rfl (Pu.assign rfl rfl) ?_
  refine O.nil ?_
  refine X.next ?_
  refine V.condT rfl ?_
  refine V.seq ?_
  refine V.region ?_
  refine O.p rfl rfl rfl (Pu.buildA (cs := [.int .i64 (0 : Int), .int .i64 (1 : Int), .int .i64 (2 : Int)]) (v := B3.v ((0 : Int), (1 : Int), (2 : Int))) rfl rfl Try.underlying56 zr56 sz2 rfl (by kernel_rfl)) ?_
  refine O.e rfl rfl rfl (Ef.build B3C ([((0 : Int), (1 : Int), (2 : Int))] : List B3) rfl Try.underlying24 inf56 rfl rfl rfl (by first | decide | (simp; done)) (by kernel_rfl)) ?_
  rintro _ _ ⟨A2, hA2, rfl, rfl⟩
  refine O.e rfl rfl rfl (Ef.call1 call62 rfl rfl (fun w hw => l01Made_ok  (3 : Int) ([((0 : Int), (1 : Int), (2 : Int))] : List B3) _ _ w ((Ld.own 0 (by exact rfl)) w hw) (by simp) (by simp))) ?_
  rintro _ _ rfl
  refine O.exi (fun r1A => ?_)
  refine O.exi (fun r1c => ?_)
  refine O.exi (fun r1 => ?_)
  refine O.sep ?_
  refine O.pur ?_
  rintro ⟨rfl, hr1_1, hr1_2⟩
  refine O.s rfl rfl (Ef.storeAll 3 rfl sz26 rfl rfl rfl rfl (by simp [Value.oneCell']) rfl) ?_
  rintro _ _ rfl
  refine O.p rfl rfl rfl (Pu.assign rfl rfl) ?_
  refine O.nil ?_
  refine X.next ?_
  refine V.ret ?_
  refine X.blockRet ?_
  refine X.thenRet ?_
  refine X.retCell2 rfl ag26 sz26 rfl rfl rfl (Ld.whole 3 rfl) ?_
  exact fun w hw => St.mkExi r1A (St.mkExi r1c (St.mkExi r1 (St.unsep (St.addPur ⟨rfl, DrS.perm ⟨by decide, by decide, by decide⟩ hr1_1⟩ (hw.sub (Sub.keep 0 rfl (Sub.nil _)))))))
set_option maxRecDepth 100000 in
set_option maxHeartbeats 1000000 in
theorem l01NamedD1_ok (w : World) : Does Try.prog 48 [.string (ByteArray.mk #[102, 97, 110, 111])] w [] (fun rv_ => [.exi fun (rA : Option Addr) => .exi fun (rc : Nat) => .exi fun (r : List B3) => .sep (.pur (rv_ = .tuple #[.agg #[.int .i64 7, .slice rA r.length rc], .bool true] ∧ DrS 4000 7 r)) (Own 56 B3C rA rc r)]) := by
  refine Does.enter Try.func48 rfl rfl [(0, .string (ByteArray.mk #[102, 97, 110, 111]))] rfl ?_
  refine V.seq ?_
  refine V.region ?_
  refine O.e rfl rfl rfl (Ef.alloc rfl zr26 rfl) ?_
  rintro _ _ ⟨b1, rfl, rfl⟩
  refine O.p rfl rfl rfl (Pu.assign rfl rfl) ?_
  refine O.nil ?_
  refine X.next ?_
  refine V.seq ?_
  refine V.region ?_
  refine O.e rfl rfl rfl (Ef.build B3C ([] : List B3) rfl Try.underlying24 inf56 rfl rfl rfl (by first | decide | (simp; done)) (by kernel_rfl)) ?_
  rintro _ _ ⟨A1, hA1, rfl, rfl⟩
  refine O.p rfl rfl rfl (Pu.assign rfl rfl) ?_
  refine O.nil ?_
  refine X.next ?_
  refine V.seq ?_
  refine V.seq ?_
  refine V.region ?_
  refine O.p rfl rfl rfl (Pu.move rfl rfl) ?_
  refine O.nil ?_
  refine X.next ?_
  refine V.block ?_
  refine V.seq ?_
  refine V.region ?_
  refine O.p rfl rfl rfl (Pu.eqlStr (b := false) (by kernel_rfl) rfl rfl rfl) ?_
  refine O.p rfl rfl rfl (Pu.assign rfl rfl) ?_
  refine O.nil ?_
  refine X.next ?_
  refine V.condF rfl ?_
  refine V.seq ?_
  refine V.region ?_
  refine O.p rfl rfl rfl (Pu.eqlStr (b := true) (by kernel_rfl) rfl rfl rfl) ?_
  refine O.p rfl rfl rfl (Pu.assign rfl rfl) ?_
  refine O.nil ?_
  refine X.next ?_
  refine V.condT rfl ?_
  refine V.seq ?_
  refine V.region ?_
  refine O.p rfl rfl rfl (Pu.move rfl rfl) ?_
  refine O.e rfl rfl rfl (Ef.call call65 rfl rfl (Does.pre (fun w hw => hw.sub (Sub.keep 0 rfl (Sub.keep 0 rfl (Sub.nil _)))) (l01Turned_ok  ([] : List B3) (7 : Int) (0 : Int) (1 : Int) (3 : Int) _ _ w _   (by decide) (by decide) (by decide) (by decide) (by first | (simp; done) | (rw [hr1_1]; decide +kernel) | (rw [hr2_1, hr1_1]; decide +kernel))))) ?_
  rintro _ _ rfl
  refine O.exi (fun r1A => ?_)
  refine O.exi (fun r1c => ?_)
  refine O.exi (fun r1 => ?_)
  refine O.sep ?_
  refine O.pur ?_
  rintro ⟨rfl, hr1_1⟩
  refine O.e rfl rfl rfl (Ef.call1 call62 rfl rfl (fun w hw => l01Made_ok  (7 : Int) r1 _ _ w ((Ld.own 0 (by exact rfl)) w hw) (by rw [hr1_1]; decide +kernel) (by rw [hr1_1]; decide +kernel))) ?_
  rintro _ _ rfl
  refine O.exi (fun r2A => ?_)
  refine O.exi (fun r2c => ?_)
  refine O.exi (fun r2 => ?_)
  refine O.sep ?_
  refine O.pur ?_
  rintro ⟨rfl, hr2_1, hr2_2⟩
  refine O.s rfl rfl (Ef.storeAll 2 rfl sz26 rfl rfl rfl rfl (by simp [Value.oneCell']) rfl) ?_
  rintro _ _ rfl
  refine O.p rfl rfl rfl (Pu.assign rfl rfl) ?_
  refine O.nil ?_
  refine X.next ?_
  refine V.ret ?_
  refine X.blockRet ?_
  refine X.thenRet ?_
  refine X.retCell2 rfl ag26 sz26 rfl rfl rfl (Ld.whole 2 rfl) ?_
  exact fun w hw => St.mkExi r2A (St.mkExi r2c (St.mkExi r2 (St.unsep (St.addPur ⟨rfl, DrS.perm (bs := r1) (by rw [hr1_1]; exact ⟨by decide, by decide +kernel, by decide +kernel⟩) hr2_1⟩ (hw.sub (Sub.keep 0 rfl (Sub.nil _)))))))
end Go.Proofs.Ytgjfcepnkllklaa
