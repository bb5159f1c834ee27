/-
  Classes with a block.
-/
import Derived.Test.YtjpfngmoabnffaaW1
import Derived.Test.YtjpfngmoabnffaaK
import Derived.Test.YtjpfngmoabnffaaL
import Derived.Test.YtjpfngmoabnffaaPureWith
set_option linter.unusedVariables false
set_option linter.unusedSimpArgs false
namespace Go.Proofs.Ytjpfngmoabnffaa
open Go Go.RowKit Go.Vc Go.Proofs
set_option maxRecDepth 100000 in
set_option maxHeartbeats 1000000 in
theorem l01Place_ok (list : List Int) (x_ : Int) (listA : Option Addr) (listc : Nat) (w : World) (hlist : Rd I64 w listA list) (llist : list.length ≤ 1099511627776) : Does Try.prog 71 [.slice listA list.length listc, .int .i64 x_] w [] (fun r => [.pur (r = .int .i64 (idxP (fun y => y = x_) list))]) := by
  refine Does.enter Try.func71 rfl rfl [(0, .slice listA list.length listc), (1, .int .i64 x_)] rfl ?_
  refine V.seq ?_
  refine V.region ?_
  refine O.p rfl rfl rfl (Pu.assign rfl rfl) ?_
  refine O.nil ?_
  refine X.next ?_
  refine V.seq ?_
  refine V.seq ?_
  refine V.region ?_
  refine O.p rfl rfl rfl (Pu.assign rfl rfl) ?_
  refine O.nil ?_
  refine X.next ?_
  refine V.block ?_
  refine V.loop2 (β := Nat) (fun i => [(5, .int .i64 (i : Int))]) _ (fun i => []) (fun i => i ≤ list.length ∧ ∀ j (hj : j < list.length), j < i → ¬ list[j] = x_) (fun i => list.length - i) 0 ⟨by omega, fun j hj h => by omega⟩ (Ent.cons rfl (Ent.nil _)) (Ent.cons (t := 0) rfl (Ent.cons (t := 1) rfl (Ent.nil _))) (Sub.nil _) ?_
  rintro i ⟨hi, hn⟩
  refine V.seq ?_
  refine V.seq ?_
  refine V.region ?_
  refine O.p rfl rfl rfl (Pu.move rfl rfl) ?_
  refine O.p rfl rfl rfl (Pu.move rfl rfl) ?_
  refine O.p rfl rfl rfl (Pu.len rfl Try.underlying43 rfl) ?_
  refine O.p rfl rfl rfl (Pu.lss rfl rfl rfl) ?_
  refine O.nil ?_
  refine X.next ?_
  refine V.condD rfl (fun c1 => ?_) (fun c1 => ?_)
  · skip
    refine V.skip ?_
    refine X.next ?_
    refine V.seq ?_
    refine V.block ?_
    refine V.seq ?_
    refine V.region ?_
    refine O.p rfl rfl rfl (Pu.move rfl rfl) ?_
    refine O.p rfl rfl rfl (Pu.move rfl rfl) ?_
    refine O.p rfl rfl rfl (Pu.indexAddr (i) rfl Try.underlying43 sz2 rfl rfl (by omega) (by omega) (hlist.some (by omega))) ?_
    have e1 : i < list.length := by omega
    refine O.p rfl rfl rfl (Pu.load rfl pl2 rfl (Ld.rd (Ld.old hlist) (k := i) e1 rfl rfl)) ?_
    refine O.p rfl rfl rfl (Pu.move rfl rfl) ?_
    refine O.p rfl rfl rfl (Pu.eql rfl rfl rfl) ?_
    refine O.nil ?_
    refine X.next ?_
    refine V.condD rfl (fun c2 => ?_) (fun c2 => ?_)
    · skip
      refine V.seq ?_
      refine V.region ?_
      refine O.p rfl rfl rfl (Pu.move rfl rfl) ?_
      refine O.p rfl rfl rfl (Pu.assign rfl rfl) ?_
      refine O.nil ?_
      refine X.next ?_
      refine V.ret ?_
      refine X.blockRet ?_
      refine X.thenRet ?_
      refine X.thenRet ?_
      refine X.blockRet ?_
      refine X.thenRet ?_
      refine X.ret1 rfl rfl ?_
      exact fun w hw => St.retP (iv ((idxP_found (by omega) c2 hn).symm)) hw
    · skip
      refine V.skip ?_
      refine X.blockNormal ?_
      refine X.next ?_
      refine V.region ?_
      refine O.p rfl rfl rfl (Pu.move rfl rfl) ?_
      refine O.p rfl rfl rfl (Pu.add64 (r := ((i + 1 : Nat) : Int)) rfl (by omega) rfl rfl rfl) ?_
      refine O.p rfl rfl rfl (Pu.assign rfl rfl) ?_
      refine O.nil ?_
      exact X.back2 (i + 1) ⟨by omega, fun j hj h => by by_cases e : j = i; (· subst e; exact c2); (· exact hn j hj (by omega))⟩ (by first | omega | (dsimp only; omega)) (Ent.cons rfl (Ent.nil _)) (Ent.cons (t := 0) rfl (Ent.cons (t := 1) rfl (Ent.nil _))) (Sub.nil _)
  · skip
    refine V.exit ?_
    refine X.thenExit ?_
    refine X.thenExit ?_
    refine X.blockHit ?_
    refine X.next ?_
    refine V.seq ?_
    refine V.region ?_
    refine O.p rfl rfl rfl (Pu.assign rfl rfl) ?_
    refine O.nil ?_
    refine X.next ?_
    refine V.ret ?_
    refine X.ret1 rfl rfl ?_
    exact fun w hw => St.retP (iv ((idxP_none (fun j hj => hn j hj (by omega))).symm)) hw

set_option maxRecDepth 100000 in
set_option maxHeartbeats 1000000 in
theorem isNumber_ok (v : Int) (bs : List B3) (i : Int) (A : Option Addr) (c : Nat) (w : World) (hx : Rd B3C w A bs) (lx : bs.length ≤ 4611686018427387904) : Does Try.prog 73 [.agg #[.int .i64 v, .slice A bs.length c], .int .i64 i] w [] (fun r => [.pur (r = .bool (decide (0 ≤ i ∧ i ≤ bs.length - 1)))]) := by
  refine Does.enter Try.func73 rfl rfl [(0, .agg #[.int .i64 v, .slice A bs.length c]), (1, .int .i64 i)] rfl ?_
  refine V.seq ?_
  refine V.region ?_
  refine O.e rfl rfl rfl (Ef.box rfl rfl rfl) ?_
  rintro _ _ ⟨b1, rfl, rfl⟩
  refine O.p rfl rfl rfl (Pu.assign rfl rfl) ?_
  refine O.nil ?_
  refine X.next ?_
  refine V.seq ?_
  refine V.region ?_
  refine O.p rfl rfl rfl (Pu.move rfl rfl) ?_
  refine O.p rfl rfl rfl (Pu.fieldAddr 1 rfl Try.underlying30 rfl sz28 rfl rfl) ?_
  refine O.p rfl rfl rfl (Pu.load rfl pl28 rfl (Ld.blk 0 rfl rfl)) ?_
  refine O.p rfl rfl rfl (Pu.len rfl Try.underlying28 rfl) ?_
  refine O.p rfl rfl rfl (Pu.sub64 rfl (by omega) rfl rfl rfl) ?_
  refine O.e rfl rfl rfl (Ef.callP call143 rfl rfl (fun w hw => within_ok _ _ _ _)) ?_
  rintro _ _ ⟨rfl, rfl⟩
  refine O.p rfl rfl rfl (Pu.assign rfl rfl) ?_
  refine O.nil ?_
  refine X.next ?_
  refine V.ret ?_
  refine X.ret1 rfl rfl ?_
  exact fun w hw => St.retP (boolD (Iff.rfl)) hw

set_option maxRecDepth 100000 in
set_option maxHeartbeats 1000000 in
theorem l05Number_ok (v : Int) (bs : List B3) (i : Int) (A : Option Addr) (c : Nat) (w : World) (hx : Rd B3C w A bs) (lx : bs.length ≤ 4611686018427387904) : Does Try.prog 69 [.agg #[.int .i64 v, .slice A bs.length c], .int .i64 i] w [] (fun r => [.pur (r = .int .i64 (if STS v bs then if 0 ≤ i ∧ i ≤ bs.length - 1 then 0 else 2 else 1))]) := by
  refine Does.enter Try.func69 rfl rfl [(0, .agg #[.int .i64 v, .slice A bs.length c]), (1, .int .i64 i)] rfl ?_
  refine V.seq ?_
  refine V.region ?_
  refine O.e rfl rfl rfl (Ef.box rfl rfl rfl) ?_
  rintro _ _ ⟨b1, rfl, rfl⟩
  refine O.p rfl rfl rfl (Pu.assign rfl rfl) ?_
  refine O.nil ?_
  refine X.next ?_
  refine V.seq ?_
  refine V.block ?_
  refine V.seq ?_
  refine V.region ?_
  refine O.p rfl rfl rfl (Pu.loadAgg rfl ag30 sz30 rfl rfl (Ld.whole 0 rfl)) ?_
  refine O.e rfl rfl rfl (Ef.callP call81 rfl rfl (fun w hw => l01Is_ok _ bs _ _ w ((Ld.old hx) w hw) (by omega))) ?_
  rintro _ _ ⟨rfl, rfl⟩
  refine O.p rfl rfl rfl (Pu.not rfl rfl) ?_
  refine O.p rfl rfl rfl (Pu.assign rfl rfl) ?_
  refine O.nil ?_
  refine X.next ?_
  refine V.condNot rfl (fun c1 => ?_) (fun c1 => ?_)
  · skip
    refine V.seq ?_
    refine V.region ?_
    refine O.p rfl rfl rfl (Pu.assign rfl rfl) ?_
    refine O.nil ?_
    refine X.next ?_
    refine V.ret ?_
    refine X.blockRet ?_
    refine X.thenRet ?_
    refine X.ret1 rfl rfl ?_
    exact fun w hw => St.retP (by rw [if_neg c1]) hw
  · skip
    refine V.seq ?_
    refine V.region ?_
    refine O.p rfl rfl rfl (Pu.move rfl rfl) ?_
    refine O.p rfl rfl rfl (Pu.fieldAddr 1 rfl Try.underlying30 rfl sz28 rfl rfl) ?_
    refine O.p rfl rfl rfl (Pu.load rfl pl28 rfl (Ld.blk 0 rfl rfl)) ?_
    refine O.p rfl rfl rfl (Pu.len rfl Try.underlying28 rfl) ?_
    refine O.p rfl rfl rfl (Pu.sub64 rfl (by omega) rfl rfl rfl) ?_
    refine O.e rfl rfl rfl (Ef.callP call139 rfl rfl (fun w hw => l01In_ok _ _ _ _)) ?_
    rintro _ _ ⟨rfl, rfl⟩
    refine O.p rfl rfl rfl (Pu.not rfl rfl) ?_
    refine O.p rfl rfl rfl (Pu.assign rfl rfl) ?_
    refine O.nil ?_
    refine X.next ?_
    refine V.condNot rfl (fun c2 => ?_) (fun c2 => ?_)
    · skip
      refine V.seq ?_
      refine V.region ?_
      refine O.p rfl rfl rfl (Pu.assign rfl rfl) ?_
      refine O.nil ?_
      refine X.next ?_
      refine V.ret ?_
      refine X.blockRet ?_
      refine X.thenRet ?_
      refine X.ret1 rfl rfl ?_
      exact fun w hw => St.retP (by rw [if_pos c1, if_neg c2]) hw
    · skip
      refine V.skip ?_
      refine X.blockNormal ?_
      refine X.next ?_
      refine V.seq ?_
      refine V.region ?_
      refine O.p rfl rfl rfl (Pu.assign rfl rfl) ?_
      refine O.nil ?_
      refine X.next ?_
      refine V.ret ?_
      refine X.ret1 rfl rfl ?_
      exact fun w hw => St.retP (by rw [if_pos c1, if_pos c2]) hw

set_option maxRecDepth 100000 in
set_option maxHeartbeats 1000000 in
theorem classesWith1_ok (l : List Int) (i : Int) (b_0 : Nat) (lA : Option Addr) (lc : Nat) (w : World) (hl : Rd I64 w lA l) (hb_0 : RdB w b_0 [.int .i64 i]) (ll : l.length ≤ 1099511627776) : Does Try.prog 76 [.slice lA l.length lc, .pointer (some ⟨b_0, 0, none⟩)] w [] (fun r => [.pur (r = .bool (decide (¬ i ∈ l)))]) := by
  refine Does.enter Try.func76 rfl rfl [(0, .slice lA l.length lc), (1, .pointer (some ⟨b_0, 0, none⟩))] rfl ?_
  refine V.seq ?_
  refine V.region ?_
  refine O.p rfl rfl rfl (Pu.assign rfl rfl) ?_
  refine O.nil ?_
  refine X.next ?_
  refine V.seq ?_
  refine V.region ?_
  refine O.p rfl rfl rfl (Pu.move rfl rfl) ?_
  refine O.p rfl rfl rfl (Pu.load rfl pl2 rfl (Ld.rdb hb_0 rfl)) ?_
  refine O.e rfl rfl rfl (Ef.callP call77 rfl rfl (fun w hw => containsI_ok  l i _ _ w ((Ld.old hl) w hw) (by first | omega | (simp only [tops_len, conts_len, bl, List.length_append, List.length_cons, List.length_nil] at *; omega)) )) ?_
  rintro _ _ ⟨rfl, rfl⟩
  refine O.p rfl rfl rfl (Pu.not rfl rfl) ?_
  refine O.p rfl rfl rfl (Pu.assign rfl rfl) ?_
  refine O.nil ?_
  refine X.next ?_
  refine V.ret ?_
  refine X.ret1 rfl rfl ?_
  exact fun w hw => St.retP ((by rw [← decide_not]; try exact boolD (Iff.rfl))) hw

set_option maxRecDepth 100000 in
set_option maxHeartbeats 1000000 in
theorem implClassesWith_ok (v : Int) (bs : List B3) (i : Int) (A : Option Addr) (c : Nat) (w : World) (hx : Rd B3C w A bs) (lx : bs.length ≤ 4611686018427387904) : Does Try.prog 23 [.agg #[.int .i64 v, .slice A bs.length c], .int .i64 i] w [] (fun rv_ => [.exi fun (rA : Option Addr) => .exi fun (rc : Nat) => .exi fun (r : List (Sl × List Int)) => .exi fun (code : Int) => .sep (.pur (rv_ = .tuple #[.slice rA (tops r).length rc, .int .i64 code] ∧ CW v bs i (conts r) code ∧ r.length ≤ 52521875)) (.sep (Own 43 SlC rA rc (tops r)) (RowsA 2 I64 r))]) := by
  refine Does.enter Try.func23 rfl rfl [(0, .agg #[.int .i64 v, .slice A bs.length c]), (1, .int .i64 i)] rfl ?_
  refine V.seq ?_
  refine V.region ?_
  refine O.e rfl rfl rfl (Ef.box rfl rfl rfl) ?_
  rintro _ _ ⟨b1, rfl, rfl⟩
  refine O.e rfl rfl rfl (Ef.box rfl rfl rfl) ?_
  rintro _ _ ⟨b2, rfl, rfl⟩
  refine O.p rfl rfl rfl (Pu.assign rfl rfl) ?_
  refine O.p rfl rfl rfl (Pu.assign rfl rfl) ?_
  refine O.nil ?_
  refine X.next ?_
  refine V.seq ?_
  refine V.seq ?_
  refine V.region ?_
  refine O.p rfl rfl rfl (Pu.loadAgg rfl ag30 sz30 rfl rfl (Ld.whole 1 rfl)) ?_
  refine O.e rfl rfl rfl (Ef.callP call72 rfl rfl (fun w hw => IsSystem_ok _ bs _ _ w ((Ld.old hx) w hw) (by omega))) ?_
  rintro _ _ ⟨rfl, rfl⟩
  refine O.p rfl rfl rfl (Pu.not rfl rfl) ?_
  refine O.nil ?_
  refine X.next ?_
  refine V.condNot rfl (fun c1 => ?_) (fun c1 => ?_)
  · skip
    refine V.seq ?_
    refine V.region ?_
    refine O.p rfl rfl rfl (Pu.assign rfl rfl) ?_
    refine O.p rfl rfl rfl (Pu.assign rfl rfl) ?_
    refine O.nil ?_
    refine X.next ?_
    refine V.ret ?_
    refine X.thenRet ?_
    refine X.ret2 rfl rfl rfl ?_
    exact fun w hw => St.mkExi none (St.mkExi 0 (St.mkExi [] (St.mkExi (1 : Int) (St.unsep (St.addPur ⟨(by first | rfl | (simp only [tops_append]; done) | (simp only [tops_append]; rfl)), ⟨fun _ => ⟨rfl, rfl⟩, fun h => absurd h c1, fun h => absurd h c1⟩, by simp⟩ (St.unsep (St.addNil (T := 43) (C := SlC) (RowsA.nil (T := 2) (C := I64) (hw.sub (Sub.nil _))))))))))
  · skip
    have hS := c1
    refine V.skip ?_
    refine X.next ?_
    refine V.seq ?_
    refine V.seq ?_
    refine V.region ?_
    refine O.p rfl rfl rfl (Pu.loadAgg rfl ag30 sz30 rfl rfl (Ld.whole 1 rfl)) ?_
    refine O.p rfl rfl rfl (Pu.load rfl pl2 rfl (Ld.blk 0 rfl rfl)) ?_
    refine O.e rfl rfl rfl (Ef.callP call73 rfl rfl (fun w hw => isNumber_ok  v bs i _ _ w ((Ld.old hx) w hw) (by first | omega | (simp only [tops_len, conts_len, bl, List.length_append, List.length_cons, List.length_nil] at *; omega)) )) ?_
    rintro _ _ ⟨rfl, rfl⟩
    refine O.p rfl rfl rfl (Pu.not rfl rfl) ?_
    refine O.nil ?_
    refine X.next ?_
    refine V.condNot rfl (fun c2 => ?_) (fun c2 => ?_)
    · skip
      refine V.seq ?_
      refine V.region ?_
      refine O.p rfl rfl rfl (Pu.assign rfl rfl) ?_
      refine O.p rfl rfl rfl (Pu.assign rfl rfl) ?_
      refine O.nil ?_
      refine X.next ?_
      refine V.ret ?_
      refine X.thenRet ?_
      refine X.ret2 rfl rfl rfl ?_
      exact fun w hw => St.mkExi none (St.mkExi 0 (St.mkExi [] (St.mkExi (2 : Int) (St.unsep (St.addPur ⟨(by first | rfl | (simp only [tops_append]; done) | (simp only [tops_append]; rfl)), ⟨fun h => absurd c1 h, fun _ _ => ⟨rfl, rfl⟩, fun _ h => absurd h c2⟩, by simp⟩ (St.unsep (St.addNil (T := 43) (C := SlC) (RowsA.nil (T := 2) (C := I64) (hw.sub (Sub.nil _))))))))))
    · skip
      refine V.skip ?_
      refine X.next ?_
      refine V.seq ?_
      refine V.region ?_
      refine O.p rfl rfl rfl (Pu.loadAgg rfl ag30 sz30 rfl rfl (Ld.whole 1 rfl)) ?_
      refine O.e rfl rfl rfl (Ef.call1 call75 rfl rfl (fun w hw => classesI_ok _ bs _ _ w ((Ld.old hx) w hw) c1)) ?_
      rintro _ _ rfl
      refine O.exi (fun p1 => ?_)
      refine O.sep ?_
      refine O.pur ?_
      rintro ⟨rfl, hp1_1, hp1_2⟩
      refine O.sep ?_
      refine O.fact (RowsA.len 1 rfl) (fun hn_p1 => ?_)
      have htl_p1 := tops_len p1.2
      have hsml : ∀ k (hk : k < p1.2.length), (p1.2[k]).2.length ≤ 5 := fun k hk => by have h1 := (hp1_1.2 (p1.2[k]).2).1 (List.mem_map_of_mem (List.getElem_mem hk)); have h2 := (cls_count hS.good (by have := hS.lo; omega) _).1 h1; have := hS.hi; omega
      refine O.p rfl rfl rfl (Pu.makeFunc rfl rfl) ?_
      refine O.e rfl rfl rfl (Ef.call call74 rfl rfl (Does.pre (fun w hw => hw.sub (Sub.keep 0 rfl (Sub.keep 0 rfl (Sub.keep 0 rfl (Sub.keep 0 rfl (Sub.nil _)))))) (deleteS_ok  (p1.2) (fun x => ¬ i ∈ x.2) (76) _ _ _ w _   (call76) (by omega) hn_p1 (fun k hk zs w' hw' => by rw [hn_p1.sl hk]; have hrd := RowsA.rd hw' (i := 1) rfl (List.getElem_mem hk); exact classesWith1_ok _ i _ _ _ w' hrd.2 (Blk.rdb hw' (i := 2) rfl) (by have := hsml k hk; omega))))) ?_
      rintro _ _ rfl
      refine O.exi (fun r1A => ?_)
      refine O.exi (fun r1c => ?_)
      refine O.exi (fun r1 => ?_)
      refine O.sep ?_
      refine O.pur ?_
      rintro ⟨rfl, hr1_1⟩
      refine O.sep ?_
      subst hr1_1
      refine O.map (fun w hw => RowsA.sublist (List.filter_sublist (p := fun x : Sl × List Int => !decide (¬ i ∈ x.2))) (hw.sub (Sub.keep 1 rfl (Sub.keep 0 rfl (Sub.keep 0 rfl (Sub.keep 0 rfl (Sub.nil _))))))) ?_
      refine O.p rfl rfl rfl (Pu.assign rfl rfl) ?_
      refine O.p rfl rfl rfl (Pu.assign rfl rfl) ?_
      refine O.nil ?_
      refine X.next ?_
      refine V.ret ?_
      refine X.ret2 rfl rfl rfl ?_
      exact fun w hw => St.mkExi r1A (St.mkExi r1c (St.mkExi (p1.2.filter fun x => !decide (¬ i ∈ x.2)) (St.mkExi (0 : Int) (St.unsep (St.addPur ⟨(by first | rfl | (simp only [tops_append]; done) | (simp only [tops_append]; rfl)), ⟨fun h => absurd c1 h, fun _ h => absurd c2 h, fun _ _ => ⟨by rw [conts_filter (fun q => i ∈ q)]; exact hp1_1.filter _, rfl⟩⟩, Nat.le_trans (List.length_filter_le _ _) hp1_2⟩ (St.unsep (hw.sub (Sub.keep 1 rfl (Sub.keep 0 rfl (Sub.nil _))))))))))

set_option maxRecDepth 100000 in
set_option maxHeartbeats 1000000 in
theorem specClassesWith_ok (v : Int) (bs : List B3) (i : Int) (A : Option Addr) (c : Nat) (w : World) (hx : Rd B3C w A bs) (lx : bs.length ≤ 4611686018427387904) : Does Try.prog 22 [.agg #[.int .i64 v, .slice A bs.length c], .int .i64 i] w [] (fun rv_ => [.exi fun (rA : Option Addr) => .exi fun (rc : Nat) => .exi fun (r : List (Sl × List Int)) => .exi fun (code : Int) => .sep (.pur (rv_ = .tuple #[.slice rA (tops r).length rc, .int .i64 code] ∧ CW v bs i (conts r) code ∧ r.length ≤ 52521875)) (.sep (Own 43 SlC rA rc (tops r)) (RowsA 2 I64 r))]) := by
  refine Does.enter Try.func22 rfl rfl [(0, .agg #[.int .i64 v, .slice A bs.length c]), (1, .int .i64 i)] rfl ?_
  refine V.seq ?_
  refine V.region ?_
  refine O.e rfl rfl rfl (Ef.box rfl rfl rfl) ?_
  rintro _ _ ⟨b1, rfl, rfl⟩
  refine O.p rfl rfl rfl (Pu.assign rfl rfl) ?_
  refine O.p rfl rfl rfl (Pu.assign rfl rfl) ?_
  refine O.nil ?_
  refine X.next ?_
  refine V.seq ?_
  refine V.seq ?_
  refine V.region ?_
  refine O.p rfl rfl rfl (Pu.loadAgg rfl ag30 sz30 rfl rfl (Ld.whole 0 rfl)) ?_
  refine O.p rfl rfl rfl (Pu.move rfl rfl) ?_
  refine O.e rfl rfl rfl (Ef.callP call69 rfl rfl (fun w hw => l05Number_ok  v bs i _ _ w ((Ld.old hx) w hw) (by first | omega | (simp only [tops_len, conts_len, bl, List.length_append, List.length_cons, List.length_nil] at *; omega)) )) ?_
  rintro _ _ ⟨rfl, rfl⟩
  refine O.p rfl rfl rfl (Pu.assign rfl rfl) ?_
  refine O.nil ?_
  refine X.next ?_
  refine V.seq ?_
  refine V.region ?_
  refine O.p rfl rfl rfl (Pu.move rfl rfl) ?_
  refine O.p rfl rfl rfl (Pu.neq rfl rfl rfl) ?_
  refine O.nil ?_
  refine X.next ?_
  refine V.condNot rfl (fun c1 => ?_) (fun c1 => ?_)
  · skip
    refine V.seq ?_
    refine V.region ?_
    refine O.p rfl rfl rfl (Pu.move rfl rfl) ?_
    refine O.p rfl rfl rfl (Pu.assign rfl rfl) ?_
    refine O.p rfl rfl rfl (Pu.assign rfl rfl) ?_
    refine O.nil ?_
    refine X.next ?_
    refine V.ret ?_
    refine X.thenRet ?_
    refine X.ret2 rfl rfl rfl ?_
    exact fun w hw => St.mkExi none (St.mkExi 0 (St.mkExi [] (St.mkExi (if STS v bs then if 0 ≤ i ∧ i ≤ bs.length - 1 then 0 else 2 else 1) (St.unsep (St.addPur ⟨(by first | rfl | (simp only [tops_append]; done) | (simp only [tops_append]; rfl)), ⟨fun _ => ⟨rfl, by split at c1 <;> first | (split at c1 <;> simp_all) | simp_all⟩, fun hS hi => ⟨rfl, by rw [if_pos hS, if_neg hi]⟩, fun hS hi => absurd (by rw [if_pos hS, if_pos hi]) c1⟩, by simp⟩ (St.unsep (St.addNil (T := 43) (C := SlC) (RowsA.nil (T := 2) (C := I64) (hw.sub (Sub.nil _))))))))))
  · skip
    have hS : STS v bs := by apply Decidable.byContradiction; intro h; rw [if_neg h] at c1; exact absurd c1 (by decide)
    rw [if_pos hS] at c1
    have hi : 0 ≤ i ∧ i ≤ bs.length - 1 := by apply Decidable.byContradiction; intro h; rw [if_neg h] at c1; exact absurd c1 (by decide)
    clear c1
    refine V.skip ?_
    refine X.next ?_
    refine V.seq ?_
    refine V.region ?_
    refine O.p rfl rfl rfl (Pu.loadAgg rfl ag30 sz30 rfl rfl (Ld.whole 0 rfl)) ?_
    refine O.e rfl rfl rfl (Ef.call1 call70 rfl rfl (fun w hw => l05List_ok _ bs _ _ w ((Ld.old hx) w hw) hS)) ?_
    rintro _ _ rfl
    refine O.exi (fun p1 => ?_)
    refine O.sep ?_
    refine O.pur ?_
    rintro ⟨rfl, hp1_1, hp1_2⟩
    refine O.sep ?_
    refine O.fact (RowsA.len 1 rfl) (fun hn_p1 => ?_)
    have htl_p1 := tops_len p1.2
    have hsml : ∀ k (hk : k < p1.2.length), (p1.2[k]).2.length ≤ 5 := fun k hk => by have h1 := (hp1_1.2 (p1.2[k]).2).1 (List.mem_map_of_mem (List.getElem_mem hk)); have h2 := (cls_count hS.good (by have := hS.lo; omega) _).1 h1; have := hS.hi; omega
    refine O.e rfl rfl rfl (Ef.build SlC ([] : List Sl) rfl Try.underlying34 inf43 rfl rfl rfl (by first | decide | (simp; done)) (by kernel_rfl)) ?_
    rintro _ _ ⟨A1, hA1, rfl, rfl⟩
    refine O.p rfl rfl rfl (Pu.assign rfl rfl) ?_
    refine O.p rfl rfl rfl (Pu.assign rfl rfl) ?_
    refine O.nil ?_
    refine X.next ?_
    refine V.seq ?_
    refine V.seq ?_
    refine V.region ?_
    refine O.p rfl rfl rfl (Pu.assign rfl rfl) ?_
    refine O.nil ?_
    refine X.next ?_
    refine V.block ?_
    refine V.loop3 (β := (Option Addr) × Nat × (List Sl) × Nat) (fun x => [(8, .slice x.1 x.2.2.1.length x.2.1), (9, .int .i64 (x.2.2.2 : Int))]) _ (fun x => [Own 43 SlC x.1 x.2.1 x.2.2.1]) _ (fun x => x.2.2.2 ≤ p1.2.length ∧ x.2.2.1 = tops (keptL (fun x : Sl × List Int => ¬ i ∈ x.2) p1.2 x.2.2.2)) (fun x => p1.2.length - x.2.2.2) (A1, 0, ([] : List Sl), 0) (by (try dsimp only); exact ⟨by omega, rfl⟩) (Ent.cons rfl (Ent.cons rfl (Ent.nil _))) (Ent.cons (t := 1) rfl (Ent.cons (t := 7) rfl (Ent.nil _))) (Sub.keep 0 rfl (Sub.keep 0 rfl (Sub.keep 0 rfl (Sub.keep 0 rfl (Sub.nil _))))) ?_
    rintro ⟨outA, outc, out, k⟩ ⟨hk, ho⟩
    dsimp only at hk ho ⊢
    have hkl := keptL_le (p := fun x : Sl × List Int => ¬ i ∈ x.2) (ps := p1.2) (j := k)
    have htk := tops_len (keptL (fun x : Sl × List Int => ¬ i ∈ x.2) p1.2 k)
    have hol : out.length ≤ k := by rw [ho]; omega
    refine V.seq ?_
    refine V.seq ?_
    refine V.region ?_
    refine O.p rfl rfl rfl (Pu.move rfl rfl) ?_
    refine O.p rfl rfl rfl (Pu.move rfl rfl) ?_
    refine O.p rfl rfl rfl (Pu.len rfl Try.underlying34 rfl) ?_
    refine O.p rfl rfl rfl (Pu.lss rfl rfl rfl) ?_
    refine O.nil ?_
    refine X.next ?_
    refine V.condD rfl (fun c2 => ?_) (fun c2 => ?_)
    · skip
      refine V.skip ?_
      refine X.next ?_
      refine V.seq ?_
      refine V.block ?_
      refine V.seq ?_
      have ek : k < p1.2.length := by omega
      have hs5 := hsml k ek
      refine V.region ?_
      refine O.p rfl rfl rfl (Pu.move rfl rfl) ?_
      refine O.p rfl rfl rfl (Pu.move rfl rfl) ?_
      refine O.p rfl rfl rfl (Pu.indexAddrS (k) rfl Try.underlying34 sz43 rfl rfl (by omega) (by omega) (fun w hw => Own.some hw (i := 1) (by exact rfl) (by omega))) ?_
      refine O.p rfl rfl rfl (Pu.load rfl pl43 rfl (Ld.row (Ld.own 1 (by exact rfl)) hn_p1 ek rfl)) ?_
      refine O.p rfl rfl rfl (Pu.move rfl rfl) ?_
      refine O.e rfl rfl rfl (Ef.callP call71 rfl rfl (fun w hw => l01Place_ok  ((p1.2[k]'ek).2) i _ _ w ((Ld.rows 2 (by exact rfl) ek) w hw) (by omega) )) ?_
      rintro _ _ ⟨rfl, rfl⟩
      refine O.p rfl rfl rfl (Pu.geq rfl rfl rfl) ?_
      refine O.nil ?_
      refine X.next ?_
      refine V.condD rfl (fun c3 => ?_) (fun c3 => ?_)
      · skip
        refine V.region ?_
        refine O.p rfl rfl rfl (Pu.move rfl rfl) ?_
        refine O.p rfl rfl rfl (Pu.move rfl rfl) ?_
        refine O.p rfl rfl rfl (Pu.move rfl rfl) ?_
        refine O.p rfl rfl rfl (Pu.indexAddrS (k) rfl Try.underlying34 sz43 rfl rfl (by omega) (by omega) (fun w hw => Own.some hw (i := 1) (by exact rfl) (by omega))) ?_
        refine O.p rfl rfl rfl (Pu.load rfl pl43 rfl (Ld.row (Ld.own 1 (by exact rfl)) hn_p1 ek rfl)) ?_
        refine O.e rfl rfl rfl (Ef.build SlC ([⟨(p1.2[k]'ek).1.A, (p1.2[k]'ek).2.length, (p1.2[k]'ek).1.c⟩] : List Sl) rfl Try.underlying34 inf43 rfl rfl rfl (by first | decide | (simp; done)) (by kernel_rfl)) ?_
        rintro _ _ ⟨A2, hA2, rfl, rfl⟩
        refine O.e rfl rfl rfl (Ef.append (xs := out) (ys := ([⟨(p1.2[k]'ek).1.A, (p1.2[k]'ek).2.length, (p1.2[k]'ek).1.c⟩] : List Sl)) 1 rfl Try.underlying34 inf43 rfl rfl rfl rfl rfl rfl hA2 (Ld.own 0 (by exact rfl)) (by simp only [List.length_append, List.length_cons, List.length_nil] at *; omega) (by decide)) ?_
        rintro _ _ ⟨A3, k1, rfl, rfl, hA3⟩
        replace hA3 := hA3 (.inr (by simp))
        refine O.p rfl rfl rfl (Pu.assign rfl rfl) ?_
        refine O.nil ?_
        refine X.blockNormal ?_
        refine X.next ?_
        refine V.region ?_
        refine O.p rfl rfl rfl (Pu.move rfl rfl) ?_
        refine O.p rfl rfl rfl (Pu.add64 (r := ((k + 1 : Nat) : Int)) rfl (by omega) rfl rfl rfl) ?_
        refine O.p rfl rfl rfl (Pu.assign rfl rfl) ?_
        refine O.nil ?_
        exact X.back3 (A3, k1, (out ++ ([⟨(p1.2[k]'ek).1.A, (p1.2[k]'ek).2.length, (p1.2[k]'ek).1.c⟩] : List Sl)), k + 1) (by (try dsimp only); exact ⟨by omega, by rw [ho]; exact topk_no hn_p1 ek (fun h => h (by obtain ⟨y, h1, h2⟩ := (idxP_nonneg (p := fun y => y = i)).1 c3; have e : y = i := h2; subst e; exact h1))⟩) (by first | omega | (dsimp only; omega)) (Ent.cons rfl (Ent.cons rfl (Ent.nil _))) (Ent.cons (t := 1) rfl (Ent.cons (t := 7) rfl (Ent.nil _))) (Sub.keep 1 rfl (Sub.keep 1 rfl (Sub.keep 1 rfl (Sub.keep 1 rfl (Sub.nil _)))))
      · skip
        refine V.skip ?_
        refine X.blockNormal ?_
        refine X.next ?_
        refine V.region ?_
        refine O.p rfl rfl rfl (Pu.move rfl rfl) ?_
        refine O.p rfl rfl rfl (Pu.add64 (r := ((k + 1 : Nat) : Int)) rfl (by omega) rfl rfl rfl) ?_
        refine O.p rfl rfl rfl (Pu.assign rfl rfl) ?_
        refine O.nil ?_
        exact X.back3 (outA, outc, out, k + 1) (by (try dsimp only); exact ⟨by omega, by rw [ho, keptL_yes ek (fun h => c3 ((idxP_nonneg (p := fun y => y = i)).2 ⟨i, h, rfl⟩))]⟩) (by first | omega | (dsimp only; omega)) (Ent.cons rfl (Ent.cons rfl (Ent.nil _))) (Ent.cons (t := 1) rfl (Ent.cons (t := 7) rfl (Ent.nil _))) (Sub.keep 0 rfl (Sub.keep 0 rfl (Sub.keep 0 rfl (Sub.keep 0 rfl (Sub.nil _)))))
    · skip
      refine V.exit ?_
      refine X.thenExit ?_
      refine X.thenExit ?_
      refine X.blockHit ?_
      refine X.next ?_
      refine V.seq ?_
      subst ho
      refine V.map (fun w hw => RowsA.sublist (qs := (keptL (fun x => ¬ i ∈ x.2) p1.2 k)) keptL_sub (hw.sub (Sub.keep 2 rfl (Sub.keep 0 rfl (Sub.keep 0 rfl (Sub.keep 0 rfl (Sub.nil _))))))) ?_
      refine V.region ?_
      refine O.p rfl rfl rfl (Pu.move rfl rfl) ?_
      refine O.p rfl rfl rfl (Pu.assign rfl rfl) ?_
      refine O.p rfl rfl rfl (Pu.assign rfl rfl) ?_
      refine O.nil ?_
      refine X.next ?_
      refine V.ret ?_
      refine X.ret2 rfl rfl rfl ?_
      exact fun w hw => St.mkExi outA (St.mkExi outc (St.mkExi (keptL (fun x => ¬ i ∈ x.2) p1.2 k) (St.mkExi (0 : Int) (St.unsep (St.addPur ⟨(by first | rfl | (simp only [tops_append]; done) | (simp only [tops_append]; rfl)), ⟨fun h => absurd hS h, fun _ h => absurd hi h, fun _ _ => ⟨by rw [keptL_end (by omega), conts_filter (fun q => i ∈ q)]; exact hp1_1.filter _, rfl⟩⟩, by omega⟩ (St.unsep (hw.sub (Sub.keep 1 rfl (Sub.keep 0 rfl (Sub.nil _))))))))))
end Go.Proofs.Ytjpfngmoabnffaa
