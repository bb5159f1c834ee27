/-
  Contracts, part 6.
-/
import Derived.Test.YtgjfcepnkllklaaGreatKb5
set_option linter.unusedVariables false
set_option linter.unusedSimpArgs false
namespace Go.Proofs.YtgjfcepnkllklaaGreat
open Go Go.RowKit Go.Vc Go.Proofs
set_option maxRecDepth 100000 in
set_option maxHeartbeats 1000000 in
theorem shared1_ok (list : List B3) (v : Int) (bA : Option Addr) (bc : Nat) (bs : List B3) (b0 b1 : Nat) (l : List (List B3)) (listA : Option Addr) (listc : Nat) (w0 : World) (H : List Assn) (hx : Rd B3C w0 bA bs) (hl : l.length ≤ 2000) (hxs : list.length ≤ 1000) (hbl : bs.length ≤ 12) : Does Tryz.prog 207 [.slice listA list.length listc, .pointer (some ⟨b1, 0, none⟩), .pointer (some ⟨b0, 0, none⟩)] w0 (Own 51 B3C listA listc list :: UE 76 112 26 v bA bc bs b0 b1 l :: H) (fun r => [.sep (.pur (r = .bool true)) (.sep (Own 51 B3C listA listc list) (UE 76 112 26 v bA bc bs b0 b1 (l ++ [list])))] ++ H) := by
  refine Does.enter Tryz.func207 rfl rfl [(0, .slice listA list.length listc), (1, .pointer (some ⟨b1, 0, none⟩)), (2, .pointer (some ⟨b0, 0, none⟩))] rfl ?_
  refine V.seq ?_
  refine V.region ?_
  refine O.p rfl rfl rfl (Pu.assign rfl rfl) ?_
  refine O.nil ?_
  refine X.next ?_
  refine V.seq ?_
  refine V.map (fun w hw => hw.sub (Sub.keep 1 rfl (Sub.keep 0 rfl (Sub.refl _)))) ?_
  refine V.ue (fun oA1 ok1 => ?_)
  have hpw : 2 ^ bs.length ≤ 2 ^ 12 := Nat.pow_le_pow_right (by decide) hbl
  have hpw0 := Nat.two_pow_pos bs.length
  have hol := othL_len (bs := bs) (l := l)
  refine V.region ?_
  refine O.p rfl rfl rfl (Pu.assign rfl rfl) ?_
  refine O.nil ?_
  refine X.next ?_
  refine V.seq ?_
  refine V.seq ?_
  refine V.region ?_
  refine O.p rfl rfl rfl (Pu.fieldAddr 1 rfl Tryz.underlying26 rfl sz24 rfl rfl) ?_
  refine O.p rfl rfl rfl (Pu.load rfl pl24 rfl (Ld.blk 1 rfl rfl)) ?_
  refine O.p rfl rfl rfl (Pu.len rfl Tryz.underlying24 rfl) ?_
  refine O.p rfl rfl rfl (Pu.move rfl rfl) ?_
  refine O.nil ?_
  refine X.next ?_
  refine V.block ?_
  refine V.loop3 (β := Nat × Nat) (fun x => [(5, .int .u64 (x.1 : Int)), (11, .int .i64 (x.2 : Int))]) _ (fun x => []) _ (fun x => x.2 ≤ bs.length ∧ x.1 = hasM bs list x.2) (fun x => bs.length - x.2) (0, 0) (by (try dsimp only); exact ⟨by omega, rfl⟩) (Ent.cons rfl (Ent.cons rfl (Ent.nil _))) (Ent.cons (t := 0) rfl (Ent.cons (t := 1) rfl (Ent.cons (t := 2) rfl (Ent.cons (t := 9) rfl (Ent.cons (t := 10) rfl (Ent.nil _)))))) (Sub.keep 0 rfl (Sub.keep 0 rfl (Sub.keep 0 rfl (Sub.keep 0 rfl (Sub.refl _))))) ?_
  rintro ⟨has_, i⟩ ⟨hi, hh⟩
  dsimp only at hi hh ⊢
  have hhl := hasM_lt (bs := bs) (U := list) i
  have hpi : 2 ^ i ≤ 2 ^ bs.length := Nat.pow_le_pow_right (by decide) hi
  rw [← hh] at hhl
  refine V.seq ?_
  refine V.region ?_
  refine O.p rfl rfl rfl (Pu.lss rfl rfl rfl) ?_
  refine O.nil ?_
  refine X.next ?_
  refine V.seq ?_
  refine V.condD rfl (fun c1 => ?_) (fun c1 => ?_)
  · skip
    refine V.skip ?_
    refine X.next ?_
    refine V.seq ?_
    refine V.block ?_
    refine V.seq ?_
    refine V.region ?_
    refine O.p rfl rfl rfl (Pu.move rfl rfl) ?_
    refine O.p rfl rfl rfl (Pu.indexAddr (i) rfl Tryz.underlying24 sz51 rfl rfl (by omega) (by omega) (hx.some (by omega))) ?_
    have e1 : i < bs.length := by omega
    refine O.p rfl rfl rfl (Pu.loadAgg' (v := B3.v (bs[i]'e1)) rfl rfl ag51 sz51 rfl rfl (Ld.rds (Ld.old hx) (k := i) e1 rfl)) ?_
    refine O.e rfl rfl rfl (Ef.alloc rfl zr51 rfl) ?_
    rintro _ _ ⟨b1, rfl, rfl⟩
    refine O.p rfl rfl rfl (Pu.assign rfl rfl) ?_
    refine O.s rfl rfl (Ef.storeAll 0 rfl sz51 rfl rfl rfl rfl (by simp [Value.oneCell']) rfl) ?_
    rintro _ _ rfl
    refine O.nil ?_
    refine X.next ?_
    refine V.seq ?_
    refine V.region ?_
    refine O.p rfl rfl rfl (Pu.move rfl rfl) ?_
    refine O.p rfl rfl rfl (Pu.loadAgg' (v := B3.v (bs[i]'e1)) rfl rfl ag51 sz51 rfl rfl (Ld.whole 0 rfl)) ?_
    refine O.e rfl rfl rfl (Ef.callP call208 rfl rfl (fun w hw => containsBl_ok  list (bs[i]'e1) _ _ w ((Ld.own 4 (by exact rfl)) w hw) (by first | omega | (simp only [tops_len, conts_len, bl, List.length_append, List.length_cons, List.length_nil] at *; omega)) )) ?_
    rintro _ _ ⟨rfl, rfl⟩
    refine O.nil ?_
    refine X.next ?_
    refine V.condD rfl (fun c2 => ?_) (fun c2 => ?_)
    · skip
      refine V.region ?_
      refine O.p rfl rfl rfl (Pu.move rfl rfl) ?_
      refine O.p rfl rfl rfl (Pu.move rfl rfl) ?_
      refine O.p rfl rfl rfl (Pu.shl1 (p := i) K64.u (by omega) rfl rfl rfl) ?_
      refine O.p rfl rfl rfl (Pu.or (m := has_) (n := (2 ^ i)) K64.u (by omega) (pow_lt62 (by omega)) rfl rfl rfl) ?_
      refine O.p rfl rfl rfl (Pu.assign rfl rfl) ?_
      refine O.nil ?_
      refine X.blockNormal ?_
      refine X.next ?_
      refine V.region ?_
      refine O.p rfl rfl rfl (Pu.add64 (r := ((i + 1 : Nat) : Int)) rfl (by omega) rfl rfl rfl) ?_
      refine O.p rfl rfl rfl (Pu.move rfl rfl) ?_
      refine O.nil ?_
      exact X.back3 ((has_ ||| (2 ^ i)), i + 1) (by (try dsimp only); exact ⟨by omega, by rw [hh]; exact (hasM_yes (by omega) c2).symm⟩) (by first | omega | (dsimp only; omega)) (Ent.cons rfl (Ent.cons rfl (Ent.nil _))) (Ent.cons (t := 0) rfl (Ent.cons (t := 1) rfl (Ent.cons (t := 2) rfl (Ent.cons (t := 9) rfl (Ent.cons (t := 10) rfl (Ent.nil _)))))) (Sub.keep 1 rfl (Sub.keep 1 rfl (Sub.keep 1 rfl (Sub.keep 1 rfl (Sub.drop (Sub.refl _))))))
    · skip
      refine V.skip ?_
      refine X.blockNormal ?_
      refine X.next ?_
      refine V.region ?_
      refine O.p rfl rfl rfl (Pu.add64 (r := ((i + 1 : Nat) : Int)) rfl (by omega) rfl rfl rfl) ?_
      refine O.p rfl rfl rfl (Pu.move rfl rfl) ?_
      refine O.nil ?_
      exact X.back3 (has_, i + 1) (by (try dsimp only); exact ⟨by omega, by rw [hh]; exact (hasM_no (by omega) c2).symm⟩) (by first | omega | (dsimp only; omega)) (Ent.cons rfl (Ent.cons rfl (Ent.nil _))) (Ent.cons (t := 0) rfl (Ent.cons (t := 1) rfl (Ent.cons (t := 2) rfl (Ent.cons (t := 9) rfl (Ent.cons (t := 10) rfl (Ent.nil _)))))) (Sub.keep 1 rfl (Sub.keep 1 rfl (Sub.keep 1 rfl (Sub.keep 1 rfl (Sub.drop (Sub.refl _))))))
  · skip
    refine V.exit ?_
    refine X.thenExit ?_
    refine X.thenExit ?_
    refine X.blockHit ?_
    refine X.next ?_
    refine V.seq ?_
    refine V.seq ?_
    refine V.region ?_
    refine O.p rfl rfl rfl (Pu.move rfl rfl) ?_
    refine O.p rfl rfl rfl (Pu.fieldAddr 1 rfl Tryz.underlying26 rfl sz24 rfl rfl) ?_
    refine O.p rfl rfl rfl (Pu.load rfl pl24 rfl (Ld.blk 1 rfl rfl)) ?_
    refine O.p rfl rfl rfl (Pu.len rfl Tryz.underlying24 rfl) ?_
    refine O.p rfl rfl rfl (Pu.shl1 (p := bs.length) K64.u (by omega) rfl rfl rfl) ?_
    refine O.p rfl rfl rfl (Pu.subN (m := (2 ^ bs.length)) (n := 1) (r := 2 ^ bs.length - 1) K64.u (by omega) (by omega) rfl rfl rfl) ?_
    refine O.p rfl rfl rfl (Pu.neq rfl rfl rfl) ?_
    refine O.nil ?_
    refine X.next ?_
    refine V.condNot rfl (fun c3 => ?_) (fun c3 => ?_)
    · skip
      refine V.region ?_
      refine O.p rfl rfl rfl (Pu.load rfl pl112 rfl (Ld.blk 0 rfl rfl)) ?_
      refine O.p rfl rfl rfl (Pu.move rfl rfl) ?_
      refine O.e rfl rfl rfl (Ef.build U64 ([has_] : List Nat) rfl Tryz.underlying112 inf76 rfl rfl rfl (by first | decide | (simp; done)) (by kernel_rfl)) ?_
      rintro _ _ ⟨A1, hA1, rfl, rfl⟩
      refine O.e rfl rfl rfl (Ef.append (xs := (othL bs l)) (ys := ([has_] : List Nat)) 3 rfl Tryz.underlying112 inf76 rfl rfl rfl rfl rfl rfl hA1 (Ld.own 0 (by exact rfl)) (by simp only [List.length_append, List.length_cons, List.length_nil] at *; omega) (by decide)) ?_
      rintro _ _ ⟨A2, k1, rfl, rfl, hA2⟩
      replace hA2 := hA2 (.inr (by simp))
      refine O.s rfl rfl (Ef.store1 (cs' := [_]) 1 rfl sz112 rfl rfl rfl rfl rfl (ltb rfl) rfl) ?_
      rintro _ _ rfl
      refine O.nil ?_
      refine X.next ?_
      refine V.seq ?_
      refine V.region ?_
      refine O.p rfl rfl rfl (Pu.assign rfl rfl) ?_
      refine O.nil ?_
      refine X.next ?_
      refine V.ret ?_
      have hh2 : hasM bs list bs.length = has_ := by rw [hh, show i = bs.length by omega]
      refine X.map (fun w hw => UE.mk (l := l ++ [list]) (hw.sub (Sub.cons 1 rfl (fun w F h => by rw [othL_yes (by rw [hh2]; omega)]; rw [hh2]; exact h) (Sub.keep 1 rfl (Sub.cons 1 rfl (fun w F h => by rw [othL_yes (by rw [hh2]; omega)]; rw [hh2]; exact h) (Sub.keep 0 rfl (Sub.keep 0 rfl (Sub.refl _)))))))) ?_
      refine X.ret1 rfl rfl ?_
      exact fun w hw => St.unsep (St.addPur rfl (St.unsep (hw.sub (Sub.keep 2 rfl (Sub.keep 0 rfl (Sub.drop (Sub.refl _)))))))
    · skip
      refine V.skip ?_
      refine X.next ?_
      refine V.seq ?_
      refine V.region ?_
      refine O.p rfl rfl rfl (Pu.assign rfl rfl) ?_
      refine O.nil ?_
      refine X.next ?_
      refine V.ret ?_
      have hh2 : hasM bs list bs.length = has_ := by rw [hh, show i = bs.length by omega]
      refine X.map (fun w hw => UE.mk (l := l ++ [list]) (hw.sub (Sub.cons 0 rfl (fun w F h => by rw [othL_no (by rw [hh2]; omega)];  exact h) (Sub.keep 0 rfl (Sub.cons 0 rfl (fun w F h => by rw [othL_no (by rw [hh2]; omega)];  exact h) (Sub.keep 0 rfl (Sub.refl _))))))) ?_
      refine X.ret1 rfl rfl ?_
      exact fun w hw => St.unsep (St.addPur rfl (St.unsep (hw.sub (Sub.keep 1 rfl (Sub.keep 0 rfl (Sub.refl _))))))
theorem shared1_call (v : Int) (bA : Option Addr) (bc : Nat) (bs : List B3) (b0 b1 : Nat) (w0 : World) (hx : Rd B3C w0 bA bs) (hbl : bs.length ≤ 12) : CallB Tryz.prog w0 51 207 #[.pointer (some ⟨b1, 0, none⟩), .pointer (some ⟨b0, 0, none⟩)] (UE 76 112 26 v bA bc bs b0 b1) (fun _ => true) (fun xs => xs.length ≤ 1000) 2000 :=
  fun l xs A k H hl hq => shared1_ok xs v bA bc bs b0 b1 l A k w0 H hx (by omega) hq hbl
set_option maxRecDepth 100000 in
set_option maxHeartbeats 1000000 in
theorem sharedN_ok (n : Nat) (v : Nat) (bs : List B3) (A : Option Addr) (c : Nat) (w : World) (hx : Rd B3C w A bs) (lx : bs.length ≤ 4611686018427387904) (hv : v ≤ 15) (hn : leftN v 0 ≤ n) (hM : (compM n v 0).length ≤ 1000) (hxs : n ≤ 1000) (hbl : bs.length ≤ 12) : Does Tryz.prog 127 [.agg #[.int .i64 (v : Int), .slice A bs.length c]] w [] (fun rv_ => [.exi fun (rA : Option Addr) => .exi fun (rc : Nat) => .exi fun (r : List Nat) => .sep (.pur (rv_ = .slice rA r.length rc ∧ r = othL bs (compM n v 0))) (Own 76 U64 rA rc r)]) := by
  refine Does.enter Tryz.func127 rfl rfl [(0, .agg #[.int .i64 (v : Int), .slice A bs.length c])] rfl ?_
  refine V.seq ?_
  refine V.region ?_
  refine O.e rfl rfl rfl (Ef.box rfl rfl rfl) ?_
  rintro _ _ ⟨b1, rfl, rfl⟩
  refine O.p rfl rfl rfl (Pu.assign rfl rfl) ?_
  refine O.nil ?_
  refine X.next ?_
  refine V.seq ?_
  refine V.region ?_
  refine O.e rfl rfl rfl (Ef.alloc rfl zr112 rfl) ?_
  rintro _ _ ⟨b2, rfl, rfl⟩
  refine O.nil ?_
  refine X.next ?_
  refine V.seq ?_
  refine V.region ?_
  refine O.p rfl rfl rfl (Pu.fieldAddr 0 rfl Tryz.underlying26 rfl sz2 rfl rfl) ?_
  refine O.p rfl rfl rfl (Pu.load rfl pl2 rfl (Ld.blk 1 rfl rfl)) ?_
  refine O.p rfl rfl rfl (Pu.buildS (cs := [.int .i64 (↑v : Int), .slice none 0 0]) rfl rfl Tryz.underlying26 zr26 (by kernel_rfl) rfl (by kernel_rfl)) ?_
  refine O.p rfl rfl rfl (Pu.makeFunc rfl rfl) ?_
  refine O.map (fun w hw => UE.mk (uT := 76) (lT := 112) (yT := 26) (v := (v : Int)) (A := A) (c := c) (bs := bs) (l := []) ((St.addNil (T := 76) (C := U64) hw).sub (Sub.keep 1 rfl (Sub.keep 1 rfl (Sub.keep 0 rfl (Sub.nil _)))))) ?_
  refine O.e rfl rfl rfl (Ef.call call200 rfl rfl (Does.pre (fun w hw => hw.sub (Sub.keep 0 rfl (Sub.nil _))) (complete_ok  v ([]) (207) (#[.pointer (some ⟨b1, 0, none⟩), .pointer (some ⟨b2, 0, none⟩)]) (UE 76 112 26 (v:Int) A c bs b2 b1) (fun _ => true) (fun xs => xs.length ≤ 1000) 2000 n 0 ([]) _ _ w _ (fun w hw => Rd.nil _ _ _) (by first | omega | (simp only [tops_len, conts_len, bl, List.length_append, List.length_cons, List.length_nil] at *; omega)) (by simp) fitsAt_nil hv rel_nil (call207) (shared1_call _ _ _ _ _ _ _ hx hbl) hn (by rw [runC_all goesC_true, leaf_len]; simp only [List.length_nil]; omega) (by decide) (fun q hq => Nat.le_trans (leaf_nil_len hq) hxs) (by simp only [List.length_nil]; omega)))) ?_
  rintro _ _ rfl
  refine O.sep ?_
  refine O.pur ?_
  rintro rfl
  refine O.nil ?_
  refine X.next ?_
  refine V.seq ?_
  refine V.ue (fun oA1 ok1 => ?_)
  refine V.region ?_
  refine O.p rfl rfl rfl (Pu.load rfl pl112 rfl (Ld.blk 0 rfl rfl)) ?_
  refine O.p rfl rfl rfl (Pu.assign rfl rfl) ?_
  refine O.nil ?_
  refine X.next ?_
  refine V.ret ?_
  refine X.ret1 rfl rfl ?_
  exact fun w hw => St.mkExi oA1 (St.mkExi ok1 (St.mkExi (othL bs (([]) ++ runC (fun _ => true) ([]).length (leaf ([]) (compM n v 0)))) (St.unsep (St.addPur ⟨(by rfl), by rw [runC_all goesC_true]; simp [leaf]⟩ (hw.sub (Sub.keep 2 rfl (Sub.nil _)))))))
theorem shared_ok (v : Int) (bs : List B3) (A : Option Addr) (c : Nat) (w : World) (hx : Rd B3C w A bs) (lx : bs.length ≤ 4611686018427387904) (h0 : 0 ≤ v) (hv : v.toNat ≤ 15) (hn : leftN v.toNat 0 ≤ 40) (hM : (compM 40 v.toNat 0).length ≤ 1000) (hbl : bs.length ≤ 12) : Does Tryz.prog 127 [.agg #[.int .i64 v, .slice A bs.length c]] w [] (fun rv_ => [.exi fun rA : Option Addr => .exi fun rc : Nat => .exi fun r : List Nat => .sep (.pur (rv_ = .slice rA r.length rc ∧ r = othL bs (compM 40 v.toNat 0))) (Own 76 U64 rA rc r)]) := by
  obtain ⟨k, rfl⟩ := Int.eq_ofNat_of_zero_le h0
  exact sharedN_ok 40 k bs A c w hx lx hv hn hM (by decide) hbl
set_option maxRecDepth 100000 in
set_option maxHeartbeats 1000000 in
theorem indexFuncU_ok (s : List Nat) (p : Nat → Prop) [DecidablePred p] (gf : Nat) (caps : Array Value) (sA : Option Addr) (sc : Nat) (w : World) (hs : Rd U64 w sA s) (ls : s.length ≤ 1099511627776) (hok : CallOk Tryz.prog gf) (hf : ∀ (k : Nat) (hk : k < s.length) w', Bel w.heap.size w w' → Does Tryz.prog gf ([.int .u64 (s[k] : Int)] ++ caps.toList) w' [] (fun v => [.pur (v = .bool (decide (p s[k])))])) : Does Tryz.prog 211 [.slice sA s.length sc, .func (.func gf) #[] caps] w [] (fun r => [.pur (r = .int .i64 (idxP p s))]) := by
  refine Does.enter Tryz.func211 rfl rfl [(0, .slice sA s.length sc), (1, .func (.func gf) #[] caps)] rfl ?_
  refine V.seq ?_
  refine V.region ?_
  refine O.p rfl rfl rfl (Pu.assign rfl rfl) ?_
  refine O.nil ?_
  refine X.next ?_
  refine V.seq ?_
  refine V.seq ?_
  refine V.region ?_
  refine O.p rfl rfl rfl (Pu.move rfl rfl) ?_
  refine O.p rfl rfl rfl (Pu.len rfl Tryz.underlying112 rfl) ?_
  refine O.p rfl rfl rfl (Pu.move rfl rfl) ?_
  refine O.nil ?_
  refine X.next ?_
  refine V.block ?_
  refine V.loop2 (β := Nat) (fun i => [(8, .int .i64 (i : Int))]) _ (fun i => []) (fun i => i ≤ s.length ∧ ∀ j (hj : j < s.length), j < i → ¬ p s[j]) (fun i => s.length - i) 0 ⟨by omega, fun j hj h => by omega⟩ (Ent.cons rfl (Ent.nil _)) (Ent.cons (t := 0) rfl (Ent.cons (t := 1) rfl (Ent.cons (t := 7) rfl (Ent.nil _)))) (Sub.nil _) ?_
  rintro i ⟨hi, hn⟩
  refine V.seq ?_
  refine V.region ?_
  refine O.p rfl rfl rfl (Pu.lss rfl rfl rfl) ?_
  refine O.nil ?_
  refine X.next ?_
  refine V.seq ?_
  refine V.condD rfl (fun c1 => ?_) (fun c1 => ?_)
  · skip
    refine V.skip ?_
    refine X.next ?_
    refine V.seq ?_
    refine V.block ?_
    refine V.seq ?_
    refine V.region ?_
    refine O.p rfl rfl rfl (Pu.move rfl rfl) ?_
    refine O.p rfl rfl rfl (Pu.assign rfl rfl) ?_
    refine O.nil ?_
    refine X.next ?_
    refine V.seq ?_
    refine V.region ?_
    refine O.p rfl rfl rfl (Pu.move rfl rfl) ?_
    refine O.p rfl rfl rfl (Pu.move rfl rfl) ?_
    refine O.p rfl rfl rfl (Pu.move rfl rfl) ?_
    refine O.p rfl rfl rfl (Pu.indexAddr (i) rfl Tryz.underlying112 sz76 rfl rfl (by omega) (by omega) (hs.some (by omega))) ?_
    have e1 : i < s.length := by omega
    refine O.p rfl rfl rfl (Pu.load rfl pl76 rfl (Ld.rd (Ld.old hs) (k := i) e1 rfl rfl)) ?_
    refine O.e rfl rfl rfl (Ef.callPV hok rfl rfl rfl (fun w' hw => hf i (by omega) w' hw.below)) ?_
    rintro _ _ ⟨rfl, rfl⟩
    refine O.nil ?_
    refine X.next ?_
    refine V.condD rfl (fun c2 => ?_) (fun c2 => ?_)
    · skip
      refine V.seq ?_
      refine V.region ?_
      refine O.p rfl rfl rfl (Pu.move rfl rfl) ?_
      refine O.p rfl rfl rfl (Pu.assign rfl rfl) ?_
      refine O.nil ?_
      refine X.next ?_
      refine V.ret ?_
      refine X.blockRet ?_
      refine X.thenRet ?_
      refine X.thenRet ?_
      refine X.blockRet ?_
      refine X.thenRet ?_
      refine X.ret1 rfl rfl ?_
      exact fun w hw => St.retP (iv ((idxP_found (by omega) c2 hn).symm)) hw
    · skip
      refine V.skip ?_
      refine X.blockNormal ?_
      refine X.next ?_
      refine V.region ?_
      refine O.p rfl rfl rfl (Pu.add64 (r := ((i + 1 : Nat) : Int)) rfl (by omega) rfl rfl rfl) ?_
      refine O.p rfl rfl rfl (Pu.move rfl rfl) ?_
      refine O.nil ?_
      exact X.back2 (i + 1) ⟨by omega, fun j hj h => by by_cases e : j = i; (· subst e; exact c2); (· exact hn j hj (by omega))⟩ (by first | omega | (dsimp only; omega)) (Ent.cons rfl (Ent.nil _)) (Ent.cons (t := 0) rfl (Ent.cons (t := 1) rfl (Ent.cons (t := 7) rfl (Ent.nil _)))) (Sub.nil _)
  · skip
    refine V.exit ?_
    refine X.thenExit ?_
    refine X.thenExit ?_
    refine X.blockHit ?_
    refine X.next ?_
    refine V.seq ?_
    refine V.region ?_
    refine O.p rfl rfl rfl (Pu.assign rfl rfl) ?_
    refine O.nil ?_
    refine X.next ?_
    refine V.ret ?_
    refine X.ret1 rfl rfl ?_
    exact fun w hw => St.retP (iv ((idxP_none (fun j hj => hn j hj (by omega))).symm)) hw
set_option maxRecDepth 100000 in
set_option maxHeartbeats 1000000 in
theorem containsFuncU_ok (s : List Nat) (p : Nat → Prop) [DecidablePred p] (gf : Nat) (caps : Array Value) (sA : Option Addr) (sc : Nat) (w : World) (hs : Rd U64 w sA s) (ls : s.length ≤ 1099511627776) (hok : CallOk Tryz.prog gf) (hf : ∀ (k : Nat) (hk : k < s.length) w', Bel w.heap.size w w' → Does Tryz.prog gf ([.int .u64 (s[k] : Int)] ++ caps.toList) w' [] (fun v => [.pur (v = .bool (decide (p s[k])))])) : Does Tryz.prog 129 [.slice sA s.length sc, .func (.func gf) #[] caps] w [] (fun r => [.pur (r = .bool (decide (∃ x ∈ s, p x)))]) := by
  refine Does.enter Tryz.func129 rfl rfl [(0, .slice sA s.length sc), (1, .func (.func gf) #[] caps)] rfl ?_
  refine V.seq ?_
  refine V.region ?_
  refine O.p rfl rfl rfl (Pu.assign rfl rfl) ?_
  refine O.nil ?_
  refine X.next ?_
  refine V.seq ?_
  refine V.region ?_
  refine O.p rfl rfl rfl (Pu.move rfl rfl) ?_
  refine O.p rfl rfl rfl (Pu.move rfl rfl) ?_
  refine O.e rfl rfl rfl (Ef.callP call211 rfl rfl (fun w hw => indexFuncU_ok  s p gf caps _ _ w ((Ld.old hs) w hw) (by first | omega | (simp only [tops_len, conts_len, bl, List.length_append, List.length_cons, List.length_nil] at *; omega)) hok (fun k hk w' hb => hf k hk w' (hw.grow hb).below))) ?_
  rintro _ _ ⟨rfl, rfl⟩
  refine O.p rfl rfl rfl (Pu.geq rfl rfl rfl) ?_
  refine O.p rfl rfl rfl (Pu.assign rfl rfl) ?_
  refine O.nil ?_
  refine X.next ?_
  refine V.ret ?_
  refine X.ret1 rfl rfl ?_
  exact fun w hw => St.retP (boolD (idxP_nonneg)) hw
set_option maxRecDepth 100000 in
set_option maxHeartbeats 1000000 in
theorem leastFixing1_ok (hs : Nat) (part : Nat) (b_0 : Nat) (w : World) (hb_0 : RdB w b_0 [.int .u64 (part : Int)]) (h1 : part < 32768) (h2 : hs < 32768) : Does Tryz.prog 130 [.int .u64 (hs : Int), .pointer (some ⟨b_0, 0, none⟩)] w [] (fun r => [.pur (r = .bool (decide (andNot part hs = 0)))]) := by
  refine Does.enter Tryz.func130 rfl rfl [(0, .int .u64 (hs : Int)), (1, .pointer (some ⟨b_0, 0, none⟩))] rfl ?_
  refine V.seq ?_
  refine V.region ?_
  refine O.p rfl rfl rfl (Pu.assign rfl rfl) ?_
  refine O.nil ?_
  refine X.next ?_
  refine V.seq ?_
  refine V.region ?_
  refine O.p rfl rfl rfl (Pu.load rfl pl76 rfl (Ld.rdb hb_0 rfl)) ?_
  refine O.p rfl rfl rfl (Pu.move rfl rfl) ?_
  refine O.p rfl rfl rfl (Pu.andNot (m := part) (n := hs) K64.u (by omega) (by omega) rfl rfl rfl) ?_
  refine O.p rfl rfl rfl (Pu.eql rfl rfl rfl) ?_
  refine O.p rfl rfl rfl (Pu.assign rfl rfl) ?_
  refine O.nil ?_
  refine X.next ?_
  refine V.ret ?_
  refine X.ret1 rfl rfl ?_
  exact fun w hw => St.retP (boolD (by omega)) hw
set_option maxRecDepth 100000 in
set_option maxHeartbeats 1000000 in
theorem implLeastFixing_ok (v : Int) (bs : List B3) (A : Option Addr) (c : Nat) (w : World) (hx : Rd B3C w A bs) (lx : bs.length ≤ 4611686018427387904) : Does Tryz.prog 46 [.agg #[.int .i64 v, .slice A bs.length c]] w [] (fun r => [.exi fun (oA : Option Addr) => .exi fun (oc : Nat) => .exi fun (o : List Int) => .sep (.pur (r = .tuple #[.slice oA o.length oc, .int .i64 (if ¬ STS v bs then 1 else if ¬ 6 * (bs.length : Int) = v * (v - 1) then 5 else if 9 < v then 3 else 0)] ∧ LFR v bs o)) (Own 2 I64 oA oc o)]) := by
  refine Does.enter Tryz.func46 rfl rfl [(0, .agg #[.int .i64 v, .slice A bs.length c])] rfl ?_
  refine V.seq ?_
  refine V.region ?_
  refine O.e rfl rfl rfl (Ef.box rfl rfl rfl) ?_
  rintro _ _ ⟨b1, rfl, rfl⟩
  refine O.p rfl rfl rfl (Pu.assign rfl rfl) ?_
  refine O.p rfl rfl rfl (Pu.assign rfl rfl) ?_
  refine O.nil ?_
  refine X.next ?_
  refine V.seq ?_
  refine V.block ?_
  refine V.seq ?_
  refine V.region ?_
  refine O.p rfl rfl rfl (Pu.loadAgg rfl ag26 sz26 rfl rfl (Ld.whole 0 rfl)) ?_
  refine O.e rfl rfl rfl (Ef.callP call77 rfl rfl (fun w hw => IsSystem_ok _ bs _ _ w ((Ld.old hx) w hw) (by omega))) ?_
  rintro _ _ ⟨rfl, rfl⟩
  refine O.p rfl rfl rfl (Pu.not rfl rfl) ?_
  refine O.p rfl rfl rfl (Pu.assign rfl rfl) ?_
  refine O.nil ?_
  refine X.next ?_
  refine V.condNot rfl (fun c1 => ?_) (fun c1 => ?_)
  · skip
    refine V.seq ?_
    refine V.region ?_
    refine O.p rfl rfl rfl (Pu.assign rfl rfl) ?_
    refine O.p rfl rfl rfl (Pu.assign rfl rfl) ?_
    refine O.nil ?_
    refine X.next ?_
    refine V.ret ?_
    refine X.blockRet ?_
    refine X.thenRet ?_
    refine X.ret2 rfl rfl rfl ?_
    exact fun w hw => St.mkExi none (St.mkExi 0 (St.mkExi [] (St.unsep (St.addPur ⟨(by rw [if_pos c1]; rfl), (by unfold LFR; rw [if_neg (fun h => c1 h.1)])⟩ (St.addNil (T := 2) (C := I64) (hw.sub (Sub.nil _)))))))
  · skip
    have hS := c1
    have hmul := sts_mul c1
    have hlo := c1.lo
    have hhi := c1.hi
    have hfw := c1.few
    refine V.seq ?_
    refine V.region ?_
    refine O.p rfl rfl rfl (Pu.loadAgg rfl ag26 sz26 rfl rfl (Ld.whole 0 rfl)) ?_
    refine O.e rfl rfl rfl (Ef.callP call116 rfl rfl (fun w hw => isFullI_ok  v bs _ _ w ((Ld.old hx) w hw) (by first | omega | (simp only [tops_len, conts_len, bl, List.length_append, List.length_cons, List.length_nil] at *; omega)) (by first | assumption | omega | (try dsimp only at *; omega)) (by first | assumption | omega | (try dsimp only at *; omega)) (by first | assumption | omega | (try dsimp only at *; omega)))) ?_
    rintro _ _ ⟨rfl, rfl⟩
    refine O.p rfl rfl rfl (Pu.not rfl rfl) ?_
    refine O.p rfl rfl rfl (Pu.assign rfl rfl) ?_
    refine O.nil ?_
    refine X.next ?_
    refine V.condNot rfl (fun c2 => ?_) (fun c2 => ?_)
    · skip
      refine V.seq ?_
      refine V.region ?_
      refine O.p rfl rfl rfl (Pu.assign rfl rfl) ?_
      refine O.p rfl rfl rfl (Pu.assign rfl rfl) ?_
      refine O.nil ?_
      refine X.next ?_
      refine V.ret ?_
      refine X.blockRet ?_
      refine X.thenRet ?_
      refine X.ret2 rfl rfl rfl ?_
      exact fun w hw => St.mkExi none (St.mkExi 0 (St.mkExi [] (St.unsep (St.addPur ⟨(by rw [if_neg (not_not_intro hS), if_pos c2]; rfl), (by unfold LFR; rw [if_neg (fun h => c2 h.2.1)])⟩ (St.addNil (T := 2) (C := I64) (hw.sub (Sub.nil _)))))))
    · skip
      refine V.seq ?_
      refine V.region ?_
      refine O.p rfl rfl rfl (Pu.fieldAddr 0 rfl Tryz.underlying26 rfl sz2 rfl rfl) ?_
      refine O.p rfl rfl rfl (Pu.load rfl pl2 rfl (Ld.blk 0 rfl rfl)) ?_
      refine O.p rfl rfl rfl (Pu.gtr rfl rfl rfl) ?_
      refine O.p rfl rfl rfl (Pu.assign rfl rfl) ?_
      refine O.nil ?_
      refine X.next ?_
      refine V.condD rfl (fun c3 => ?_) (fun c3 => ?_)
      · skip
        refine V.seq ?_
        refine V.region ?_
        refine O.p rfl rfl rfl (Pu.assign rfl rfl) ?_
        refine O.p rfl rfl rfl (Pu.assign rfl rfl) ?_
        refine O.nil ?_
        refine X.next ?_
        refine V.ret ?_
        refine X.blockRet ?_
        refine X.thenRet ?_
        refine X.ret2 rfl rfl rfl ?_
        exact fun w hw => St.mkExi none (St.mkExi 0 (St.mkExi [] (St.unsep (St.addPur ⟨(by rw [if_neg (not_not_intro hS), if_neg (not_not_intro c2), if_pos c3]; rfl), (by unfold LFR; rw [if_neg (fun h => h.2.2 c3)])⟩ (St.addNil (T := 2) (C := I64) (hw.sub (Sub.nil _)))))))
      · skip
        have hF := few_of hS c2 c3
        have hfl := few_len hF.1
        have h12 := few_small hF
        have hlt := sts_lt hS
        have hall := all_len hF
        have hpw : 2 ^ bs.length ≤ 2 ^ 12 := Nat.pow_le_pow_right (by decide) h12
        have hpw0 := Nat.two_pow_pos bs.length
        refine V.skip ?_
        refine X.blockNormal ?_
        refine X.next ?_
        refine V.seq ?_
        refine V.region ?_
        refine O.p rfl rfl rfl (Pu.loadAgg rfl ag26 sz26 rfl rfl (Ld.whole 0 rfl)) ?_
        refine O.e rfl rfl rfl (Ef.call1 call127 rfl rfl (fun w hw => shared_ok  v bs _ _ w ((Ld.old hx) w hw) (by first | omega | (simp only [tops_len, conts_len, bl, List.length_append, List.length_cons, List.length_nil] at *; omega)) hfl.2.2.2 hfl.2.2.1 hfl.2.1 hfl.1 h12)) ?_
        rintro _ _ rfl
        refine O.exi (fun r1A => ?_)
        refine O.exi (fun r1c => ?_)
        refine O.exi (fun r1 => ?_)
        refine O.sep ?_
        refine O.pur ?_
        rintro ⟨rfl, hr1_1⟩
        have hrl : r1.length ≤ 1000 := by rw [hr1_1]; exact Nat.le_trans othL_len hfl.1
        have hrx : ∀ x ∈ r1, x < 2 ^ bs.length := by rw [hr1_1]; exact othL_lt
        refine O.p rfl rfl rfl (Pu.assign rfl rfl) ?_
        refine O.nil ?_
        refine X.next ?_
        refine V.seq ?_
        refine V.region ?_
        refine O.p rfl rfl rfl (Pu.assign rfl rfl) ?_
        refine O.nil ?_
        refine X.next ?_
        refine V.seq ?_
        refine V.region ?_
        refine O.p rfl rfl rfl (Pu.assign rfl rfl) ?_
        refine O.nil ?_
        refine X.next ?_
        refine V.seq ?_
        refine V.seq ?_
        refine V.region ?_
        refine O.e rfl rfl rfl (Ef.alloc rfl zr76 rfl) ?_
        rintro _ _ ⟨b2, rfl, rfl⟩
        refine O.s rfl rfl (Ef.store1 (cs' := [_]) 0 rfl sz76 rfl rfl rfl rfl rfl (ltb rfl) rfl) ?_
        rintro _ _ rfl
        refine O.nil ?_
        refine X.next ?_
        refine V.block ?_
        refine V.map (fun w hw => St.addNil (T := 2) (C := I64) hw) ?_
        refine V.loop3 (β := (Option Addr) × Nat × (List Int) × Bool × Nat × Nat) (fun x => [(5, .slice x.1 x.2.2.1.length x.2.1), (6, .bool x.2.2.2.1), (7, .pointer (some ⟨x.2.2.2.2.1, 0, none⟩))]) _ (fun x => [Own 2 I64 x.1 x.2.1 x.2.2.1, Blk x.2.2.2.2.1 [.int .u64 (x.2.2.2.2.2 : Int)] 76]) _ (fun x => x.2.2.2.2.2 ≤ 2 ^ bs.length ∧ BestF bs (allN v) x.2.2.2.2.2 x.2.2.2.1 x.2.2.1 ∧ x.2.2.1.length ≤ 15) (fun x => 2 ^ bs.length - x.2.2.2.2.2) (none, 0, [], false, b2, 0) (by (try dsimp only); exact ⟨by omega, bestF_start, by simp⟩) (Ent.cons rfl (Ent.cons rfl (Ent.cons rfl (Ent.nil _)))) (Ent.cons (t := 1) rfl (Ent.cons (t := 4) rfl (Ent.nil _))) (Sub.keep 0 rfl (Sub.keep 0 rfl (Sub.keep 0 rfl (Sub.keep 0 rfl (Sub.nil _))))) ?_
        rintro ⟨bestA, bestc, best, found, partb, part⟩ ⟨hs, hI, hlen⟩
        dsimp only at hs hI hlen ⊢
        have hol := ones_le part
        refine V.seq ?_
        refine V.seq ?_
        refine V.draw mo (by kernel_rfl) (fun hwf => ?_)
        refine D.p 0 rfl rfl rfl rfl rfl rfl (Pu.load rfl pl76 rfl (Ld.blk 1 rfl rfl)) ?_
        refine D.p 1 rfl rfl rfl rfl rfl rfl (Pu.fieldAddr 1 rfl Tryz.underlying26 rfl sz24 rfl rfl) ?_
        refine D.p 2 rfl rfl rfl rfl rfl rfl (Pu.load rfl pl24 rfl (Ld.blk 3 rfl rfl)) ?_
        refine D.p 3 rfl rfl rfl rfl rfl rfl (Pu.len rfl Tryz.underlying24 rfl) ?_
        refine D.p 4 rfl rfl rfl rfl rfl rfl (Pu.shl1 (p := bs.length) K64.u (by omega) rfl rfl rfl) ?_
        refine D.p 5 rfl rfl rfl rfl rfl rfl (Pu.lss rfl rfl rfl) ?_
        refine D.done hwf rfl ?_
        refine X.next ?_
        refine V.condD rfl (fun c4 => ?_) (fun c4 => ?_)
        · skip
          have hfx : (∃ x ∈ r1, andNot part x = 0) ↔ ¬ FixP bs (allN v) part := by rw [hr1_1]; exact fix_test (by omega) h12 hlt hall
          refine V.skip ?_
          refine X.next ?_
          refine V.seq ?_
          refine V.block ?_
          refine V.seq ?_
          refine V.region ?_
          refine O.p rfl rfl rfl (Pu.load rfl pl76 rfl (Ld.blk 1 rfl rfl)) ?_
          refine O.e rfl rfl rfl (Ef.callP call128 rfl rfl (fun w hw => onesCount_ok part w (by omega))) ?_
          rintro _ _ ⟨rfl, rfl⟩
          refine O.p rfl rfl rfl (Pu.assign rfl rfl) ?_
          refine O.nil ?_
          refine X.next ?_
          refine V.seq ?_
          refine V.seq ?_
          refine V.region ?_
          refine O.p rfl rfl rfl (Pu.move rfl rfl) ?_
          refine O.p rfl rfl rfl (Pu.move rfl rfl) ?_
          refine O.splitB 35 rfl (fun c5 => ?_) (fun c5 => ?_)
          · skip
            subst c5
            refine O.gp rfl rfl rfl rfl rfl (Pu.move rfl rfl) ?_
            refine O.gp rfl rfl rfl rfl rfl (Pu.move rfl rfl) ?_
            refine O.gp rfl rfl rfl rfl rfl (Pu.len rfl Tryz.underlying34 rfl) ?_
            refine O.gp rfl rfl rfl rfl rfl (Pu.gtr rfl rfl rfl) ?_
            refine O.p rfl rfl rfl (Pu.pickT rfl rfl rfl) ?_
            refine O.p rfl rfl rfl (Pu.move rfl rfl) ?_
            refine O.splitD 41 rfl (fun c6 => ?_) (fun c6 => ?_)
            · skip
              refine O.gs rfl rfl rfl rfl rfl rfl ?_
              refine O.gs rfl rfl rfl rfl rfl rfl ?_
              refine O.gs rfl rfl rfl rfl rfl rfl ?_
              refine O.p rfl rfl rfl (Pu.pickT rfl rfl rfl) ?_
              refine O.nil ?_
              refine X.next ?_
              refine V.condT rfl ?_
              refine V.exit ?_
              refine X.thenExit ?_
              refine X.blockHit ?_
              refine X.next ?_
              refine V.seq ?_
              refine V.seq ?_
              refine V.region ?_
              refine O.p rfl rfl rfl (Pu.load rfl pl76 rfl (Ld.blk 1 rfl rfl)) ?_
              refine O.nil ?_
              refine X.next ?_
              refine V.region ?_
              refine O.e rfl rfl rfl (Ef.alloc rfl zr76 rfl) ?_
              rintro _ _ ⟨b3, rfl, rfl⟩
              refine O.s rfl rfl (Ef.store1 (cs' := [_]) 0 rfl sz76 rfl rfl rfl rfl rfl (ltb rfl) rfl) ?_
              rintro _ _ rfl
              refine O.nil ?_
              refine X.next ?_
              refine V.region ?_
              refine O.p rfl rfl rfl (Pu.load rfl pl76 rfl (Ld.blk 0 rfl rfl)) ?_
              refine O.p rfl rfl rfl (Pu.addN (m := part) (n := 1) K64.u (by omega) rfl rfl rfl) ?_
              refine O.s rfl rfl (Ef.store1 (cs' := [_]) 0 rfl sz76 rfl rfl rfl rfl rfl (ltb rfl) rfl) ?_
              rintro _ _ rfl
              refine O.nil ?_
              exact X.back3 (bestA, bestc, best, true, b3, (part + 1)) (by (try dsimp only); exact ⟨by omega, bestF_less hI rfl (by omega), hlen⟩) (by first | omega | (dsimp only; omega)) (Ent.cons rfl (Ent.cons rfl (Ent.cons rfl (Ent.nil _)))) (Ent.cons (t := 1) rfl (Ent.cons (t := 4) rfl (Ent.nil _))) (Sub.keep 1 rfl (Sub.keep 0 rfl (Sub.keep 1 rfl (Sub.keep 1 rfl (Sub.nil _)))))
            · skip
              refine O.gp rfl rfl rfl rfl rfl (Pu.move rfl rfl) ?_
              refine O.gp rfl rfl rfl rfl rfl (Pu.makeFunc rfl rfl) ?_
              refine O.ge rfl rfl rfl rfl rfl (Ef.callP call129 rfl rfl (fun w hw => containsFuncU_ok  r1 (fun x => andNot part x = 0) (130) _ _ _ w ((Ld.own 2 (by exact rfl)) w hw) (by first | omega | (simp only [tops_len, conts_len, bl, List.length_append, List.length_cons, List.length_nil] at *; omega)) (call130) (fun k hk w' hb => leastFixing1_ok _ part _ w' ((Blk.rdb hw (i := 1) rfl).below hb) (by omega) (by have := hrx _ (List.getElem_mem hk); omega)))) ?_
              rintro _ _ ⟨rfl, rfl⟩
              refine O.p rfl rfl rfl (Pu.pickF rfl rfl rfl) ?_
              refine O.nil ?_
              refine X.next ?_
              refine V.condD rfl (fun c7 => ?_) (fun c7 => ?_)
              · skip
                refine V.exit ?_
                refine X.thenExit ?_
                refine X.blockHit ?_
                refine X.next ?_
                refine V.seq ?_
                refine V.seq ?_
                refine V.region ?_
                refine O.p rfl rfl rfl (Pu.load rfl pl76 rfl (Ld.blk 1 rfl rfl)) ?_
                refine O.nil ?_
                refine X.next ?_
                refine V.region ?_
                refine O.e rfl rfl rfl (Ef.alloc rfl zr76 rfl) ?_
                rintro _ _ ⟨b4, rfl, rfl⟩
                refine O.s rfl rfl (Ef.store1 (cs' := [_]) 0 rfl sz76 rfl rfl rfl rfl rfl (ltb rfl) rfl) ?_
                rintro _ _ rfl
                refine O.nil ?_
                refine X.next ?_
                refine V.region ?_
                refine O.p rfl rfl rfl (Pu.load rfl pl76 rfl (Ld.blk 0 rfl rfl)) ?_
                refine O.p rfl rfl rfl (Pu.addN (m := part) (n := 1) K64.u (by omega) rfl rfl rfl) ?_
                refine O.s rfl rfl (Ef.store1 (cs' := [_]) 0 rfl sz76 rfl rfl rfl rfl rfl (ltb rfl) rfl) ?_
                rintro _ _ rfl
                refine O.nil ?_
                exact X.back3 (bestA, bestc, best, true, b4, (part + 1)) (by (try dsimp only); exact ⟨by omega, bestF_not hI (hfx.1 c7), hlen⟩) (by first | omega | (dsimp only; omega)) (Ent.cons rfl (Ent.cons rfl (Ent.cons rfl (Ent.nil _)))) (Ent.cons (t := 1) rfl (Ent.cons (t := 4) rfl (Ent.nil _))) (Sub.keep 1 rfl (Sub.keep 0 rfl (Sub.keep 1 rfl (Sub.keep 1 rfl (Sub.nil _)))))
              · skip
                refine V.skip ?_
                refine X.next ?_
                refine V.seq ?_
                refine V.region ?_
                refine O.p rfl rfl rfl (Pu.load rfl pl76 rfl (Ld.blk 1 rfl rfl)) ?_
                refine O.e rfl rfl rfl (Ef.call1 call99 rfl rfl (fun w hw => list_ok part w (by omega))) ?_
                rintro _ _ rfl
                refine O.exi (fun p1 => ?_)
                refine O.sep ?_
                refine O.pur ?_
                rintro ⟨rfl, hp1⟩
                have hl_p1 : p1.2.length ≤ 15 := by rw [hp1]; exact pts_len part
                refine O.p rfl rfl rfl (Pu.assign rfl rfl) ?_
                refine O.nil ?_
                refine X.next ?_
                refine V.seq ?_
                refine V.region ?_
                refine O.p rfl rfl rfl (Pu.move rfl rfl) ?_
                refine O.p rfl rfl rfl (Pu.notT rfl rfl) ?_
                refine O.p rfl rfl rfl (Pu.move rfl rfl) ?_
                refine O.gp rfl rfl rfl rfl rfl (Pu.move rfl rfl) ?_
                refine O.gp rfl rfl rfl rfl rfl (Pu.move rfl rfl) ?_
                refine O.gp rfl rfl rfl rfl rfl (Pu.len rfl Tryz.underlying34 rfl) ?_
                refine O.gp rfl rfl rfl rfl rfl (Pu.lss rfl rfl rfl) ?_
                refine O.p rfl rfl rfl (Pu.pickF rfl rfl rfl) ?_
                refine O.p rfl rfl rfl (Pu.move rfl rfl) ?_
                refine O.splitD 56 rfl (fun c8 => ?_) (fun c8 => ?_)
                · skip
                  refine O.gs rfl rfl rfl rfl rfl rfl ?_
                  refine O.gs rfl rfl rfl rfl rfl rfl ?_
                  refine O.gs rfl rfl rfl rfl rfl rfl ?_
                  refine O.gs rfl rfl rfl rfl rfl rfl ?_
                  refine O.p rfl rfl rfl (Pu.pickT rfl rfl rfl) ?_
                  refine O.nil ?_
                  refine X.next ?_
                  refine V.condT rfl ?_
                  refine V.region ?_
                  refine O.p rfl rfl rfl (Pu.move rfl rfl) ?_
                  refine O.p rfl rfl rfl (Pu.assign rfl rfl) ?_
                  refine O.p rfl rfl rfl (Pu.assign rfl rfl) ?_
                  refine O.nil ?_
                  refine X.blockNormal ?_
                  refine X.next ?_
                  refine V.seq ?_
                  refine V.seq ?_
                  refine V.region ?_
                  refine O.p rfl rfl rfl (Pu.load rfl pl76 rfl (Ld.blk 2 rfl rfl)) ?_
                  refine O.nil ?_
                  refine X.next ?_
                  refine V.region ?_
                  refine O.e rfl rfl rfl (Ef.alloc rfl zr76 rfl) ?_
                  rintro _ _ ⟨b5, rfl, rfl⟩
                  refine O.s rfl rfl (Ef.store1 (cs' := [_]) 0 rfl sz76 rfl rfl rfl rfl rfl (ltb rfl) rfl) ?_
                  rintro _ _ rfl
                  refine O.nil ?_
                  refine X.next ?_
                  refine V.region ?_
                  refine O.p rfl rfl rfl (Pu.load rfl pl76 rfl (Ld.blk 0 rfl rfl)) ?_
                  refine O.p rfl rfl rfl (Pu.addN (m := part) (n := 1) K64.u (by omega) rfl rfl rfl) ?_
                  refine O.s rfl rfl (Ef.store1 (cs' := [_]) 0 rfl sz76 rfl rfl rfl rfl rfl (ltb rfl) rfl) ?_
                  rintro _ _ rfl
                  refine O.nil ?_
                  exact X.back3 (p1.1.1, p1.1.2, p1.2, true, b5, (part + 1)) (by (try dsimp only); exact ⟨by omega, by rw [hp1]; exact bestF_new (by omega) hI (Classical.not_not.1 (fun h => c7 (hfx.2 h))) (.inr (.inl (by omega))), by rw [hp1]; exact pts_len part⟩) (by first | omega | (dsimp only; omega)) (Ent.cons rfl (Ent.cons rfl (Ent.cons rfl (Ent.nil _)))) (Ent.cons (t := 1) rfl (Ent.cons (t := 4) rfl (Ent.nil _))) (Sub.keep 1 rfl (Sub.keep 0 rfl (Sub.keep 2 rfl (Sub.keep 2 rfl (Sub.nil _)))))
                · skip
                  refine O.gp rfl rfl rfl rfl rfl (Pu.move rfl rfl) ?_
                  refine O.gp rfl rfl rfl rfl rfl (Pu.move rfl rfl) ?_
                  refine O.ge rfl rfl rfl rfl rfl (Ef.callP call110 rfl rfl (fun w hw => slicesCompare_ok p1.2 best _ _ _ _ w ((Ld.own 0 (by exact rfl)) w hw) ((Ld.own 1 (by exact rfl)) w hw) (by first | omega | (simp [bl]; done)) (by first | omega | (simp [bl]; done)))) ?_
                  rintro _ _ ⟨rfl, rfl⟩
                  refine O.gp rfl rfl rfl rfl rfl (Pu.lss rfl rfl rfl) ?_
                  refine O.p rfl rfl rfl (Pu.pickF rfl rfl rfl) ?_
                  refine O.nil ?_
                  refine X.next ?_
                  refine V.condD rfl (fun c9 => ?_) (fun c9 => ?_)
                  · skip
                    refine V.region ?_
                    refine O.p rfl rfl rfl (Pu.move rfl rfl) ?_
                    refine O.p rfl rfl rfl (Pu.assign rfl rfl) ?_
                    refine O.p rfl rfl rfl (Pu.assign rfl rfl) ?_
                    refine O.nil ?_
                    refine X.blockNormal ?_
                    refine X.next ?_
                    refine V.seq ?_
                    refine V.seq ?_
                    refine V.region ?_
                    refine O.p rfl rfl rfl (Pu.load rfl pl76 rfl (Ld.blk 2 rfl rfl)) ?_
                    refine O.nil ?_
                    refine X.next ?_
                    refine V.region ?_
                    refine O.e rfl rfl rfl (Ef.alloc rfl zr76 rfl) ?_
                    rintro _ _ ⟨b6, rfl, rfl⟩
                    refine O.s rfl rfl (Ef.store1 (cs' := [_]) 0 rfl sz76 rfl rfl rfl rfl rfl (ltb rfl) rfl) ?_
                    rintro _ _ rfl
                    refine O.nil ?_
                    refine X.next ?_
                    refine V.region ?_
                    refine O.p rfl rfl rfl (Pu.load rfl pl76 rfl (Ld.blk 0 rfl rfl)) ?_
                    refine O.p rfl rfl rfl (Pu.addN (m := part) (n := 1) K64.u (by omega) rfl rfl rfl) ?_
                    refine O.s rfl rfl (Ef.store1 (cs' := [_]) 0 rfl sz76 rfl rfl rfl rfl rfl (ltb rfl) rfl) ?_
                    rintro _ _ rfl
                    refine O.nil ?_
                    exact X.back3 (p1.1.1, p1.1.2, p1.2, true, b6, (part + 1)) (by (try dsimp only); exact ⟨by omega, by rw [hp1]; exact bestF_new (by omega) hI (Classical.not_not.1 (fun h => c7 (hfx.2 h))) (.inr (.inr ⟨by omega, by rw [← hp1]; exact c9⟩)), by rw [hp1]; exact pts_len part⟩) (by first | omega | (dsimp only; omega)) (Ent.cons rfl (Ent.cons rfl (Ent.cons rfl (Ent.nil _)))) (Ent.cons (t := 1) rfl (Ent.cons (t := 4) rfl (Ent.nil _))) (Sub.keep 1 rfl (Sub.keep 0 rfl (Sub.keep 2 rfl (Sub.keep 2 rfl (Sub.nil _)))))
                  · skip
                    refine V.skip ?_
                    refine X.blockNormal ?_
                    refine X.next ?_
                    refine V.seq ?_
                    refine V.seq ?_
                    refine V.region ?_
                    refine O.p rfl rfl rfl (Pu.load rfl pl76 rfl (Ld.blk 2 rfl rfl)) ?_
                    refine O.nil ?_
                    refine X.next ?_
                    refine V.region ?_
                    refine O.e rfl rfl rfl (Ef.alloc rfl zr76 rfl) ?_
                    rintro _ _ ⟨b7, rfl, rfl⟩
                    refine O.s rfl rfl (Ef.store1 (cs' := [_]) 0 rfl sz76 rfl rfl rfl rfl rfl (ltb rfl) rfl) ?_
                    rintro _ _ rfl
                    refine O.nil ?_
                    refine X.next ?_
                    refine V.region ?_
                    refine O.p rfl rfl rfl (Pu.load rfl pl76 rfl (Ld.blk 0 rfl rfl)) ?_
                    refine O.p rfl rfl rfl (Pu.addN (m := part) (n := 1) K64.u (by omega) rfl rfl rfl) ?_
                    refine O.s rfl rfl (Ef.store1 (cs' := [_]) 0 rfl sz76 rfl rfl rfl rfl rfl (ltb rfl) rfl) ?_
                    rintro _ _ rfl
                    refine O.nil ?_
                    exact X.back3 (bestA, bestc, best, true, b7, (part + 1)) (by (try dsimp only); exact ⟨by omega, bestF_keep hI rfl (by omega) (by omega) (by rw [← hp1]; exact c9), hlen⟩) (by first | omega | (dsimp only; omega)) (Ent.cons rfl (Ent.cons rfl (Ent.cons rfl (Ent.nil _)))) (Ent.cons (t := 1) rfl (Ent.cons (t := 4) rfl (Ent.nil _))) (Sub.keep 2 rfl (Sub.keep 0 rfl (Sub.keep 2 rfl (Sub.keep 2 rfl (Sub.nil _)))))
          · skip
            subst c5
            refine O.gs rfl rfl rfl rfl rfl rfl ?_
            refine O.gs rfl rfl rfl rfl rfl rfl ?_
            refine O.gs rfl rfl rfl rfl rfl rfl ?_
            refine O.gs rfl rfl rfl rfl rfl rfl ?_
            refine O.p rfl rfl rfl (Pu.pickF rfl rfl rfl) ?_
            refine O.p rfl rfl rfl (Pu.move rfl rfl) ?_
            refine O.gp rfl rfl rfl rfl rfl (Pu.move rfl rfl) ?_
            refine O.gp rfl rfl rfl rfl rfl (Pu.makeFunc rfl rfl) ?_
            refine O.ge rfl rfl rfl rfl rfl (Ef.callP call129 rfl rfl (fun w hw => containsFuncU_ok  r1 (fun x => andNot part x = 0) (130) _ _ _ w ((Ld.own 2 (by exact rfl)) w hw) (by first | omega | (simp only [tops_len, conts_len, bl, List.length_append, List.length_cons, List.length_nil] at *; omega)) (call130) (fun k hk w' hb => leastFixing1_ok _ part _ w' ((Blk.rdb hw (i := 1) rfl).below hb) (by omega) (by have := hrx _ (List.getElem_mem hk); omega)))) ?_
            rintro _ _ ⟨rfl, rfl⟩
            refine O.p rfl rfl rfl (Pu.pickF rfl rfl rfl) ?_
            refine O.nil ?_
            refine X.next ?_
            refine V.condD rfl (fun c10 => ?_) (fun c10 => ?_)
            · skip
              refine V.exit ?_
              refine X.thenExit ?_
              refine X.blockHit ?_
              refine X.next ?_
              refine V.seq ?_
              refine V.seq ?_
              refine V.region ?_
              refine O.p rfl rfl rfl (Pu.load rfl pl76 rfl (Ld.blk 1 rfl rfl)) ?_
              refine O.nil ?_
              refine X.next ?_
              refine V.region ?_
              refine O.e rfl rfl rfl (Ef.alloc rfl zr76 rfl) ?_
              rintro _ _ ⟨b8, rfl, rfl⟩
              refine O.s rfl rfl (Ef.store1 (cs' := [_]) 0 rfl sz76 rfl rfl rfl rfl rfl (ltb rfl) rfl) ?_
              rintro _ _ rfl
              refine O.nil ?_
              refine X.next ?_
              refine V.region ?_
              refine O.p rfl rfl rfl (Pu.load rfl pl76 rfl (Ld.blk 0 rfl rfl)) ?_
              refine O.p rfl rfl rfl (Pu.addN (m := part) (n := 1) K64.u (by omega) rfl rfl rfl) ?_
              refine O.s rfl rfl (Ef.store1 (cs' := [_]) 0 rfl sz76 rfl rfl rfl rfl rfl (ltb rfl) rfl) ?_
              rintro _ _ rfl
              refine O.nil ?_
              exact X.back3 (bestA, bestc, best, false, b8, (part + 1)) (by (try dsimp only); exact ⟨by omega, bestF_not hI (hfx.1 c10), hlen⟩) (by first | omega | (dsimp only; omega)) (Ent.cons rfl (Ent.cons rfl (Ent.cons rfl (Ent.nil _)))) (Ent.cons (t := 1) rfl (Ent.cons (t := 4) rfl (Ent.nil _))) (Sub.keep 1 rfl (Sub.keep 0 rfl (Sub.keep 1 rfl (Sub.keep 1 rfl (Sub.nil _)))))
            · skip
              refine V.skip ?_
              refine X.next ?_
              refine V.seq ?_
              refine V.region ?_
              refine O.p rfl rfl rfl (Pu.load rfl pl76 rfl (Ld.blk 1 rfl rfl)) ?_
              refine O.e rfl rfl rfl (Ef.call1 call99 rfl rfl (fun w hw => list_ok part w (by omega))) ?_
              rintro _ _ rfl
              refine O.exi (fun p2 => ?_)
              refine O.sep ?_
              refine O.pur ?_
              rintro ⟨rfl, hp2⟩
              have hl_p2 : p2.2.length ≤ 15 := by rw [hp2]; exact pts_len part
              refine O.p rfl rfl rfl (Pu.assign rfl rfl) ?_
              refine O.nil ?_
              refine X.next ?_
              refine V.seq ?_
              refine V.region ?_
              refine O.p rfl rfl rfl (Pu.move rfl rfl) ?_
              refine O.p rfl rfl rfl (Pu.notF rfl rfl) ?_
              refine O.p rfl rfl rfl (Pu.move rfl rfl) ?_
              refine O.gs rfl rfl rfl rfl rfl rfl ?_
              refine O.gs rfl rfl rfl rfl rfl rfl ?_
              refine O.gs rfl rfl rfl rfl rfl rfl ?_
              refine O.gs rfl rfl rfl rfl rfl rfl ?_
              refine O.p rfl rfl rfl (Pu.pickT rfl rfl rfl) ?_
              refine O.p rfl rfl rfl (Pu.move rfl rfl) ?_
              refine O.gs rfl rfl rfl rfl rfl rfl ?_
              refine O.gs rfl rfl rfl rfl rfl rfl ?_
              refine O.gs rfl rfl rfl rfl rfl rfl ?_
              refine O.gs rfl rfl rfl rfl rfl rfl ?_
              refine O.p rfl rfl rfl (Pu.pickT rfl rfl rfl) ?_
              refine O.nil ?_
              refine X.next ?_
              refine V.condT rfl ?_
              refine V.region ?_
              refine O.p rfl rfl rfl (Pu.move rfl rfl) ?_
              refine O.p rfl rfl rfl (Pu.assign rfl rfl) ?_
              refine O.p rfl rfl rfl (Pu.assign rfl rfl) ?_
              refine O.nil ?_
              refine X.blockNormal ?_
              refine X.next ?_
              refine V.seq ?_
              refine V.seq ?_
              refine V.region ?_
              refine O.p rfl rfl rfl (Pu.load rfl pl76 rfl (Ld.blk 2 rfl rfl)) ?_
              refine O.nil ?_
              refine X.next ?_
              refine V.region ?_
              refine O.e rfl rfl rfl (Ef.alloc rfl zr76 rfl) ?_
              rintro _ _ ⟨b9, rfl, rfl⟩
              refine O.s rfl rfl (Ef.store1 (cs' := [_]) 0 rfl sz76 rfl rfl rfl rfl rfl (ltb rfl) rfl) ?_
              rintro _ _ rfl
              refine O.nil ?_
              refine X.next ?_
              refine V.region ?_
              refine O.p rfl rfl rfl (Pu.load rfl pl76 rfl (Ld.blk 0 rfl rfl)) ?_
              refine O.p rfl rfl rfl (Pu.addN (m := part) (n := 1) K64.u (by omega) rfl rfl rfl) ?_
              refine O.s rfl rfl (Ef.store1 (cs' := [_]) 0 rfl sz76 rfl rfl rfl rfl rfl (ltb rfl) rfl) ?_
              rintro _ _ rfl
              refine O.nil ?_
              exact X.back3 (p2.1.1, p2.1.2, p2.2, true, b9, (part + 1)) (by (try dsimp only); exact ⟨by omega, by rw [hp2]; exact bestF_new (by omega) hI (Classical.not_not.1 (fun h => c10 (hfx.2 h))) (.inl rfl), by rw [hp2]; exact pts_len part⟩) (by first | omega | (dsimp only; omega)) (Ent.cons rfl (Ent.cons rfl (Ent.cons rfl (Ent.nil _)))) (Ent.cons (t := 1) rfl (Ent.cons (t := 4) rfl (Ent.nil _))) (Sub.keep 1 rfl (Sub.keep 0 rfl (Sub.keep 2 rfl (Sub.keep 2 rfl (Sub.nil _)))))
        · skip
          refine V.exit ?_
          refine X.thenExit ?_
          refine X.thenExit ?_
          refine X.blockHit ?_
          refine X.next ?_
          refine V.seq ?_
          refine V.region ?_
          refine O.p rfl rfl rfl (Pu.move rfl rfl) ?_
          refine O.p rfl rfl rfl (Pu.assign rfl rfl) ?_
          refine O.p rfl rfl rfl (Pu.assign rfl rfl) ?_
          refine O.nil ?_
          refine X.next ?_
          refine V.ret ?_
          refine X.ret2 rfl rfl rfl ?_
          exact fun w hw => St.mkExi bestA (St.mkExi bestc (St.mkExi best (St.unsep (St.addPur ⟨(by rw [if_neg (not_not_intro hS), if_neg (not_not_intro c2), if_neg c3]), (by unfold LFR; rw [if_pos ⟨hS, c2, c3⟩]; exact bestF_end hI (by omega) hlt hall)⟩ (hw.sub (Sub.keep 0 rfl (Sub.nil _)))))))
def L_l08Sets (n : Nat) : Prop := ∀ (top : Nat) (from_ : Nat) (count : Nat) (w : World) (h12 : top ≤ 12) (hf : from_ ≤ 13) (hcb : count ≤ 1000) (hc : count ≤ n), Does Tryz.prog 132 [.int .i64 (top : Int), .int .i64 (from_ : Int), .int .i64 (count : Int)] w [] (fun rv_ => [.exi fun (rA : Option Addr) => .exi fun (rc : Nat) => .exi fun (r : List (Sl × List Int)) => .sep (.pur (rv_ = .slice rA (tops r).length rc ∧ conts r = setsN top count from_ ∧ r.length ≤ 4096 ∧ (∀ p ∈ r, p.1.A.isSome = true) ∧ rA.isSome = true)) (.sep (Own 34 SlC rA rc (tops r)) (RowsA 2 I64 r))])
set_option maxRecDepth 100000 in
set_option maxHeartbeats 1000000 in
theorem l08Sets_step (n : Nat) (ih : ∀ n', n' < n → L_l08Sets n') (top : Nat) (from_ : Nat) (count : Nat) (w : World) (h12 : top ≤ 12) (hf : from_ ≤ 13) (hcb : count ≤ 1000) (hc : count ≤ n) : Does Tryz.prog 132 [.int .i64 (top : Int), .int .i64 (from_ : Int), .int .i64 (count : Int)] w [] (fun rv_ => [.exi fun (rA : Option Addr) => .exi fun (rc : Nat) => .exi fun (r : List (Sl × List Int)) => .sep (.pur (rv_ = .slice rA (tops r).length rc ∧ conts r = setsN top count from_ ∧ r.length ≤ 4096 ∧ (∀ p ∈ r, p.1.A.isSome = true) ∧ rA.isSome = true)) (.sep (Own 34 SlC rA rc (tops r)) (RowsA 2 I64 r))]) := by
  refine Does.enter Tryz.func132 rfl rfl [(0, .int .i64 (top : Int)), (1, .int .i64 (from_ : Int)), (2, .int .i64 (count : Int))] rfl ?_
  have h2n : 2 ^ top ≤ 2 ^ 12 := Nat.pow_le_pow_right (by decide) h12
  have hsl := sets_len (n := top) top count from_ (by omega)
  refine V.seq ?_
  refine V.region ?_
  refine O.p rfl rfl rfl (Pu.assign rfl rfl) ?_
  refine O.nil ?_
  refine X.next ?_
  refine V.seq ?_
  refine V.seq ?_
  refine V.region ?_
  refine O.p rfl rfl rfl (Pu.move rfl rfl) ?_
  refine O.p rfl rfl rfl (Pu.eql rfl rfl rfl) ?_
  refine O.nil ?_
  refine X.next ?_
  refine V.condD rfl (fun c1 => ?_) (fun c1 => ?_)
  · skip
    refine V.seq ?_
    refine V.region ?_
    refine O.e rfl rfl rfl (Ef.build I64 ([] : List Int) rfl Tryz.underlying34 inf2 rfl rfl rfl (by first | decide | (simp; done)) (by kernel_rfl)) ?_
    rintro _ _ ⟨A1, hA1, rfl, rfl⟩
    refine O.e rfl rfl rfl (Ef.build SlC ([⟨A1, 0, 0⟩] : List Sl) rfl Tryz.underlying28 inf34 rfl rfl rfl (by first | decide | (simp; done)) (by kernel_rfl)) ?_
    rintro _ _ ⟨A2, hA2, rfl, rfl⟩
    refine O.p rfl rfl rfl (Pu.assign rfl rfl) ?_
    refine O.nil ?_
    refine X.next ?_
    refine V.ret ?_
    refine X.thenRet ?_
    refine X.map (fun w hw => one_heap (xs := ([] : List Int)) (hw.sub (Sub.keep 0 rfl (Sub.keep 0 rfl (Sub.nil _))))) ?_
    refine X.ret1 rfl rfl ?_
    exact fun w hw => St.mkExi A2 (St.mkExi 1 (St.mkExi ([((⟨A1, 0, 0⟩ : Sl), ([] : List Int))]) (St.unsep (St.addPur ⟨(by first | rfl | (simp only [tops_append]; done) | (simp only [tops_append]; rfl)), by rw [show count = 0 by omega]; rfl, by simp, fun p hp => by (rw [List.mem_singleton] at hp; subst hp; exact hA1), hA2⟩ (St.unsep (hw.sub (Sub.keep 0 rfl (Sub.keep 0 rfl (Sub.nil _)))))))))
  · skip
    refine V.skip ?_
    refine X.next ?_
    refine V.seq ?_
    refine V.region ?_
    refine O.e rfl rfl rfl (Ef.build SlC ([] : List Sl) rfl Tryz.underlying28 inf34 rfl rfl rfl (by first | decide | (simp; done)) (by kernel_rfl)) ?_
    rintro _ _ ⟨A3, hA3, rfl, rfl⟩
    refine O.p rfl rfl rfl (Pu.assign rfl rfl) ?_
    refine O.nil ?_
    refine X.next ?_
    refine V.seq ?_
    refine V.seq ?_
    refine V.region ?_
    refine O.p rfl rfl rfl (Pu.move rfl rfl) ?_
    refine O.p rfl rfl rfl (Pu.assign rfl rfl) ?_
    refine O.nil ?_
    refine X.next ?_
    refine V.block ?_
    refine V.map (fun w hw => RowsA.nil (T := 2) (C := I64) hw) ?_
    refine V.loop2 (β := (Option Addr) × Nat × (List (Sl × List Int)) × Nat) (fun x => [(7, .slice x.1 (tops x.2.2.1).length x.2.1), (8, .int .i64 (x.2.2.2 : Int))]) _ (fun x => [Own 34 SlC x.1 x.2.1 (tops x.2.2.1), RowsA 2 I64 x.2.2.1]) (fun x => from_ ≤ x.2.2.2 ∧ (x.2.2.2 ≤ top ∨ x.2.2.2 = from_) ∧ conts x.2.2.1 ++ setsN top count x.2.2.2 = setsN top count from_ ∧ (∀ p ∈ x.2.2.1, p.1.A.isSome = true) ∧ x.1.isSome = true) (fun x => top - x.2.2.2) (A3, 0, [], from_) (by (try dsimp only); exact ⟨by omega, .inr rfl, rfl, fun p hp => by simp at hp, hA3⟩) (Ent.cons rfl (Ent.cons rfl (Ent.nil _))) (Ent.cons (t := 0) rfl (Ent.cons (t := 2) rfl (Ent.nil _))) (Sub.keep 1 rfl (Sub.keep 0 rfl (Sub.nil _))) ?_
    rintro ⟨outA, outc, out, i⟩ ⟨hi0, hi, ho, hso, hoS⟩
    dsimp only at hi0 hi ho hso hoS ⊢
    have hcl := conts_len out
    have hol := congrArg List.length ho
    rw [List.length_append] at hol
    refine V.fact (RowsA.len 1 rfl) (fun hn_out => ?_)
    have htl_out := tops_len out
    refine V.seq ?_
    refine V.seq ?_
    refine V.region ?_
    refine O.p rfl rfl rfl (Pu.move rfl rfl) ?_
    refine O.p rfl rfl rfl (Pu.move rfl rfl) ?_
    refine O.p rfl rfl rfl (Pu.lss rfl rfl rfl) ?_
    refine O.nil ?_
    refine X.next ?_
    refine V.condD rfl (fun c2 => ?_) (fun c2 => ?_)
    · skip
      have hst := sets_step (n := top) (c := count - 1) (f := i) (by omega)
      rw [show count - 1 + 1 = count by omega] at hst
      have hsl2 := congrArg List.length hst
      rw [List.length_append, List.length_map] at hsl2
      refine V.skip ?_
      refine X.next ?_
      refine V.seq ?_
      refine V.block ?_
      refine V.seq ?_
      refine V.region ?_
      refine O.p rfl rfl rfl (Pu.move rfl rfl) ?_
      refine O.p rfl rfl rfl (Pu.move rfl rfl) ?_
      refine O.p rfl rfl rfl (Pu.add64 (r := ((i + 1 : Nat) : Int)) rfl (by omega) rfl rfl rfl) ?_
      refine O.p rfl rfl rfl (Pu.move rfl rfl) ?_
      refine O.p rfl rfl rfl (Pu.sub64 (r := ((count - 1 : Nat) : Int)) (by omega) (by omega) rfl rfl rfl) ?_
      refine O.e rfl rfl rfl (Ef.call1 call132 rfl rfl (fun w hw => ih (n - 1) (by omega)  top (i + 1) (count - 1) w   (by first | assumption | omega | (try dsimp only at *; omega)) (by first | assumption | omega | (try dsimp only at *; omega)) (by first | assumption | omega | (try dsimp only at *; omega)) (by first | assumption | omega | (try dsimp only at *; omega)))) ?_
      rintro _ _ rfl
      refine O.exi (fun r1A => ?_)
      refine O.exi (fun r1c => ?_)
      refine O.exi (fun r1 => ?_)
      refine O.sep ?_
      refine O.pur ?_
      rintro ⟨rfl, hr1_1, hr1_2, hr1_3, hr1_4⟩
      refine O.sep ?_
      refine O.fact (RowsA.len 1 rfl) (fun hn_r1 => ?_)
      have htl_r1 := tops_len r1
      have hcr1 := conts_len r1
      rw [hr1_1] at hcr1
      have hrw : ∀ k (hk : k < r1.length), (r1[k]).2.length = count - 1 := fun k hk => (mem_sets.1 (by rw [← hr1_1]; exact List.mem_map_of_mem (List.getElem_mem hk))).1
      refine O.p rfl rfl rfl (Pu.assign rfl rfl) ?_
      refine O.nil ?_
      refine X.next ?_
      refine V.seq ?_
      refine V.region ?_
      refine O.p rfl rfl rfl (Pu.assign rfl rfl) ?_
      refine O.nil ?_
      refine X.next ?_
      refine V.block ?_
      refine V.loop3 (β := (Option Addr) × Nat × (List (Sl × List Int)) × Nat) (fun x => [(7, .slice x.1 (tops x.2.2.1).length x.2.1), (10, .int .i64 (x.2.2.2 : Int))]) _ (fun x => [Own 34 SlC x.1 x.2.1 (tops x.2.2.1), RowsA 2 I64 x.2.2.1]) _ (fun x => x.2.2.2 ≤ r1.length ∧ conts x.2.2.1 = conts out ++ ((conts r1).take x.2.2.2).map ((i : Int) :: ·) ∧ (∀ p ∈ x.2.2.1, p.1.A.isSome = true) ∧ x.1.isSome = true) (fun x => r1.length - x.2.2.2) (outA, outc, out, 0) (by (try dsimp only); exact ⟨by omega, by simp, hso, hoS⟩) (Ent.cons rfl (Ent.cons rfl (Ent.nil _))) (Ent.cons (t := 0) rfl (Ent.cons (t := 2) rfl (Ent.cons (t := 8) rfl (Ent.cons (t := 9) rfl (Ent.nil _))))) (Sub.keep 2 rfl (Sub.keep 2 rfl (Sub.keep 0 rfl (Sub.keep 0 rfl (Sub.nil _))))) ?_
      rintro ⟨out2A, out2c, out2, k⟩ ⟨hk, ho2, hso2, hoS2⟩
      dsimp only at hk ho2 hso2 hoS2 ⊢
      have hcl2 := conts_len out2
      have hcr := conts_len r1
      have hol2 := congrArg List.length ho2
      rw [List.length_append, List.length_map, List.length_take] at hol2
      refine V.fact (RowsA.len 1 rfl) (fun hn_out2 => ?_)
      have htl_out2 := tops_len out2
      refine V.seq ?_
      refine V.seq ?_
      refine V.region ?_
      refine O.p rfl rfl rfl (Pu.move rfl rfl) ?_
      refine O.p rfl rfl rfl (Pu.move rfl rfl) ?_
      refine O.p rfl rfl rfl (Pu.len rfl Tryz.underlying28 rfl) ?_
      refine O.p rfl rfl rfl (Pu.lss rfl rfl rfl) ?_
      refine O.nil ?_
      refine X.next ?_
      refine V.condD rfl (fun c3 => ?_) (fun c3 => ?_)
      · skip
        have hrk : (r1[k]'(by omega)).2.length = count - 1 := hrw k (by omega)
        refine V.skip ?_
        refine X.next ?_
        refine V.seq ?_
        refine V.block ?_
        refine V.region ?_
        refine O.p rfl rfl rfl (Pu.move rfl rfl) ?_
        refine O.p rfl rfl rfl (Pu.move rfl rfl) ?_
        refine O.e rfl rfl rfl (Ef.build I64 ([(↑i : Int)] : List Int) rfl Tryz.underlying34 inf2 rfl rfl rfl (by first | decide | (simp; done)) (by kernel_rfl)) ?_
        rintro _ _ ⟨A4, hA4, rfl, rfl⟩
        refine O.p rfl rfl rfl (Pu.move rfl rfl) ?_
        refine O.p rfl rfl rfl (Pu.move rfl rfl) ?_
        refine O.p rfl rfl rfl (Pu.indexAddrS (k) rfl Tryz.underlying28 sz34 rfl rfl (by omega) (by omega) (fun w hw => Own.some hw (i := 3) (by exact rfl) (by omega))) ?_
        have e1 : k < r1.length := by have := tops_len r1; omega
        refine O.p rfl rfl rfl (Pu.load rfl pl34 rfl (Ld.row (Ld.own 3 (by exact rfl)) hn_r1 e1 rfl)) ?_
        refine O.e rfl rfl rfl (Ef.append (xs := ([(↑i : Int)] : List Int)) (ys := (r1[k]'e1).2) 0 rfl Tryz.underlying34 inf2 rfl rfl rfl rfl rfl rfl (hr1_3 _ (List.getElem_mem e1)) (Ld.rows 4 (by exact rfl) e1) (by simp only [List.length_append, List.length_cons, List.length_nil] at *; omega) (by decide)) ?_
        rintro _ _ ⟨A5, k1, rfl, rfl, hA5⟩
        replace hA5 := hA5 (.inl hA4)
        refine O.e rfl rfl rfl (Ef.build SlC ([⟨A5, (([(↑i : Int)] : List Int) ++ (r1[k]'e1).2).length, k1⟩] : List Sl) rfl Tryz.underlying28 inf34 rfl rfl rfl (by first | decide | (simp; done)) (by kernel_rfl)) ?_
        rintro _ _ ⟨A6, hA6, rfl, rfl⟩
        refine O.e rfl rfl rfl (Ef.append (xs := (tops out2)) (ys := ([⟨A5, (([(↑i : Int)] : List Int) ++ (r1[k]'e1).2).length, k1⟩] : List Sl)) 2 rfl Tryz.underlying28 inf34 rfl rfl rfl rfl rfl rfl hA6 (Ld.own 0 (by exact rfl)) (by simp only [List.length_append, List.length_cons, List.length_nil] at *; omega) (by decide)) ?_
        rintro _ _ ⟨A7, k2, rfl, rfl, hA7⟩
        replace hA7 := hA7 (.inr (by simp))
        refine O.map (fun w hw => snoc_heap (ps := out2) (xs := (([(↑i : Int)] : List Int) ++ (r1[k]'e1).2)) (hw.sub (Sub.keep 2 rfl (Sub.keep 2 rfl (Sub.keep 1 rfl (Sub.keep 0 rfl (Sub.keep 0 rfl (Sub.keep 0 rfl (Sub.nil _))))))))) ?_
        refine O.p rfl rfl rfl (Pu.assign rfl rfl) ?_
        refine O.nil ?_
        refine X.blockNormal ?_
        refine X.next ?_
        refine V.region ?_
        refine O.p rfl rfl rfl (Pu.move rfl rfl) ?_
        refine O.p rfl rfl rfl (Pu.add64 (r := ((k + 1 : Nat) : Int)) rfl (by omega) rfl rfl rfl) ?_
        refine O.p rfl rfl rfl (Pu.assign rfl rfl) ?_
        refine O.nil ?_
        exact X.back3 (A7, k2, (out2 ++ [((⟨A5, (([(↑i : Int)] : List Int) ++ (r1[k]'e1).2).length, k1⟩ : Sl), (([(↑i : Int)] : List Int) ++ (r1[k]'e1).2))]), k + 1) (by (try dsimp only); exact ⟨by omega, by rw [conts_append, ho2, take_snoc (by omega), List.map_append, List.append_assoc, conts_get r1]; rfl, fun p hp => by rcases List.mem_append.1 hp with h | h; (· exact hso2 p h); (· rw [List.mem_singleton] at h; subst h; exact hA5), hA7⟩) (by first | omega | (dsimp only; omega)) (Ent.cons' rfl (by first | rfl | (simp only [tops_append]; done) | (simp only [tops_append]; rfl)) (Ent.cons rfl (Ent.nil _))) (Ent.cons (t := 0) rfl (Ent.cons (t := 2) rfl (Ent.cons (t := 8) rfl (Ent.cons (t := 9) rfl (Ent.nil _))))) (Sub.keep 0 rfl (Sub.keep 0 rfl (Sub.keep 1 rfl (Sub.keep 1 rfl (Sub.nil _)))))
      · skip
        refine V.exit ?_
        refine X.thenExit ?_
        refine X.thenExit ?_
        refine X.blockHit ?_
        refine X.blockNormal ?_
        refine X.next ?_
        refine V.region ?_
        refine O.p rfl rfl rfl (Pu.move rfl rfl) ?_
        refine O.p rfl rfl rfl (Pu.add64 (r := ((i + 1 : Nat) : Int)) rfl (by omega) rfl rfl rfl) ?_
        refine O.p rfl rfl rfl (Pu.assign rfl rfl) ?_
        refine O.nil ?_
        exact X.back2 (out2A, out2c, out2, i + 1) (by (try dsimp only); exact ⟨by omega, .inl (by omega), by rw [ho2, List.take_of_length_le (by rw [conts_len]; omega), hr1_1, List.append_assoc, ← hst]; exact ho, hso2, hoS2⟩) (by first | omega | (dsimp only; omega)) (Ent.cons' rfl (by first | rfl | (simp only [tops_append]; done) | (simp only [tops_append]; rfl)) (Ent.cons rfl (Ent.nil _))) (Ent.cons (t := 0) rfl (Ent.cons (t := 2) rfl (Ent.nil _))) (Sub.keep 0 rfl (Sub.keep 0 rfl (Sub.nil _)))
    · skip
      refine V.exit ?_
      refine X.thenExit ?_
      refine X.thenExit ?_
      refine X.blockHit ?_
      refine X.next ?_
      refine V.seq ?_
      refine V.region ?_
      refine O.p rfl rfl rfl (Pu.move rfl rfl) ?_
      refine O.p rfl rfl rfl (Pu.assign rfl rfl) ?_
      refine O.nil ?_
      refine X.next ?_
      refine V.ret ?_
      refine X.ret1 rfl rfl ?_
      exact fun w hw => St.mkExi outA (St.mkExi outc (St.mkExi out (St.unsep (St.addPur ⟨(by first | rfl | (simp only [tops_append]; done) | (simp only [tops_append]; rfl)), by rw [← ho, show setsN top count i = [] by (rw [show count = count - 1 + 1 by omega]; exact sets_end (by omega)), List.append_nil], by omega, hso, hoS⟩ (St.unsep (hw.sub (Sub.keep 0 rfl (Sub.keep 0 rfl (Sub.nil _)))))))))
theorem l08Sets_ok (n : Nat) : L_l08Sets n := by
  induction n using Nat.strongRecOn with
  | _ n ih => exact fun top from_ count w h12 hf hcb hc => l08Sets_step n ih top from_ count w h12 hf hcb hc
theorem l08RunI_ok (n : Nat) (v : Int) (bs : List B3) (most : Nat) (keep : Bool) (A : Option Addr) (c : Nat) (w : World) (hx : Rd B3C w A bs) (lx : bs.length ≤ 4611686018427387904) (h0 : 0 ≤ v) (hv : v.toNat ≤ 15) (hb : ∀ d ∈ bs, inB v.toNat d) (hn : leftN v.toNat (maskB 0 bs) ≤ n) (hm0 : 0 < most) (hmm : most ≤ 1000000000) (hM : (runC (fun j => decide (j < most)) 0 (leaf [] (compM n v.toNat (maskB 0 bs)))).length ≤ 1000000) (hxs : n ≤ 1000) (lbs : bs.length ≤ 1000) : Does Tryz.prog 122 [.agg #[.int .i64 v, .slice A bs.length c], .int .i64 (most : Int), .bool keep] w [] (fun rv_ => [.exi fun sb : Nat => .sep (.pur (rv_ = .pointer (some ⟨sb, 0, none⟩))) (SrchK 102 4 24 51 sb v.toNat most keep (maskB 0 bs) (runC (fun j => decide (j < most)) 0 (leaf [] (compM n v.toNat (maskB 0 bs)))))]) := by
  obtain ⟨k, rfl⟩ := Int.eq_ofNat_of_zero_le h0
  exact l08Run_ok n k bs most keep A c w hx lx hv hb hn hm0 hmm hM hxs lbs
set_option maxRecDepth 100000 in
set_option maxHeartbeats 1000000 in
theorem specLeastFixing_ok (v : Int) (bs : List B3) (A : Option Addr) (c : Nat) (w : World) (hx : Rd B3C w A bs) (lx : bs.length ≤ 4611686018427387904) : Does Tryz.prog 47 [.agg #[.int .i64 v, .slice A bs.length c]] w [] (fun r => [.exi fun (oA : Option Addr) => .exi fun (oc : Nat) => .exi fun (o : List Int) => .sep (.pur (r = .tuple #[.slice oA o.length oc, .int .i64 (if ¬ STS v bs then 1 else if ¬ 6 * (bs.length : Int) = v * (v - 1) then 5 else if 9 < v then 3 else 0)] ∧ LFR v bs o)) (Own 2 I64 oA oc o)]) := by
  refine Does.enter Tryz.func47 rfl rfl [(0, .agg #[.int .i64 v, .slice A bs.length c])] rfl ?_
  refine V.seq ?_
  refine V.region ?_
  refine O.e rfl rfl rfl (Ef.box rfl rfl rfl) ?_
  rintro _ _ ⟨b1, rfl, rfl⟩
  refine O.p rfl rfl rfl (Pu.assign rfl rfl) ?_
  refine O.p rfl rfl rfl (Pu.assign rfl rfl) ?_
  refine O.nil ?_
  refine X.next ?_
  refine V.seq ?_
  refine V.block ?_
  refine V.seq ?_
  refine V.region ?_
  refine O.p rfl rfl rfl (Pu.loadAgg rfl ag26 sz26 rfl rfl (Ld.whole 0 rfl)) ?_
  refine O.e rfl rfl rfl (Ef.callP call79 rfl rfl (fun w hw => l01Is_ok _ bs _ _ w ((Ld.old hx) w hw) (by omega))) ?_
  rintro _ _ ⟨rfl, rfl⟩
  refine O.p rfl rfl rfl (Pu.not rfl rfl) ?_
  refine O.p rfl rfl rfl (Pu.assign rfl rfl) ?_
  refine O.nil ?_
  refine X.next ?_
  refine V.condNot rfl (fun c1 => ?_) (fun c1 => ?_)
  · skip
    refine V.seq ?_
    refine V.region ?_
    refine O.p rfl rfl rfl (Pu.assign rfl rfl) ?_
    refine O.p rfl rfl rfl (Pu.assign rfl rfl) ?_
    refine O.nil ?_
    refine X.next ?_
    refine V.ret ?_
    refine X.blockRet ?_
    refine X.thenRet ?_
    refine X.ret2 rfl rfl rfl ?_
    exact fun w hw => St.mkExi none (St.mkExi 0 (St.mkExi [] (St.unsep (St.addPur ⟨(by rw [if_pos c1]; rfl), (by unfold LFR; rw [if_neg (fun h => c1 h.1)])⟩ (St.addNil (T := 2) (C := I64) (hw.sub (Sub.nil _)))))))
  · skip
    have hS := c1
    have hmul := sts_mul c1
    have hlo := c1.lo
    have hhi := c1.hi
    have hfw := c1.few
    refine V.seq ?_
    refine V.region ?_
    refine O.p rfl rfl rfl (Pu.loadAgg rfl ag26 sz26 rfl rfl (Ld.whole 0 rfl)) ?_
    refine O.e rfl rfl rfl (Ef.callP call131 rfl rfl (fun w hw => l01Full_ok  v bs _ _ w ((Ld.old hx) w hw) (by first | omega | (simp only [tops_len, conts_len, bl, List.length_append, List.length_cons, List.length_nil] at *; omega)) (by first | assumption | omega | (try dsimp only at *; omega)) (by first | assumption | omega | (try dsimp only at *; omega)) (by first | assumption | omega | (try dsimp only at *; omega)))) ?_
    rintro _ _ ⟨rfl, rfl⟩
    refine O.p rfl rfl rfl (Pu.not rfl rfl) ?_
    refine O.p rfl rfl rfl (Pu.assign rfl rfl) ?_
    refine O.nil ?_
    refine X.next ?_
    refine V.condNot rfl (fun c2 => ?_) (fun c2 => ?_)
    · skip
      refine V.seq ?_
      refine V.region ?_
      refine O.p rfl rfl rfl (Pu.assign rfl rfl) ?_
      refine O.p rfl rfl rfl (Pu.assign rfl rfl) ?_
      refine O.nil ?_
      refine X.next ?_
      refine V.ret ?_
      refine X.blockRet ?_
      refine X.thenRet ?_
      refine X.ret2 rfl rfl rfl ?_
      exact fun w hw => St.mkExi none (St.mkExi 0 (St.mkExi [] (St.unsep (St.addPur ⟨(by rw [if_neg (not_not_intro hS), if_pos c2]; rfl), (by unfold LFR; rw [if_neg (fun h => c2 h.2.1)])⟩ (St.addNil (T := 2) (C := I64) (hw.sub (Sub.nil _)))))))
    · skip
      refine V.seq ?_
      refine V.region ?_
      refine O.p rfl rfl rfl (Pu.fieldAddr 0 rfl Tryz.underlying26 rfl sz2 rfl rfl) ?_
      refine O.p rfl rfl rfl (Pu.load rfl pl2 rfl (Ld.blk 0 rfl rfl)) ?_
      refine O.p rfl rfl rfl (Pu.gtr rfl rfl rfl) ?_
      refine O.p rfl rfl rfl (Pu.assign rfl rfl) ?_
      refine O.nil ?_
      refine X.next ?_
      refine V.condD rfl (fun c3 => ?_) (fun c3 => ?_)
      · skip
        refine V.seq ?_
        refine V.region ?_
        refine O.p rfl rfl rfl (Pu.assign rfl rfl) ?_
        refine O.p rfl rfl rfl (Pu.assign rfl rfl) ?_
        refine O.nil ?_
        refine X.next ?_
        refine V.ret ?_
        refine X.blockRet ?_
        refine X.thenRet ?_
        refine X.ret2 rfl rfl rfl ?_
        exact fun w hw => St.mkExi none (St.mkExi 0 (St.mkExi [] (St.unsep (St.addPur ⟨(by rw [if_neg (not_not_intro hS), if_neg (not_not_intro c2), if_pos c3]; rfl), (by unfold LFR; rw [if_neg (fun h => h.2.2 c3)])⟩ (St.addNil (T := 2) (C := I64) (hw.sub (Sub.nil _)))))))
      · skip
        have hF := few_of hS c2 c3
        have hfl := few_len hF.1
        have h12 := few_small hF
        refine V.skip ?_
        refine X.blockNormal ?_
        refine X.next ?_
        refine V.seq ?_
        refine V.region ?_
        refine O.p rfl rfl rfl (Pu.assign rfl rfl) ?_
        refine O.nil ?_
        refine X.next ?_
        refine V.block ?_
        refine V.map (fun w hw => St.addNil (T := 2) (C := I64) hw) ?_
        refine V.loop3 (β := (Option Addr) × Nat × (List Int) × Nat × Nat) (fun x => [(2, .slice x.1 x.2.2.1.length x.2.1), (3, .int .i64 (x.2.2.2.1 : Int)), (4, .int .i64 (x.2.2.2.2 : Int))]) _ (fun x => [Own 2 I64 x.1 x.2.1 x.2.2.1]) _ (fun x => x.2.2.2.2 ≤ bs.length ∧ ∀ c, c < x.2.2.2.2 → ∀ L ∈ setsN bs.length c 0, ¬ FixP bs (allN v) (maskL L)) (fun x => bs.length + 1 - x.2.2.2.2) (none, 0, [], 0, 0) (by (try dsimp only); exact ⟨by omega, fun c h => by omega⟩) (Ent.cons rfl (Ent.cons rfl (Ent.cons rfl (Ent.nil _)))) (Ent.cons (t := 1) rfl (Ent.nil _)) (Sub.keep 0 rfl (Sub.keep 0 rfl (Sub.nil _))) ?_
        rintro ⟨t2A, t2c, t2, t3, count⟩ ⟨hct, hlow⟩
        dsimp only at hct hlow ⊢
        refine V.seq ?_
        refine V.block ?_
        refine V.seq ?_
        refine V.region ?_
        refine O.p rfl rfl rfl (Pu.fieldAddr 1 rfl Tryz.underlying26 rfl sz24 rfl rfl) ?_
        refine O.p rfl rfl rfl (Pu.load rfl pl24 rfl (Ld.blk 1 rfl rfl)) ?_
        refine O.p rfl rfl rfl (Pu.len rfl Tryz.underlying24 rfl) ?_
        refine O.p rfl rfl rfl (Pu.move rfl rfl) ?_
        refine O.e rfl rfl rfl (Ef.call1 call132 rfl rfl (fun w hw => l08Sets_ok count  (bs.length) 0 count w   h12 (by omega) (by omega) (by omega))) ?_
        rintro _ _ rfl
        refine O.exi (fun r1A => ?_)
        refine O.exi (fun r1c => ?_)
        refine O.exi (fun r1 => ?_)
        refine O.sep ?_
        refine O.pur ?_
        rintro ⟨rfl, hr1_1, hr1_2, hr1_3, hr1_4⟩
        refine O.sep ?_
        refine O.fact (RowsA.len 1 rfl) (fun hn_r1 => ?_)
        have htl_r1 := tops_len r1
        have hcr1 := conts_len r1
        have hmem : ∀ k (hk : k < r1.length), (r1[k]).2.length = count ∧ (r1[k]).2.Pairwise (· < ·) ∧ ∀ i ∈ (r1[k]).2, (0 : Int) ≤ i ∧ i < bs.length := fun k hk => mem_sets.1 (by rw [← hr1_1]; exact List.mem_map_of_mem (List.getElem_mem hk))
        refine O.p rfl rfl rfl (Pu.assign rfl rfl) ?_
        refine O.nil ?_
        refine X.next ?_
        refine V.seq ?_
        refine V.region ?_
        refine O.p rfl rfl rfl (Pu.assign rfl rfl) ?_
        refine O.nil ?_
        refine X.next ?_
        refine V.block ?_
        refine V.loop3 (β := (Option Addr) × Nat × (List Int) × Nat × Nat) (fun x => [(2, .slice x.1 x.2.2.1.length x.2.1), (3, .int .i64 (x.2.2.2.1 : Int)), (6, .int .i64 (x.2.2.2.2 : Int))]) _ (fun x => [Own 2 I64 x.1 x.2.1 x.2.2.1]) _ (fun x => x.2.2.2.2 ≤ r1.length ∧ ∀ j (hj : j < r1.length), j < x.2.2.2.2 → ¬ FixP bs (allN v) (maskL (r1[j]).2)) (fun x => r1.length - x.2.2.2.2) (t2A, t2c, t2, t3, 0) (by (try dsimp only); exact ⟨by omega, fun j hj h => by omega⟩) (Ent.cons rfl (Ent.cons rfl (Ent.cons rfl (Ent.nil _)))) (Ent.cons (t := 1) rfl (Ent.cons (t := 4) rfl (Ent.cons (t := 5) rfl (Ent.nil _)))) (Sub.keep 2 rfl (Sub.keep 0 rfl (Sub.keep 0 rfl (Sub.keep 0 rfl (Sub.nil _))))) ?_
        rintro ⟨t2A, t2c, t2, t3, i⟩ ⟨hi, hno⟩
        dsimp only at hi hno ⊢
        refine V.seq ?_
        refine V.seq ?_
        refine V.region ?_
        refine O.p rfl rfl rfl (Pu.move rfl rfl) ?_
        refine O.p rfl rfl rfl (Pu.move rfl rfl) ?_
        refine O.p rfl rfl rfl (Pu.len rfl Tryz.underlying28 rfl) ?_
        refine O.p rfl rfl rfl (Pu.lss rfl rfl rfl) ?_
        refine O.nil ?_
        refine X.next ?_
        refine V.condD rfl (fun c4 => ?_) (fun c4 => ?_)
        · skip
          refine V.skip ?_
          refine X.next ?_
          refine V.seq ?_
          refine V.block ?_
          refine V.seq ?_
          have ei : i < r1.length := by omega
          obtain ⟨hm1, hm2, hm3⟩ := hmem i ei
          refine V.region ?_
          refine O.e rfl rfl rfl (Ef.build B3C ([] : List B3) rfl Tryz.underlying24 inf51 rfl rfl rfl (by first | decide | (simp; done)) (by kernel_rfl)) ?_
          rintro _ _ ⟨A1, hA1, rfl, rfl⟩
          refine O.p rfl rfl rfl (Pu.assign rfl rfl) ?_
          refine O.nil ?_
          refine X.next ?_
          refine V.seq ?_
          refine V.seq ?_
          refine V.region ?_
          refine O.p rfl rfl rfl (Pu.assign rfl rfl) ?_
          refine O.nil ?_
          refine X.next ?_
          refine V.block ?_
          refine V.loop3 (β := (Option Addr) × Nat × (List B3) × Nat) (fun x => [(7, .slice x.1 x.2.2.1.length x.2.1), (8, .int .i64 (x.2.2.2 : Int))]) _ (fun x => [Own 51 B3C x.1 x.2.1 x.2.2.1]) _ (fun x => x.2.2.2 ≤ count ∧ x.2.2.1 = ((r1[i]'ei).2.take x.2.2.2).map (blk bs)) (fun x => count - x.2.2.2) (A1, 0, ([] : List B3), 0) (by (try dsimp only); exact ⟨by omega, by simp⟩) (Ent.cons rfl (Ent.cons rfl (Ent.nil _))) (Ent.cons (t := 1) rfl (Ent.cons (t := 2) rfl (Ent.cons (t := 3) rfl (Ent.cons (t := 4) rfl (Ent.cons (t := 5) rfl (Ent.cons (t := 6) rfl (Ent.nil _))))))) (Sub.keep 0 rfl (Sub.keep 0 rfl (Sub.keep 0 rfl (Sub.keep 0 rfl (Sub.keep 0 rfl (Sub.nil _)))))) ?_
          rintro ⟨blocksA, blocksc, blocks, k⟩ ⟨hk, hb⟩
          dsimp only at hk hb ⊢
          have hbl0 : blocks.length ≤ k := by rw [hb, List.length_map, List.length_take]; omega
          refine V.seq ?_
          refine V.seq ?_
          refine V.region ?_
          refine O.p rfl rfl rfl (Pu.move rfl rfl) ?_
          refine O.p rfl rfl rfl (Pu.move rfl rfl) ?_
          refine O.p rfl rfl rfl (Pu.lss rfl rfl rfl) ?_
          refine O.nil ?_
          refine X.next ?_
          refine V.condD rfl (fun c5 => ?_) (fun c5 => ?_)
          · skip
            refine V.skip ?_
            refine X.next ?_
            refine V.seq ?_
            refine V.block ?_
            have ek : k < (r1[i]'ei).2.length := by omega
            have hix : okIx bs ((r1[i]'ei).2[k]'ek) := hm3 _ (List.getElem_mem ek)
            have hix2 := hix
            unfold okIx at hix2
            refine V.drawS mo (by kernel_rfl) (Sub.keep 1 rfl (Sub.keep 1 rfl (Sub.keep 1 rfl (Sub.keep 1 rfl (Sub.nil _))))) (fun hwf => ?_)
            refine D.p 0 rfl rfl rfl rfl rfl rfl (Pu.move rfl rfl) ?_
            refine D.p 1 rfl rfl rfl rfl rfl rfl (Pu.fieldAddr 1 rfl Tryz.underlying26 rfl sz24 rfl rfl) ?_
            refine D.p 2 rfl rfl rfl rfl rfl rfl (Pu.load rfl pl24 rfl (Ld.blk 3 rfl rfl)) ?_
            refine D.p 3 rfl rfl rfl rfl rfl rfl (Pu.move rfl rfl) ?_
            refine D.p 4 rfl rfl rfl rfl rfl rfl (Pu.move rfl rfl) ?_
            refine D.p 5 rfl rfl rfl rfl rfl rfl (Pu.indexAddrS (i) rfl Tryz.underlying28 sz34 rfl rfl (by omega) (by omega) (fun w hw => Own.some hw (i := 1) (by exact rfl) (by omega))) ?_
            refine D.p 6 rfl rfl rfl rfl rfl rfl (Pu.load rfl pl34 rfl (Ld.row (Ld.own 1 (by exact rfl)) hn_r1 ei rfl)) ?_
            refine D.p 7 rfl rfl rfl rfl rfl rfl (Pu.move rfl rfl) ?_
            refine D.p 8 rfl rfl rfl rfl rfl rfl (Pu.indexAddrS (k) rfl Tryz.underlying34 sz2 rfl rfl (by omega) (by omega) (fun w hw => ((Ld.rows 2 (by exact rfl) ei) w hw).some (by omega))) ?_
            refine D.p 9 rfl rfl rfl rfl rfl rfl (Pu.load rfl pl2 rfl (Ld.rd (Ld.rows 2 (by exact rfl) ei) (k := k) ek rfl rfl)) ?_
            refine D.p 10 rfl rfl rfl rfl rfl rfl (Pu.indexAddr ((((r1[i]'ei).2[k]'ek)).toNat) rfl Tryz.underlying24 sz51 rfl rfl (by omega) (by omega) (hx.some (by omega))) ?_
            have e1 : (((r1[i]'ei).2[k]'ek)).toNat < bs.length := by omega
            refine D.p 11 rfl rfl rfl rfl rfl rfl (Pu.loadAgg' (v := B3.v (bs[(((r1[i]'ei).2[k]'ek)).toNat]'e1)) rfl rfl ag51 sz51 rfl rfl (Ld.rds (Ld.old hx) (k := (((r1[i]'ei).2[k]'ek)).toNat) e1 rfl)) ?_
            refine D.eff hwf (e := 12) rfl rfl rfl rfl (Ef.build B3C ([(bs[(((r1[i]'ei).2[k]'ek)).toNat]'e1)] : List B3) rfl Tryz.underlying24 inf51 rfl rfl rfl (by first | decide | (simp; done)) (by kernel_rfl)) rfl rfl rfl ?_
            rintro _ _ ⟨A2, hA2, rfl, rfl⟩ hs
            refine ⟨fun w hw => hw.sub (Sub.keep 2 rfl (Sub.keep 2 rfl (Sub.keep 2 rfl (Sub.keep 2 rfl (Sub.nil _))))), ?_⟩
            refine D.eff hwf (e := 13) rfl rfl rfl rfl (Ef.append (xs := blocks) (ys := ([(bs[(((r1[i]'ei).2[k]'ek)).toNat]'e1)] : List B3)) 1 rfl Tryz.underlying24 inf51 rfl rfl rfl rfl rfl rfl hA2 (Ld.own 0 (by exact rfl)) (by simp only [List.length_append, List.length_cons, List.length_nil] at *; omega) (by decide)) rfl rfl rfl ?_
            rintro _ _ ⟨A3, k1, rfl, rfl, hA3⟩ hs
            replace hA3 := hA3 (.inr (by simp))
            refine ⟨fun w hw => hw.sub (Sub.keep 2 rfl (Sub.keep 2 rfl (Sub.keep 2 rfl (Sub.keep 2 rfl (Sub.nil _))))), ?_⟩
            refine D.last hwf (e := 14) rfl rfl rfl rfl rfl rfl (Pu.assign rfl rfl) ?_
            refine X.blockNormal ?_
            refine X.next ?_
            refine V.region ?_
            refine O.p rfl rfl rfl (Pu.move rfl rfl) ?_
            refine O.p rfl rfl rfl (Pu.add64 (r := ((k + 1 : Nat) : Int)) rfl (by omega) rfl rfl rfl) ?_
            refine O.p rfl rfl rfl (Pu.assign rfl rfl) ?_
            refine O.nil ?_
            exact X.back3 (A3, k1, (blocks ++ ([(bs[(((r1[i]'ei).2[k]'ek)).toNat]'e1)] : List B3)), k + 1) (by (try dsimp only); exact ⟨by omega, by rw [hb, take_snoc (by omega), List.map_append]; simp only [List.map_cons, List.map_nil]; rw [blk_ix hix]⟩) (by first | omega | (dsimp only; omega)) (Ent.cons rfl (Ent.cons rfl (Ent.nil _))) (Ent.cons (t := 1) rfl (Ent.cons (t := 2) rfl (Ent.cons (t := 3) rfl (Ent.cons (t := 4) rfl (Ent.cons (t := 5) rfl (Ent.cons (t := 6) rfl (Ent.nil _))))))) (Sub.keep 1 rfl (Sub.keep 1 rfl (Sub.keep 1 rfl (Sub.keep 1 rfl (Sub.keep 1 rfl (Sub.nil _))))))
          · skip
            refine V.exit ?_
            refine X.thenExit ?_
            refine X.thenExit ?_
            refine X.blockHit ?_
            refine X.next ?_
            refine V.seq ?_
            have hbl : blocks = (r1[i]'ei).2.map (blk bs) := by rw [hb, List.take_of_length_le (by omega)]
            have hpr := part_rest hS hF hm2 hm3
            rw [← hbl] at hpr
            have hbn : blocks.length = count := by rw [hbl, List.length_map]; exact hm1
            refine V.region ?_
            refine O.p rfl rfl rfl (Pu.fieldAddr 0 rfl Tryz.underlying26 rfl sz2 rfl rfl) ?_
            refine O.p rfl rfl rfl (Pu.load rfl pl2 rfl (Ld.blk 4 rfl rfl)) ?_
            refine O.p rfl rfl rfl (Pu.move rfl rfl) ?_
            refine O.p rfl rfl rfl (Pu.buildS (cs := [.int .i64 v, .slice blocksA blocks.length blocksc]) rfl rfl Tryz.underlying26 zr26 (by kernel_rfl) rfl (by kernel_rfl)) ?_
            refine O.e rfl rfl rfl (Ef.call1 call122 rfl rfl (fun w hw => l08RunI_ok 40 v blocks 2 false _ _ w ((Ld.own 0 (by exact rfl)) w hw) (by first | omega | (simp only [tops_len, conts_len, bl, List.length_append, List.length_cons, List.length_nil] at *; omega)) hfl.2.2.2 hfl.2.2.1 hpr.1.ok hpr.2 (by decide) (by decide) (by have := (run_two (l := leaf [] (compM 40 v.toNat (maskB 0 blocks)))).1; omega) (by decide) (by omega))) ?_
            rintro _ _ rfl
            refine O.exi (fun sb1 => ?_)
            refine O.sep ?_
            refine O.pur ?_
            rintro rfl
            refine O.srchK (fun uA1 uk1 U1 fA1 fk1 ps1 hrel1 hcon1 hsom1 => ?_)
            refine O.fact (RowsA.len 3 rfl) (fun hn_ps1 => ?_)
            have htl_ps1 := tops_len ps1
            have hul_U1 := hrel1.1
            refine O.p rfl rfl rfl (Pu.nilCheck rfl rfl) ?_
            refine O.p rfl rfl rfl (Pu.fieldAddr 2 rfl Tryz.underlying102 rfl sz2 rfl rfl) ?_
            refine O.p rfl rfl rfl (Pu.load rfl pl2 rfl (Ld.blk 0 rfl rfl)) ?_
            refine O.p rfl rfl rfl (Pu.eql rfl rfl rfl) ?_
            refine O.nil ?_
            refine X.next ?_
            refine V.condD rfl (fun c6 => ?_) (fun c6 => ?_)
            · skip
              have hfx : FixP bs (allN v) (maskL (r1[i]'ei).2) := (fix_spec hS hF hm2 hm3).1 (by rw [← hbl]; have h6 := run_two.2.1 (show (runC (fun j => decide (j < 2)) 0 (leaf [] (compM 40 v.toNat (maskB 0 blocks)))).length = 1 by omega); rwa [leaf_len] at h6)
              refine V.seq ?_
              refine V.region ?_
              refine O.p rfl rfl rfl (Pu.move rfl rfl) ?_
              refine O.p rfl rfl rfl (Pu.move rfl rfl) ?_
              refine O.p rfl rfl rfl (Pu.indexAddrS (i) rfl Tryz.underlying28 sz34 rfl rfl (by omega) (by omega) (fun w hw => Own.some hw (i := 6) (by exact rfl) (by omega))) ?_
              refine O.p rfl rfl rfl (Pu.load rfl pl34 rfl (Ld.row (Ld.own 6 (by exact rfl)) hn_r1 ei rfl)) ?_
              refine O.p rfl rfl rfl (Pu.assign rfl rfl) ?_
              refine O.p rfl rfl rfl (Pu.assign rfl rfl) ?_
              refine O.nil ?_
              refine X.next ?_
              refine V.ret ?_
              refine X.blockRet ?_
              refine X.thenRet ?_
              refine X.thenRet ?_
              refine X.blockRet ?_
              refine X.blockRet ?_
              refine X.thenRet ?_
              refine X.thenRet ?_
              refine X.blockRet ?_
              refine X.map (fun w hw => RowsA.out (T := 2) (C := I64) (ps := r1) (k := i) ei (hw.perm (pull_perm (i := 7) rfl))) ?_
              refine X.ret2 rfl rfl rfl ?_
              exact fun w hw => St.mkExi ((r1[i]'ei).1.A) (St.mkExi ((r1[i]'ei).1.c) (St.mkExi ((r1[i]'ei).2) (St.unsep (St.addPur ⟨(by rw [if_neg (not_not_intro hS), if_neg (not_not_intro c2), if_neg c3]), (by unfold LFR; rw [if_pos ⟨hS, c2, c3⟩]; exact least_row hr1_1 (by omega) ei hfx hno hlow)⟩ (hw.sub (Sub.keep 0 rfl (Sub.nil _)))))))
            · skip
              have hnf : ¬ FixP bs (allN v) (maskL (r1[i]'ei).2) := fun h => c6 (by have h6 := (fix_spec hS hF hm2 hm3).2 h; rw [← hbl] at h6; have h7 := (run_two (l := leaf [] (compM 40 v.toNat (maskB 0 blocks)))).2.2 (by rw [leaf_len]; exact h6); omega)
              refine V.skip ?_
              refine X.blockNormal ?_
              refine X.next ?_
              refine V.region ?_
              refine O.p rfl rfl rfl (Pu.move rfl rfl) ?_
              refine O.p rfl rfl rfl (Pu.add64 (r := ((i + 1 : Nat) : Int)) rfl (by omega) rfl rfl rfl) ?_
              refine O.p rfl rfl rfl (Pu.assign rfl rfl) ?_
              refine O.nil ?_
              exact X.back3 (t2A, t2c, t2, t3, i + 1) (by (try dsimp only); exact ⟨by omega, fun j hj h => by by_cases e : j = i; (· subst e; exact hnf); (· exact hno j hj (by omega))⟩) (by first | omega | (dsimp only; omega)) (Ent.cons rfl (Ent.cons rfl (Ent.cons rfl (Ent.nil _)))) (Ent.cons (t := 1) rfl (Ent.cons (t := 4) rfl (Ent.cons (t := 5) rfl (Ent.nil _)))) (Sub.keep 5 rfl (Sub.keep 5 rfl (Sub.keep 5 rfl (Sub.keep 5 rfl (Sub.nil _)))))
        · skip
          refine V.exit ?_
          refine X.thenExit ?_
          refine X.thenExit ?_
          refine X.blockHit ?_
          refine X.blockNormal ?_
          refine X.next ?_
          refine V.region ?_
          refine O.p rfl rfl rfl (Pu.move rfl rfl) ?_
          refine O.p rfl rfl rfl (Pu.add64 (r := ((count + 1 : Nat) : Int)) rfl (by omega) rfl rfl rfl) ?_
          refine O.p rfl rfl rfl (Pu.assign rfl rfl) ?_
          refine O.nil ?_
          exact X.back3 (t2A, t2c, t2, t3, count + 1) (by (try dsimp only); exact ⟨next_count hS hF hct (none_row hr1_1 (fun j hj => hno j hj (by omega))), fun c hc => by by_cases e : c = count; (· subst e; exact none_row hr1_1 (fun j hj => hno j hj (by omega))); (· exact hlow c (by omega))⟩) (by first | omega | (dsimp only; omega)) (Ent.cons rfl (Ent.cons rfl (Ent.cons rfl (Ent.nil _)))) (Ent.cons (t := 1) rfl (Ent.nil _)) (Sub.keep 0 rfl (Sub.keep 2 rfl (Sub.nil _)))
def layB_ren : Go.Shelf.Ren := ⟨fun | 6 => 261 | 15 => 194 | 14 => 266 | 28 => 237 | 29 => 238 | 20 => 268 | 21 => 269 | 22 => 270 | 23 => 271 | 24 => 272 | 25 => 273 | 26 => 274 | 27 => 275 | 46 => 276 | 47 => 256 | 48 => 257 | 49 => 277 | 50 => 278 | 57 => 279 | n => n, fun | 22 => 24 | 24 => 51 | 25 => 216 | 3 => 3 | 39 => 76 | 0 => 0 | 53 => 171 | 55 => 90 | 4 => 4 | 46 => 187 | 45 => 186 | 50 => 191 | 5 => 5 | 9 => 9 | 66 => 207 | 70 => 211 | 76 => 219 | 77 => 220 | n => n, fun | n => n⟩
theorem layB : SlLaysF0.n6 Tryz.prog layB_ren where
  mixed := by kernel_rfl
  f6 := ⟨Tryz.f261.name, by decide, Tryz.func261.trans (congrArg some (by kernel_rfl))⟩
  f14 := ⟨Tryz.f266.name, by decide, Tryz.func266.trans (congrArg some (by kernel_rfl))⟩
  f15 := Tryz.func194.trans (congrArg some (by kernel_rfl))
  f20 := ⟨Tryz.f268.name, by decide, Tryz.func268.trans (congrArg some (by kernel_rfl))⟩
  f21 := ⟨Tryz.f269.name, by decide, Tryz.func269.trans (congrArg some (by kernel_rfl))⟩
  f22 := ⟨Tryz.f270.name, by decide, Tryz.func270.trans (congrArg some (by kernel_rfl))⟩
  f23 := ⟨Tryz.f271.name, by decide, Tryz.func271.trans (congrArg some (by kernel_rfl))⟩
  f24 := ⟨Tryz.f272.name, by decide, Tryz.func272.trans (congrArg some (by kernel_rfl))⟩
  f25 := ⟨Tryz.f273.name, by decide, Tryz.func273.trans (congrArg some (by kernel_rfl))⟩
  f26 := ⟨Tryz.f274.name, by decide, Tryz.func274.trans (congrArg some (by kernel_rfl))⟩
  f27 := ⟨Tryz.f275.name, by decide, Tryz.func275.trans (congrArg some (by kernel_rfl))⟩
  f28 := Tryz.func237.trans (congrArg some (by kernel_rfl))
  f29 := Tryz.func238.trans (congrArg some (by kernel_rfl))
  f46 := ⟨Tryz.f276.name, by decide, Tryz.func276.trans (congrArg some (by kernel_rfl))⟩
  f47 := Tryz.func256.trans (congrArg some (by kernel_rfl))
  f48 := Tryz.func257.trans (congrArg some (by kernel_rfl))
  f49 := ⟨Tryz.f277.name, by decide, Tryz.func277.trans (congrArg some (by kernel_rfl))⟩
  f50 := ⟨Tryz.f278.name, by decide, Tryz.func278.trans (congrArg some (by kernel_rfl))⟩
  f57 := ⟨Tryz.f279.name, by decide, Tryz.func279.trans (congrArg some (by kernel_rfl))⟩
  t0 := Tryz.underlying0
  a0 := Tryz.isAgg0
  z0 := Tryz.sizeOf0
  v0 := Tryz.zeroValue0
  t3 := Tryz.underlying3
  a3 := Tryz.isAgg3
  z3 := Tryz.sizeOf3
  v3 := Tryz.zeroValue3
  t4 := Tryz.underlying4
  a4 := Tryz.isAgg4
  z4 := Tryz.sizeOf4
  v4 := Tryz.zeroValue4
  t5 := Tryz.underlying5
  a5 := Tryz.isAgg5
  z5 := Tryz.sizeOf5
  v5 := Tryz.zeroValue5
  t9 := Tryz.underlying9
  a9 := Tryz.isAgg9
  z9 := Tryz.sizeOf9
  v9 := Tryz.zeroValue9
  t22 := Tryz.underlying24
  a22 := Tryz.isAgg24
  z22 := Tryz.sizeOf24
  v22 := Tryz.zeroValue24
  t25 := Tryz.underlying216
  a25 := Tryz.isAgg216
  z25 := Tryz.sizeOf216
  v25 := Tryz.zeroValue216
  t39 := Tryz.underlying76
  a39 := Tryz.isAgg76
  z39 := Tryz.sizeOf76
  v39 := Tryz.zeroValue76
  t45 := Tryz.underlying186
  a45 := Tryz.isAgg186
  z45 := Tryz.sizeOf186
  v45 := Tryz.zeroValue186
  t46 := Tryz.underlying187
  a46 := Tryz.isAgg187
  z46 := Tryz.sizeOf187
  v46 := Tryz.zeroValue187
  t50 := Tryz.underlying191
  a50 := Tryz.isAgg191
  z50 := Tryz.sizeOf191
  v50 := Tryz.zeroValue191
  t53 := Tryz.underlying171
  a53 := Tryz.isAgg171
  z53 := Tryz.sizeOf171
  v53 := Tryz.zeroValue171
  t55 := Tryz.underlying90
  a55 := Tryz.isAgg90
  z55 := Tryz.sizeOf90
  v55 := Tryz.zeroValue90
  t66 := Tryz.underlying207
  a66 := Tryz.isAgg207
  z66 := Tryz.sizeOf207
  v66 := Tryz.zeroValue207
  t70 := Tryz.underlying211
  a70 := Tryz.isAgg211
  z70 := Tryz.sizeOf211
  v70 := Tryz.zeroValue211
  t76 := Tryz.underlying219
  a76 := Tryz.isAgg219
  z76 := Tryz.sizeOf219
  v76 := Tryz.zeroValue219
  t77 := Tryz.underlying220
  a77 := Tryz.isAgg220
  z77 := Tryz.sizeOf220
  v77 := Tryz.zeroValue220
theorem sortB_ok (xs : List B3) (xsA : Option Addr) (xsc : Nat) (w0 : World) (H : List Assn) (lxs : xs.length ≤ 1099511627776) : Does Tryz.prog 261 [.slice xsA xs.length xsc, .func (.func 220) #[] #[]] w0 (Own 51 B3C xsA xsc xs :: H) (fun v => [.exi fun ys : List B3 => .sep (.pur (v = .tuple #[] ∧ ys.Perm xs ∧ SrtB ys)) (Own 51 B3C xsA xsc ys)] ++ H) :=
  (sortK_does (C := B3C) layB Tryz.isAgg51 Tryz.sizeOf51 (fun x y => cmpL (bl x) (bl y)) swoB call220 (fun zs W _ x y => compare_ok x y W) (by omega)).mono (fun v w hs => by
    obtain ⟨ys, hs⟩ := St.exi hs
    obtain ⟨⟨h1, h2, h3⟩, h4⟩ := hs.sep.pur
    exact St.mkExi ys (St.unsep (St.addPur ⟨h1, h2, srt_of h3⟩ h4)))
set_option maxRecDepth 100000 in
set_option maxHeartbeats 1000000 in
theorem sorted_ok (blocks : List B3) (blocksA : Option Addr) (blocksc : Nat) (w : World) (hblocks : Rd B3C w blocksA blocks) (lblocks : blocks.length ≤ 1099511627776) (lb : blocks.length ≤ 1000000) : Does Tryz.prog 243 [.slice blocksA blocks.length blocksc] w [] (fun rv_ => [.exi fun (rA : Option Addr) => .exi fun (rc : Nat) => .exi fun (r : List B3) => .sep (.pur (rv_ = .slice rA r.length rc ∧ r.Perm blocks ∧ SrtB r)) (Own 51 B3C rA rc r)]) := by
  refine Does.enter Tryz.func243 rfl rfl [(0, .slice blocksA blocks.length blocksc)] rfl ?_
  refine V.seq ?_
  refine V.region ?_
  refine O.p rfl rfl rfl (Pu.assign rfl rfl) ?_
  refine O.nil ?_
  refine X.next ?_
  refine V.seq ?_
  refine V.region ?_
  refine O.p rfl rfl rfl (Pu.move rfl rfl) ?_
  refine O.e rfl rfl rfl (Ef.call1 call241 rfl rfl (fun w hw => cloneB_ok blocks _ _ w ((Ld.old hblocks) w hw) (by first | omega | (simp only [tops_len] at *; omega)))) ?_
  rintro _ _ rfl
  refine O.exi (fun p1 => ?_)
  refine O.sep ?_
  refine O.pur ?_
  rintro ⟨rfl, hp1⟩
  refine O.p rfl rfl rfl (Pu.assign rfl rfl) ?_
  refine O.nil ?_
  refine X.next ?_
  refine V.seq ?_
  refine V.region ?_
  refine O.p rfl rfl rfl (Pu.move rfl rfl) ?_
  refine O.e rfl rfl rfl (Ef.call call261 rfl rfl (Does.pre (fun w hw => hw.sub (Sub.keep 0 rfl (Sub.nil _))) (sortB_ok  (p1.2) _ _ w _   (by rw [hp1]; omega)))) ?_
  rintro _ _ rfl
  refine O.exi (fun ys1 => ?_)
  refine O.sep ?_
  refine O.pur ?_
  rintro ⟨rfl, hys1_1, hys1_2⟩
  refine O.nil ?_
  refine X.next ?_
  refine V.seq ?_
  refine V.region ?_
  refine O.p rfl rfl rfl (Pu.move rfl rfl) ?_
  refine O.p rfl rfl rfl (Pu.assign rfl rfl) ?_
  refine O.nil ?_
  refine X.next ?_
  refine V.ret ?_
  refine X.ret1 rfl rfl ?_
  exact fun w hw => St.mkExi (p1.1.1) (St.mkExi (p1.1.2) (St.mkExi ys1 (St.unsep (St.addPur ⟨(by rw [hys1_1.length_eq]), hys1_1.trans (by rw [hp1]), hys1_2⟩ (hw.sub (Sub.keep 0 rfl (Sub.nil _)))))))
set_option maxRecDepth 100000 in
set_option maxHeartbeats 1000000 in
theorem system_ok (v_ : Int) (blocks : List B3) (blocksA : Option Addr) (blocksc : Nat) (w : World) (hblocks : Rd B3C w blocksA blocks) (lblocks : blocks.length ≤ 1099511627776) (lb : blocks.length ≤ 1000000) : Does Tryz.prog 202 [.int .i64 v_, .slice blocksA blocks.length blocksc] w [] (fun rv_ => [.exi fun (rA : Option Addr) => .exi fun (rc : Nat) => .exi fun (r : List B3) => .sep (.pur (rv_ = .agg #[.int .i64 v_, .slice rA r.length rc] ∧ r.Perm blocks ∧ SrtB r)) (Own 51 B3C rA rc r)]) := by
  refine Does.enter Tryz.func202 rfl rfl [(0, .int .i64 v_), (1, .slice blocksA blocks.length blocksc)] rfl ?_
  refine V.seq ?_
  refine V.region ?_
  refine O.e rfl rfl rfl (Ef.alloc rfl zr26 rfl) ?_
  rintro _ _ ⟨b1, rfl, rfl⟩
  refine O.nil ?_
  refine X.next ?_
  refine V.seq ?_
  refine V.region ?_
  refine O.p rfl rfl rfl (Pu.move rfl rfl) ?_
  refine O.p rfl rfl rfl (Pu.move rfl rfl) ?_
  refine O.e rfl rfl rfl (Ef.call1 call243 rfl rfl (fun w hw => sorted_ok  blocks _ _ w ((Ld.old hblocks) w hw) (by first | omega | (simp only [tops_len, conts_len, bl, List.length_append, List.length_cons, List.length_nil] at *; omega)) (by first | assumption | omega | (try dsimp only at *; omega)))) ?_
  rintro _ _ rfl
  refine O.exi (fun r1A => ?_)
  refine O.exi (fun r1c => ?_)
  refine O.exi (fun r1 => ?_)
  refine O.sep ?_
  refine O.pur ?_
  rintro ⟨rfl, hr1_1, hr1_2⟩
  refine O.p rfl rfl rfl (Pu.buildS (cs := [.int .i64 v_, .slice r1A r1.length r1c]) rfl rfl Tryz.underlying26 zr26 (by kernel_rfl) rfl (by kernel_rfl)) ?_
  refine O.s rfl rfl (Ef.storeAll 1 rfl sz26 rfl rfl rfl rfl (by simp [Value.oneCell']) rfl) ?_
  rintro _ _ rfl
  refine O.nil ?_
  refine X.next ?_
  refine V.ret ?_
  refine X.retCell rfl ag26 sz26 rfl rfl (Ld.whole 1 rfl) ?_
  exact fun w hw => St.mkExi r1A (St.mkExi r1c (St.mkExi r1 (St.unsep (St.addPur ⟨rfl, hr1_1, hr1_2⟩ (hw.sub (Sub.keep 0 rfl (Sub.nil _)))))))
set_option maxRecDepth 100000 in
set_option maxHeartbeats 1000000 in
theorem l01From_ok (code : List UInt8) (codeA : Option Addr) (codec : Nat) (w : World) (hcode : Rd U8C w codeA code) (lcode : code.length ≤ 1099511627776) (lc : code.length ≤ 1048576) : Does Tryz.prog 76 [.slice codeA code.length codec] w [] (fun r => [.exi fun (s : Nat) => .sep (.pur (r = .pointer (some ⟨s, 0, none⟩))) (SrcK 132 codeA codec code s)]) := by
  refine Does.enter Tryz.func76 rfl rfl [(0, .slice codeA code.length codec)] rfl ?_
  refine V.seq ?_
  refine V.region ?_
  refine O.p rfl rfl rfl (Pu.assign rfl rfl) ?_
  refine O.nil ?_
  refine X.next ?_
  refine V.seq ?_
  refine V.region ?_
  refine O.p rfl rfl rfl (Pu.move rfl rfl) ?_
  refine O.p rfl rfl rfl (Pu.move rfl rfl) ?_
  refine O.p rfl rfl rfl (Pu.len rfl Tryz.underlying22 rfl) ?_
  refine O.p rfl rfl rfl (Pu.convU' code.length (by omega) ⟨_, Tryz.underlying3⟩ Tryz.underlying90 (by omega) rfl rfl) ?_
  refine O.p rfl rfl rfl (Pu.addU (m := 13551) (n := code.length) rfl rfl rfl) ?_
  refine O.p rfl rfl rfl (Pu.buildS (cs := [.slice codeA code.length codec, .int .i64 (0 : Int), .int .u64 (↑(((13551 + code.length) % 18446744073709551616)) : Int)]) rfl rfl Tryz.underlying132 zr132 (by kernel_rfl) rfl (by kernel_rfl)) ?_
  refine O.e rfl rfl rfl (Ef.box rfl rfl rfl) ?_
  rintro _ _ ⟨b1, rfl, rfl⟩
  refine O.p rfl rfl rfl (Pu.assign rfl rfl) ?_
  refine O.nil ?_
  refine X.next ?_
  refine V.seq ?_
  refine V.seq ?_
  refine V.map (fun w hw => SrcK.mk (a := 0) (h := ((13551 + code.length) % 18446744073709551616)) ⟨by omega, by omega⟩ hw) ?_
  refine V.region ?_
  refine O.p rfl rfl rfl (Pu.assign rfl rfl) ?_
  refine O.nil ?_
  refine X.next ?_
  refine V.block ?_
  refine V.loop3 (β := Nat) (fun i => [(4, .int .i64 (i : Int))]) _ (fun i => []) _ (fun i => i ≤ code.length) (fun i => code.length - i) 0 (by omega) (Ent.cons rfl (Ent.nil _)) (Ent.cons (t := 0) rfl (Ent.cons (t := 3) rfl (Ent.nil _))) (Sub.keep 0 rfl (Sub.nil _)) ?_
  rintro i hi
  refine V.seq ?_
  refine V.seq ?_
  refine V.region ?_
  refine O.p rfl rfl rfl (Pu.move rfl rfl) ?_
  refine O.p rfl rfl rfl (Pu.move rfl rfl) ?_
  refine O.p rfl rfl rfl (Pu.len rfl Tryz.underlying22 rfl) ?_
  refine O.p rfl rfl rfl (Pu.lss rfl rfl rfl) ?_
  refine O.p rfl rfl rfl (Pu.move rfl rfl) ?_
  refine O.splitD 16 rfl (fun c1 => ?_) (fun c1 => ?_)
  · skip
    refine O.gp rfl rfl rfl rfl rfl (Pu.move rfl rfl) ?_
    refine O.gp rfl rfl rfl rfl rfl (Pu.lss rfl rfl rfl) ?_
    refine O.p rfl rfl rfl (Pu.pickT rfl rfl rfl) ?_
    refine O.nil ?_
    refine X.next ?_
    refine V.condD rfl (fun c2 => ?_) (fun c2 => ?_)
    · skip
      refine V.skip ?_
      refine X.next ?_
      refine V.seq ?_
      refine V.block ?_
      refine V.srcK (fun at1 word1 hat1 hword1 => ?_)
      refine V.draw mo (by kernel_rfl) (fun hwf => ?_)
      refine D.p 0 rfl rfl rfl rfl rfl rfl (Pu.move rfl rfl) ?_
      refine D.p 1 rfl rfl rfl rfl rfl rfl (Pu.move rfl rfl) ?_
      refine D.p 2 rfl rfl rfl rfl rfl rfl (Pu.nilCheck rfl rfl) ?_
      refine D.p 3 rfl rfl rfl rfl rfl rfl (Pu.fieldAddr 2 rfl Tryz.underlying132 rfl sz90 rfl rfl) ?_
      refine D.p 4 rfl rfl rfl rfl rfl rfl (Pu.load rfl pl90 rfl (Ld.blk 0 rfl rfl)) ?_
      refine D.p 5 rfl rfl rfl rfl rfl rfl (Pu.mulU (m := word1) (n := 1099511628211) rfl rfl rfl) ?_
      refine D.p 6 rfl rfl rfl rfl rfl rfl (Pu.move rfl rfl) ?_
      refine D.p 7 rfl rfl rfl rfl rfl rfl (Pu.move rfl rfl) ?_
      refine D.p 8 rfl rfl rfl rfl rfl rfl (Pu.indexAddr (i) rfl Tryz.underlying22 sz5 rfl rfl (by omega) (by omega) (hcode.some (by omega))) ?_
      have e1 : i < code.length := by omega
      have hu1 := UInt8.toNat_lt (code[i]'e1)
      refine D.p 9 rfl rfl rfl rfl rfl rfl (Pu.load rfl pl5 rfl (Ld.rd (Ld.old hcode) (k := i) e1 rfl rfl)) ?_
      refine D.p 10 rfl rfl rfl rfl rfl rfl (Pu.convU' ((code[i]'e1).toNat) (by omega) ⟨_, Tryz.underlying5⟩ Tryz.underlying90 (by omega) rfl rfl) ?_
      refine D.p 11 rfl rfl rfl rfl rfl rfl (Pu.addU (m := (word1 * 1099511628211 % 18446744073709551616)) (n := (code[i]'e1).toNat) rfl rfl rfl) ?_
      refine D.p 12 rfl rfl rfl rfl rfl rfl (Pu.addU (m := (((word1 * 1099511628211 % 18446744073709551616) + (code[i]'e1).toNat) % 18446744073709551616)) (n := 179) rfl rfl rfl) ?_
      refine D.p 13 rfl rfl rfl rfl rfl rfl (Pu.nilCheck rfl rfl) ?_
      refine D.p 14 rfl rfl rfl rfl rfl rfl (Pu.fieldAddr 2 rfl Tryz.underlying132 rfl sz90 rfl rfl) ?_
      refine D.effX (Hs' := []) hwf (e := 15) rfl rfl rfl rfl (Ef.store1 (cs' := [_, _, _]) 0 rfl sz90 rfl rfl rfl rfl rfl (ltb rfl) rfl) rfl [13] rfl (List.forall_mem_cons.2 ⟨⟨35, _, rfl, rfl, Det.of rfl rfl rfl (Pu.nilCheck rfl rfl)⟩, List.forall_mem_nil _⟩) ?_
      rintro _ _ rfl
      refine ⟨fun w hw => hw.sub (Sub.nil _), ?_⟩
      refine D.done hwf rfl ?_
      refine X.blockNormal ?_
      refine X.next ?_
      refine V.map (fun w hw => SrcK.mk (a := at1) (h := (((((word1 * 1099511628211 % 18446744073709551616) + (code[i]'e1).toNat) % 18446744073709551616) + 179) % 18446744073709551616)) ⟨by omega, by omega⟩ hw) ?_
      refine V.region ?_
      refine O.p rfl rfl rfl (Pu.move rfl rfl) ?_
      refine O.p rfl rfl rfl (Pu.add64 (r := ((i + 1 : Nat) : Int)) rfl (by omega) rfl rfl rfl) ?_
      refine O.p rfl rfl rfl (Pu.assign rfl rfl) ?_
      refine O.nil ?_
      exact X.back3 (i + 1) (by omega) (by first | omega | (dsimp only; omega)) (Ent.cons rfl (Ent.nil _)) (Ent.cons (t := 0) rfl (Ent.cons (t := 3) rfl (Ent.nil _))) (Sub.keep 0 rfl (Sub.nil _))
    · skip
      refine V.exit ?_
      refine X.thenExit ?_
      refine X.thenExit ?_
      refine X.blockHit ?_
      refine X.next ?_
      refine V.seq ?_
      refine V.region ?_
      refine O.p rfl rfl rfl (Pu.move rfl rfl) ?_
      refine O.p rfl rfl rfl (Pu.assign rfl rfl) ?_
      refine O.nil ?_
      refine X.next ?_
      refine V.ret ?_
      refine X.ret1 rfl rfl ?_
      exact fun w hw => St.mkExi b1 (St.unsep (St.addPur rfl (hw.sub (Sub.keep 0 rfl (Sub.nil _)))))
  · skip
    refine O.gs rfl rfl rfl rfl rfl rfl ?_
    refine O.gs rfl rfl rfl rfl rfl rfl ?_
    refine O.p rfl rfl rfl (Pu.pickF rfl rfl rfl) ?_
    refine O.nil ?_
    refine X.next ?_
    refine V.condF rfl ?_
    refine V.exit ?_
    refine X.thenExit ?_
    refine X.thenExit ?_
    refine X.blockHit ?_
    refine X.next ?_
    refine V.seq ?_
    refine V.region ?_
    refine O.p rfl rfl rfl (Pu.move rfl rfl) ?_
    refine O.p rfl rfl rfl (Pu.assign rfl rfl) ?_
    refine O.nil ?_
    refine X.next ?_
    refine V.ret ?_
    refine X.ret1 rfl rfl ?_
    exact fun w hw => St.mkExi b1 (St.unsep (St.addPur rfl (hw.sub (Sub.keep 0 rfl (Sub.nil _)))))
set_option maxRecDepth 100000 in
set_option maxHeartbeats 1000000 in
theorem l01Next_ok (cA : Option Addr) (cc : Nat) (code : List UInt8) (s : Nat) (n : Int) (w0 : World) (H : List Assn) (hc : Rd U8C w0 cA code) (lc : code.length ≤ 1048576) : Does Tryz.prog 92 [.pointer (some ⟨s, 0, none⟩), .int .i64 n] w0 (SrcK 132 cA cc code s :: H) (fun rv_ => [.exi fun (r : Int) => .sep (.pur (rv_ = .int .i64 r ∧ 0 ≤ r ∧ (n < 1 → r = 0) ∧ (1 ≤ n → r < n))) (SrcK 132 cA cc code s)] ++ H) := by
  refine Does.enter Tryz.func92 rfl rfl [(0, .pointer (some ⟨s, 0, none⟩)), (1, .int .i64 n)] rfl ?_
  refine V.seq ?_
  refine V.region ?_
  refine O.p rfl rfl rfl (Pu.assign rfl rfl) ?_
  refine O.nil ?_
  refine X.next ?_
  refine V.seq ?_
  refine V.seq ?_
  refine V.region ?_
  refine O.p rfl rfl rfl (Pu.move rfl rfl) ?_
  refine O.p rfl rfl rfl (Pu.lss rfl rfl rfl) ?_
  refine O.nil ?_
  refine X.next ?_
  refine V.condD rfl (fun c1 => ?_) (fun c1 => ?_)
  · skip
    refine V.seq ?_
    refine V.region ?_
    refine O.p rfl rfl rfl (Pu.assign rfl rfl) ?_
    refine O.nil ?_
    refine X.next ?_
    refine V.ret ?_
    refine X.thenRet ?_
    refine X.ret1 rfl rfl ?_
    exact fun w hw => St.mkExi (0 : Int) (St.unsep (St.addPur ⟨rfl, by omega, by omega, by omega⟩ (hw.sub (Sub.keep 0 rfl (Sub.refl _)))))
  · skip
    refine V.skip ?_
    refine X.next ?_
    refine V.seq ?_
    refine V.srcK (fun at1 word1 hat1 hword1 => ?_)
    refine V.region ?_
    refine O.p rfl rfl rfl (Pu.move rfl rfl) ?_
    refine O.p rfl rfl rfl (Pu.move rfl rfl) ?_
    refine O.p rfl rfl rfl (Pu.nilCheck rfl rfl) ?_
    refine O.p rfl rfl rfl (Pu.fieldAddr 2 rfl Tryz.underlying132 rfl sz90 rfl rfl) ?_
    refine O.p rfl rfl rfl (Pu.load rfl pl90 rfl (Ld.blk 0 rfl rfl)) ?_
    refine O.p rfl rfl rfl (Pu.mulU (m := word1) (n := 6364136223846793005) rfl rfl rfl) ?_
    refine O.p rfl rfl rfl (Pu.addU (m := (word1 * 6364136223846793005 % 18446744073709551616)) (n := 1442695040888963407) rfl rfl rfl) ?_
    refine O.p rfl rfl rfl (Pu.nilCheck rfl rfl) ?_
    refine O.p rfl rfl rfl (Pu.fieldAddr 2 rfl Tryz.underlying132 rfl sz90 rfl rfl) ?_
    refine O.s rfl rfl (Ef.store1 (cs' := [_, _, _]) 0 rfl sz90 rfl rfl rfl rfl rfl (ltb rfl) rfl) ?_
    rintro _ _ rfl
    refine O.nil ?_
    refine X.next ?_
    refine V.seq ?_
    refine V.region ?_
    refine O.p rfl rfl rfl (Pu.move rfl rfl) ?_
    refine O.p rfl rfl rfl (Pu.nilCheck rfl rfl) ?_
    refine O.p rfl rfl rfl (Pu.fieldAddr 2 rfl Tryz.underlying132 rfl sz90 rfl rfl) ?_
    refine O.p rfl rfl rfl (Pu.load rfl pl90 rfl (Ld.blk 0 rfl rfl)) ?_
    refine O.p rfl rfl rfl (Pu.shr (m := (((word1 * 6364136223846793005 % 18446744073709551616) + 1442695040888963407) % 18446744073709551616)) (p := 33) K64.u (by omega) rfl rfl rfl) ?_
    have hle1 := and_le_r (m := ((((word1 * 6364136223846793005 % 18446744073709551616) + 1442695040888963407) % 18446744073709551616) >>> 33)) (n := 16777215)
    refine O.p rfl rfl rfl (Pu.andU (m := ((((word1 * 6364136223846793005 % 18446744073709551616) + 1442695040888963407) % 18446744073709551616) >>> 33)) (n := 16777215) (Nat.lt_of_le_of_lt (Nat.shiftRight_le _ _) (by omega)) (by decide) rfl rfl rfl) ?_
    refine O.p rfl rfl rfl (Pu.conv64 ⟨_, Tryz.underlying90⟩ Tryz.underlying2 (by omega) rfl rfl) ?_
    refine O.p rfl rfl rfl (Pu.assign rfl rfl) ?_
    refine O.nil ?_
    refine X.next ?_
    refine V.seq ?_
    refine V.seq ?_
    refine V.draw mo (by kernel_rfl) (fun hwf => ?_)
    refine D.p 0 rfl rfl rfl rfl rfl rfl (Pu.move rfl rfl) ?_
    refine D.p 1 rfl rfl rfl rfl rfl rfl (Pu.nilCheck rfl rfl) ?_
    refine D.p 2 rfl rfl rfl rfl rfl rfl (Pu.fieldAddr 1 rfl Tryz.underlying132 rfl sz3 rfl rfl) ?_
    refine D.p 3 rfl rfl rfl rfl rfl rfl (Pu.load rfl pl3 rfl (Ld.blk 0 rfl rfl)) ?_
    refine D.p 4 rfl rfl rfl rfl rfl rfl (Pu.move rfl rfl) ?_
    refine D.p 5 rfl rfl rfl rfl rfl rfl (Pu.nilCheck rfl rfl) ?_
    refine D.p 6 rfl rfl rfl rfl rfl rfl (Pu.fieldAddr 0 rfl Tryz.underlying132 rfl sz22 rfl rfl) ?_
    refine D.p 7 rfl rfl rfl rfl rfl rfl (Pu.load rfl pl22 rfl (Ld.blk 0 rfl rfl)) ?_
    refine D.p 8 rfl rfl rfl rfl rfl rfl (Pu.len rfl Tryz.underlying22 rfl) ?_
    refine D.p 9 rfl rfl rfl rfl rfl rfl (Pu.lss rfl rfl rfl) ?_
    refine D.done hwf rfl ?_
    refine X.next ?_
    refine V.condD rfl (fun c2 => ?_) (fun c2 => ?_)
    · skip
      refine V.seq ?_
      refine V.draw mo (by kernel_rfl) (fun hwf => ?_)
      refine D.p 0 rfl rfl rfl rfl rfl rfl (Pu.move rfl rfl) ?_
      refine D.p 1 rfl rfl rfl rfl rfl rfl (Pu.move rfl rfl) ?_
      refine D.p 2 rfl rfl rfl rfl rfl rfl (Pu.nilCheck rfl rfl) ?_
      refine D.p 3 rfl rfl rfl rfl rfl rfl (Pu.fieldAddr 0 rfl Tryz.underlying132 rfl sz22 rfl rfl) ?_
      refine D.p 4 rfl rfl rfl rfl rfl rfl (Pu.load rfl pl22 rfl (Ld.blk 0 rfl rfl)) ?_
      refine D.p 5 rfl rfl rfl rfl rfl rfl (Pu.move rfl rfl) ?_
      refine D.p 6 rfl rfl rfl rfl rfl rfl (Pu.nilCheck rfl rfl) ?_
      refine D.p 7 rfl rfl rfl rfl rfl rfl (Pu.fieldAddr 1 rfl Tryz.underlying132 rfl sz3 rfl rfl) ?_
      refine D.p 8 rfl rfl rfl rfl rfl rfl (Pu.load rfl pl3 rfl (Ld.blk 0 rfl rfl)) ?_
      refine D.p 9 rfl rfl rfl rfl rfl rfl (Pu.indexAddr (at1) rfl Tryz.underlying22 sz5 rfl rfl (by omega) (by omega) (hc.some (by omega))) ?_
      have e1 : at1 < code.length := by omega
      have hu1 := UInt8.toNat_lt (code[at1]'e1)
      refine D.p 10 rfl rfl rfl rfl rfl rfl (Pu.load rfl pl5 rfl (Ld.rd (Ld.old hc) (k := at1) e1 rfl rfl)) ?_
      refine D.p 11 rfl rfl rfl rfl rfl rfl (Pu.conv64 ⟨_, Tryz.underlying5⟩ Tryz.underlying2 (by omega) rfl rfl) ?_
      refine D.p 12 rfl rfl rfl rfl rfl rfl (Pu.add64 (r := (((((((word1 * 6364136223846793005 % 18446744073709551616) + 1442695040888963407) % 18446744073709551616) >>> 33) &&& 16777215) + (code[at1]'e1).toNat : Nat) : Int)) (by omega) (by omega) rfl rfl rfl) ?_
      refine D.last hwf (e := 13) rfl rfl rfl rfl rfl rfl (Pu.assign rfl rfl) ?_
      refine X.next ?_
      refine V.region ?_
      refine O.p rfl rfl rfl (Pu.move rfl rfl) ?_
      refine O.p rfl rfl rfl (Pu.move rfl rfl) ?_
      refine O.p rfl rfl rfl (Pu.nilCheck rfl rfl) ?_
      refine O.p rfl rfl rfl (Pu.fieldAddr 1 rfl Tryz.underlying132 rfl sz3 rfl rfl) ?_
      refine O.p rfl rfl rfl (Pu.load rfl pl3 rfl (Ld.blk 0 rfl rfl)) ?_
      refine O.p rfl rfl rfl (Pu.add64 (r := ((at1 + 1 : Nat) : Int)) rfl (by omega) rfl rfl rfl) ?_
      refine O.p rfl rfl rfl (Pu.nilCheck rfl rfl) ?_
      refine O.p rfl rfl rfl (Pu.fieldAddr 1 rfl Tryz.underlying132 rfl sz3 rfl rfl) ?_
      refine O.s rfl rfl (Ef.store1 (cs' := [_, _, _]) 0 rfl sz3 rfl rfl rfl rfl rfl (ltb rfl) rfl) ?_
      rintro _ _ rfl
      refine O.nil ?_
      refine X.next ?_
      refine V.seq ?_
      refine V.map (fun w hw => SrcK.mk (a := at1 + 1) (h := (((word1 * 6364136223846793005 % 18446744073709551616) + 1442695040888963407) % 18446744073709551616)) ⟨by omega, by omega⟩ hw) ?_
      refine V.region ?_
      refine O.p rfl rfl rfl (Pu.move rfl rfl) ?_
      refine O.p rfl rfl rfl (Pu.move rfl rfl) ?_
      refine O.p rfl rfl rfl (Pu.rem64 (by omega) (by omega) rfl rfl rfl) ?_
      refine O.p rfl rfl rfl (Pu.assign rfl rfl) ?_
      refine O.nil ?_
      refine X.next ?_
      refine V.ret ?_
      refine X.ret1 rfl rfl ?_
      exact fun w hw => St.mkExi ((↑((((((word1 * 6364136223846793005 % 18446744073709551616) + 1442695040888963407) % 18446744073709551616) >>> 33) &&& 16777215) + (code[at1]'e1).toNat) : Int) % n) (St.unsep (St.addPur ⟨rfl, Int.emod_nonneg _ (by omega), fun h => by omega, fun h => Int.emod_lt_of_pos _ (by omega)⟩ (hw.sub (Sub.keep 0 rfl (Sub.refl _)))))
    · skip
      refine V.skip ?_
      refine X.next ?_
      refine V.seq ?_
      refine V.map (fun w hw => SrcK.mk (a := at1) (h := (((word1 * 6364136223846793005 % 18446744073709551616) + 1442695040888963407) % 18446744073709551616)) ⟨by omega, by omega⟩ hw) ?_
      refine V.region ?_
      refine O.p rfl rfl rfl (Pu.move rfl rfl) ?_
      refine O.p rfl rfl rfl (Pu.move rfl rfl) ?_
      refine O.p rfl rfl rfl (Pu.rem64 (by omega) (by omega) rfl rfl rfl) ?_
      refine O.p rfl rfl rfl (Pu.assign rfl rfl) ?_
      refine O.nil ?_
      refine X.next ?_
      refine V.ret ?_
      refine X.ret1 rfl rfl ?_
      exact fun w hw => St.mkExi ((↑((((((word1 * 6364136223846793005 % 18446744073709551616) + 1442695040888963407) % 18446744073709551616) >>> 33) &&& 16777215)) : Int) % n) (St.unsep (St.addPur ⟨rfl, Int.emod_nonneg _ (by omega), fun h => by omega, fun h => Int.emod_lt_of_pos _ (by omega)⟩ (hw.sub (Sub.keep 0 rfl (Sub.refl _)))))
set_option maxRecDepth 100000 in
set_option maxHeartbeats 1000000 in
theorem l01Pick_ok (cA : Option Addr) (cc : Nat) (code : List UInt8) (s : Nat) (list : List Int) (listA : Option Addr) (listc : Nat) (w0 : World) (H : List Assn) (hlist : ∀ w, St w0 H w → Rd I64 w listA list) (llist : list.length ≤ 1099511627776) (hc : Rd U8C w0 cA code) (lc : code.length ≤ 1048576) (hl : 0 < list.length) : Does Tryz.prog 93 [.pointer (some ⟨s, 0, none⟩), .slice listA list.length listc] w0 (SrcK 132 cA cc code s :: H) (fun rv_ => [.exi fun (r : Int) => .sep (.pur (rv_ = .int .i64 r ∧ r ∈ list)) (SrcK 132 cA cc code s)] ++ H) := by
  refine Does.enter Tryz.func93 rfl rfl [(0, .pointer (some ⟨s, 0, none⟩)), (1, .slice listA list.length listc)] rfl ?_
  refine V.seq ?_
  refine V.region ?_
  refine O.p rfl rfl rfl (Pu.assign rfl rfl) ?_
  refine O.nil ?_
  refine X.next ?_
  refine V.seq ?_
  refine V.region ?_
  refine O.p rfl rfl rfl (Pu.move rfl rfl) ?_
  refine O.p rfl rfl rfl (Pu.move rfl rfl) ?_
  refine O.p rfl rfl rfl (Pu.move rfl rfl) ?_
  refine O.p rfl rfl rfl (Pu.len rfl Tryz.underlying34 rfl) ?_
  refine O.e rfl rfl rfl (Ef.call call92 rfl rfl (Does.pre (fun w hw => hw.sub (Sub.keep 0 rfl (Sub.refl _))) (l01Next_ok _ _ _ s (↑list.length : Int) w0 _   (by first | assumption | omega | (try dsimp only at *; omega)) (by first | assumption | omega | (try dsimp only at *; omega))))) ?_
  rintro _ _ rfl
  refine O.exi (fun r1 => ?_)
  refine O.sep ?_
  refine O.pur ?_
  rintro ⟨rfl, hr1_1, hr1_2, hr1_3⟩
  refine O.p rfl rfl rfl (Pu.indexAddrS ((r1).toNat) rfl Tryz.underlying34 sz2 rfl rfl (by omega) (by omega) (fun w hw => ((fun w hw => hlist w (hw.sub (Sub.drop (Sub.refl _)))) w hw).some (by omega))) ?_
  have e1 : (r1).toNat < list.length := by omega
  refine O.p rfl rfl rfl (Pu.load rfl pl2 rfl (Ld.rd (fun w hw => hlist w (hw.sub (Sub.drop (Sub.refl _)))) (k := (r1).toNat) e1 rfl rfl)) ?_
  refine O.p rfl rfl rfl (Pu.assign rfl rfl) ?_
  refine O.nil ?_
  refine X.next ?_
  refine V.ret ?_
  refine X.ret1 rfl rfl ?_
  exact fun w hw => St.mkExi (list[(r1).toNat]'e1) (St.unsep (St.addPur ⟨rfl, List.getElem_mem _⟩ (hw.sub (Sub.keep 0 rfl (Sub.refl _)))))
end Go.Proofs.YtgjfcepnkllklaaGreat
