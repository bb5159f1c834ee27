/-
  Classes.
-/
import Derived.Test.YtjpfngmoabnffaaG
import Derived.Test.YtjpfngmoabnffaaPureCls
set_option linter.unusedVariables false
set_option linter.unusedSimpArgs false
namespace Go.Proofs.Ytjpfngmoabnffaa
open Go Go.RowKit Go.Vc Go.Proofs
set_option maxRecDepth 100000 in
theorem l01Own_ok (xs : List Int) (A : Option Addr) (c : Nat) (w : World) (hx : Rd I64 w A xs) (hA : A.isSome = true) (lx : xs.length ≤ 1099511627776) : Does Try.prog 92 [.slice A xs.length c] w [] (fun v => [.exi fun p : (Option Addr × Nat) × List Int => .sep (.pur (v = .slice p.1.1 p.2.length p.1.2 ∧ p.2 = xs)) (Own 2 I64 p.1.1 p.1.2 p.2)]) := by
  refine Does.enter Try.func92 rfl rfl [(0, .slice A xs.length c)] rfl ?_
  refine V.seq ?_
  refine V.region ?_
  refine O.p rfl rfl rfl (Pu.assign rfl rfl) ?_
  refine O.nil ?_
  refine X.next ?_
  refine V.seq ?_
  refine V.region ?_
  refine O.e rfl rfl rfl (Ef.build I64 ([] : List Int) rfl Try.underlying43 inf2 rfl rfl rfl (by first | decide | (simp; done)) (by kernel_rfl)) ?_
  rintro _ _ ⟨A1, hA1, rfl, rfl⟩
  refine O.p rfl rfl rfl (Pu.move rfl rfl) ?_
  refine O.e rfl rfl rfl (Ef.append (xs := ([] : List Int)) (ys := xs) 0 rfl Try.underlying43 inf2 rfl rfl rfl rfl rfl rfl hA (Ld.old hx) (by simp only [List.length_append, List.length_cons, List.length_nil] at *; omega) (by decide)) ?_
  rintro _ _ ⟨A2, k1, rfl, rfl, hA2⟩
  replace hA2 := hA2 (.inl hA1)
  refine O.p rfl rfl rfl (Pu.assign rfl rfl) ?_
  refine O.nil ?_
  refine X.next ?_
  refine V.ret ?_
  refine X.ret1 rfl rfl ?_
  exact fun w hw => St.retX ((A2, k1), [] ++ xs) ⟨rfl, rfl⟩ (hw.sub (Sub.keep 0 rfl (Sub.nil _)))

set_option maxRecDepth 100000 in
theorem l01With_ok (b : B3) (p : Int) (w : World) : Does Try.prog 95 [B3.v b, .int .i64 p] w [] (fun v => [.pur (v = .bool (decide (has b p)))]) := by
  refine Does.enter Try.func95 rfl rfl [(0, B3.v b), (1, .int .i64 p)] rfl ?_
  refine V.seq ?_
  refine V.region ?_
  refine O.e rfl rfl rfl (Ef.box rfl rfl rfl) ?_
  rintro _ _ ⟨b1, rfl, rfl⟩
  refine O.p rfl rfl rfl (Pu.assign rfl rfl) ?_
  refine O.nil ?_
  refine X.next ?_
  refine V.seq ?_
  refine V.region ?_
  refine O.p rfl rfl rfl (Pu.indexArr 0 0 rfl Try.underlying75 sz2 rfl rfl (by decide) (by decide) (by decide)) ?_
  refine O.p rfl rfl rfl (Pu.load rfl pl2 rfl (Ld.blk 0 rfl rfl)) ?_
  refine O.p rfl rfl rfl (Pu.move rfl rfl) ?_
  refine O.p rfl rfl rfl (Pu.eql rfl rfl rfl) ?_
  refine O.p rfl rfl rfl (Pu.move rfl rfl) ?_
  refine O.splitD 9 rfl (fun c1 => ?_) (fun c1 => ?_)
  · skip
    refine O.gs rfl rfl rfl rfl rfl rfl ?_
    refine O.gs rfl rfl rfl rfl rfl rfl ?_
    refine O.gs rfl rfl rfl rfl rfl rfl ?_
    refine O.gs rfl rfl rfl rfl rfl rfl ?_
    refine O.p rfl rfl rfl (Pu.pickT rfl rfl rfl) ?_
    refine O.p rfl rfl rfl (Pu.move rfl rfl) ?_
    refine O.gs rfl rfl rfl rfl rfl rfl ?_
    refine O.gs rfl rfl rfl rfl rfl rfl ?_
    refine O.gs rfl rfl rfl rfl rfl rfl ?_
    refine O.gs rfl rfl rfl rfl rfl rfl ?_
    refine O.p rfl rfl rfl (Pu.pickT rfl rfl rfl) ?_
    refine O.p rfl rfl rfl (Pu.assign rfl rfl) ?_
    refine O.nil ?_
    refine X.next ?_
    refine V.ret ?_
    refine X.ret1 rfl rfl ?_
    exact fun w hw => St.retP (by first | exact boolT (.inl c1) | exact boolT (.inr (.inl c2)) | exact boolT (.inr (.inl c3)) | exact boolD (by unfold has; simp only [c1, c2, false_or])) hw
  · skip
    refine O.gp rfl rfl rfl rfl rfl (Pu.indexArr 1 1 rfl Try.underlying75 sz2 rfl rfl (by decide) (by decide) (by decide)) ?_
    refine O.gp rfl rfl rfl rfl rfl (Pu.load rfl pl2 rfl (Ld.blk 0 rfl rfl)) ?_
    refine O.gp rfl rfl rfl rfl rfl (Pu.move rfl rfl) ?_
    refine O.gp rfl rfl rfl rfl rfl (Pu.eql rfl rfl rfl) ?_
    refine O.p rfl rfl rfl (Pu.pickF rfl rfl rfl) ?_
    refine O.p rfl rfl rfl (Pu.move rfl rfl) ?_
    refine O.splitD 15 rfl (fun c2 => ?_) (fun c2 => ?_)
    · skip
      refine O.gs rfl rfl rfl rfl rfl rfl ?_
      refine O.gs rfl rfl rfl rfl rfl rfl ?_
      refine O.gs rfl rfl rfl rfl rfl rfl ?_
      refine O.gs rfl rfl rfl rfl rfl rfl ?_
      refine O.p rfl rfl rfl (Pu.pickT rfl rfl rfl) ?_
      refine O.p rfl rfl rfl (Pu.assign rfl rfl) ?_
      refine O.nil ?_
      refine X.next ?_
      refine V.ret ?_
      refine X.ret1 rfl rfl ?_
      exact fun w hw => St.retP (by first | exact boolT (.inl c1) | exact boolT (.inr (.inl c2)) | exact boolT (.inr (.inl c3)) | exact boolD (by unfold has; simp only [c1, c2, false_or])) hw
    · skip
      refine O.gp rfl rfl rfl rfl rfl (Pu.indexArr 2 2 rfl Try.underlying75 sz2 rfl rfl (by decide) (by decide) (by decide)) ?_
      refine O.gp rfl rfl rfl rfl rfl (Pu.load rfl pl2 rfl (Ld.blk 0 rfl rfl)) ?_
      refine O.gp rfl rfl rfl rfl rfl (Pu.move rfl rfl) ?_
      refine O.gp rfl rfl rfl rfl rfl (Pu.eql rfl rfl rfl) ?_
      refine O.p rfl rfl rfl (Pu.pickF rfl rfl rfl) ?_
      refine O.p rfl rfl rfl (Pu.assign rfl rfl) ?_
      refine O.nil ?_
      refine X.next ?_
      refine V.ret ?_
      refine X.ret1 rfl rfl ?_
      exact fun w hw => St.retP (by first | exact boolT (.inl c1) | exact boolT (.inr (.inl c2)) | exact boolT (.inr (.inl c3)) | exact boolD (by unfold has; simp only [c1, c2, false_or])) hw

set_option maxRecDepth 100000 in
theorem l05Bits_ok (b : B3) (w : World) (hb : good 15 b) : Does Try.prog 197 [B3.v b] w [] (fun v => [.pur (v = .int .i64 ((bmask b : Nat) : Int))]) := by
  refine Does.enter Try.func197 rfl rfl [(0, B3.v b)] rfl ?_
  refine V.seq ?_
  have hb' := hb
  unfold good at hb'
  have q1 := Nat.two_pow_pos b.1.toNat
  have q2 := Nat.two_pow_pos b.2.1.toNat
  have q3 := Nat.two_pow_pos b.2.2.toNat
  have p1 : 2 ^ b.1.toNat ≤ 2 ^ 14 := Nat.pow_le_pow_right (by decide) (by omega)
  have p2 : 2 ^ b.2.1.toNat ≤ 2 ^ 14 := Nat.pow_le_pow_right (by decide) (by omega)
  have p3 : 2 ^ b.2.2.toNat ≤ 2 ^ 14 := Nat.pow_le_pow_right (by decide) (by omega)
  refine V.region ?_
  refine O.e rfl rfl rfl (Ef.box rfl rfl rfl) ?_
  rintro _ _ ⟨b1, rfl, rfl⟩
  refine O.p rfl rfl rfl (Pu.assign rfl rfl) ?_
  refine O.nil ?_
  refine X.next ?_
  refine V.seq ?_
  refine V.region ?_
  refine O.p rfl rfl rfl (Pu.indexArr 0 0 rfl Try.underlying75 sz2 rfl rfl (by decide) (by decide) (by decide)) ?_
  refine O.p rfl rfl rfl (Pu.load rfl pl2 rfl (Ld.blk 0 rfl rfl)) ?_
  refine O.p rfl rfl rfl (Pu.convU' ((b.1).toNat) (by omega) ⟨_, Try.underlying2⟩ Try.underlying115 (by omega) rfl rfl) ?_
  refine O.p rfl rfl rfl (Pu.shl1 (p := (b.1).toNat) K64.i (by omega) rfl rfl rfl) ?_
  refine O.p rfl rfl rfl (Pu.indexArr 1 1 rfl Try.underlying75 sz2 rfl rfl (by decide) (by decide) (by decide)) ?_
  refine O.p rfl rfl rfl (Pu.load rfl pl2 rfl (Ld.blk 0 rfl rfl)) ?_
  refine O.p rfl rfl rfl (Pu.convU' ((b.2.1).toNat) (by omega) ⟨_, Try.underlying2⟩ Try.underlying115 (by omega) rfl rfl) ?_
  refine O.p rfl rfl rfl (Pu.shl1 (p := (b.2.1).toNat) K64.i (by omega) rfl rfl rfl) ?_
  refine O.p rfl rfl rfl (Pu.add64 (r := (((2 ^ ((b.1).toNat)) + (2 ^ ((b.2.1).toNat)) : Nat) : Int)) (by omega) (by omega) rfl rfl rfl) ?_
  refine O.p rfl rfl rfl (Pu.indexArr 2 2 rfl Try.underlying75 sz2 rfl rfl (by decide) (by decide) (by decide)) ?_
  refine O.p rfl rfl rfl (Pu.load rfl pl2 rfl (Ld.blk 0 rfl rfl)) ?_
  refine O.p rfl rfl rfl (Pu.convU' ((b.2.2).toNat) (by omega) ⟨_, Try.underlying2⟩ Try.underlying115 (by omega) rfl rfl) ?_
  refine O.p rfl rfl rfl (Pu.shl1 (p := (b.2.2).toNat) K64.i (by omega) rfl rfl rfl) ?_
  refine O.p rfl rfl rfl (Pu.add64 (r := (((2 ^ ((b.1).toNat)) + (2 ^ ((b.2.1).toNat)) + (2 ^ ((b.2.2).toNat)) : Nat) : Int)) (by omega) (by omega) rfl rfl rfl) ?_
  refine O.p rfl rfl rfl (Pu.assign rfl rfl) ?_
  refine O.nil ?_
  refine X.next ?_
  refine V.ret ?_
  refine X.ret1 rfl rfl ?_
  exact fun w hw => St.retP (rfl) hw

def LClasses (n : Nat) : Prop := ∀ (v : Int) (bs : List B3) (xs : List Int) (m : Nat) (A B2 : Option Addr) (c d2 : Nat) (w : World) (hx : Rd B3C w A bs) (hy : Rd I64 w B2 xs) (hB : B2.isSome = true) (hS : STS v bs) (hp : Part bs xs m) (hm : m < 65536) (hn : v.toNat - cov m v.toNat ≤ 3 * n) (hl : xs.length + n ≤ 5), Does Try.prog 140 [.agg #[.int .i64 v, .slice A bs.length c], .slice B2 xs.length d2, .int .i64 (m : Int), .int .i64 ((2 ^ v.toNat - 1 : Nat) : Int)] w [] (fun r => [.exi fun p : (Option Addr × Nat) × List (Sl × List Int) => .sep (.pur (r = .slice p.1.1 (tops p.2).length p.1.2 ∧ p.1.1.isSome = true ∧ (∀ q, q ∈ conts p.2 ↔ Cls v bs q ∧ ∀ k ∈ xs, k ∈ q) ∧ p.2.length ≤ 35 ^ n)) (.sep (Own 43 SlC p.1.1 p.1.2 (tops p.2)) (RowsA 2 I64 p.2))])
set_option maxRecDepth 100000 in
theorem l05Classes_step (n : Nat) (ih : ∀ n', n' < n → LClasses n') (v : Int) (bs : List B3) (xs : List Int) (m : Nat) (A B2 : Option Addr) (c d2 : Nat) (w : World) (hx : Rd B3C w A bs) (hy : Rd I64 w B2 xs) (hB : B2.isSome = true) (hS : STS v bs) (hp : Part bs xs m) (hm : m < 65536) (hn : v.toNat - cov m v.toNat ≤ 3 * n) (hl : xs.length + n ≤ 5) : Does Try.prog 140 [.agg #[.int .i64 v, .slice A bs.length c], .slice B2 xs.length d2, .int .i64 (m : Int), .int .i64 ((2 ^ v.toNat - 1 : Nat) : Int)] w [] (fun r => [.exi fun p : (Option Addr × Nat) × List (Sl × List Int) => .sep (.pur (r = .slice p.1.1 (tops p.2).length p.1.2 ∧ p.1.1.isSome = true ∧ (∀ q, q ∈ conts p.2 ↔ Cls v bs q ∧ ∀ k ∈ xs, k ∈ q) ∧ p.2.length ≤ 35 ^ n)) (.sep (Own 43 SlC p.1.1 p.1.2 (tops p.2)) (RowsA 2 I64 p.2))]) := by
  refine Does.enter Try.func140 rfl rfl [(0, .agg #[.int .i64 v, .slice A bs.length c]), (1, .slice B2 xs.length d2), (2, .int .i64 (m : Int)), (3, .int .i64 ((2 ^ v.toNat - 1 : Nat) : Int))] rfl ?_
  refine V.seq ?_
  have hb := hS.good
  have hg15 : ∀ b ∈ bs, good 15 b := fun b h => (hb b h).mono hS.hi
  have hlo := hS.lo
  have hhi := hS.hi
  have hfew := hS.few
  have hpw : 2 ^ v.toNat ≤ 2 ^ 15 := Nat.pow_le_pow_right (by decide) (by omega)
  have hpw0 := Nat.two_pow_pos v.toNat
  refine V.region ?_
  refine O.e rfl rfl rfl (Ef.box rfl rfl rfl) ?_
  rintro _ _ ⟨b1, rfl, rfl⟩
  refine O.p rfl rfl rfl (Pu.assign rfl rfl) ?_
  refine O.nil ?_
  refine X.next ?_
  refine V.seq ?_
  refine V.seq ?_
  refine V.region ?_
  refine O.p rfl rfl rfl (Pu.move rfl rfl) ?_
  refine O.p rfl rfl rfl (Pu.move rfl rfl) ?_
  refine O.p rfl rfl rfl (Pu.eql rfl rfl rfl) ?_
  refine O.nil ?_
  refine X.next ?_
  refine V.condD rfl (fun c1 => ?_) (fun c1 => ?_)
  · skip
    refine V.seq ?_
    refine V.region ?_
    refine O.p rfl rfl rfl (Pu.move rfl rfl) ?_
    refine O.e rfl rfl rfl (Ef.call1 call172 rfl rfl (fun w hw => l03Ascending_ok xs _ _ w ((Ld.old hy) w hw) (by first | omega | (simp only [List.length_cons, List.length_nil]; omega)))) ?_
    rintro _ _ rfl
    refine O.exi (fun p1 => ?_)
    refine O.sep ?_
    refine O.pur ?_
    rintro ⟨rfl, hp1⟩
    refine O.e rfl rfl rfl (Ef.build SlC ([⟨p1.1.1, p1.2.length, p1.1.2⟩] : List Sl) rfl Try.underlying34 inf43 rfl rfl rfl (by first | decide | (simp; done)) (by kernel_rfl)) ?_
    rintro _ _ ⟨A1, hA1, rfl, rfl⟩
    refine O.p rfl rfl rfl (Pu.assign rfl rfl) ?_
    refine O.nil ?_
    refine X.next ?_
    refine V.ret ?_
    refine X.thenRet ?_
    refine X.ret1 rfl rfl ?_
    exact fun w hw => St.mkExi ((A1, 1), [((⟨p1.1.1, p1.2.length, p1.1.2⟩ : Sl), p1.2)]) (St.unsep (St.addPur ⟨rfl, hA1, fun q => by simp only [conts, List.map_cons, List.map_nil, List.mem_singleton]; exact cls_full hb hp (by omega) hp1.1 hp1.2 q, by simp only [List.length_singleton]; exact Nat.pos_of_ne_zero (by simp)⟩ (St.unsep (one_heap (hw.sub (Sub.keep 0 rfl (Sub.keep 0 rfl (Sub.nil _))))))))
  · skip
    refine V.skip ?_
    refine X.next ?_
    refine V.seq ?_
    have hne : ¬ m = 2 ^ v.toNat - 1 := by omega
    have hpos := part_pos hb hp hne (by omega)
    have hK : 35 ^ (n - 1) ≤ 35 ^ 4 := Nat.pow_le_pow_right (by decide) (by omega)
    have hKn := pow35 (n := n) (by omega)
    refine V.region ?_
    refine O.e rfl rfl rfl (Ef.build SlC ([] : List Sl) rfl Try.underlying34 inf43 rfl rfl rfl (by first | decide | (simp; done)) (by kernel_rfl)) ?_
    rintro _ _ ⟨A2, hA2, rfl, rfl⟩
    refine O.p rfl rfl rfl (Pu.assign rfl rfl) ?_
    refine O.p rfl rfl rfl (Pu.assign rfl rfl) ?_
    refine O.nil ?_
    refine X.next ?_
    refine V.seq ?_
    refine V.block ?_
    refine V.loop3 (β := Nat) (fun p => [(10, .int .i64 (p : Int))]) _ (fun p => []) _ (fun p => ∀ q, q < p → m.testBit q = true) (fun p => v.toNat - p) 0 (fun q h => by omega) (Ent.cons rfl (Ent.nil _)) (Ent.cons (t := 1) rfl (Ent.cons (t := 2) rfl (Ent.cons (t := 3) rfl (Ent.cons (t := 4) rfl (Ent.cons (t := 8) rfl (Ent.cons (t := 9) rfl (Ent.nil _))))))) (Sub.keep 0 rfl (Sub.keep 0 rfl (Sub.nil _))) ?_
    rintro p hq
    refine V.seq ?_
    refine V.seq ?_
    have hpv := part_left hb hp hne hq
    refine V.region ?_
    refine O.p rfl rfl rfl (Pu.move rfl rfl) ?_
    refine O.p rfl rfl rfl (Pu.move rfl rfl) ?_
    refine O.p rfl rfl rfl (Pu.convU' p (by omega) ⟨_, Try.underlying2⟩ Try.underlying115 (by omega) rfl rfl) ?_
    refine O.p rfl rfl rfl (Pu.shr (m := m) (p := p) K64.i (by omega) rfl rfl rfl) ?_
    refine O.p rfl rfl rfl (Pu.and (m := (m >>> p)) (n := 1) K64.i (shr_lt (by omega)) (by omega) rfl rfl rfl) ?_
    refine O.p rfl rfl rfl (Pu.eql rfl rfl rfl) ?_
    refine O.p rfl rfl rfl (Pu.move rfl rfl) ?_
    refine O.splitD 26 rfl (fun c2 => ?_) (fun c2 => ?_)
    · skip
      refine O.gs rfl rfl rfl rfl rfl rfl ?_
      refine O.gs rfl rfl rfl rfl rfl rfl ?_
      refine O.gs rfl rfl rfl rfl rfl rfl ?_
      refine O.gs rfl rfl rfl rfl rfl rfl ?_
      refine O.gs rfl rfl rfl rfl rfl rfl ?_
      refine O.gs rfl rfl rfl rfl rfl rfl ?_
      refine O.p rfl rfl rfl (Pu.pickT rfl rfl rfl) ?_
      refine O.nil ?_
      refine X.next ?_
      refine V.condT rfl ?_
      refine V.skip ?_
      refine X.next ?_
      refine V.block ?_
      refine V.region ?_
      refine O.p rfl rfl rfl (Pu.move rfl rfl) ?_
      refine O.p rfl rfl rfl (Pu.add64 (r := ((p + 1 : Nat) : Int)) rfl (by omega) rfl rfl rfl) ?_
      refine O.p rfl rfl rfl (Pu.assign rfl rfl) ?_
      refine O.nil ?_
      refine X.blockNormal ?_
      exact X.back3 (p + 1) (fun q h => by by_cases e : q = p; (· subst e; exact (bit_is m q).1 (by omega)); (· exact hq q (by omega))) (by omega) (Ent.cons rfl (Ent.nil _)) (Ent.cons (t := 1) rfl (Ent.cons (t := 2) rfl (Ent.cons (t := 3) rfl (Ent.cons (t := 4) rfl (Ent.cons (t := 8) rfl (Ent.cons (t := 9) rfl (Ent.nil _))))))) (Sub.keep 0 rfl (Sub.keep 0 rfl (Sub.nil _)))
    · skip
      refine O.gp rfl rfl rfl rfl rfl (Pu.move rfl rfl) ?_
      refine O.gp rfl rfl rfl rfl rfl (Pu.move rfl rfl) ?_
      refine O.gp rfl rfl rfl rfl rfl (Pu.convU' p (by omega) ⟨_, Try.underlying2⟩ Try.underlying115 (by omega) rfl rfl) ?_
      refine O.gp rfl rfl rfl rfl rfl (Pu.shr (m := (2 ^ v.toNat - 1)) (p := p) K64.i (by omega) rfl rfl rfl) ?_
      refine O.gp rfl rfl rfl rfl rfl (Pu.and (m := ((2 ^ v.toNat - 1) >>> p)) (n := 1) K64.i (shr_lt (by omega)) (by omega) rfl rfl rfl) ?_
      refine O.gp rfl rfl rfl rfl rfl (Pu.eql rfl rfl rfl) ?_
      refine O.p rfl rfl rfl (Pu.pickF rfl rfl rfl) ?_
      refine O.nil ?_
      refine X.next ?_
      refine V.condD rfl (fun c3 => ?_) (fun c3 => ?_)
      · skip
        exact absurd ((bit_not (2 ^ v.toNat - 1) p).1 (by omega)) (by rw [Nat.testBit_two_pow_sub_one]; simp; omega)
      · skip
        have hpm : m.testBit p = false := by
          cases h : m.testBit p with
          | false => rfl
          | true => exact absurd (by have := (bit_is m p).2 h; omega) c2
        refine V.exit ?_
        refine X.thenExit ?_
        refine X.thenExit ?_
        refine X.blockHit ?_
        refine X.next ?_
        refine V.seq ?_
        refine V.seq ?_
        refine V.region ?_
        refine O.p rfl rfl rfl (Pu.assign rfl rfl) ?_
        refine O.nil ?_
        refine X.next ?_
        refine V.block ?_
        refine V.map (fun w hw => RowsA.nil (T := 2) (C := I64) hw) ?_
        refine V.loop3 (β := Nat × Option Addr × Nat × List (Sl × List Int)) (fun x => [(11, .int .i64 (x.1 : Int)), (9, .slice x.2.1 (tops x.2.2.2).length x.2.2.1)]) _ (fun x => [Own 43 SlC x.2.1 x.2.2.1 (tops x.2.2.2), RowsA 2 I64 x.2.2.2]) _ (fun x => x.1 ≤ bs.length ∧ x.2.1.isSome = true ∧ (∀ q, q ∈ conts x.2.2.2 ↔ FoundC v bs xs p x.1 q) ∧ x.2.2.2.length ≤ x.1 * 35 ^ (n - 1)) (fun x => bs.length - x.1) (0, A2, 0, []) ⟨by simp, hA2, fun q => by simp [conts, found_zero], by simp⟩ (Ent.cons rfl (Ent.cons rfl (Ent.nil _))) (Ent.cons (t := 1) rfl (Ent.cons (t := 2) rfl (Ent.cons (t := 3) rfl (Ent.cons (t := 4) rfl (Ent.cons (t := 8) rfl (Ent.cons (t := 10) rfl (Ent.nil _))))))) (Sub.keep 1 rfl (Sub.keep 0 rfl (Sub.keep 0 rfl (Sub.nil _)))) ?_
        rintro ⟨i, Ao, co, ps⟩ ⟨hi, hAo, hfd, hln⟩
        dsimp only at hi hAo hfd hln
        have htl := tops_len ps
        have hiK : i * 35 ^ (n - 1) ≤ 35 * 35 ^ (n - 1) := Nat.mul_le_mul_right _ (by omega)
        have hlen : ps.length ≤ 35 ^ n := by omega
        refine V.seq ?_
        refine V.seq ?_
        refine V.region ?_
        refine O.p rfl rfl rfl (Pu.move rfl rfl) ?_
        refine O.p rfl rfl rfl (Pu.fieldAddr 1 rfl Try.underlying30 rfl sz28 rfl rfl) ?_
        refine O.p rfl rfl rfl (Pu.load rfl pl28 rfl (Ld.blk 2 rfl rfl)) ?_
        refine O.p rfl rfl rfl (Pu.len rfl Try.underlying28 rfl) ?_
        refine O.p rfl rfl rfl (Pu.lss rfl rfl rfl) ?_
        refine O.nil ?_
        refine X.next ?_
        refine V.condD rfl (fun c4 => ?_) (fun c4 => ?_)
        · skip
          refine V.skip ?_
          refine X.next ?_
          refine V.seq ?_
          refine V.block ?_
          refine V.seq ?_
          refine V.region ?_
          refine O.p rfl rfl rfl (Pu.fieldAddr 1 rfl Try.underlying30 rfl sz28 rfl rfl) ?_
          refine O.p rfl rfl rfl (Pu.load rfl pl28 rfl (Ld.blk 2 rfl rfl)) ?_
          refine O.p rfl rfl rfl (Pu.move rfl rfl) ?_
          refine O.p rfl rfl rfl (Pu.indexAddr (i) rfl Try.underlying28 sz75 rfl rfl (by omega) (by omega) (hx.some (by omega))) ?_
          have e1 : i < bs.length := by omega
          refine O.p rfl rfl rfl (Pu.loadAgg' (v := B3.v (bs[i]'e1)) rfl rfl ag75 sz75 rfl rfl (Ld.rds (Ld.old hx) (k := i) e1 rfl)) ?_
          refine O.e rfl rfl rfl (Ef.callP call197 rfl rfl (fun w hw => l05Bits_ok (bs[i]'e1) w (hg15 _ (List.getElem_mem _)))) ?_
          rintro _ _ ⟨rfl, rfl⟩
          have hbm := bmask_lt (hg15 _ (List.getElem_mem e1))
          refine O.p rfl rfl rfl (Pu.assign rfl rfl) ?_
          refine O.nil ?_
          refine X.next ?_
          refine V.seq ?_
          refine V.region ?_
          refine O.p rfl rfl rfl (Pu.fieldAddr 1 rfl Try.underlying30 rfl sz28 rfl rfl) ?_
          refine O.p rfl rfl rfl (Pu.load rfl pl28 rfl (Ld.blk 2 rfl rfl)) ?_
          refine O.p rfl rfl rfl (Pu.move rfl rfl) ?_
          refine O.p rfl rfl rfl (Pu.indexAddr (i) rfl Try.underlying28 sz75 rfl rfl (by omega) (by omega) (hx.some (by omega))) ?_
          refine O.p rfl rfl rfl (Pu.loadAgg' (v := B3.v (bs[i]'e1)) rfl rfl ag75 sz75 rfl rfl (Ld.rds (Ld.old hx) (k := i) e1 rfl)) ?_
          refine O.p rfl rfl rfl (Pu.move rfl rfl) ?_
          refine O.e rfl rfl rfl (Ef.callP call95 rfl rfl (fun w hw => l01With_ok (bs[i]'e1) _ w)) ?_
          rintro _ _ ⟨rfl, rfl⟩
          refine O.p rfl rfl rfl (Pu.move rfl rfl) ?_
          refine O.splitD 56 rfl (fun c5 => ?_) (fun c5 => ?_)
          · skip
            refine O.gp rfl rfl rfl rfl rfl (Pu.move rfl rfl) ?_
            refine O.gp rfl rfl rfl rfl rfl (Pu.move rfl rfl) ?_
            refine O.gp rfl rfl rfl rfl rfl (Pu.and (m := (bmask (bs[i]'e1))) (n := m) K64.i (by omega) (by omega) rfl rfl rfl) ?_
            refine O.gp rfl rfl rfl rfl rfl (Pu.eql rfl rfl rfl) ?_
            refine O.p rfl rfl rfl (Pu.pickT rfl rfl rfl) ?_
            refine O.p rfl rfl rfl (Pu.move rfl rfl) ?_
            refine O.splitD 62 rfl (fun c6 => ?_) (fun c6 => ?_)
            · skip
              refine O.gp rfl rfl rfl rfl rfl (Pu.move rfl rfl) ?_
              refine O.gp rfl rfl rfl rfl rfl (Pu.move rfl rfl) ?_
              refine O.gp rfl rfl rfl rfl rfl (Pu.and (m := (bmask (bs[i]'e1))) (n := (2 ^ v.toNat - 1)) K64.i (by omega) (by omega) rfl rfl rfl) ?_
              refine O.gp rfl rfl rfl rfl rfl (Pu.move rfl rfl) ?_
              refine O.gp rfl rfl rfl rfl rfl (Pu.eql rfl rfl rfl) ?_
              refine O.p rfl rfl rfl (Pu.pickT rfl rfl rfl) ?_
              refine O.nil ?_
              refine X.next ?_
              refine V.condD rfl (fun c7 => ?_) (fun c7 => ?_)
              · skip
                refine V.drawS mo (by kernel_rfl) (Sub.keep 2 rfl (Sub.nil _)) (fun hwf => ?_)
                refine D.p 0 rfl rfl rfl rfl rfl rfl (Pu.move rfl rfl) ?_
                refine D.p 1 rfl rfl rfl rfl rfl rfl (Pu.loadAgg rfl ag30 sz30 rfl rfl (Ld.whole 0 rfl)) ?_
                refine D.p 2 rfl rfl rfl rfl rfl rfl (Pu.move rfl rfl) ?_
                refine D.p 4 rfl rfl rfl rfl rfl rfl (Pu.move rfl rfl) ?_
                refine D.p 7 rfl rfl rfl rfl rfl rfl (Pu.move rfl rfl) ?_
                refine D.p 8 rfl rfl rfl rfl rfl rfl (Pu.move rfl rfl) ?_
                refine D.p 9 rfl rfl rfl rfl rfl rfl (Pu.or (m := m) (n := (bmask (bs[i]'e1))) K64.i (by omega) (by omega) rfl rfl rfl) ?_
                refine D.p 10 rfl rfl rfl rfl rfl rfl (Pu.move rfl rfl) ?_
                refine D.twoBC hwf (e1 := 5) (e2 := 3) rfl rfl rfl rfl rfl rfl rfl rfl rfl rfl rfl rfl rfl rfl rfl rfl rfl (fun H hs => Ef.build I64 ([(↑i : Int)] : List Int) rfl Try.underlying43 inf2 rfl rfl rfl (by first | decide | (simp; done)) (by kernel_rfl)) (fun H hs => Ef.call1 call92 rfl rfl (fun w hw => l01Own_ok xs _ _ w ((Ld.old hy) w (hs w hw)) hB (by omega))) ?_
                rintro A3 _ hA3
                refine D.exi (fun p2 => ?_)
                refine D.sep ?_
                refine D.pur1 ?_
                rintro ⟨rfl, hp2⟩
                have hp2l : p2.2.length ≤ 5 := by rw [hp2]; omega
                have hpp : Part bs p2.2 m := by rw [hp2]; exact hp
                refine D.eff hwf (e := 6) rfl rfl rfl rfl (Ef.append (xs := p2.2) (ys := ([(↑i : Int)] : List Int)) 0 rfl Try.underlying43 inf2 rfl rfl rfl rfl rfl rfl hA3 (Ld.own 1 (by exact rfl)) (by simp only [List.length_append, List.length_cons, List.length_nil] at *; omega) (by decide)) rfl rfl rfl ?_
                rintro _ _ ⟨A4, k1, rfl, rfl, hA4⟩ hs
                replace hA4 := hA4 (.inr (by simp))
                refine ⟨fun w hw => hw.sub (Sub.keep 4 rfl (Sub.nil _)), ?_⟩
                refine D.eff hwf (e := 11) rfl rfl rfl rfl (Ef.call1 call140 rfl rfl (fun w hw => ih (n - 1) (by omega) v bs _ _ _ _ _ _ w ((Ld.old hx) w hw) ((Ld.own 0 (by exact rfl)) w hw) hA4 hS (part_snoc hb hpp e1 (by omega)) (Nat.or_lt_two_pow (n := 16) hm (bmask_lt (hg15 _ (List.getElem_mem _)))) (by rw [cov_snoc hb e1 (by omega)]; omega) (by rw [hp2]; simp only [List.length_append, List.length_cons, List.length_nil]; omega))) rfl rfl rfl ?_
                rintro _ _ rfl hs
                refine ⟨fun w hw => hs w hw.tail, ?_⟩
                refine D.exi (fun p3 => ?_)
                refine D.sep ?_
                refine D.pur1 ?_
                rintro ⟨rfl, hp3_1, hp3_2, hp3_3⟩
                refine D.sep ?_
                have htl3 := tops_len p3.2
                refine D.eff hwf (e := 12) rfl rfl rfl rfl (Ef.append (xs := (tops ps)) (ys := (tops p3.2)) 4 rfl Try.underlying34 inf43 rfl rfl rfl rfl rfl rfl hp3_1 (Ld.own 0 (by exact rfl)) (by simp only [List.length_append, List.length_cons, List.length_nil] at *; omega) (by decide)) rfl rfl rfl ?_
                rintro _ _ ⟨A5, k2, rfl, rfl, hA5⟩ hs
                replace hA5 := hA5 (.inl hAo)
                refine ⟨fun w hw => hw.sub (Sub.keep 6 rfl (Sub.nil _)), ?_⟩
                refine D.last hwf (e := 13) rfl rfl rfl rfl rfl rfl (Pu.assign rfl rfl) ?_
                refine X.blockNormal ?_
                refine X.next ?_
                refine V.region ?_
                refine O.p rfl rfl rfl (Pu.move rfl rfl) ?_
                refine O.p rfl rfl rfl (Pu.add64 (r := ((i + 1 : Nat) : Int)) rfl (by omega) rfl rfl rfl) ?_
                refine O.p rfl rfl rfl (Pu.assign rfl rfl) ?_
                refine O.nil ?_
                refine X.map (fun w hw => app_heap (hw.sub (Sub.keep 4 rfl (Sub.keep 4 rfl (Sub.keep 1 rfl (Sub.keep 3 rfl (Sub.nil _))))))) ?_
                exact X.back3 (i + 1, A5, k2, ps ++ p3.2) ⟨by simp only []; omega, hA5, fun q => by simp only [conts_append, List.mem_append]; rw [found_succ (by rw [blk_get e1]; exact c5), hfd q, hp3_2 q, hp2], by simp only [List.length_append, Nat.add_mul, Nat.one_mul]; omega⟩ (by omega) (Ent.cons rfl (Ent.cons' rfl (by rw [tops_append]) (Ent.nil _))) (Ent.cons (t := 1) rfl (Ent.cons (t := 2) rfl (Ent.cons (t := 3) rfl (Ent.cons (t := 4) rfl (Ent.cons (t := 8) rfl (Ent.cons (t := 10) rfl (Ent.nil _))))))) (Sub.keep 0 rfl (Sub.keep 0 rfl (Sub.keep 0 rfl (Sub.nil _))))
              · skip
                exact absurd (by rw [mask_inside hb e1]) c7
            · skip
              refine O.gs rfl rfl rfl rfl rfl rfl ?_
              refine O.gs rfl rfl rfl rfl rfl rfl ?_
              refine O.gs rfl rfl rfl rfl rfl rfl ?_
              refine O.gs rfl rfl rfl rfl rfl rfl ?_
              refine O.gs rfl rfl rfl rfl rfl rfl ?_
              refine O.p rfl rfl rfl (Pu.pickF rfl rfl rfl) ?_
              refine O.nil ?_
              refine X.next ?_
              refine V.condF rfl ?_
              refine V.skip ?_
              refine X.blockNormal ?_
              refine X.next ?_
              refine V.region ?_
              refine O.p rfl rfl rfl (Pu.move rfl rfl) ?_
              refine O.p rfl rfl rfl (Pu.add64 (r := ((i + 1 : Nat) : Int)) rfl (by omega) rfl rfl rfl) ?_
              refine O.p rfl rfl rfl (Pu.assign rfl rfl) ?_
              refine O.nil ?_
              exact X.back3 (i + 1, Ao, co, ps) ⟨by simp only []; omega, hAo, fun q => by rw [found_skip (found_meets hb hp e1 hpm (by omega))]; exact hfd q, by simp only [Nat.add_mul]; omega⟩ (by omega) (Ent.cons rfl (Ent.cons rfl (Ent.nil _))) (Ent.cons (t := 1) rfl (Ent.cons (t := 2) rfl (Ent.cons (t := 3) rfl (Ent.cons (t := 4) rfl (Ent.cons (t := 8) rfl (Ent.cons (t := 10) rfl (Ent.nil _))))))) (Sub.keep 0 rfl (Sub.keep 0 rfl (Sub.keep 0 rfl (Sub.nil _))))
          · skip
            refine O.gs rfl rfl rfl rfl rfl rfl ?_
            refine O.gs rfl rfl rfl rfl rfl rfl ?_
            refine O.gs rfl rfl rfl rfl rfl rfl ?_
            refine O.gs rfl rfl rfl rfl rfl rfl ?_
            refine O.p rfl rfl rfl (Pu.pickF rfl rfl rfl) ?_
            refine O.p rfl rfl rfl (Pu.move rfl rfl) ?_
            refine O.gs rfl rfl rfl rfl rfl rfl ?_
            refine O.gs rfl rfl rfl rfl rfl rfl ?_
            refine O.gs rfl rfl rfl rfl rfl rfl ?_
            refine O.gs rfl rfl rfl rfl rfl rfl ?_
            refine O.gs rfl rfl rfl rfl rfl rfl ?_
            refine O.p rfl rfl rfl (Pu.pickF rfl rfl rfl) ?_
            refine O.nil ?_
            refine X.next ?_
            refine V.condF rfl ?_
            refine V.skip ?_
            refine X.blockNormal ?_
            refine X.next ?_
            refine V.region ?_
            refine O.p rfl rfl rfl (Pu.move rfl rfl) ?_
            refine O.p rfl rfl rfl (Pu.add64 (r := ((i + 1 : Nat) : Int)) rfl (by omega) rfl rfl rfl) ?_
            refine O.p rfl rfl rfl (Pu.assign rfl rfl) ?_
            refine O.nil ?_
            exact X.back3 (i + 1, Ao, co, ps) ⟨by simp only []; omega, hAo, fun q => by rw [found_skip (fun r h => c5 (by have := h.2.2.2; rwa [blk_get e1] at this))]; exact hfd q, by simp only [Nat.add_mul]; omega⟩ (by omega) (Ent.cons rfl (Ent.cons rfl (Ent.nil _))) (Ent.cons (t := 1) rfl (Ent.cons (t := 2) rfl (Ent.cons (t := 3) rfl (Ent.cons (t := 4) rfl (Ent.cons (t := 8) rfl (Ent.cons (t := 10) rfl (Ent.nil _))))))) (Sub.keep 0 rfl (Sub.keep 0 rfl (Sub.keep 0 rfl (Sub.nil _))))
        · skip
          refine V.exit ?_
          refine X.thenExit ?_
          refine X.thenExit ?_
          refine X.blockHit ?_
          refine X.next ?_
          refine V.seq ?_
          refine V.region ?_
          refine O.p rfl rfl rfl (Pu.move rfl rfl) ?_
          refine O.p rfl rfl rfl (Pu.assign rfl rfl) ?_
          refine O.nil ?_
          refine X.next ?_
          refine V.ret ?_
          refine X.ret1 rfl rfl ?_
          exact fun w hw => St.mkExi ((Ao, co), ps) (St.unsep (St.addPur ⟨rfl, hAo, fun q => (hfd q).trans (by have e : i = bs.length := (by omega); subst e; exact found_all hpv), hlen⟩ (St.unsep (hw.sub (Sub.keep 0 rfl (Sub.keep 0 rfl (Sub.nil _)))))))

theorem l05Classes_ok (n : Nat) : LClasses n := by
  induction n using Nat.strongRecOn with
  | _ n ih => exact fun v bs xs m A B2 c d2 w hx hy hB hS hp hm hn hl => l05Classes_step n ih v bs xs m A B2 c d2 w hx hy hB hS hp hm hn hl

set_option maxRecDepth 100000 in
theorem l05List_ok (v : Int) (bs : List B3) (A : Option Addr) (c : Nat) (w : World) (hx : Rd B3C w A bs) (hS : STS v bs) : Does Try.prog 70 [.agg #[.int .i64 v, .slice A bs.length c]] w [] (fun r => [.exi fun p : (Option Addr × Nat) × List (Sl × List Int) => .sep (.pur (r = .slice p.1.1 (tops p.2).length p.1.2 ∧ IsList (Cls v bs) (conts p.2) ∧ p.2.length ≤ 52521875)) (.sep (Own 43 SlC p.1.1 p.1.2 (tops p.2)) (RowsA 2 I64 p.2))]) := by
  refine Does.enter Try.func70 rfl rfl [(0, .agg #[.int .i64 v, .slice A bs.length c])] rfl ?_
  refine V.seq ?_
  have hlo := hS.lo
  have hhi := hS.hi
  have hpw : 2 ^ v.toNat ≤ 2 ^ 15 := Nat.pow_le_pow_right (by decide) (by omega)
  have hpw0 := Nat.two_pow_pos v.toNat
  refine V.region ?_
  refine O.e rfl rfl rfl (Ef.box rfl rfl rfl) ?_
  rintro _ _ ⟨b1, rfl, rfl⟩
  refine O.p rfl rfl rfl (Pu.assign rfl rfl) ?_
  refine O.nil ?_
  refine X.next ?_
  refine V.seq ?_
  refine V.region ?_
  refine O.p rfl rfl rfl (Pu.loadAgg rfl ag30 sz30 rfl rfl (Ld.whole 0 rfl)) ?_
  refine O.e rfl rfl rfl (Ef.build I64 ([] : List Int) rfl Try.underlying43 inf2 rfl rfl rfl (by first | decide | (simp; done)) (by kernel_rfl)) ?_
  rintro _ _ ⟨A1, hA1, rfl, rfl⟩
  refine O.p rfl rfl rfl (Pu.fieldAddr 0 rfl Try.underlying30 rfl sz2 rfl rfl) ?_
  refine O.p rfl rfl rfl (Pu.load rfl pl2 rfl (Ld.blk 1 rfl rfl)) ?_
  refine O.p rfl rfl rfl (Pu.convU' ((v).toNat) (by omega) ⟨_, Try.underlying2⟩ Try.underlying115 (by omega) rfl rfl) ?_
  refine O.p rfl rfl rfl (Pu.shl1 (p := (v).toNat) K64.i (by omega) rfl rfl rfl) ?_
  refine O.p rfl rfl rfl (Pu.sub64 (r := ((2 ^ v.toNat - 1 : Nat) : Int)) (by omega) (by omega) rfl rfl rfl) ?_
  refine O.e rfl rfl rfl (Ef.call1 call140 rfl rfl (fun w hw => l05Classes_ok 5 _ bs _ 0 _ _ _ _ w ((Ld.old hx) w hw) ((Ld.own 0 (by exact rfl)) w hw) hA1 hS part_nil (by decide) (by omega) (by simp))) ?_
  rintro _ _ rfl
  refine O.exi (fun p1 => ?_)
  refine O.sep ?_
  refine O.pur ?_
  rintro ⟨rfl, hp1_1, hp1_2, hp1_3⟩
  refine O.sep ?_
  refine O.e rfl rfl rfl (Ef.build SlC ([] : List Sl) rfl Try.underlying34 inf43 rfl rfl rfl (by first | decide | (simp; done)) (by kernel_rfl)) ?_
  rintro _ _ ⟨A2, hA2, rfl, rfl⟩
  refine O.p rfl rfl rfl (Pu.assign rfl rfl) ?_
  refine O.p rfl rfl rfl (Pu.assign rfl rfl) ?_
  refine O.nil ?_
  refine X.next ?_
  refine V.seq ?_
  refine V.seq ?_
  refine V.region ?_
  refine O.p rfl rfl rfl (Pu.assign rfl rfl) ?_
  refine O.nil ?_
  refine X.next ?_
  refine V.block ?_
  have htl1 := tops_len p1.2
  have h35 : 35 ^ 5 = 52521875 := by decide
  refine V.fact (RowsA.len 2 (by exact rfl)) (fun hn1 => ?_)
  refine V.map (fun w hw => RowsA.nil (T := 2) (C := I64) hw) ?_
  refine V.loop3 (β := Nat × Option Addr × Nat × List (Sl × List Int)) (fun x => [(5, .int .i64 (x.1 : Int)), (4, .slice x.2.1 (tops x.2.2.2).length x.2.2.1)]) _ (fun x => [Own 43 SlC x.2.1 x.2.2.1 (tops x.2.2.2), RowsA 2 I64 x.2.2.2, RowsA 2 I64 (p1.2.drop x.1)]) _ (fun x => x.1 ≤ p1.2.length ∧ SrtL (conts x.2.2.2) ∧ (∀ q, q ∈ conts x.2.2.2 ↔ q ∈ conts (p1.2.take x.1)) ∧ x.2.2.2.length ≤ x.1) (fun x => p1.2.length - x.1) (0, A2, 0, []) ⟨by simp, SrtL.nil, by simp [conts], by simp⟩ (Ent.cons rfl (Ent.cons rfl (Ent.nil _))) (Ent.cons (t := 2) rfl (Ent.cons (t := 3) rfl (Ent.nil _))) (Sub.keep 1 rfl (Sub.keep 0 rfl (Sub.keep 1 rfl (Sub.keep 0 rfl (Sub.nil _))))) ?_
  rintro ⟨i, Ao, co, ps⟩ ⟨hi, hs, hm, hln⟩
  dsimp only at hi hs hm hln
  have htl := tops_len ps
  refine V.seq ?_
  refine V.seq ?_
  refine V.region ?_
  refine O.p rfl rfl rfl (Pu.move rfl rfl) ?_
  refine O.p rfl rfl rfl (Pu.move rfl rfl) ?_
  refine O.p rfl rfl rfl (Pu.len rfl Try.underlying34 rfl) ?_
  refine O.p rfl rfl rfl (Pu.lss rfl rfl rfl) ?_
  refine O.nil ?_
  refine X.next ?_
  refine V.condD rfl (fun c1 => ?_) (fun c1 => ?_)
  · skip
    refine V.skip ?_
    refine X.next ?_
    refine V.seq ?_
    refine V.block ?_
    have e1 : i < p1.2.length := by omega
    refine V.map (fun w hw => unrow e1 (hw.sub (Sub.keep 2 rfl (Sub.keep 0 rfl (Sub.keep 0 rfl (Sub.keep 0 rfl (Sub.nil _))))))) ?_
    refine V.region ?_
    refine O.p rfl rfl rfl (Pu.move rfl rfl) ?_
    refine O.p rfl rfl rfl (Pu.move rfl rfl) ?_
    refine O.p rfl rfl rfl (Pu.move rfl rfl) ?_
    refine O.p rfl rfl rfl (Pu.indexAddrS (i) rfl Try.underlying34 sz43 rfl rfl (by omega) (by omega) (fun w hw => Own.some hw (i := 4) (by exact rfl) (by omega))) ?_
    refine O.p rfl rfl rfl (Pu.load rfl pl43 rfl (Ld.row (Ld.own 4 (by exact rfl)) hn1 e1 rfl)) ?_
    refine O.e rfl rfl rfl (Ef.call call141 rfl rfl (Does.pre (fun w hw => hw.sub (Sub.keep 2 rfl (Sub.keep 2 rfl (Sub.keep 0 rfl (Sub.keep 0 rfl (Sub.keep 0 rfl (Sub.nil _))))))) (l03Put_ok ps _ _ _ _ _ _ _ hs (by omega)))) ?_
    rintro _ _ rfl
    refine O.exi (fun p2 => ?_)
    refine O.sep ?_
    refine O.pur ?_
    rintro ⟨rfl, hp2_1, hp2_2, hp2_3⟩
    refine O.sep ?_
    refine O.p rfl rfl rfl (Pu.assign rfl rfl) ?_
    refine O.nil ?_
    refine X.blockNormal ?_
    refine X.next ?_
    refine V.region ?_
    refine O.p rfl rfl rfl (Pu.move rfl rfl) ?_
    refine O.p rfl rfl rfl (Pu.add64 (r := ((i + 1 : Nat) : Int)) rfl (by omega) rfl rfl rfl) ?_
    refine O.p rfl rfl rfl (Pu.assign rfl rfl) ?_
    refine O.nil ?_
    exact X.back3 (i + 1, p2.1.1, p2.1.2, p2.2) ⟨by simp only []; omega, hp2_1, fun q => by rw [hp2_2 q, hm q, take_snoc e1, conts_append, List.mem_append]; simp [conts], by simp only []; omega⟩ (by omega) (Ent.cons rfl (Ent.cons rfl (Ent.nil _))) (Ent.cons (t := 2) rfl (Ent.cons (t := 3) rfl (Ent.nil _))) (Sub.keep 0 rfl (Sub.keep 0 rfl (Sub.keep 0 rfl (Sub.keep 0 rfl (Sub.nil _)))))
  · skip
    refine V.exit ?_
    refine X.thenExit ?_
    refine X.thenExit ?_
    refine X.blockHit ?_
    refine X.next ?_
    refine V.seq ?_
    refine V.region ?_
    refine O.p rfl rfl rfl (Pu.move rfl rfl) ?_
    refine O.p rfl rfl rfl (Pu.assign rfl rfl) ?_
    refine O.nil ?_
    refine X.next ?_
    refine V.ret ?_
    refine X.ret1 rfl rfl ?_
    exact fun w hw => St.mkExi ((Ao, co), ps) (St.unsep (St.addPur ⟨rfl, ⟨hs, fun q => by rw [hm q, List.take_of_length_le (by omega), hp1_2 q]; simp⟩, show ps.length ≤ 52521875 by omega⟩ (St.unsep (hw.sub (Sub.keep 0 rfl (Sub.keep 0 rfl (Sub.nil _)))))))

/-- A list with its number: all that are such, or nothing. -/
def ResL (ok : Prop) (p : List Int → Prop) (l : List (List Int)) : Prop := (ok → IsList p l) ∧ (¬ ok → l = [])
theorem ResL.unique {ok : Prop} {p : List Int → Prop} {l m : List (List Int)} (h1 : ResL ok p l) (h2 : ResL ok p m) : l = m := by
  by_cases h : ok
  · exact (h1.1 h).unique (h2.1 h)
  · rw [h1.2 h, h2.2 h]
end Go.Proofs.Ytjpfngmoabnffaa
