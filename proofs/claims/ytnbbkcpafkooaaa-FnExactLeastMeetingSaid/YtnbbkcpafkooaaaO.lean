/-
  The least meeting set.
-/
import Derived.Test.YtnbbkcpafkooaaaG
import Derived.Test.YtnbbkcpafkooaaaI
import Derived.Test.YtnbbkcpafkooaaaN
import Derived.Test.YtnbbkcpafkooaaaPureMeet
set_option linter.unusedVariables false
set_option linter.unusedSimpArgs false
namespace Go.Proofs.Ytnbbkcpafkooaaa
open Go Go.RowKit Go.Vc Go.Proofs
def LMost (n : Nat) : Prop := ∀ (v : Int) (bs : List B3) (set best from_ : Nat) (A : Option Addr) (c : Nat) (w : World) (hx : Rd B3C w A bs) (hS : STS v bs) (hi : Indep bs set) (hset : set < 2 ^ v.toNat) (hb : best < 32768) (hn : v.toNat ≤ from_ + n) (hf : from_ ≤ 16), Does Try.prog 40 [.agg #[.int .i64 v, .slice A bs.length c], .int .i64 (set : Int), .int .i64 (best : Int), .int .i64 (from_ : Int)] w [] (fun x => [.exi fun r : Nat => .sep (.pur (x = .int .i64 (r : Int) ∧ MostR v.toNat bs set best from_ r ∧ r < 32768)) .emp])
set_option maxRecDepth 100000 in
theorem l07Most_step (n : Nat) (ih : ∀ n', n' < n → LMost n') (v : Int) (bs : List B3) (set best from_ : Nat) (A : Option Addr) (c : Nat) (w : World) (hx : Rd B3C w A bs) (hS : STS v bs) (hi : Indep bs set) (hset : set < 2 ^ v.toNat) (hb : best < 32768) (hn : v.toNat ≤ from_ + n) (hf : from_ ≤ 16) : Does Try.prog 40 [.agg #[.int .i64 v, .slice A bs.length c], .int .i64 (set : Int), .int .i64 (best : Int), .int .i64 (from_ : Int)] w [] (fun x => [.exi fun r : Nat => .sep (.pur (x = .int .i64 (r : Int) ∧ MostR v.toNat bs set best from_ r ∧ r < 32768)) .emp]) := by
  refine Does.enter Try.func40 rfl rfl [(0, .agg #[.int .i64 v, .slice A bs.length c]), (1, .int .i64 (set : Int)), (2, .int .i64 (best : Int)), (3, .int .i64 (from_ : Int))] rfl ?_
  refine V.seq ?_
  have hlo := hS.lo
  have hhi := hS.hi
  have hfew := hS.few
  have hg : ∀ b ∈ bs, good 15 b := fun b h => (hS.good b h).mono hS.hi
  have hpw : 2 ^ v.toNat ≤ 2 ^ 15 := Nat.pow_le_pow_right (by decide) (by omega)
  have hos := ones_le set
  refine V.region ?_
  refine O.e rfl rfl rfl (Ef.box rfl rfl rfl) ?_
  rintro _ _ ⟨b1, rfl, rfl⟩
  refine O.p rfl rfl rfl (Pu.assign rfl rfl) ?_
  refine O.nil ?_
  refine X.next ?_
  refine V.seq ?_
  refine V.seq ?_
  refine V.region ?_
  refine O.p rfl rfl rfl (Pu.move rfl rfl) ?_
  refine O.e rfl rfl rfl (Ef.callP call39 rfl rfl (fun w hw => l05Ones_ok set w (by omega))) ?_
  rintro _ _ ⟨rfl, rfl⟩
  refine O.p rfl rfl rfl (Pu.move rfl rfl) ?_
  refine O.e rfl rfl rfl (Ef.callP call39 rfl rfl (fun w hw => l05Ones_ok best w (by omega))) ?_
  rintro _ _ ⟨rfl, rfl⟩
  refine O.p rfl rfl rfl (Pu.gtr rfl rfl rfl) ?_
  refine O.nil ?_
  refine X.next ?_
  refine V.cut2 [(2, .int .i64 (((if ones best < ones set then set else best) : Nat) : Int))] (Ent.cons (t := 1) rfl (Ent.cons (t := 3) rfl (Ent.cons (t := 4) rfl (Ent.cons (t := 8) rfl (Ent.nil _))))) (Sub.keep 0 rfl (Sub.nil _)) ?_ ?_
  · skip
    refine V.condD rfl (fun c1 => ?_) (fun c1 => ?_)
    · skip
      refine V.region ?_
      refine O.p rfl rfl rfl (Pu.move rfl rfl) ?_
      refine O.p rfl rfl rfl (Pu.assign rfl rfl) ?_
      refine O.nil ?_
      exact X.cut (Ent.cons' rfl (iv (by rw [if_pos (by omega)])) (Ent.nil _)) (Ent.cons (t := 1) rfl (Ent.cons (t := 3) rfl (Ent.cons (t := 4) rfl (Ent.cons (t := 8) rfl (Ent.nil _))))) (Sub.keep 0 rfl (Sub.nil _))
    · skip
      refine V.skip ?_
      exact X.cut (Ent.cons' rfl (iv (by rw [if_neg (by omega)])) (Ent.nil _)) (Ent.cons (t := 1) rfl (Ent.cons (t := 3) rfl (Ent.cons (t := 4) rfl (Ent.cons (t := 8) rfl (Ent.nil _))))) (Sub.keep 0 rfl (Sub.nil _))
  · skip
    refine X.next ?_
    refine V.seq ?_
    refine V.seq ?_
    refine V.region ?_
    refine O.p rfl rfl rfl (Pu.move rfl rfl) ?_
    refine O.p rfl rfl rfl (Pu.assign rfl rfl) ?_
    refine O.nil ?_
    refine X.next ?_
    refine V.block ?_
    refine V.loop3 (β := Nat × Nat) (fun x => [(9, .int .i64 (x.1 : Int)), (2, .int .i64 (x.2 : Int))]) _ (fun x => []) _ (fun x => from_ ≤ x.1 ∧ x.1 ≤ 16 ∧ x.2 < 32768 ∧ MostI v.toNat bs set best from_ x.1 x.2) (fun x => 16 - x.1) (from_, (if ones best < ones set then set else best)) ⟨by simp, by simpa using hf, by simp only []; split <;> omega, most_start hi hset⟩ (Ent.cons rfl (Ent.cons rfl (Ent.nil _))) (Ent.cons (t := 1) rfl (Ent.cons (t := 4) rfl (Ent.cons (t := 8) rfl (Ent.nil _)))) (Sub.keep 0 rfl (Sub.nil _)) ?_
    rintro ⟨p, r⟩ ⟨hfp, hp, hr, hI⟩
    dsimp only at hfp hp hr hI
    refine V.seq ?_
    refine V.seq ?_
    refine V.draw mo (by kernel_rfl) (fun hwf => ?_)
    refine D.p 0 rfl rfl rfl rfl rfl rfl (Pu.move rfl rfl) ?_
    refine D.p 1 rfl rfl rfl rfl rfl rfl (Pu.fieldAddr 0 rfl Try.underlying31 rfl sz2 rfl rfl) ?_
    refine D.p 2 rfl rfl rfl rfl rfl rfl (Pu.load rfl pl2 rfl (Ld.blk 0 rfl rfl)) ?_
    refine D.p 3 rfl rfl rfl rfl rfl rfl (Pu.lss rfl rfl rfl) ?_
    refine D.p 4 rfl rfl rfl rfl rfl rfl (Pu.move rfl rfl) ?_
    refine D.splitD 22 rfl (fun c2 => ?_) (fun c2 => ?_)
    · skip
      refine D.gp 5 rfl rfl rfl rfl rfl rfl rfl rfl (Pu.move rfl rfl) ?_
      refine D.gp 7 rfl rfl rfl rfl rfl rfl rfl rfl (Pu.fieldAddr 0 rfl Try.underlying31 rfl sz2 rfl rfl) ?_
      refine D.gp 8 rfl rfl rfl rfl rfl rfl rfl rfl (Pu.load rfl pl2 rfl (Ld.blk 0 rfl rfl)) ?_
      refine D.gp 10 rfl rfl rfl rfl rfl rfl rfl rfl (Pu.move rfl rfl) ?_
      refine D.gp 12 rfl rfl rfl rfl rfl rfl rfl rfl (Pu.move rfl rfl) ?_
      refine D.geff hwf (e := 6) rfl rfl rfl rfl rfl rfl (Ef.callP call39 rfl rfl (fun w hw => l05Ones_ok set w (by omega))) rfl rfl rfl ?_
      rintro _ _ ⟨rfl, rfl⟩ hs
      refine ⟨fun w hw => hw, ?_⟩
      refine D.gp 9 rfl rfl rfl rfl rfl rfl rfl rfl (Pu.add64 rfl (by omega) rfl rfl rfl) ?_
      refine D.gp 11 rfl rfl rfl rfl rfl rfl rfl rfl (Pu.sub64 rfl (by omega) rfl rfl rfl) ?_
      refine D.geff hwf (e := 13) rfl rfl rfl rfl rfl rfl (Ef.callP call39 rfl rfl (fun w hw => l05Ones_ok r w (by omega))) rfl rfl rfl ?_
      rintro _ _ ⟨rfl, rfl⟩ hs
      refine ⟨fun w hw => hw, ?_⟩
      refine D.gp 14 rfl rfl rfl rfl rfl rfl rfl rfl (Pu.gtr rfl rfl rfl) ?_
      refine D.p 15 rfl rfl rfl rfl rfl rfl (Pu.pickT rfl rfl rfl) ?_
      refine D.done hwf rfl ?_
      refine X.next ?_
      refine V.condD rfl (fun c3 => ?_) (fun c3 => ?_)
      · skip
        refine V.skip ?_
        refine X.next ?_
        refine V.seq ?_
        refine V.block ?_
        refine V.seq ?_
        have hor : set ||| 2 ^ p < 2 ^ 15 := Nat.or_lt_two_pow (by omega) (Nat.pow_lt_pow_right (by decide) (by omega))
        refine V.region ?_
        refine O.p rfl rfl rfl (Pu.move rfl rfl) ?_
        refine O.p rfl rfl rfl (Pu.move rfl rfl) ?_
        refine O.p rfl rfl rfl (Pu.convU' p (by omega) ⟨_, Try.underlying2⟩ Try.underlying75 (by omega) rfl rfl) ?_
        refine O.p rfl rfl rfl (Pu.shl1 (p := p) K64.i (by omega) rfl rfl rfl) ?_
        refine O.p rfl rfl rfl (Pu.or (m := set) (n := (2 ^ p)) K64.i (by omega) (pow_lt62 (by omega)) rfl rfl rfl) ?_
        refine O.p rfl rfl rfl (Pu.assign rfl rfl) ?_
        refine O.nil ?_
        refine X.next ?_
        refine V.seq ?_
        refine V.region ?_
        refine O.p rfl rfl rfl (Pu.loadAgg rfl ag31 sz31 rfl rfl (Ld.whole 0 rfl)) ?_
        refine O.p rfl rfl rfl (Pu.move rfl rfl) ?_
        refine O.e rfl rfl rfl (Ef.callP call61 rfl rfl (fun w hw => l07Independent_ok _ bs (set ||| (2 ^ p)) _ _ w ((Ld.old hx) w hw) hg (by omega) hfew)) ?_
        rintro _ _ ⟨rfl, rfl⟩
        refine O.nil ?_
        refine X.next ?_
        refine V.condD rfl (fun c4 => ?_) (fun c4 => ?_)
        · skip
          refine V.region ?_
          refine O.p rfl rfl rfl (Pu.loadAgg rfl ag31 sz31 rfl rfl (Ld.whole 0 rfl)) ?_
          refine O.p rfl rfl rfl (Pu.move rfl rfl) ?_
          refine O.p rfl rfl rfl (Pu.move rfl rfl) ?_
          refine O.p rfl rfl rfl (Pu.move rfl rfl) ?_
          refine O.p rfl rfl rfl (Pu.add64 (r := ((p + 1 : Nat) : Int)) rfl (by omega) rfl rfl rfl) ?_
          refine O.e rfl rfl rfl (Ef.call1 call40 rfl rfl (fun w hw => ih (n - 1) (by omega) v bs (set ||| 2 ^ p) r (p + 1) _ _ w ((Ld.old hx) w hw) hS c4 (Nat.or_lt_two_pow hset (Nat.pow_lt_pow_right (by decide) (by omega))) hr (by omega) (by omega))) ?_
          rintro _ _ rfl
          refine O.exi (fun r1 => ?_)
          refine O.sep ?_
          refine O.pur ?_
          rintro ⟨rfl, hr1_1, hr1_2⟩
          refine O.p rfl rfl rfl (Pu.assign rfl rfl) ?_
          refine O.nil ?_
          refine X.blockNormal ?_
          refine X.next ?_
          refine V.region ?_
          refine O.p rfl rfl rfl (Pu.move rfl rfl) ?_
          refine O.p rfl rfl rfl (Pu.add64 (r := ((p + 1 : Nat) : Int)) rfl (by omega) rfl rfl rfl) ?_
          refine O.p rfl rfl rfl (Pu.assign rfl rfl) ?_
          refine O.nil ?_
          exact X.back3 (p + 1, r1) ⟨by simp only []; omega, by simp only []; omega, hr1_2, most_step hI hfp hr1_1⟩ (by omega) (Ent.cons rfl (Ent.cons rfl (Ent.nil _))) (Ent.cons (t := 1) rfl (Ent.cons (t := 4) rfl (Ent.cons (t := 8) rfl (Ent.nil _)))) (Sub.keep 1 rfl (Sub.nil _))
        · skip
          refine V.skip ?_
          refine X.blockNormal ?_
          refine X.next ?_
          refine V.region ?_
          refine O.p rfl rfl rfl (Pu.move rfl rfl) ?_
          refine O.p rfl rfl rfl (Pu.add64 (r := ((p + 1 : Nat) : Int)) rfl (by omega) rfl rfl rfl) ?_
          refine O.p rfl rfl rfl (Pu.assign rfl rfl) ?_
          refine O.nil ?_
          exact X.back3 (p + 1, r) ⟨by simp only []; omega, by simp only []; omega, hr, most_skip hI c4⟩ (by omega) (Ent.cons rfl (Ent.cons rfl (Ent.nil _))) (Ent.cons (t := 1) rfl (Ent.cons (t := 4) rfl (Ent.cons (t := 8) rfl (Ent.nil _)))) (Sub.keep 0 rfl (Sub.nil _))
      · skip
        refine V.exit ?_
        refine X.thenExit ?_
        refine X.thenExit ?_
        refine X.blockHit ?_
        refine X.next ?_
        refine V.seq ?_
        refine V.region ?_
        refine O.p rfl rfl rfl (Pu.move rfl rfl) ?_
        refine O.p rfl rfl rfl (Pu.assign rfl rfl) ?_
        refine O.nil ?_
        refine X.next ?_
        refine V.ret ?_
        refine X.ret1 rfl rfl ?_
        exact fun w hw => St.mkExi r (St.unsep (St.addPur ⟨rfl, most_end hI hset (by omega), hr⟩ (St.addPur trivial (hw.sub (Sub.nil _)))))
    · skip
      refine D.gs 5 rfl rfl rfl rfl rfl rfl rfl rfl rfl ?_
      refine D.gs 6 rfl rfl rfl rfl rfl rfl rfl rfl rfl ?_
      refine D.gs 7 rfl rfl rfl rfl rfl rfl rfl rfl rfl ?_
      refine D.gs 8 rfl rfl rfl rfl rfl rfl rfl rfl rfl ?_
      refine D.gs 9 rfl rfl rfl rfl rfl rfl rfl rfl rfl ?_
      refine D.gs 10 rfl rfl rfl rfl rfl rfl rfl rfl rfl ?_
      refine D.gs 11 rfl rfl rfl rfl rfl rfl rfl rfl rfl ?_
      refine D.gs 12 rfl rfl rfl rfl rfl rfl rfl rfl rfl ?_
      refine D.gs 13 rfl rfl rfl rfl rfl rfl rfl rfl rfl ?_
      refine D.gs 14 rfl rfl rfl rfl rfl rfl rfl rfl rfl ?_
      refine D.p 15 rfl rfl rfl rfl rfl rfl (Pu.pickF rfl rfl rfl) ?_
      refine D.done hwf rfl ?_
      refine X.next ?_
      refine V.condF rfl ?_
      refine V.exit ?_
      refine X.thenExit ?_
      refine X.thenExit ?_
      refine X.blockHit ?_
      refine X.next ?_
      refine V.seq ?_
      refine V.region ?_
      refine O.p rfl rfl rfl (Pu.move rfl rfl) ?_
      refine O.p rfl rfl rfl (Pu.assign rfl rfl) ?_
      refine O.nil ?_
      refine X.next ?_
      refine V.ret ?_
      refine X.ret1 rfl rfl ?_
      exact fun w hw => St.mkExi r (St.unsep (St.addPur ⟨rfl, most_end hI hset (by omega), hr⟩ (St.addPur trivial (hw.sub (Sub.nil _)))))

theorem l07Most_ok (n : Nat) : LMost n := by
  induction n using Nat.strongRecOn with
  | _ n ih => exact fun v bs set best from_ A c w hx hS hi hset hb hn hf => l07Most_step n ih v bs set best from_ A c w hx hS hi hset hb hn hf

def LMeet (n : Nat) : Prop := ∀ (v : Int) (bs : List B3) (set k f : Nat) (A : Option Addr) (c : Nat) (w : World) (hx : Rd B3C w A bs) (hS : STS v bs) (hset : set < 2 ^ v.toNat) (hsf : set < 2 ^ f) (hfv : f ≤ v.toNat) (hk : k ≤ n) (hk2 : k ≤ 15), Does Try.prog 42 [.agg #[.int .i64 v, .slice A bs.length c], .int .i64 (set : Int), .int .i64 (k : Int), .int .i64 (f : Int)] w [] (fun x => [.exi fun r : Int => .sep (.pur (x = .int .i64 r ∧ MeetR v.toNat bs set k f r)) .emp])
set_option maxRecDepth 100000 in
theorem l07Meet_step (n : Nat) (ih : ∀ n', n' < n → LMeet n') (v : Int) (bs : List B3) (set k f : Nat) (A : Option Addr) (c : Nat) (w : World) (hx : Rd B3C w A bs) (hS : STS v bs) (hset : set < 2 ^ v.toNat) (hsf : set < 2 ^ f) (hfv : f ≤ v.toNat) (hk : k ≤ n) (hk2 : k ≤ 15) : Does Try.prog 42 [.agg #[.int .i64 v, .slice A bs.length c], .int .i64 (set : Int), .int .i64 (k : Int), .int .i64 (f : Int)] w [] (fun x => [.exi fun r : Int => .sep (.pur (x = .int .i64 r ∧ MeetR v.toNat bs set k f r)) .emp]) := by
  refine Does.enter Try.func42 rfl rfl [(0, .agg #[.int .i64 v, .slice A bs.length c]), (1, .int .i64 (set : Int)), (2, .int .i64 (k : Int)), (3, .int .i64 (f : Int))] rfl ?_
  refine V.seq ?_
  have hlo := hS.lo
  have hhi := hS.hi
  have hfew := hS.few
  have hb := hS.good
  have hg : ∀ b ∈ bs, good 15 b := fun b h => (hb b h).mono hS.hi
  have hpw : 2 ^ v.toNat ≤ 2 ^ 15 := Nat.pow_le_pow_right (by decide) (by omega)
  have hpw0 := Nat.two_pow_pos v.toNat
  refine V.region ?_
  refine O.e rfl rfl rfl (Ef.box rfl rfl rfl) ?_
  rintro _ _ ⟨b1, rfl, rfl⟩
  refine O.p rfl rfl rfl (Pu.assign rfl rfl) ?_
  refine O.nil ?_
  refine X.next ?_
  refine V.seq ?_
  refine V.seq ?_
  refine V.region ?_
  refine O.p rfl rfl rfl (Pu.move rfl rfl) ?_
  refine O.p rfl rfl rfl (Pu.eql rfl rfl rfl) ?_
  refine O.nil ?_
  refine X.next ?_
  refine V.condD rfl (fun c1 => ?_) (fun c1 => ?_)
  · skip
    refine V.seq ?_
    refine V.seq ?_
    refine V.region ?_
    refine O.p rfl rfl rfl (Pu.loadAgg rfl ag31 sz31 rfl rfl (Ld.whole 0 rfl)) ?_
    refine O.p rfl rfl rfl (Pu.fieldAddr 0 rfl Try.underlying31 rfl sz2 rfl rfl) ?_
    refine O.p rfl rfl rfl (Pu.load rfl pl2 rfl (Ld.blk 0 rfl rfl)) ?_
    refine O.p rfl rfl rfl (Pu.convU' ((v).toNat) (by omega) ⟨_, Try.underlying2⟩ Try.underlying75 (by omega) rfl rfl) ?_
    refine O.p rfl rfl rfl (Pu.shl1 (p := (v).toNat) K64.i (by omega) rfl rfl rfl) ?_
    refine O.p rfl rfl rfl (Pu.sub64 (r := ((2 ^ v.toNat - 1 : Nat) : Int)) (by omega) (by omega) rfl rfl rfl) ?_
    refine O.p rfl rfl rfl (Pu.move rfl rfl) ?_
    refine O.p rfl rfl rfl (Pu.sub64 (r := (((2 ^ v.toNat - 1 - set) : Nat) : Int)) (by omega) (by omega) rfl rfl rfl) ?_
    refine O.e rfl rfl rfl (Ef.callP call61 rfl rfl (fun w hw => l07Independent_ok _ bs (2 ^ v.toNat - 1 - set) _ _ w ((Ld.old hx) w hw) hg (by omega) hfew)) ?_
    rintro _ _ ⟨rfl, rfl⟩
    refine O.nil ?_
    refine X.next ?_
    refine V.condD rfl (fun c2 => ?_) (fun c2 => ?_)
    · skip
      refine V.seq ?_
      refine V.region ?_
      refine O.p rfl rfl rfl (Pu.move rfl rfl) ?_
      refine O.p rfl rfl rfl (Pu.assign rfl rfl) ?_
      refine O.nil ?_
      refine X.next ?_
      refine V.ret ?_
      refine X.thenRet ?_
      refine X.thenRet ?_
      refine X.ret1 rfl rfl ?_
      exact fun w hw => St.mkExi (set : Int) (St.unsep (St.addPur ⟨rfl, by have e : k = 0 := (by omega); subst e; exact meet_zero hb hset c2⟩ (St.addPur trivial (hw.sub (Sub.nil _)))))
    · skip
      refine V.skip ?_
      refine X.next ?_
      refine V.seq ?_
      refine V.region ?_
      refine O.p rfl rfl rfl (Pu.assign rfl rfl) ?_
      refine O.nil ?_
      refine X.next ?_
      refine V.ret ?_
      refine X.thenRet ?_
      refine X.ret1 rfl rfl ?_
      exact fun w hw => St.mkExi (-1) (St.unsep (St.addPur ⟨rfl, by have e : k = 0 := (by omega); subst e; exact meet_zero' hb hset c2⟩ (St.addPur trivial (hw.sub (Sub.nil _)))))
  · skip
    have hk1 : k - 1 + 1 = k := by omega
    refine V.skip ?_
    refine X.next ?_
    refine V.seq ?_
    refine V.seq ?_
    refine V.region ?_
    refine O.p rfl rfl rfl (Pu.move rfl rfl) ?_
    refine O.p rfl rfl rfl (Pu.assign rfl rfl) ?_
    refine O.nil ?_
    refine X.next ?_
    refine V.block ?_
    refine V.loop3 (β := Nat) (fun p => [(9, .int .i64 (p : Int))]) _ (fun p => []) _ (fun p => f ≤ p ∧ p ≤ 16 ∧ MeetI v.toNat bs set (k - 1 + 1) f p) (fun p => 16 - p) f ⟨by omega, by omega, meet_start⟩ (Ent.cons rfl (Ent.nil _)) (Ent.cons (t := 1) rfl (Ent.cons (t := 2) rfl (Ent.cons (t := 4) rfl (Ent.nil _)))) (Sub.keep 0 rfl (Sub.nil _)) ?_
    rintro p ⟨hfp, hp, hI⟩
    refine V.seq ?_
    refine V.seq ?_
    refine V.region ?_
    refine O.p rfl rfl rfl (Pu.move rfl rfl) ?_
    refine O.p rfl rfl rfl (Pu.move rfl rfl) ?_
    refine O.p rfl rfl rfl (Pu.add64 (r := ((p + k : Nat) : Int)) (by omega) (by omega) rfl rfl rfl) ?_
    refine O.p rfl rfl rfl (Pu.fieldAddr 0 rfl Try.underlying31 rfl sz2 rfl rfl) ?_
    refine O.p rfl rfl rfl (Pu.load rfl pl2 rfl (Ld.blk 0 rfl rfl)) ?_
    refine O.p rfl rfl rfl (Pu.leq rfl rfl rfl) ?_
    refine O.nil ?_
    refine X.next ?_
    refine V.condD rfl (fun c3 => ?_) (fun c3 => ?_)
    · skip
      refine V.skip ?_
      refine X.next ?_
      refine V.seq ?_
      refine V.block ?_
      refine V.seq ?_
      refine V.region ?_
      refine O.p rfl rfl rfl (Pu.loadAgg rfl ag31 sz31 rfl rfl (Ld.whole 0 rfl)) ?_
      refine O.p rfl rfl rfl (Pu.move rfl rfl) ?_
      refine O.p rfl rfl rfl (Pu.move rfl rfl) ?_
      refine O.p rfl rfl rfl (Pu.convU' p (by omega) ⟨_, Try.underlying2⟩ Try.underlying75 (by omega) rfl rfl) ?_
      refine O.p rfl rfl rfl (Pu.shl1 (p := p) K64.i (by omega) rfl rfl rfl) ?_
      refine O.p rfl rfl rfl (Pu.or (m := set) (n := (2 ^ p)) K64.i (by omega) (pow_lt62 (by omega)) rfl rfl rfl) ?_
      refine O.p rfl rfl rfl (Pu.move rfl rfl) ?_
      refine O.p rfl rfl rfl (Pu.sub64 (r := (((k - 1) : Nat) : Int)) (by omega) (by omega) rfl rfl rfl) ?_
      refine O.p rfl rfl rfl (Pu.move rfl rfl) ?_
      refine O.p rfl rfl rfl (Pu.add64 (r := ((p + 1 : Nat) : Int)) rfl (by omega) rfl rfl rfl) ?_
      refine O.e rfl rfl rfl (Ef.call1 call42 rfl rfl (fun w hw => ih (n - 1) (by omega) v bs (set ||| 2 ^ p) (k - 1) (p + 1) _ _ w ((Ld.old hx) w hw) hS (Nat.or_lt_two_pow hset (Nat.pow_lt_pow_right (by decide) (by omega))) (Nat.or_lt_two_pow (Nat.lt_of_lt_of_le hsf (Nat.pow_le_pow_right (by decide) (by omega))) (Nat.pow_lt_pow_right (by decide) (by omega))) (by omega) (by omega) (by omega))) ?_
      rintro _ _ rfl
      refine O.exi (fun r1 => ?_)
      refine O.sep ?_
      refine O.pur ?_
      rintro ⟨rfl, hr1_1⟩
      refine O.p rfl rfl rfl (Pu.assign rfl rfl) ?_
      refine O.nil ?_
      refine X.next ?_
      refine V.seq ?_
      refine V.region ?_
      refine O.p rfl rfl rfl (Pu.move rfl rfl) ?_
      refine O.p rfl rfl rfl (Pu.geq rfl rfl rfl) ?_
      refine O.nil ?_
      refine X.next ?_
      refine V.condD rfl (fun c4 => ?_) (fun c4 => ?_)
      · skip
        refine V.seq ?_
        refine V.region ?_
        refine O.p rfl rfl rfl (Pu.move rfl rfl) ?_
        refine O.p rfl rfl rfl (Pu.assign rfl rfl) ?_
        refine O.nil ?_
        refine X.next ?_
        refine V.ret ?_
        refine X.blockRet ?_
        refine X.thenRet ?_
        refine X.thenRet ?_
        refine X.blockRet ?_
        refine X.thenRet ?_
        refine X.ret1 rfl rfl ?_
        exact fun w hw => St.mkExi r1 (St.unsep (St.addPur ⟨rfl, by rcases hr1_1 with ⟨h, _⟩ | ⟨T, h, h1, h2⟩; (· omega); (· have h3 := meet_found (by omega) hset hsf hfp (by omega) hI h1 h2; rw [hk1] at h3; exact .inr ⟨T, h, h3⟩)⟩ (St.addPur trivial (hw.sub (Sub.nil _)))))
      · skip
        refine V.skip ?_
        refine X.blockNormal ?_
        refine X.next ?_
        refine V.region ?_
        refine O.p rfl rfl rfl (Pu.move rfl rfl) ?_
        refine O.p rfl rfl rfl (Pu.add64 (r := ((p + 1 : Nat) : Int)) rfl (by omega) rfl rfl rfl) ?_
        refine O.p rfl rfl rfl (Pu.assign rfl rfl) ?_
        refine O.nil ?_
        exact X.back3 (p + 1) ⟨by omega, by omega, meet_none (by omega) hset hsf hfp (by omega) hI (by rcases hr1_1 with ⟨_, h⟩ | ⟨T, h, _⟩; (· exact h); (· omega))⟩ (by omega) (Ent.cons rfl (Ent.nil _)) (Ent.cons (t := 1) rfl (Ent.cons (t := 2) rfl (Ent.cons (t := 4) rfl (Ent.nil _)))) (Sub.keep 1 rfl (Sub.nil _))
    · skip
      refine V.exit ?_
      refine X.thenExit ?_
      refine X.thenExit ?_
      refine X.blockHit ?_
      refine X.next ?_
      refine V.seq ?_
      refine V.region ?_
      refine O.p rfl rfl rfl (Pu.assign rfl rfl) ?_
      refine O.nil ?_
      refine X.next ?_
      refine V.ret ?_
      refine X.ret1 rfl rfl ?_
      exact fun w hw => St.mkExi (-1) (St.unsep (St.addPur ⟨rfl, .inl ⟨rfl, by have h := meet_end hset (by omega) (by omega) hI; rwa [hk1] at h⟩⟩ (St.addPur trivial (hw.sub (Sub.nil _)))))

theorem l07Meet_ok (n : Nat) : LMeet n := by
  induction n using Nat.strongRecOn with
  | _ n ih => exact fun v bs set k f A c w hx hS hset hsf hfv hk hk2 => l07Meet_step n ih v bs set k f A c w hx hS hset hsf hfv hk hk2
end Go.Proofs.Ytnbbkcpafkooaaa
