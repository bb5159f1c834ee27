/-
  The least meeting set, of the program.
-/
import Derived.Test.YtnbbkcpafkooaaaL
import Derived.Test.YtnbbkcpafkooaaaO
import Derived.Test.YtnbbkcpafkooaaaPureLeast
import Derived.Test.YtnbbkcpafkooaaaVcFun
set_option linter.unusedVariables false
set_option linter.unusedSimpArgs false
namespace Go.Proofs.Ytnbbkcpafkooaaa
open Go Go.RowKit Go.Vc Go.Proofs
set_option maxRecDepth 100000 in
theorem best_ok (v : Int) (bs : List B3) (sign : Int) (p : Nat → Prop) [DecidablePred p] (gf : Nat) (recv : Value) (A : Option Addr) (c : Nat) (w : World) (hx : Rd B3C w A bs) (lx : bs.length ≤ 4611686018427387904) (hv : 3 ≤ v ∧ v ≤ 15) (hsg : sign = -1 ∨ sign = 1) (hok : CallOk Try.prog gf) (hf : ∀ (q : Nat) w', q < 2 ^ v.toNat → Below w.heap.size w w' → Does Try.prog gf [recv, .int .u64 (q : Int)] w' [] (fun v => [.pur (v = .bool (decide (p q)))])) : Does Try.prog 43 [.agg #[.int .i64 v, .slice A bs.length c], .int .i64 sign, .func (.func gf) #[recv] #[]] w [] (fun r => [.exi fun (outA : Option Addr) => .exi fun (outc : Nat) => .exi fun (out : List Int) => .sep (.pur (r = .slice outA out.length outc ∧ ∃ found most, BestI sign p (2 ^ v.toNat) found most out ∧ out.length ≤ 15)) (Own 2 I64 outA outc out)]) := by
  refine Does.enter Try.func43 rfl rfl [(0, .agg #[.int .i64 v, .slice A bs.length c]), (1, .int .i64 sign), (2, .func (.func gf) #[recv] #[])] rfl ?_
  have hpw : 2 ^ v.toNat ≤ 2 ^ 15 := Nat.pow_le_pow_right (by decide) (by omega)
  have hpw0 := Nat.two_pow_pos v.toNat
  refine V.seq ?_
  refine V.region ?_
  refine O.e rfl rfl rfl (Ef.box rfl rfl rfl) ?_
  rintro _ _ ⟨b1, rfl, rfl⟩
  refine O.p rfl rfl rfl (Pu.assign rfl rfl) ?_
  refine O.nil ?_
  refine X.next ?_
  refine V.seq ?_
  refine V.region ?_
  refine O.p rfl rfl rfl (Pu.assign rfl rfl) ?_
  refine O.nil ?_
  refine X.next ?_
  refine V.seq ?_
  refine V.region ?_
  refine O.p rfl rfl rfl (Pu.assign rfl rfl) ?_
  refine O.p rfl rfl rfl (Pu.assign rfl rfl) ?_
  refine O.nil ?_
  refine X.next ?_
  refine V.seq ?_
  refine V.seq ?_
  refine V.region ?_
  refine O.p rfl rfl rfl (Pu.assign rfl rfl) ?_
  refine O.nil ?_
  refine X.next ?_
  refine V.block ?_
  refine V.map (fun w hw => St.addNil (T := 2) (C := I64) hw) ?_
  refine V.loop3 (β := (Option Addr) × Nat × (List Int) × Int × Bool × Nat) (fun x => [(7, .slice x.1 x.2.2.1.length x.2.1), (8, .int .i64 (x.2.2.2.1 : Int)), (9, .bool x.2.2.2.2.1), (10, .int .u64 (x.2.2.2.2.2 : Int))]) _ (fun x => [Own 2 I64 x.1 x.2.1 x.2.2.1]) _ (fun x => x.2.2.2.2.2 ≤ 2 ^ v.toNat ∧ BestI sign p x.2.2.2.2.2 x.2.2.2.2.1 x.2.2.2.1 x.2.2.1 ∧ x.2.2.1.length ≤ 15) (fun x => 2 ^ v.toNat - x.2.2.2.2.2) (none, 0, [], (0 : Int), false, 0) (by (try dsimp only); exact ⟨by omega, best_start, by simp⟩) (Ent.cons rfl (Ent.cons rfl (Ent.cons rfl (Ent.cons rfl (Ent.nil _))))) (Ent.cons (t := 1) rfl (Ent.cons (t := 2) rfl (Ent.cons (t := 3) rfl (Ent.cons (t := 6) rfl (Ent.nil _))))) (Sub.keep 0 rfl (Sub.keep 0 rfl (Sub.nil _))) ?_
  rintro ⟨outA, outc, out, most, found, s⟩ ⟨hs, hI, hlen⟩
  dsimp only at hs hI hlen ⊢
  have hol := ones_le s
  have hms : -32768 ≤ sign * (↑(ones s) : Int) ∧ sign * (↑(ones s) : Int) ≤ 32768 := by rcases hsg with rfl | rfl <;> omega
  refine V.seq ?_
  refine V.seq ?_
  refine V.region ?_
  refine O.p rfl rfl rfl (Pu.move rfl rfl) ?_
  refine O.p rfl rfl rfl (Pu.loadAgg rfl ag31 sz31 rfl rfl (Ld.whole 1 rfl)) ?_
  refine O.e rfl rfl rfl (Ef.callP call62 rfl rfl (fun w hw => setAll_ok _ bs _ _ w (by omega))) ?_
  rintro _ _ ⟨rfl, rfl⟩
  refine O.p rfl rfl rfl (Pu.leq rfl rfl rfl) ?_
  refine O.nil ?_
  refine X.next ?_
  refine V.condD rfl (fun c1 => ?_) (fun c1 => ?_)
  · skip
    refine V.skip ?_
    refine X.next ?_
    refine V.seq ?_
    refine V.block ?_
    refine V.seq ?_
    refine V.region ?_
    refine O.p rfl rfl rfl (Pu.move rfl rfl) ?_
    refine O.p rfl rfl rfl (Pu.move rfl rfl) ?_
    refine O.e rfl rfl rfl (Ef.callP call63 rfl rfl (fun w hw => size_ok s w (by omega))) ?_
    rintro _ _ ⟨rfl, rfl⟩
    refine O.p rfl rfl rfl (Pu.mul64 rfl (by omega) rfl rfl rfl) ?_
    refine O.p rfl rfl rfl (Pu.assign rfl rfl) ?_
    refine O.nil ?_
    refine X.next ?_
    refine V.seq ?_
    refine V.seq ?_
    refine V.region ?_
    refine O.p rfl rfl rfl (Pu.move rfl rfl) ?_
    refine O.p rfl rfl rfl (Pu.move rfl rfl) ?_
    refine O.splitB 24 rfl (fun c2 => ?_) (fun c2 => ?_)
    · skip
      subst c2
      refine O.gp rfl rfl rfl rfl rfl (Pu.move rfl rfl) ?_
      refine O.gp rfl rfl rfl rfl rfl (Pu.move rfl rfl) ?_
      refine O.gp rfl rfl rfl rfl rfl (Pu.lss rfl rfl rfl) ?_
      refine O.p rfl rfl rfl (Pu.pickT rfl rfl rfl) ?_
      refine O.p rfl rfl rfl (Pu.move rfl rfl) ?_
      refine O.splitD 29 rfl (fun c3 => ?_) (fun c3 => ?_)
      · skip
        refine O.gs rfl rfl rfl rfl rfl rfl ?_
        refine O.gs rfl rfl rfl rfl rfl rfl ?_
        refine O.gs rfl rfl rfl rfl rfl rfl ?_
        refine O.gs rfl rfl rfl rfl rfl rfl ?_
        refine O.p rfl rfl rfl (Pu.pickT rfl rfl rfl) ?_
        refine O.nil ?_
        refine X.next ?_
        refine V.condT rfl ?_
        refine V.exit ?_
        refine X.thenExit ?_
        refine X.blockHit ?_
        refine X.next ?_
        refine V.region ?_
        refine O.p rfl rfl rfl (Pu.move rfl rfl) ?_
        refine O.p rfl rfl rfl (Pu.addN (m := s) (n := 1) K64.u (by omega) rfl rfl rfl) ?_
        refine O.p rfl rfl rfl (Pu.assign rfl rfl) ?_
        refine O.nil ?_
        exact X.back3 (outA, outc, out, most, true, (s + 1)) (by (try dsimp only); exact ⟨by omega, best_less hI rfl c3, hlen⟩) (by first | omega | (dsimp only; omega)) (Ent.cons rfl (Ent.cons rfl (Ent.cons rfl (Ent.cons rfl (Ent.nil _))))) (Ent.cons (t := 1) rfl (Ent.cons (t := 2) rfl (Ent.cons (t := 3) rfl (Ent.cons (t := 6) rfl (Ent.nil _))))) (Sub.keep 0 rfl (Sub.keep 0 rfl (Sub.nil _)))
      · skip
        refine O.gp rfl rfl rfl rfl rfl (Pu.move rfl rfl) ?_
        refine O.gp rfl rfl rfl rfl rfl (Pu.move rfl rfl) ?_
        refine O.ge rfl rfl rfl rfl rfl (Ef.callPB hok rfl rfl rfl (fun w' hw => hf s w' (by omega) hw.below)) ?_
        rintro _ _ ⟨rfl, rfl⟩
        refine O.gp rfl rfl rfl rfl rfl (Pu.not rfl rfl) ?_
        refine O.p rfl rfl rfl (Pu.pickF rfl rfl rfl) ?_
        refine O.nil ?_
        refine X.next ?_
        refine V.condNot rfl (fun c4 => ?_) (fun c4 => ?_)
        · skip
          refine V.exit ?_
          refine X.thenExit ?_
          refine X.blockHit ?_
          refine X.next ?_
          refine V.region ?_
          refine O.p rfl rfl rfl (Pu.move rfl rfl) ?_
          refine O.p rfl rfl rfl (Pu.addN (m := s) (n := 1) K64.u (by omega) rfl rfl rfl) ?_
          refine O.p rfl rfl rfl (Pu.assign rfl rfl) ?_
          refine O.nil ?_
          exact X.back3 (outA, outc, out, most, true, (s + 1)) (by (try dsimp only); exact ⟨by omega, best_not hI (by simpa using c4), hlen⟩) (by first | omega | (dsimp only; omega)) (Ent.cons rfl (Ent.cons rfl (Ent.cons rfl (Ent.cons rfl (Ent.nil _))))) (Ent.cons (t := 1) rfl (Ent.cons (t := 2) rfl (Ent.cons (t := 3) rfl (Ent.cons (t := 6) rfl (Ent.nil _))))) (Sub.keep 0 rfl (Sub.keep 0 rfl (Sub.nil _)))
        · skip
          refine V.skip ?_
          refine X.next ?_
          refine V.seq ?_
          refine V.region ?_
          refine O.p rfl rfl rfl (Pu.move rfl rfl) ?_
          refine O.e rfl rfl rfl (Ef.call1 call64 rfl rfl (fun w hw => list_ok s w (by omega))) ?_
          rintro _ _ rfl
          refine O.exi (fun p1 => ?_)
          refine O.sep ?_
          refine O.pur ?_
          rintro ⟨rfl, hp1⟩
          have hl_p1 : p1.2.length ≤ 15 := by rw [hp1]; exact pts_len s
          refine O.p rfl rfl rfl (Pu.assign rfl rfl) ?_
          refine O.nil ?_
          refine X.next ?_
          refine V.seq ?_
          refine V.region ?_
          refine O.p rfl rfl rfl (Pu.move rfl rfl) ?_
          refine O.p rfl rfl rfl (Pu.notT rfl rfl) ?_
          refine O.p rfl rfl rfl (Pu.move rfl rfl) ?_
          refine O.gp rfl rfl rfl rfl rfl (Pu.move rfl rfl) ?_
          refine O.gp rfl rfl rfl rfl rfl (Pu.move rfl rfl) ?_
          refine O.gp rfl rfl rfl rfl rfl (Pu.gtr rfl rfl rfl) ?_
          refine O.p rfl rfl rfl (Pu.pickF rfl rfl rfl) ?_
          refine O.p rfl rfl rfl (Pu.move rfl rfl) ?_
          refine O.splitD 44 rfl (fun c5 => ?_) (fun c5 => ?_)
          · skip
            refine O.gs rfl rfl rfl rfl rfl rfl ?_
            refine O.gs rfl rfl rfl rfl rfl rfl ?_
            refine O.gs rfl rfl rfl rfl rfl rfl ?_
            refine O.gs rfl rfl rfl rfl rfl rfl ?_
            refine O.p rfl rfl rfl (Pu.pickT rfl rfl rfl) ?_
            refine O.nil ?_
            refine X.next ?_
            refine V.condT rfl ?_
            refine V.region ?_
            refine O.p rfl rfl rfl (Pu.move rfl rfl) ?_
            refine O.p rfl rfl rfl (Pu.move rfl rfl) ?_
            refine O.p rfl rfl rfl (Pu.assign rfl rfl) ?_
            refine O.p rfl rfl rfl (Pu.assign rfl rfl) ?_
            refine O.p rfl rfl rfl (Pu.assign rfl rfl) ?_
            refine O.nil ?_
            refine X.blockNormal ?_
            refine X.next ?_
            refine V.region ?_
            refine O.p rfl rfl rfl (Pu.move rfl rfl) ?_
            refine O.p rfl rfl rfl (Pu.addN (m := s) (n := 1) K64.u (by omega) rfl rfl rfl) ?_
            refine O.p rfl rfl rfl (Pu.assign rfl rfl) ?_
            refine O.nil ?_
            exact X.back3 (p1.1.1, p1.1.2, p1.2, (sign * (↑((ones s)) : Int)), true, (s + 1)) (by (try dsimp only); exact ⟨by omega, by rw [hp1]; exact best_new hI (by simpa using c4) (.inr (.inl c5)), by rw [hp1]; exact pts_len s⟩) (by first | omega | (dsimp only; omega)) (Ent.cons rfl (Ent.cons rfl (Ent.cons rfl (Ent.cons rfl (Ent.nil _))))) (Ent.cons (t := 1) rfl (Ent.cons (t := 2) rfl (Ent.cons (t := 3) rfl (Ent.cons (t := 6) rfl (Ent.nil _))))) (Sub.keep 0 rfl (Sub.keep 1 rfl (Sub.nil _)))
          · skip
            refine O.gp rfl rfl rfl rfl rfl (Pu.move rfl rfl) ?_
            refine O.gp rfl rfl rfl rfl rfl (Pu.move rfl rfl) ?_
            refine O.ge rfl rfl rfl rfl rfl (Ef.callP call65 rfl rfl (fun w hw => slicesCompare_ok p1.2 out _ _ _ _ w ((Ld.own 0 (by exact rfl)) w hw) ((Ld.own 1 (by exact rfl)) w hw) (by first | omega | (simp [bl]; done)) (by first | omega | (simp [bl]; done)))) ?_
            rintro _ _ ⟨rfl, rfl⟩
            refine O.gp rfl rfl rfl rfl rfl (Pu.lss rfl rfl rfl) ?_
            refine O.p rfl rfl rfl (Pu.pickF rfl rfl rfl) ?_
            refine O.nil ?_
            refine X.next ?_
            refine V.condD rfl (fun c6 => ?_) (fun c6 => ?_)
            · skip
              refine V.region ?_
              refine O.p rfl rfl rfl (Pu.move rfl rfl) ?_
              refine O.p rfl rfl rfl (Pu.move rfl rfl) ?_
              refine O.p rfl rfl rfl (Pu.assign rfl rfl) ?_
              refine O.p rfl rfl rfl (Pu.assign rfl rfl) ?_
              refine O.p rfl rfl rfl (Pu.assign rfl rfl) ?_
              refine O.nil ?_
              refine X.blockNormal ?_
              refine X.next ?_
              refine V.region ?_
              refine O.p rfl rfl rfl (Pu.move rfl rfl) ?_
              refine O.p rfl rfl rfl (Pu.addN (m := s) (n := 1) K64.u (by omega) rfl rfl rfl) ?_
              refine O.p rfl rfl rfl (Pu.assign rfl rfl) ?_
              refine O.nil ?_
              exact X.back3 (p1.1.1, p1.1.2, p1.2, (sign * (↑((ones s)) : Int)), true, (s + 1)) (by (try dsimp only); exact ⟨by omega, by rw [hp1]; exact best_new hI (by simpa using c4) (.inr (.inr ⟨c3, by rw [hp1] at c6; exact c6⟩)), by rw [hp1]; exact pts_len s⟩) (by first | omega | (dsimp only; omega)) (Ent.cons rfl (Ent.cons rfl (Ent.cons rfl (Ent.cons rfl (Ent.nil _))))) (Ent.cons (t := 1) rfl (Ent.cons (t := 2) rfl (Ent.cons (t := 3) rfl (Ent.cons (t := 6) rfl (Ent.nil _))))) (Sub.keep 0 rfl (Sub.keep 1 rfl (Sub.nil _)))
            · skip
              refine V.skip ?_
              refine X.blockNormal ?_
              refine X.next ?_
              refine V.region ?_
              refine O.p rfl rfl rfl (Pu.move rfl rfl) ?_
              refine O.p rfl rfl rfl (Pu.addN (m := s) (n := 1) K64.u (by omega) rfl rfl rfl) ?_
              refine O.p rfl rfl rfl (Pu.assign rfl rfl) ?_
              refine O.nil ?_
              exact X.back3 (outA, outc, out, most, true, (s + 1)) (by (try dsimp only); exact ⟨by omega, best_keep hI rfl c3 c5 (by rw [hp1] at c6; exact c6), hlen⟩) (by first | omega | (dsimp only; omega)) (Ent.cons rfl (Ent.cons rfl (Ent.cons rfl (Ent.cons rfl (Ent.nil _))))) (Ent.cons (t := 1) rfl (Ent.cons (t := 2) rfl (Ent.cons (t := 3) rfl (Ent.cons (t := 6) rfl (Ent.nil _))))) (Sub.keep 1 rfl (Sub.keep 1 rfl (Sub.nil _)))
    · skip
      subst c2
      refine O.gs rfl rfl rfl rfl rfl rfl ?_
      refine O.gs rfl rfl rfl rfl rfl rfl ?_
      refine O.gs rfl rfl rfl rfl rfl rfl ?_
      refine O.p rfl rfl rfl (Pu.pickF rfl rfl rfl) ?_
      refine O.p rfl rfl rfl (Pu.move rfl rfl) ?_
      refine O.gp rfl rfl rfl rfl rfl (Pu.move rfl rfl) ?_
      refine O.gp rfl rfl rfl rfl rfl (Pu.move rfl rfl) ?_
      refine O.ge rfl rfl rfl rfl rfl (Ef.callPB hok rfl rfl rfl (fun w' hw => hf s w' (by omega) hw.below)) ?_
      rintro _ _ ⟨rfl, rfl⟩
      refine O.gp rfl rfl rfl rfl rfl (Pu.not rfl rfl) ?_
      refine O.p rfl rfl rfl (Pu.pickF rfl rfl rfl) ?_
      refine O.nil ?_
      refine X.next ?_
      refine V.condNot rfl (fun c7 => ?_) (fun c7 => ?_)
      · skip
        refine V.exit ?_
        refine X.thenExit ?_
        refine X.blockHit ?_
        refine X.next ?_
        refine V.region ?_
        refine O.p rfl rfl rfl (Pu.move rfl rfl) ?_
        refine O.p rfl rfl rfl (Pu.addN (m := s) (n := 1) K64.u (by omega) rfl rfl rfl) ?_
        refine O.p rfl rfl rfl (Pu.assign rfl rfl) ?_
        refine O.nil ?_
        exact X.back3 (outA, outc, out, most, false, (s + 1)) (by (try dsimp only); exact ⟨by omega, best_not hI (by simpa using c7), hlen⟩) (by first | omega | (dsimp only; omega)) (Ent.cons rfl (Ent.cons rfl (Ent.cons rfl (Ent.cons rfl (Ent.nil _))))) (Ent.cons (t := 1) rfl (Ent.cons (t := 2) rfl (Ent.cons (t := 3) rfl (Ent.cons (t := 6) rfl (Ent.nil _))))) (Sub.keep 0 rfl (Sub.keep 0 rfl (Sub.nil _)))
      · skip
        refine V.skip ?_
        refine X.next ?_
        refine V.seq ?_
        refine V.region ?_
        refine O.p rfl rfl rfl (Pu.move rfl rfl) ?_
        refine O.e rfl rfl rfl (Ef.call1 call64 rfl rfl (fun w hw => list_ok s w (by omega))) ?_
        rintro _ _ rfl
        refine O.exi (fun p2 => ?_)
        refine O.sep ?_
        refine O.pur ?_
        rintro ⟨rfl, hp2⟩
        have hl_p2 : p2.2.length ≤ 15 := by rw [hp2]; exact pts_len s
        refine O.p rfl rfl rfl (Pu.assign rfl rfl) ?_
        refine O.nil ?_
        refine X.next ?_
        refine V.seq ?_
        refine V.region ?_
        refine O.p rfl rfl rfl (Pu.move rfl rfl) ?_
        refine O.p rfl rfl rfl (Pu.notF rfl rfl) ?_
        refine O.p rfl rfl rfl (Pu.move rfl rfl) ?_
        refine O.gs rfl rfl rfl rfl rfl rfl ?_
        refine O.gs rfl rfl rfl rfl rfl rfl ?_
        refine O.gs rfl rfl rfl rfl rfl rfl ?_
        refine O.p rfl rfl rfl (Pu.pickT rfl rfl rfl) ?_
        refine O.p rfl rfl rfl (Pu.move rfl rfl) ?_
        refine O.gs rfl rfl rfl rfl rfl rfl ?_
        refine O.gs rfl rfl rfl rfl rfl rfl ?_
        refine O.gs rfl rfl rfl rfl rfl rfl ?_
        refine O.gs rfl rfl rfl rfl rfl rfl ?_
        refine O.p rfl rfl rfl (Pu.pickT rfl rfl rfl) ?_
        refine O.nil ?_
        refine X.next ?_
        refine V.condT rfl ?_
        refine V.region ?_
        refine O.p rfl rfl rfl (Pu.move rfl rfl) ?_
        refine O.p rfl rfl rfl (Pu.move rfl rfl) ?_
        refine O.p rfl rfl rfl (Pu.assign rfl rfl) ?_
        refine O.p rfl rfl rfl (Pu.assign rfl rfl) ?_
        refine O.p rfl rfl rfl (Pu.assign rfl rfl) ?_
        refine O.nil ?_
        refine X.blockNormal ?_
        refine X.next ?_
        refine V.region ?_
        refine O.p rfl rfl rfl (Pu.move rfl rfl) ?_
        refine O.p rfl rfl rfl (Pu.addN (m := s) (n := 1) K64.u (by omega) rfl rfl rfl) ?_
        refine O.p rfl rfl rfl (Pu.assign rfl rfl) ?_
        refine O.nil ?_
        exact X.back3 (p2.1.1, p2.1.2, p2.2, (sign * (↑((ones s)) : Int)), true, (s + 1)) (by (try dsimp only); exact ⟨by omega, by rw [hp2]; exact best_new hI (by simpa using c7) (.inl rfl), by rw [hp2]; exact pts_len s⟩) (by first | omega | (dsimp only; omega)) (Ent.cons rfl (Ent.cons rfl (Ent.cons rfl (Ent.cons rfl (Ent.nil _))))) (Ent.cons (t := 1) rfl (Ent.cons (t := 2) rfl (Ent.cons (t := 3) rfl (Ent.cons (t := 6) rfl (Ent.nil _))))) (Sub.keep 0 rfl (Sub.keep 1 rfl (Sub.nil _)))
  · skip
    refine V.exit ?_
    refine X.thenExit ?_
    refine X.thenExit ?_
    refine X.blockHit ?_
    refine X.next ?_
    refine V.seq ?_
    refine V.region ?_
    refine O.p rfl rfl rfl (Pu.move rfl rfl) ?_
    refine O.p rfl rfl rfl (Pu.assign rfl rfl) ?_
    refine O.nil ?_
    refine X.next ?_
    refine V.ret ?_
    refine X.ret1 rfl rfl ?_
    exact fun w hw => St.mkExi outA (St.mkExi outc (St.mkExi out (St.unsep (St.addPur ⟨rfl, ⟨found, most, by have e : s = 2 ^ v.toNat := (by omega); subst e; exact hI, hlen⟩⟩ (hw.sub (Sub.keep 0 rfl (Sub.nil _)))))))

/-- What both LeastMeeting return. -/
def LMR (v : Int) (bs : List B3) (o : List Int) : Prop := (STS v bs → LM v.toNat bs o) ∧ (¬ STS v bs → o = [])
theorem LMR.unique {v : Int} {bs : List B3} {a b : List Int} (h1 : LMR v bs a) (h2 : LMR v bs b) : a = b := by
  by_cases h : STS v bs
  · exact (h1.1 h).unique (h2.1 h)
  · rw [h1.2 h, h2.2 h]

set_option maxRecDepth 100000 in
theorem implLeastMeeting_ok (v : Int) (bs : List B3) (A : Option Addr) (c : Nat) (w : World) (hx : Rd B3C w A bs) (lx : bs.length ≤ 4611686018427387904) : Does Try.prog 23 [.agg #[.int .i64 v, .slice A bs.length c]] w [] (fun r => [.exi fun (oA : Option Addr) => .exi fun (oc : Nat) => .exi fun (o : List Int) => .sep (.pur (r = .tuple #[.slice oA o.length oc, .int .i64 (if STS v bs then 0 else 1)] ∧ LMR v bs o ∧ o.length ≤ 15)) (Own 2 I64 oA oc o)]) := by
  refine Does.enter Try.func23 rfl rfl [(0, .agg #[.int .i64 v, .slice A bs.length c])] rfl ?_
  refine V.seq ?_
  refine V.region ?_
  refine O.e rfl rfl rfl (Ef.box rfl rfl rfl) ?_
  rintro _ _ ⟨b1, rfl, rfl⟩
  refine O.p rfl rfl rfl (Pu.assign rfl rfl) ?_
  refine O.p rfl rfl rfl (Pu.assign rfl rfl) ?_
  refine O.nil ?_
  refine X.next ?_
  refine V.seq ?_
  refine V.seq ?_
  refine V.region ?_
  refine O.p rfl rfl rfl (Pu.loadAgg rfl ag31 sz31 rfl rfl (Ld.whole 0 rfl)) ?_
  refine O.e rfl rfl rfl (Ef.callP call32 rfl rfl (fun w hw => IsSystem_ok _ bs _ _ w ((Ld.old hx) w hw) (by omega))) ?_
  rintro _ _ ⟨rfl, rfl⟩
  refine O.p rfl rfl rfl (Pu.not rfl rfl) ?_
  refine O.nil ?_
  refine X.next ?_
  refine V.condNot rfl (fun c1 => ?_) (fun c1 => ?_)
  · skip
    refine V.seq ?_
    refine V.region ?_
    refine O.p rfl rfl rfl (Pu.assign rfl rfl) ?_
    refine O.p rfl rfl rfl (Pu.assign rfl rfl) ?_
    refine O.nil ?_
    refine X.next ?_
    refine V.ret ?_
    refine X.thenRet ?_
    refine X.ret2 rfl rfl rfl ?_
    exact fun w hw => St.mkExi none (St.mkExi 0 (St.mkExi [] (St.unsep (St.addPur ⟨by rw [if_neg c1]; rfl, ⟨fun h => absurd h c1, fun _ => rfl⟩, by simp⟩ (St.addNil (T := 2) (C := I64) (hw.sub (Sub.nil _)))))))
  · skip
    have hlo := c1.lo
    have hhi := c1.hi
    have hfew := c1.few
    have hg : ∀ b ∈ bs, good 15 b := fun b h => (c1.good b h).mono c1.hi
    have hpw : 2 ^ v.toNat ≤ 2 ^ 15 := Nat.pow_le_pow_right (by decide) (by omega)
    have hpw0 := Nat.two_pow_pos v.toNat
    refine V.skip ?_
    refine X.next ?_
    refine V.seq ?_
    refine V.region ?_
    refine O.p rfl rfl rfl (Pu.loadAgg rfl ag31 sz31 rfl rfl (Ld.whole 0 rfl)) ?_
    refine O.p rfl rfl rfl (Pu.loadAgg rfl ag31 sz31 rfl rfl (Ld.whole 0 rfl)) ?_
    refine O.p rfl rfl rfl (Pu.makeBound rfl rfl rfl) ?_
    refine O.e rfl rfl rfl (Ef.call1 call43 rfl rfl (fun w hw => best_ok  v bs (-1 : Int) (MeetsAll bs) (44) _ _ _ w ((Ld.old hx) w hw) (by first | omega | (simp only [tops_len, conts_len, bl, List.length_append, List.length_cons, List.length_nil] at *; omega)) ⟨hlo, hhi⟩ (.inl rfl) (call44) (fun q w' hq hb => meetsAll_ok v bs q _ _ w' ((Ld.old hx w hw).below hb) hg (by omega) (by omega)))) ?_
    rintro _ _ rfl
    refine O.exi (fun out1A => ?_)
    refine O.exi (fun out1c => ?_)
    refine O.exi (fun out1 => ?_)
    refine O.sep ?_
    refine O.pur ?_
    rintro ⟨rfl, hout1_1⟩
    refine O.p rfl rfl rfl (Pu.assign rfl rfl) ?_
    refine O.p rfl rfl rfl (Pu.assign rfl rfl) ?_
    refine O.nil ?_
    refine X.next ?_
    refine V.ret ?_
    refine X.ret2 rfl rfl rfl ?_
    exact fun w hw => St.mkExi out1A (St.mkExi out1c (St.mkExi out1 (St.unsep (St.addPur ⟨by rw [if_pos c1], by obtain ⟨f, m, hI, hl⟩ := hout1_1; exact ⟨⟨fun _ => best_LM c1.good hI rfl, fun h => absurd c1 h⟩, hl⟩⟩ (hw.sub (Sub.keep 0 rfl (Sub.nil _)))))))

set_option maxRecDepth 100000 in
theorem specLeastMeeting_ok (v : Int) (bs : List B3) (A : Option Addr) (c : Nat) (w : World) (hx : Rd B3C w A bs) (lx : bs.length ≤ 4611686018427387904) : Does Try.prog 22 [.agg #[.int .i64 v, .slice A bs.length c]] w [] (fun r => [.exi fun (oA : Option Addr) => .exi fun (oc : Nat) => .exi fun (o : List Int) => .sep (.pur (r = .tuple #[.slice oA o.length oc, .int .i64 (if STS v bs then 0 else 1)] ∧ LMR v bs o ∧ o.length ≤ 15)) (Own 2 I64 oA oc o)]) := by
  refine Does.enter Try.func22 rfl rfl [(0, .agg #[.int .i64 v, .slice A bs.length c])] rfl ?_
  refine V.seq ?_
  refine V.region ?_
  refine O.e rfl rfl rfl (Ef.box rfl rfl rfl) ?_
  rintro _ _ ⟨b1, rfl, rfl⟩
  refine O.p rfl rfl rfl (Pu.assign rfl rfl) ?_
  refine O.p rfl rfl rfl (Pu.assign rfl rfl) ?_
  refine O.nil ?_
  refine X.next ?_
  refine V.seq ?_
  refine V.seq ?_
  refine V.region ?_
  refine O.p rfl rfl rfl (Pu.loadAgg rfl ag31 sz31 rfl rfl (Ld.whole 0 rfl)) ?_
  refine O.e rfl rfl rfl (Ef.callP call31 rfl rfl (fun w hw => l01Is_ok _ bs _ _ w ((Ld.old hx) w hw) (by omega))) ?_
  rintro _ _ ⟨rfl, rfl⟩
  refine O.p rfl rfl rfl (Pu.not rfl rfl) ?_
  refine O.nil ?_
  refine X.next ?_
  refine V.condNot rfl (fun c1 => ?_) (fun c1 => ?_)
  · skip
    refine V.seq ?_
    refine V.region ?_
    refine O.p rfl rfl rfl (Pu.assign rfl rfl) ?_
    refine O.p rfl rfl rfl (Pu.assign rfl rfl) ?_
    refine O.nil ?_
    refine X.next ?_
    refine V.ret ?_
    refine X.thenRet ?_
    refine X.ret2 rfl rfl rfl ?_
    exact fun w hw => St.mkExi none (St.mkExi 0 (St.mkExi [] (St.unsep (St.addPur ⟨by rw [if_neg c1]; rfl, ⟨fun h => absurd h c1, fun _ => rfl⟩, by simp⟩ (St.addNil (T := 2) (C := I64) (hw.sub (Sub.nil _)))))))
  · skip
    have hlo := c1.lo
    have hhi := c1.hi
    have hfew := c1.few
    have hg : ∀ b ∈ bs, good 15 b := fun b h => (c1.good b h).mono c1.hi
    have hpw : 2 ^ v.toNat ≤ 2 ^ 15 := Nat.pow_le_pow_right (by decide) (by omega)
    have hpw0 := Nat.two_pow_pos v.toNat
    have hi0 : Indep bs 0 := by
      have h := (meets_indep c1.good (s := 2 ^ v.toNat - 1) (by omega)).2 (meets_some c1.good)
      rwa [Nat.sub_self] at h
    refine V.skip ?_
    refine X.next ?_
    refine V.seq ?_
    refine V.draw mo (by kernel_rfl) (fun hwf => ?_)
    refine D.p 0 rfl rfl rfl rfl rfl rfl (Pu.fieldAddr 0 rfl Try.underlying31 rfl sz2 rfl rfl) ?_
    refine D.p 1 rfl rfl rfl rfl rfl rfl (Pu.load rfl pl2 rfl (Ld.blk 0 rfl rfl)) ?_
    refine D.p 2 rfl rfl rfl rfl rfl rfl (Pu.loadAgg rfl ag31 sz31 rfl rfl (Ld.whole 0 rfl)) ?_
    refine D.eff hwf (e := 3) rfl rfl rfl rfl (Ef.call1 call40 rfl rfl (fun w hw => l07Most_ok v.toNat v bs 0 0 0 _ _ w ((Ld.old hx) w hw) c1 hi0 hpw0 (by decide) (by omega) (by omega))) rfl rfl rfl ?_
    rintro _ _ rfl hs
    refine ⟨fun w hw => hs w hw.tail, ?_⟩
    refine D.exi (fun r1 => ?_)
    refine D.sep ?_
    refine D.pur1 ?_
    rintro ⟨rfl, hr1_1, hr1_2⟩
    have hr1v : r1 < 2 ^ v.toNat := by rcases hr1_1.ok with h | h; (· omega); (· exact h.2)
    have hco := compl_ones hr1v
    refine D.eff hwf (e := 4) rfl rfl rfl rfl (Ef.callP call39 rfl rfl (fun w hw => l05Ones_ok r1 w (by omega))) rfl rfl rfl ?_
    rintro _ _ ⟨rfl, rfl⟩ hs
    refine ⟨fun w hw => hw.sub (Sub.keep 1 rfl (Sub.nil _)), ?_⟩
    refine D.p 5 rfl rfl rfl rfl rfl rfl (Pu.sub64 (r := ((v.toNat - ones r1 : Nat) : Int)) (by omega) (by omega) rfl rfl rfl) ?_
    refine D.p 6 rfl rfl rfl rfl rfl rfl (Pu.assign rfl rfl) ?_
    refine D.done hwf rfl ?_
    refine X.next ?_
    refine V.seq ?_
    refine V.region ?_
    refine O.p rfl rfl rfl (Pu.loadAgg rfl ag31 sz31 rfl rfl (Ld.whole 1 rfl)) ?_
    refine O.p rfl rfl rfl (Pu.move rfl rfl) ?_
    refine O.e rfl rfl rfl (Ef.call1 call42 rfl rfl (fun w hw => l07Meet_ok 15 v bs 0 (v.toNat - ones r1) 0 _ _ w ((Ld.old hx) w hw) c1 hpw0 (by decide) (by omega) (by omega) (by omega))) ?_
    rintro _ _ rfl
    refine O.exi (fun r2 => ?_)
    refine O.sep ?_
    refine O.pur ?_
    rintro ⟨rfl, hr2_1⟩
    obtain ⟨T, rfl, hT2, hLM⟩ := spec_LM c1.good hr1_1 hr2_1
    refine O.e rfl rfl rfl (Ef.call1 call41 rfl rfl (fun w hw => l07Points_ok T w (by omega))) ?_
    rintro _ _ rfl
    refine O.exi (fun p1 => ?_)
    refine O.sep ?_
    refine O.pur ?_
    rintro ⟨rfl, hp1⟩
    refine O.p rfl rfl rfl (Pu.assign rfl rfl) ?_
    refine O.p rfl rfl rfl (Pu.assign rfl rfl) ?_
    refine O.nil ?_
    refine X.next ?_
    refine V.ret ?_
    refine X.ret2 rfl rfl rfl ?_
    exact fun w hw => St.mkExi (p1.1.1) (St.mkExi (p1.1.2) (St.mkExi (p1.2) (St.unsep (St.addPur ⟨by rw [if_pos c1], ⟨fun _ => by rw [hp1]; exact hLM, fun h => absurd c1 h⟩, by rw [hp1]; exact pts_len _⟩ (hw.sub (Sub.keep 0 rfl (Sub.nil _)))))))
end Go.Proofs.Ytnbbkcpafkooaaa
