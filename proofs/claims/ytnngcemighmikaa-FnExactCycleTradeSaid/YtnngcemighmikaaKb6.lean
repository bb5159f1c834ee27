/-
  Contracts, part 6.
-/
import Derived.Test.YtnngcemighmikaaKb5
set_option linter.unusedVariables false
set_option linter.unusedSimpArgs false
namespace Go.Proofs.Ytnngcemighmikaa
open Go Go.RowKit Go.Vc Go.Proofs
set_option maxRecDepth 100000 in
set_option maxHeartbeats 1000000 in
theorem l04Made_ok (v_ : Int) (out : List B3) (in_ : List B3) (outA : Option Addr) (outc : Nat) (in_A : Option Addr) (in_c : Nat) (w : World) (hout : Rd B3C w outA out) (hin_ : Rd B3C w in_A in_) (lout : out.length ≤ 1099511627776) (lin_ : in_.length ≤ 1099511627776) (lo : out.length ≤ 1000) (li : in_.length ≤ 1000) : Does Try.prog 51 [.int .i64 v_, .slice outA out.length outc, .slice in_A in_.length in_c] w [] (fun r => [.exi fun (oA : Option Addr) => .exi fun (oc : Nat) => .exi fun (o : List B3) => .exi fun (iA : Option Addr) => .exi fun (ic : Nat) => .exi fun (i : List B3) => .sep (.pur (r = .agg #[.int .i64 v_, .slice oA o.length oc, .slice iA i.length ic] ∧ (o.Perm out ∧ SrtB o) ∧ (i.Perm in_ ∧ SrtB i))) (.sep (Own 70 B3C oA oc o) (Own 70 B3C iA ic i))]) := by
  refine Does.enter Try.func51 rfl rfl [(0, .int .i64 v_), (1, .slice outA out.length outc), (2, .slice in_A in_.length in_c)] rfl ?_
  refine V.seq ?_
  refine V.region ?_
  refine O.e rfl rfl rfl (Ef.alloc rfl zr45 rfl) ?_
  rintro _ _ ⟨b1, rfl, rfl⟩
  refine O.nil ?_
  refine X.next ?_
  refine V.seq ?_
  refine V.region ?_
  refine O.p rfl rfl rfl (Pu.move rfl rfl) ?_
  refine O.p rfl rfl rfl (Pu.move rfl rfl) ?_
  refine O.e rfl rfl rfl (Ef.call1 call79 rfl rfl (fun w hw => l01Sort_ok  out _ _ w ((Ld.old hout) w hw) (by first | omega | (simp only [tops_len, conts_len, bl, List.length_append, List.length_cons, List.length_nil] at *; omega)) (by first | assumption | omega | (try dsimp only at *; omega)))) ?_
  rintro _ _ rfl
  refine O.exi (fun r1A => ?_)
  refine O.exi (fun r1c => ?_)
  refine O.exi (fun r1 => ?_)
  refine O.sep ?_
  refine O.pur ?_
  rintro ⟨rfl, hr1_1, hr1_2⟩
  refine O.p rfl rfl rfl (Pu.move rfl rfl) ?_
  refine O.e rfl rfl rfl (Ef.call1 call79 rfl rfl (fun w hw => l01Sort_ok  in_ _ _ w ((Ld.old hin_) w hw) (by first | omega | (simp only [tops_len, conts_len, bl, List.length_append, List.length_cons, List.length_nil] at *; omega)) (by first | assumption | omega | (try dsimp only at *; omega)))) ?_
  rintro _ _ rfl
  refine O.exi (fun r2A => ?_)
  refine O.exi (fun r2c => ?_)
  refine O.exi (fun r2 => ?_)
  refine O.sep ?_
  refine O.pur ?_
  rintro ⟨rfl, hr2_1, hr2_2⟩
  refine O.p rfl rfl rfl (Pu.buildS (cs := [.int .i64 v_, .slice r1A r1.length r1c, .slice r2A r2.length r2c]) rfl rfl Try.underlying45 zr45 (by kernel_rfl) rfl (by kernel_rfl)) ?_
  refine O.s rfl rfl (Ef.storeAll 2 rfl sz45 rfl rfl rfl rfl (by simp [Value.oneCell']) rfl) ?_
  rintro _ _ rfl
  refine O.nil ?_
  refine X.next ?_
  refine V.ret ?_
  refine X.retCell rfl ag45 sz45 rfl rfl (Ld.whole 2 rfl) ?_
  exact fun w hw => St.mkExi r1A (St.mkExi r1c (St.mkExi r1 (St.mkExi r2A (St.mkExi r2c (St.mkExi r2 (St.unsep (St.addPur ⟨rfl, ⟨hr1_1, hr1_2⟩, ⟨hr2_1, hr2_2⟩⟩ (St.unsep (hw.sub (Sub.keep 1 rfl (Sub.keep 0 rfl (Sub.nil _))))))))))))
theorem cyCode_ne {v : Int} {bs : List B3} {a b p : Int} (h : ¬ (if STS v bs then if ∀ q ∈ ([a, b, p] : List Int), Pt v q then (0 : Int) else 2 else 1) = 0) : cyCode v bs a b p = (if STS v bs then if ∀ q ∈ ([a, b, p] : List Int), Pt v q then (0 : Int) else 2 else 1) := by
  by_cases hS : STS v bs
  · rw [if_pos hS] at h ⊢
    by_cases hP : ∀ q ∈ ([a, b, p] : List Int), Pt v q
    · rw [if_pos hP] at h; exact absurd rfl h
    · rw [if_neg hP]
      refine cyCode_2 hS fun hc => hP fun q hq => ?_
      simp only [List.mem_cons, List.not_mem_nil, or_false] at hq
      rcases hq with rfl | rfl | rfl
      · exact hc.1
      · exact hc.2.1
      · exact hc.2.2.1
  · rw [if_neg hS]; exact cyCode_1 hS
set_option maxRecDepth 100000 in
set_option maxHeartbeats 1000000 in
theorem specCycle_ok (v : Int) (bs : List B3) (a : Int) (b : Int) (p : Int) (A : Option Addr) (c : Nat) (w : World) (hx : Rd B3C w A bs) (lx : bs.length ≤ 4611686018427387904) : Does Try.prog 22 [.agg #[.int .i64 v, .slice A bs.length c], .int .i64 a, .int .i64 b, .int .i64 p] w [] (fun r => [.exi fun (oA : Option Addr) => .exi fun (oc : Nat) => .exi fun (o : List B3) => .exi fun (iA : Option Addr) => .exi fun (ic : Nat) => .exi fun (i : List B3) => .sep (.pur (r = .tuple #[.agg #[.int .i64 (if cyCode v bs a b p = 0 then v else 0), .slice oA o.length oc, .slice iA i.length ic], .int .i64 (cyCode v bs a b p)] ∧ CYR v bs a b p o i)) (.sep (Own 70 B3C oA oc o) (Own 70 B3C iA ic i))]) := by
  refine Does.enter Try.func22 rfl rfl [(0, .agg #[.int .i64 v, .slice A bs.length c]), (1, .int .i64 a), (2, .int .i64 b), (3, .int .i64 p)] rfl ?_
  refine V.seq ?_
  refine V.region ?_
  refine O.e rfl rfl rfl (Ef.box rfl rfl rfl) ?_
  rintro _ _ ⟨b1, rfl, rfl⟩
  refine O.e rfl rfl rfl (Ef.alloc rfl zr45 rfl) ?_
  rintro _ _ ⟨b2, rfl, rfl⟩
  refine O.p rfl rfl rfl (Pu.assign rfl rfl) ?_
  refine O.nil ?_
  refine X.next ?_
  refine V.seq ?_
  refine V.region ?_
  refine O.p rfl rfl rfl (Pu.loadAgg rfl ag28 sz28 rfl rfl (Ld.whole 1 rfl)) ?_
  refine O.p rfl rfl rfl (Pu.move rfl rfl) ?_
  refine O.p rfl rfl rfl (Pu.move rfl rfl) ?_
  refine O.p rfl rfl rfl (Pu.move rfl rfl) ?_
  refine O.e rfl rfl rfl (Ef.build I64 ([a, b, p] : List Int) rfl Try.underlying77 inf2 rfl rfl rfl (by first | decide | (simp; done)) (by kernel_rfl)) ?_
  rintro _ _ ⟨A1, hA1, rfl, rfl⟩
  refine O.e rfl rfl rfl (Ef.callP call47 rfl rfl (fun w hw => l01Points_ok  v bs ([a, b, p] : List Int) _ _ _ _ w ((Ld.old hx) w hw) ((Ld.own 0 (by exact rfl)) w hw) (by first | omega | (simp only [tops_len, conts_len, bl, List.length_append, List.length_cons, List.length_nil] at *; omega)) (by first | omega | (simp only [tops_len, conts_len, bl, List.length_append, List.length_cons, List.length_nil] at *; omega)) )) ?_
  rintro _ _ ⟨rfl, rfl⟩
  refine O.p rfl rfl rfl (Pu.assign rfl rfl) ?_
  refine O.nil ?_
  refine X.next ?_
  refine V.seq ?_
  refine V.seq ?_
  refine V.region ?_
  refine O.p rfl rfl rfl (Pu.move rfl rfl) ?_
  refine O.p rfl rfl rfl (Pu.eql rfl rfl rfl) ?_
  refine O.p rfl rfl rfl (Pu.move rfl rfl) ?_
  refine O.splitD 24 rfl (fun c1 => ?_) (fun c1 => ?_)
  · skip
    have hc0 := c1
    have hS : STS v bs := by apply Decidable.byContradiction; intro h; rw [if_neg h] at c1; omega
    rw [if_pos hS] at c1
    have hP : ∀ q ∈ [a, b, p], Pt v q := by apply Decidable.byContradiction; intro h; rw [if_neg h] at c1; omega
    have pa := hP a (by simp)
    have pb := hP b (by simp)
    have pp := hP p (by simp)
    unfold Pt at pa pb pp
    have hhi := hS.hi
    have hlo := hS.lo
    have hfew := hS.few
    have hg : ∀ b ∈ bs, good 15 b := fun b h => (hS.good b h).mono hS.hi
    have hmul := sts_mul' hS
    refine O.gp rfl rfl rfl rfl rfl (Pu.move rfl rfl) ?_
    refine O.gp rfl rfl rfl rfl rfl (Pu.move rfl rfl) ?_
    refine O.gp rfl rfl rfl rfl rfl (Pu.eql rfl rfl rfl) ?_
    refine O.gp rfl rfl rfl rfl rfl (Pu.move rfl rfl) ?_
    refine O.splitD 28 rfl (fun c2 => ?_) (fun c2 => ?_)
    · skip
      refine O.gs rfl rfl rfl rfl rfl rfl ?_
      refine O.gs rfl rfl rfl rfl rfl rfl ?_
      refine O.gs rfl rfl rfl rfl rfl rfl ?_
      refine O.gp rfl rfl rfl rfl rfl (Pu.pickT rfl rfl rfl) ?_
      refine O.gp rfl rfl rfl rfl rfl (Pu.move rfl rfl) ?_
      refine O.gs rfl rfl rfl rfl rfl rfl ?_
      refine O.gs rfl rfl rfl rfl rfl rfl ?_
      refine O.gs rfl rfl rfl rfl rfl rfl ?_
      refine O.gp rfl rfl rfl rfl rfl (Pu.pickT rfl rfl rfl) ?_
      refine O.gp rfl rfl rfl rfl rfl (Pu.move rfl rfl) ?_
      refine O.gs rfl rfl rfl rfl rfl rfl ?_
      refine O.gs rfl rfl rfl rfl rfl rfl ?_
      refine O.gs rfl rfl rfl rfl rfl rfl ?_
      refine O.gs rfl rfl rfl rfl rfl rfl ?_
      refine O.gs rfl rfl rfl rfl rfl rfl ?_
      refine O.gs rfl rfl rfl rfl rfl rfl ?_
      refine O.gp rfl rfl rfl rfl rfl (Pu.pickT rfl rfl rfl) ?_
      refine O.p rfl rfl rfl (Pu.pickT rfl rfl rfl) ?_
      refine O.nil ?_
      refine X.next ?_
      refine V.condT rfl ?_
      refine V.region ?_
      refine O.p rfl rfl rfl (Pu.assign rfl rfl) ?_
      refine O.nil ?_
      refine X.next ?_
      refine V.seq ?_
      refine V.seq ?_
      refine V.region ?_
      refine O.p rfl rfl rfl (Pu.move rfl rfl) ?_
      refine O.p rfl rfl rfl (Pu.isF (by decide) (Pu.eql rfl rfl rfl)) ?_
      refine O.p rfl rfl rfl (Pu.move rfl rfl) ?_
      refine O.gs rfl rfl rfl rfl rfl rfl ?_
      refine O.gs rfl rfl rfl rfl rfl rfl ?_
      refine O.gs rfl rfl rfl rfl rfl rfl ?_
      refine O.p rfl rfl rfl (Pu.pickF rfl rfl rfl) ?_
      refine O.nil ?_
      refine X.next ?_
      refine V.condF rfl ?_
      refine V.skip ?_
      refine X.next ?_
      refine V.seq ?_
      refine V.seq ?_
      refine V.region ?_
      refine O.p rfl rfl rfl (Pu.move rfl rfl) ?_
      refine O.p rfl rfl rfl (Pu.neq rfl rfl rfl) ?_
      refine O.nil ?_
      refine X.next ?_
      refine V.condNot rfl (fun c3 => ?_) (fun c3 => ?_)
      · skip
        refine V.seq ?_
        refine V.region ?_
        refine O.p rfl rfl rfl (Pu.buildS (cs := [.int .i64 (0 : Int), .slice none 0 0, .slice none 0 0]) rfl rfl Try.underlying45 zr45 (by kernel_rfl) rfl (by kernel_rfl)) ?_
        refine O.p rfl rfl rfl (Pu.move rfl rfl) ?_
        refine O.s rfl rfl (Ef.storeAll 1 rfl sz45 rfl rfl rfl rfl (by simp [Value.oneCell']) rfl) ?_
        rintro _ _ rfl
        refine O.p rfl rfl rfl (Pu.assign rfl rfl) ?_
        refine O.nil ?_
        refine X.next ?_
        refine V.ret ?_
        refine X.thenRet ?_
        refine X.retCell2 rfl ag45 sz45 rfl rfl rfl (Ld.whole 1 rfl) ?_
        exact fun w hw => St.mkExi none (St.mkExi 0 (St.mkExi [] (St.mkExi none (St.mkExi 0 (St.mkExi [] (St.unsep (St.addPur ⟨(by rw [cyCode_2 hS (fun h => h.2.2.2.1 c2)]; rfl), cyR_no (cyCode_2 hS (fun h => h.2.2.2.1 c2)) (by decide)⟩ (St.unsep (St.addNil (T := 70) (C := B3C) (St.addNil (T := 70) (C := B3C) (hw.sub (Sub.nil _))))))))))))
      · skip
        exact absurd c3 (by decide)
    · skip
      refine O.gp rfl rfl rfl rfl rfl (Pu.move rfl rfl) ?_
      refine O.gp rfl rfl rfl rfl rfl (Pu.move rfl rfl) ?_
      refine O.gp rfl rfl rfl rfl rfl (Pu.eql rfl rfl rfl) ?_
      refine O.gp rfl rfl rfl rfl rfl (Pu.pickF rfl rfl rfl) ?_
      refine O.gp rfl rfl rfl rfl rfl (Pu.move rfl rfl) ?_
      refine O.splitD 33 rfl (fun c4 => ?_) (fun c4 => ?_)
      · skip
        refine O.gs rfl rfl rfl rfl rfl rfl ?_
        refine O.gs rfl rfl rfl rfl rfl rfl ?_
        refine O.gs rfl rfl rfl rfl rfl rfl ?_
        refine O.gp rfl rfl rfl rfl rfl (Pu.pickT rfl rfl rfl) ?_
        refine O.gp rfl rfl rfl rfl rfl (Pu.move rfl rfl) ?_
        refine O.gs rfl rfl rfl rfl rfl rfl ?_
        refine O.gs rfl rfl rfl rfl rfl rfl ?_
        refine O.gs rfl rfl rfl rfl rfl rfl ?_
        refine O.gs rfl rfl rfl rfl rfl rfl ?_
        refine O.gs rfl rfl rfl rfl rfl rfl ?_
        refine O.gs rfl rfl rfl rfl rfl rfl ?_
        refine O.gp rfl rfl rfl rfl rfl (Pu.pickT rfl rfl rfl) ?_
        refine O.p rfl rfl rfl (Pu.pickT rfl rfl rfl) ?_
        refine O.nil ?_
        refine X.next ?_
        refine V.condT rfl ?_
        refine V.region ?_
        refine O.p rfl rfl rfl (Pu.assign rfl rfl) ?_
        refine O.nil ?_
        refine X.next ?_
        refine V.seq ?_
        refine V.seq ?_
        refine V.region ?_
        refine O.p rfl rfl rfl (Pu.move rfl rfl) ?_
        refine O.p rfl rfl rfl (Pu.isF (by decide) (Pu.eql rfl rfl rfl)) ?_
        refine O.p rfl rfl rfl (Pu.move rfl rfl) ?_
        refine O.gs rfl rfl rfl rfl rfl rfl ?_
        refine O.gs rfl rfl rfl rfl rfl rfl ?_
        refine O.gs rfl rfl rfl rfl rfl rfl ?_
        refine O.p rfl rfl rfl (Pu.pickF rfl rfl rfl) ?_
        refine O.nil ?_
        refine X.next ?_
        refine V.condF rfl ?_
        refine V.skip ?_
        refine X.next ?_
        refine V.seq ?_
        refine V.seq ?_
        refine V.region ?_
        refine O.p rfl rfl rfl (Pu.move rfl rfl) ?_
        refine O.p rfl rfl rfl (Pu.neq rfl rfl rfl) ?_
        refine O.nil ?_
        refine X.next ?_
        refine V.condNot rfl (fun c5 => ?_) (fun c5 => ?_)
        · skip
          refine V.seq ?_
          refine V.region ?_
          refine O.p rfl rfl rfl (Pu.buildS (cs := [.int .i64 (0 : Int), .slice none 0 0, .slice none 0 0]) rfl rfl Try.underlying45 zr45 (by kernel_rfl) rfl (by kernel_rfl)) ?_
          refine O.p rfl rfl rfl (Pu.move rfl rfl) ?_
          refine O.s rfl rfl (Ef.storeAll 1 rfl sz45 rfl rfl rfl rfl (by simp [Value.oneCell']) rfl) ?_
          rintro _ _ rfl
          refine O.p rfl rfl rfl (Pu.assign rfl rfl) ?_
          refine O.nil ?_
          refine X.next ?_
          refine V.ret ?_
          refine X.thenRet ?_
          refine X.retCell2 rfl ag45 sz45 rfl rfl rfl (Ld.whole 1 rfl) ?_
          exact fun w hw => St.mkExi none (St.mkExi 0 (St.mkExi [] (St.mkExi none (St.mkExi 0 (St.mkExi [] (St.unsep (St.addPur ⟨(by rw [cyCode_2 hS (fun h => h.2.2.2.2.1 c4)]; rfl), cyR_no (cyCode_2 hS (fun h => h.2.2.2.2.1 c4)) (by decide)⟩ (St.unsep (St.addNil (T := 70) (C := B3C) (St.addNil (T := 70) (C := B3C) (hw.sub (Sub.nil _))))))))))))
        · skip
          exact absurd c5 (by decide)
      · skip
        refine O.gp rfl rfl rfl rfl rfl (Pu.move rfl rfl) ?_
        refine O.gp rfl rfl rfl rfl rfl (Pu.move rfl rfl) ?_
        refine O.gp rfl rfl rfl rfl rfl (Pu.eql rfl rfl rfl) ?_
        refine O.gp rfl rfl rfl rfl rfl (Pu.pickF rfl rfl rfl) ?_
        refine O.gp rfl rfl rfl rfl rfl (Pu.move rfl rfl) ?_
        refine O.splitD 38 rfl (fun c6 => ?_) (fun c6 => ?_)
        · skip
          refine O.gs rfl rfl rfl rfl rfl rfl ?_
          refine O.gs rfl rfl rfl rfl rfl rfl ?_
          refine O.gs rfl rfl rfl rfl rfl rfl ?_
          refine O.gs rfl rfl rfl rfl rfl rfl ?_
          refine O.gs rfl rfl rfl rfl rfl rfl ?_
          refine O.gs rfl rfl rfl rfl rfl rfl ?_
          refine O.gp rfl rfl rfl rfl rfl (Pu.pickT rfl rfl rfl) ?_
          refine O.p rfl rfl rfl (Pu.pickT rfl rfl rfl) ?_
          refine O.nil ?_
          refine X.next ?_
          refine V.condT rfl ?_
          refine V.region ?_
          refine O.p rfl rfl rfl (Pu.assign rfl rfl) ?_
          refine O.nil ?_
          refine X.next ?_
          refine V.seq ?_
          refine V.seq ?_
          refine V.region ?_
          refine O.p rfl rfl rfl (Pu.move rfl rfl) ?_
          refine O.p rfl rfl rfl (Pu.isF (by decide) (Pu.eql rfl rfl rfl)) ?_
          refine O.p rfl rfl rfl (Pu.move rfl rfl) ?_
          refine O.gs rfl rfl rfl rfl rfl rfl ?_
          refine O.gs rfl rfl rfl rfl rfl rfl ?_
          refine O.gs rfl rfl rfl rfl rfl rfl ?_
          refine O.p rfl rfl rfl (Pu.pickF rfl rfl rfl) ?_
          refine O.nil ?_
          refine X.next ?_
          refine V.condF rfl ?_
          refine V.skip ?_
          refine X.next ?_
          refine V.seq ?_
          refine V.seq ?_
          refine V.region ?_
          refine O.p rfl rfl rfl (Pu.move rfl rfl) ?_
          refine O.p rfl rfl rfl (Pu.neq rfl rfl rfl) ?_
          refine O.nil ?_
          refine X.next ?_
          refine V.condNot rfl (fun c7 => ?_) (fun c7 => ?_)
          · skip
            refine V.seq ?_
            refine V.region ?_
            refine O.p rfl rfl rfl (Pu.buildS (cs := [.int .i64 (0 : Int), .slice none 0 0, .slice none 0 0]) rfl rfl Try.underlying45 zr45 (by kernel_rfl) rfl (by kernel_rfl)) ?_
            refine O.p rfl rfl rfl (Pu.move rfl rfl) ?_
            refine O.s rfl rfl (Ef.storeAll 1 rfl sz45 rfl rfl rfl rfl (by simp [Value.oneCell']) rfl) ?_
            rintro _ _ rfl
            refine O.p rfl rfl rfl (Pu.assign rfl rfl) ?_
            refine O.nil ?_
            refine X.next ?_
            refine V.ret ?_
            refine X.thenRet ?_
            refine X.retCell2 rfl ag45 sz45 rfl rfl rfl (Ld.whole 1 rfl) ?_
            exact fun w hw => St.mkExi none (St.mkExi 0 (St.mkExi [] (St.mkExi none (St.mkExi 0 (St.mkExi [] (St.unsep (St.addPur ⟨(by rw [cyCode_2 hS (fun h => h.2.2.2.2.2.1 c6)]; rfl), cyR_no (cyCode_2 hS (fun h => h.2.2.2.2.2.1 c6)) (by decide)⟩ (St.unsep (St.addNil (T := 70) (C := B3C) (St.addNil (T := 70) (C := B3C) (hw.sub (Sub.nil _))))))))))))
          · skip
            exact absurd c7 (by decide)
        · skip
          refine O.gp rfl rfl rfl rfl rfl (Pu.move rfl rfl) ?_
          refine O.gp rfl rfl rfl rfl rfl (Pu.loadAgg rfl ag28 sz28 rfl rfl (Ld.whole 2 rfl)) ?_
          refine O.gp rfl rfl rfl rfl rfl (Pu.move rfl rfl) ?_
          refine O.gp rfl rfl rfl rfl rfl (Pu.move rfl rfl) ?_
          refine O.ge rfl rfl rfl rfl rfl (Ef.callP call48 rfl rfl (fun w hw => l01Third_ok  v bs a b _ _ w ((Ld.old hx) w hw) (by first | omega | (simp only [tops_len, conts_len, bl, List.length_append, List.length_cons, List.length_nil] at *; omega)) hg (by omega) (by omega))) ?_
          rintro _ _ ⟨rfl, rfl⟩
          refine O.gp rfl rfl rfl rfl rfl (Pu.eql rfl rfl rfl) ?_
          refine O.gp rfl rfl rfl rfl rfl (Pu.pickF rfl rfl rfl) ?_
          refine O.p rfl rfl rfl (Pu.pickT rfl rfl rfl) ?_
          refine O.nil ?_
          refine X.next ?_
          refine V.condD rfl (fun c8 => ?_) (fun c8 => ?_)
          · skip
            refine V.region ?_
            refine O.p rfl rfl rfl (Pu.assign rfl rfl) ?_
            refine O.nil ?_
            refine X.next ?_
            refine V.seq ?_
            refine V.seq ?_
            refine V.region ?_
            refine O.p rfl rfl rfl (Pu.move rfl rfl) ?_
            refine O.p rfl rfl rfl (Pu.isF (by decide) (Pu.eql rfl rfl rfl)) ?_
            refine O.p rfl rfl rfl (Pu.move rfl rfl) ?_
            refine O.gs rfl rfl rfl rfl rfl rfl ?_
            refine O.gs rfl rfl rfl rfl rfl rfl ?_
            refine O.gs rfl rfl rfl rfl rfl rfl ?_
            refine O.p rfl rfl rfl (Pu.pickF rfl rfl rfl) ?_
            refine O.nil ?_
            refine X.next ?_
            refine V.condF rfl ?_
            refine V.skip ?_
            refine X.next ?_
            refine V.seq ?_
            refine V.seq ?_
            refine V.region ?_
            refine O.p rfl rfl rfl (Pu.move rfl rfl) ?_
            refine O.p rfl rfl rfl (Pu.neq rfl rfl rfl) ?_
            refine O.nil ?_
            refine X.next ?_
            refine V.condNot rfl (fun c9 => ?_) (fun c9 => ?_)
            · skip
              refine V.seq ?_
              refine V.region ?_
              refine O.p rfl rfl rfl (Pu.buildS (cs := [.int .i64 (0 : Int), .slice none 0 0, .slice none 0 0]) rfl rfl Try.underlying45 zr45 (by kernel_rfl) rfl (by kernel_rfl)) ?_
              refine O.p rfl rfl rfl (Pu.move rfl rfl) ?_
              refine O.s rfl rfl (Ef.storeAll 1 rfl sz45 rfl rfl rfl rfl (by simp [Value.oneCell']) rfl) ?_
              rintro _ _ rfl
              refine O.p rfl rfl rfl (Pu.assign rfl rfl) ?_
              refine O.nil ?_
              refine X.next ?_
              refine V.ret ?_
              refine X.thenRet ?_
              refine X.retCell2 rfl ag45 sz45 rfl rfl rfl (Ld.whole 1 rfl) ?_
              exact fun w hw => St.mkExi none (St.mkExi 0 (St.mkExi [] (St.mkExi none (St.mkExi 0 (St.mkExi [] (St.unsep (St.addPur ⟨(by rw [cyCode_2 hS (fun h => h.2.2.2.2.2.2 c8)]; rfl), cyR_no (cyCode_2 hS (fun h => h.2.2.2.2.2.2 c8)) (by decide)⟩ (St.unsep (St.addNil (T := 70) (C := B3C) (St.addNil (T := 70) (C := B3C) (hw.sub (Sub.nil _))))))))))))
            · skip
              exact absurd c9 (by decide)
          · skip
            have hok : CyOk v bs a b p := ⟨pa, pb, pp, c2, c4, c6, c8⟩
            refine V.skip ?_
            refine X.next ?_
            refine V.seq ?_
            refine V.seq ?_
            refine V.region ?_
            refine O.p rfl rfl rfl (Pu.move rfl rfl) ?_
            refine O.p rfl rfl rfl (Pu.eql rfl rfl rfl) ?_
            refine O.p rfl rfl rfl (Pu.move rfl rfl) ?_
            refine O.splitD 49 rfl (fun c10 => ?_) (fun c10 => ?_)
            · skip
              refine O.gp rfl rfl rfl rfl rfl (Pu.loadAgg rfl ag28 sz28 rfl rfl (Ld.whole 2 rfl)) ?_
              refine O.ge rfl rfl rfl rfl rfl (Ef.callP call49 rfl rfl (fun w hw => l01FullC_ok  v bs _ _ w ((Ld.old hx) w hw) (by first | omega | (simp only [tops_len, conts_len, bl, List.length_append, List.length_cons, List.length_nil] at *; omega)) (by omega) (by omega) hmul)) ?_
              rintro _ _ ⟨rfl, rfl⟩
              refine O.gp rfl rfl rfl rfl rfl (Pu.not rfl rfl) ?_
              refine O.p rfl rfl rfl (Pu.pickT rfl rfl rfl) ?_
              refine O.nil ?_
              refine X.next ?_
              refine V.condNot rfl (fun c11 => ?_) (fun c11 => ?_)
              · skip
                refine V.region ?_
                refine O.p rfl rfl rfl (Pu.assign rfl rfl) ?_
                refine O.nil ?_
                refine X.next ?_
                refine V.seq ?_
                refine V.seq ?_
                refine V.region ?_
                refine O.p rfl rfl rfl (Pu.move rfl rfl) ?_
                refine O.p rfl rfl rfl (Pu.neq rfl rfl rfl) ?_
                refine O.nil ?_
                refine X.next ?_
                refine V.condNot rfl (fun c12 => ?_) (fun c12 => ?_)
                · skip
                  refine V.seq ?_
                  refine V.region ?_
                  refine O.p rfl rfl rfl (Pu.buildS (cs := [.int .i64 (0 : Int), .slice none 0 0, .slice none 0 0]) rfl rfl Try.underlying45 zr45 (by kernel_rfl) rfl (by kernel_rfl)) ?_
                  refine O.p rfl rfl rfl (Pu.move rfl rfl) ?_
                  refine O.s rfl rfl (Ef.storeAll 1 rfl sz45 rfl rfl rfl rfl (by simp [Value.oneCell']) rfl) ?_
                  rintro _ _ rfl
                  refine O.p rfl rfl rfl (Pu.assign rfl rfl) ?_
                  refine O.nil ?_
                  refine X.next ?_
                  refine V.ret ?_
                  refine X.thenRet ?_
                  refine X.retCell2 rfl ag45 sz45 rfl rfl rfl (Ld.whole 1 rfl) ?_
                  exact fun w hw => St.mkExi none (St.mkExi 0 (St.mkExi [] (St.mkExi none (St.mkExi 0 (St.mkExi [] (St.unsep (St.addPur ⟨(by rw [cyCode_5 hS hok c11]; rfl), cyR_no (cyCode_5 hS hok c11) (by decide)⟩ (St.unsep (St.addNil (T := 70) (C := B3C) (St.addNil (T := 70) (C := B3C) (hw.sub (Sub.nil _))))))))))))
                · skip
                  exact absurd c12 (by decide)
              · skip
                have hcode := cyCode_0 hS hok c11
                have hab := cy_ok hcode
                obtain ⟨N, P⟩ := per_some hab.1 hab.2
                have hN := P.le
                refine V.skip ?_
                refine X.next ?_
                refine V.seq ?_
                refine V.seq ?_
                refine V.region ?_
                refine O.p rfl rfl rfl (Pu.move rfl rfl) ?_
                refine O.p rfl rfl rfl (Pu.neq rfl rfl rfl) ?_
                refine O.nil ?_
                refine X.next ?_
                refine V.condNot rfl (fun c13 => ?_) (fun c13 => ?_)
                · skip
                  exact absurd hc0 c13
                · skip
                  refine V.skip ?_
                  refine X.next ?_
                  refine V.seq ?_
                  refine V.region ?_
                  refine O.e rfl rfl rfl (Ef.build B3C ([] : List B3) rfl Try.underlying26 inf70 rfl rfl rfl (by first | decide | (simp; done)) (by kernel_rfl)) ?_
                  rintro _ _ ⟨A2, hA2, rfl, rfl⟩
                  refine O.e rfl rfl rfl (Ef.build B3C ([] : List B3) rfl Try.underlying26 inf70 rfl rfl rfl (by first | decide | (simp; done)) (by kernel_rfl)) ?_
                  rintro _ _ ⟨A3, hA3, rfl, rfl⟩
                  refine O.p rfl rfl rfl (Pu.move rfl rfl) ?_
                  refine O.p rfl rfl rfl (Pu.assign rfl rfl) ?_
                  refine O.p rfl rfl rfl (Pu.assign rfl rfl) ?_
                  refine O.p rfl rfl rfl (Pu.assign rfl rfl) ?_
                  refine O.nil ?_
                  refine X.next ?_
                  refine V.block ?_
                  refine V.loop3 (β := Nat × (Option Addr) × Nat × (List B3) × (Option Addr) × Nat × (List B3) × Int × Nat) (fun x => [(9, .int .i64 (x.1 : Int)), (11, .slice x.2.1 x.2.2.2.1.length x.2.2.1), (12, .slice x.2.2.2.2.1 x.2.2.2.2.2.2.1.length x.2.2.2.2.2.1), (13, .int .i64 (x.2.2.2.2.2.2.2.1 : Int))]) _ (fun x => [Own 70 B3C x.2.1 x.2.2.1 x.2.2.2.1, Own 70 B3C x.2.2.2.2.1 x.2.2.2.2.2.1 x.2.2.2.2.2.2.1]) _ (fun x => (x.2.2.2.2.2.2.2.2 < N ∧ x.2.2.2.2.2.2.2.1 = uc bs a b p (2 * x.2.2.2.2.2.2.2.2)) ∧ (x.2.2.2.1 = (List.range (2 * x.2.2.2.2.2.2.2.2)).map (ucE bs a b p) ∧ x.2.2.2.2.2.2.1 = (List.range (2 * x.2.2.2.2.2.2.2.2)).map (ucF bs a b p)) ∧ x.2.2.2.1.length = 2 * x.2.2.2.2.2.2.2.2 ∧ x.2.2.2.2.2.2.1.length = 2 * x.2.2.2.2.2.2.2.2) (fun x => N - x.2.2.2.2.2.2.2.2) (0, A2, 0, ([] : List B3), A3, 0, ([] : List B3), p, 0) (by (try dsimp only); exact ⟨⟨P.pos, rfl⟩, ⟨rfl, rfl⟩, rfl, rfl⟩) (Ent.cons rfl (Ent.cons rfl (Ent.cons rfl (Ent.cons rfl (Ent.nil _))))) (Ent.cons (t := 1) rfl (Ent.cons (t := 2) rfl (Ent.cons (t := 3) rfl (Ent.cons (t := 4) rfl (Ent.cons (t := 8) rfl (Ent.nil _)))))) (Sub.keep 1 rfl (Sub.keep 0 rfl (Sub.keep 0 rfl (Sub.keep 0 rfl (Sub.keep 0 rfl (Sub.nil _)))))) ?_
                  rintro ⟨t9, outA, outc, out, in_A, in_c, in_, at_, i⟩ ⟨⟨hi, hn⟩, ⟨ho, hj⟩, hl1, hl2⟩
                  dsimp only at hi hn ho hj hl1 hl2 ⊢
                  refine V.block ?_
                  refine V.seq ?_
                  have pn : 0 ≤ at_ ∧ at_ < 15 := by rw [hn]; exact uc_pt15 hab.1 hab.2 _
                  have q1 : third bs a at_ = uc bs a b p (2 * i + 1) := by rw [hn]; exact (uc_tab hab.1 hab.2 i).2.1
                  have pg : 0 ≤ third bs a at_ ∧ third bs a at_ < 15 := by rw [q1]; exact uc_pt15 hab.1 hab.2 _
                  have q2 : third bs b (third bs a at_) = uc bs a b p (2 * (i + 1)) := by rw [q1]; exact (uc_tab hab.1 hab.2 i).2.2
                  have ph : 0 ≤ third bs b (third bs a at_) ∧ third bs b (third bs a at_) < 15 := by rw [q2]; exact uc_pt15 hab.1 hab.2 _
                  have hout : out ++ [(bk3 a at_ (third bs a at_)), (bk3 b (third bs a at_) (third bs b (third bs a at_)))] = (List.range (2 * (i + 1))).map (ucE bs a b p) := by rw [ho, rg_snoc, ucE_ev, ucE_od, ← q2, ← q1, ← hn]
                  have hin : in_ ++ [(bk3 b at_ (third bs a at_)), (bk3 a (third bs a at_) (third bs b (third bs a at_)))] = (List.range (2 * (i + 1))).map (ucF bs a b p) := by rw [hj, rg_snoc, ucF_ev, ucF_od, ← q2, ← q1, ← hn]
                  refine V.region ?_
                  refine O.p rfl rfl rfl (Pu.loadAgg rfl ag28 sz28 rfl rfl (Ld.whole 4 rfl)) ?_
                  refine O.p rfl rfl rfl (Pu.move rfl rfl) ?_
                  refine O.p rfl rfl rfl (Pu.move rfl rfl) ?_
                  refine O.e rfl rfl rfl (Ef.callP call48 rfl rfl (fun w hw => l01Third_ok  v bs a at_ _ _ w ((Ld.old hx) w hw) (by first | omega | (simp only [tops_len, conts_len, bl, List.length_append, List.length_cons, List.length_nil] at *; omega)) hg (by omega) (by omega))) ?_
                  rintro _ _ ⟨rfl, rfl⟩
                  refine O.p rfl rfl rfl (Pu.assign rfl rfl) ?_
                  refine O.nil ?_
                  refine X.next ?_
                  refine V.seq ?_
                  refine V.region ?_
                  refine O.p rfl rfl rfl (Pu.loadAgg rfl ag28 sz28 rfl rfl (Ld.whole 4 rfl)) ?_
                  refine O.p rfl rfl rfl (Pu.move rfl rfl) ?_
                  refine O.p rfl rfl rfl (Pu.move rfl rfl) ?_
                  refine O.e rfl rfl rfl (Ef.callP call48 rfl rfl (fun w hw => l01Third_ok  v bs b (third bs a at_) _ _ w ((Ld.old hx) w hw) (by first | omega | (simp only [tops_len, conts_len, bl, List.length_append, List.length_cons, List.length_nil] at *; omega)) hg (by omega) (by omega))) ?_
                  rintro _ _ ⟨rfl, rfl⟩
                  refine O.p rfl rfl rfl (Pu.assign rfl rfl) ?_
                  refine O.nil ?_
                  refine X.next ?_
                  refine V.seq ?_
                  refine V.region ?_
                  refine O.p rfl rfl rfl (Pu.move rfl rfl) ?_
                  refine O.p rfl rfl rfl (Pu.move rfl rfl) ?_
                  refine O.p rfl rfl rfl (Pu.move rfl rfl) ?_
                  refine O.p rfl rfl rfl (Pu.move rfl rfl) ?_
                  refine O.e rfl rfl rfl (Ef.callP call50 rfl rfl (fun w hw => l01BlockG_ok  a at_ (third bs a at_) w   (by omega) (by omega) (by omega))) ?_
                  rintro _ _ ⟨rfl, rfl⟩
                  refine O.p rfl rfl rfl (Pu.move rfl rfl) ?_
                  refine O.p rfl rfl rfl (Pu.move rfl rfl) ?_
                  refine O.p rfl rfl rfl (Pu.move rfl rfl) ?_
                  refine O.e rfl rfl rfl (Ef.callP call50 rfl rfl (fun w hw => l01BlockG_ok  b (third bs a at_) (third bs b (third bs a at_)) w   (by omega) (by omega) (by omega))) ?_
                  rintro _ _ ⟨rfl, rfl⟩
                  refine O.e rfl rfl rfl (Ef.build B3C ([(bk3 a at_ (third bs a at_)), (bk3 b (third bs a at_) (third bs b (third bs a at_)))] : List B3) rfl Try.underlying26 inf70 rfl rfl rfl (by first | decide | (simp; done)) (by kernel_rfl)) ?_
                  rintro _ _ ⟨A4, hA4, rfl, rfl⟩
                  refine O.e rfl rfl rfl (Ef.append (xs := out) (ys := ([(bk3 a at_ (third bs a at_)), (bk3 b (third bs a at_) (third bs b (third bs a at_)))] : List B3)) 1 rfl Try.underlying26 inf70 rfl rfl rfl rfl rfl rfl hA4 (Ld.own 0 (by exact rfl)) (by simp only [List.length_append, List.length_cons, List.length_nil] at *; omega) (by decide)) ?_
                  rintro _ _ ⟨A5, k1, rfl, rfl, hA5⟩
                  replace hA5 := hA5 (.inr (by simp))
                  refine O.p rfl rfl rfl (Pu.assign rfl rfl) ?_
                  refine O.nil ?_
                  refine X.next ?_
                  refine V.seq ?_
                  refine V.region ?_
                  refine O.p rfl rfl rfl (Pu.move rfl rfl) ?_
                  refine O.p rfl rfl rfl (Pu.move rfl rfl) ?_
                  refine O.p rfl rfl rfl (Pu.move rfl rfl) ?_
                  refine O.p rfl rfl rfl (Pu.move rfl rfl) ?_
                  refine O.e rfl rfl rfl (Ef.callP call50 rfl rfl (fun w hw => l01BlockG_ok  b at_ (third bs a at_) w   (by omega) (by omega) (by omega))) ?_
                  rintro _ _ ⟨rfl, rfl⟩
                  refine O.p rfl rfl rfl (Pu.move rfl rfl) ?_
                  refine O.p rfl rfl rfl (Pu.move rfl rfl) ?_
                  refine O.p rfl rfl rfl (Pu.move rfl rfl) ?_
                  refine O.e rfl rfl rfl (Ef.callP call50 rfl rfl (fun w hw => l01BlockG_ok  a (third bs a at_) (third bs b (third bs a at_)) w   (by omega) (by omega) (by omega))) ?_
                  rintro _ _ ⟨rfl, rfl⟩
                  refine O.e rfl rfl rfl (Ef.build B3C ([(bk3 b at_ (third bs a at_)), (bk3 a (third bs a at_) (third bs b (third bs a at_)))] : List B3) rfl Try.underlying26 inf70 rfl rfl rfl (by first | decide | (simp; done)) (by kernel_rfl)) ?_
                  rintro _ _ ⟨A6, hA6, rfl, rfl⟩
                  refine O.e rfl rfl rfl (Ef.append (xs := in_) (ys := ([(bk3 b at_ (third bs a at_)), (bk3 a (third bs a at_) (third bs b (third bs a at_)))] : List B3)) 3 rfl Try.underlying26 inf70 rfl rfl rfl rfl rfl rfl hA6 (Ld.own 0 (by exact rfl)) (by simp only [List.length_append, List.length_cons, List.length_nil] at *; omega) (by decide)) ?_
                  rintro _ _ ⟨A7, k2, rfl, rfl, hA7⟩
                  replace hA7 := hA7 (.inr (by simp))
                  refine O.p rfl rfl rfl (Pu.assign rfl rfl) ?_
                  refine O.nil ?_
                  refine X.next ?_
                  refine V.seq ?_
                  refine V.region ?_
                  refine O.p rfl rfl rfl (Pu.move rfl rfl) ?_
                  refine O.p rfl rfl rfl (Pu.assign rfl rfl) ?_
                  refine O.nil ?_
                  refine X.next ?_
                  refine V.seq ?_
                  refine V.region ?_
                  refine O.p rfl rfl rfl (Pu.move rfl rfl) ?_
                  refine O.p rfl rfl rfl (Pu.move rfl rfl) ?_
                  refine O.p rfl rfl rfl (Pu.eql rfl rfl rfl) ?_
                  refine O.nil ?_
                  refine X.next ?_
                  refine V.condD rfl (fun c14 => ?_) (fun c14 => ?_)
                  · skip
                    refine V.seq ?_
                    refine V.region ?_
                    refine O.p rfl rfl rfl (Pu.fieldAddr 0 rfl Try.underlying28 rfl sz2 rfl rfl) ?_
                    refine O.p rfl rfl rfl (Pu.load rfl pl2 rfl (Ld.blk 6 rfl rfl)) ?_
                    refine O.p rfl rfl rfl (Pu.move rfl rfl) ?_
                    refine O.p rfl rfl rfl (Pu.move rfl rfl) ?_
                    refine O.e rfl rfl rfl (Ef.call1 call51 rfl rfl (fun w hw => l04Made_ok  v (out ++ ([(bk3 a at_ (third bs a at_)), (bk3 b (third bs a at_) (third bs b (third bs a at_)))] : List B3)) (in_ ++ ([(bk3 b at_ (third bs a at_)), (bk3 a (third bs a at_) (third bs b (third bs a at_)))] : List B3)) _ _ _ _ w ((Ld.own 2 (by exact rfl)) w hw) ((Ld.own 3 (by exact rfl)) w hw) (by simp only [List.length_append, List.length_cons, List.length_nil]; omega) (by simp only [List.length_append, List.length_cons, List.length_nil]; omega) (by simp only [List.length_append, List.length_cons, List.length_nil]; omega) (by simp only [List.length_append, List.length_cons, List.length_nil]; omega))) ?_
                    rintro _ _ rfl
                    refine O.exi (fun o1A => ?_)
                    refine O.exi (fun o1c => ?_)
                    refine O.exi (fun o1 => ?_)
                    refine O.exi (fun i1A => ?_)
                    refine O.exi (fun i1c => ?_)
                    refine O.exi (fun i1 => ?_)
                    refine O.sep ?_
                    refine O.pur ?_
                    rintro ⟨rfl, ho1_1, ho1_2⟩
                    refine O.sep ?_
                    refine O.s rfl rfl (Ef.storeAll 7 rfl sz45 rfl rfl rfl rfl (by simp [Value.oneCell']) rfl) ?_
                    rintro _ _ rfl
                    refine O.p rfl rfl rfl (Pu.assign rfl rfl) ?_
                    refine O.nil ?_
                    refine X.next ?_
                    refine V.ret ?_
                    refine X.blockRet ?_
                    refine X.thenRet ?_
                    refine X.blockRet ?_
                    refine X.retCell2 rfl ag45 sz45 rfl rfl rfl (Ld.whole 7 rfl) ?_
                    exact fun w hw => St.mkExi o1A (St.mkExi o1c (St.mkExi o1 (St.mkExi i1A (St.mkExi i1c (St.mkExi i1 (St.unsep (St.addPur ⟨(by rw [hcode]; rfl), ⟨fun _ => ⟨N, P, by rw [per_end P hi (by rw [← q2]; exact c14)]; unfold outL inL; rw [← hout, ← hin]; exact ⟨ho1_1, ho1_2⟩⟩, fun h => absurd hcode h⟩⟩ (St.unsep (hw.sub (Sub.keep 0 rfl (Sub.keep 0 rfl (Sub.nil _))))))))))))
                  · skip
                    refine V.skip ?_
                    refine X.blockNormal ?_
                    exact X.back3 (t9, A5, k1, (out ++ ([(bk3 a at_ (third bs a at_)), (bk3 b (third bs a at_) (third bs b (third bs a at_)))] : List B3)), A7, k2, (in_ ++ ([(bk3 b at_ (third bs a at_)), (bk3 a (third bs a at_) (third bs b (third bs a at_)))] : List B3)), (third bs b (third bs a at_)), (i + 1)) (by (try dsimp only); exact ⟨⟨per_more P hi (by rw [← q2]; exact c14), q2⟩, ⟨hout, hin⟩, by simp only [List.length_append, List.length_cons, List.length_nil]; omega, by simp only [List.length_append, List.length_cons, List.length_nil]; omega⟩) (by first | omega | (dsimp only; omega)) (Ent.cons rfl (Ent.cons rfl (Ent.cons rfl (Ent.cons rfl (Ent.nil _))))) (Ent.cons (t := 1) rfl (Ent.cons (t := 2) rfl (Ent.cons (t := 3) rfl (Ent.cons (t := 4) rfl (Ent.cons (t := 8) rfl (Ent.nil _)))))) (Sub.keep 2 rfl (Sub.keep 2 rfl (Sub.keep 2 rfl (Sub.keep 2 rfl (Sub.keep 2 rfl (Sub.nil _))))))
            · skip
              exact absurd hc0 c10
  · skip
    have h7 := cyCode_ne c1
    refine O.gs rfl rfl rfl rfl rfl rfl ?_
    refine O.gs rfl rfl rfl rfl rfl rfl ?_
    refine O.gs rfl rfl rfl rfl rfl rfl ?_
    refine O.gs rfl rfl rfl rfl rfl rfl ?_
    refine O.gs rfl rfl rfl rfl rfl rfl ?_
    refine O.gs rfl rfl rfl rfl rfl rfl ?_
    refine O.gs rfl rfl rfl rfl rfl rfl ?_
    refine O.gs rfl rfl rfl rfl rfl rfl ?_
    refine O.gs rfl rfl rfl rfl rfl rfl ?_
    refine O.gs rfl rfl rfl rfl rfl rfl ?_
    refine O.gs rfl rfl rfl rfl rfl rfl ?_
    refine O.gs rfl rfl rfl rfl rfl rfl ?_
    refine O.gs rfl rfl rfl rfl rfl rfl ?_
    refine O.gs rfl rfl rfl rfl rfl rfl ?_
    refine O.gs rfl rfl rfl rfl rfl rfl ?_
    refine O.gs rfl rfl rfl rfl rfl rfl ?_
    refine O.gs rfl rfl rfl rfl rfl rfl ?_
    refine O.gs rfl rfl rfl rfl rfl rfl ?_
    refine O.gs rfl rfl rfl rfl rfl rfl ?_
    refine O.gs rfl rfl rfl rfl rfl rfl ?_
    refine O.gs rfl rfl rfl rfl rfl rfl ?_
    refine O.p rfl rfl rfl (Pu.pickF rfl rfl rfl) ?_
    refine O.nil ?_
    refine X.next ?_
    refine V.condF rfl ?_
    refine V.skip ?_
    refine X.next ?_
    refine V.seq ?_
    refine V.seq ?_
    refine V.region ?_
    refine O.p rfl rfl rfl (Pu.move rfl rfl) ?_
    refine O.p rfl rfl rfl (Pu.eql rfl rfl rfl) ?_
    refine O.p rfl rfl rfl (Pu.move rfl rfl) ?_
    refine O.splitD 49 rfl (fun c15 => ?_) (fun c15 => ?_)
    · skip
      exact absurd c15 c1
    · skip
      refine O.gs rfl rfl rfl rfl rfl rfl ?_
      refine O.gs rfl rfl rfl rfl rfl rfl ?_
      refine O.gs rfl rfl rfl rfl rfl rfl ?_
      refine O.p rfl rfl rfl (Pu.pickF rfl rfl rfl) ?_
      refine O.nil ?_
      refine X.next ?_
      refine V.condF rfl ?_
      refine V.skip ?_
      refine X.next ?_
      refine V.seq ?_
      refine V.seq ?_
      refine V.region ?_
      refine O.p rfl rfl rfl (Pu.move rfl rfl) ?_
      refine O.p rfl rfl rfl (Pu.neq rfl rfl rfl) ?_
      refine O.nil ?_
      refine X.next ?_
      refine V.condNot rfl (fun c16 => ?_) (fun c16 => ?_)
      · skip
        refine V.seq ?_
        refine V.region ?_
        refine O.p rfl rfl rfl (Pu.buildS (cs := [.int .i64 (0 : Int), .slice none 0 0, .slice none 0 0]) rfl rfl Try.underlying45 zr45 (by kernel_rfl) rfl (by kernel_rfl)) ?_
        refine O.p rfl rfl rfl (Pu.move rfl rfl) ?_
        refine O.s rfl rfl (Ef.storeAll 1 rfl sz45 rfl rfl rfl rfl (by simp [Value.oneCell']) rfl) ?_
        rintro _ _ rfl
        refine O.p rfl rfl rfl (Pu.assign rfl rfl) ?_
        refine O.nil ?_
        refine X.next ?_
        refine V.ret ?_
        refine X.thenRet ?_
        refine X.retCell2 rfl ag45 sz45 rfl rfl rfl (Ld.whole 1 rfl) ?_
        exact fun w hw => St.mkExi none (St.mkExi 0 (St.mkExi [] (St.mkExi none (St.mkExi 0 (St.mkExi [] (St.unsep (St.addPur ⟨(by rw [h7, if_neg c1]; rfl), cyR_no h7 c1⟩ (St.unsep (St.addNil (T := 70) (C := B3C) (St.addNil (T := 70) (C := B3C) (hw.sub (Sub.nil _))))))))))))
      · skip
        exact absurd c16 c1
theorem cyCode_np {v : Int} {bs : List B3} {a b p : Int} (h : ¬ (if STS v bs then if Pt v a ∧ Pt v b ∧ a ≠ b then (0 : Int) else 2 else 1) = 0) : cyCode v bs a b p = (if STS v bs then if Pt v a ∧ Pt v b ∧ a ≠ b then (0 : Int) else 2 else 1) := by
  by_cases hS : STS v bs
  · rw [if_pos hS] at h ⊢
    by_cases hP : Pt v a ∧ Pt v b ∧ a ≠ b
    · rw [if_pos hP] at h; exact absurd rfl h
    · rw [if_neg hP]
      exact cyCode_2 hS fun hc => hP ⟨hc.1, hc.2.1, hc.2.2.2.1⟩
  · rw [if_neg hS]; exact cyCode_1 hS
end Go.Proofs.Ytnngcemighmikaa
