/-
  Contracts, part 4.
-/
import Derived.Test.YtoeldiaidjnibaaGreatKb3
set_option linter.unusedVariables false
set_option linter.unusedSimpArgs false
namespace Go.Proofs.YtoeldiaidjnibaaGreat
open Go Go.RowKit Go.Vc Go.Proofs
set_option maxRecDepth 100000 in
set_option maxHeartbeats 1000000 in
theorem l01NamedD5_ok (w : World) : Does Tryz.prog 74 [.string (ByteArray.mk #[112, 114, 111, 106, 101, 99, 116, 105, 118, 101, 49, 53])] w [] (fun rv_ => [.exi fun (rA : Option Addr) => .exi fun (rc : Nat) => .exi fun (r : List B3) => .sep (.pur (rv_ = .tuple #[.agg #[.int .i64 15, .slice rA r.length rc], .bool true] ∧ DrS 4000 15 r)) (Own 69 B3C rA rc r)]) := by
 refine Does.enter Tryz.func74 rfl rfl [(0, .string (ByteArray.mk #[112, 114, 111, 106, 101, 99, 116, 105, 118, 101, 49, 53]))] rfl (V.seq (V.region (O.f rfl (Ef.alloc rfl zr26 rfl) ?_)))
 rintro _ _ ⟨b1, rfl, rfl⟩
 refine O.m rfl (O.nil (X.next (V.seq (V.region (O.f rfl (Ef.build B3C ([] : List B3) rfl Tryz.underlying24 inf69 rfl rfl rfl (by first | decide | (simp; done)) (by kernel_rfl)) ?_)))))
 rintro _ _ ⟨A1, hA1, rfl, rfl⟩
 refine O.m rfl (O.nil (X.next (V.seq (V.seq (V.region (O.m rfl (O.nil (X.next (V.block (V.seq (V.region ?_)))))))))))
 refine O.q rfl (Pu.eqlStr (b := false) (by kernel_rfl) rfl rfl rfl) (O.m rfl (O.nil (X.next (V.condF rfl (V.seq (V.region (O.q rfl (Pu.eqlStr (b := false) (by kernel_rfl) rfl rfl rfl) (O.m rfl (O.nil (X.next (V.condF rfl ?_)))))))))))
 refine V.seq (V.region (O.q rfl (Pu.eqlStr (b := false) (by kernel_rfl) rfl rfl rfl) (O.m rfl (O.nil (X.next (V.condF rfl (V.seq (V.region (O.q rfl (Pu.eqlStr (b := false) (by kernel_rfl) rfl rfl rfl) (O.m rfl (O.nil ?_)))))))))))
 refine X.next (V.condF rfl (V.seq (V.seq (V.region (O.q rfl (Pu.eqlStr (b := false) (by kernel_rfl) rfl rfl rfl) (O.m rfl (O.nil (X.next (V.condF rfl (V.region (O.q rfl (Pu.eqlStr (b := true) (by kernel_rfl) rfl rfl rfl) ?_)))))))))))
 refine O.m rfl (O.nil (X.next (V.condT rfl (V.seq (V.region (O.m rfl (O.nil (X.next (V.seq (V.seq (V.region ?_)))))))))))
 refine O.m rfl (O.q rfl (Pu.eqlStr (b := true) (by kernel_rfl) rfl rfl rfl) (O.nil (X.next (V.condT rfl (V.region (O.m rfl (O.nil (X.next (V.seq (V.seq (V.region ?_)))))))))))
 refine O.m rfl (O.nil (X.next (V.block (V.loop3 (β := (Option Addr) × Nat × (List B3) × Nat) (fun x => [(4, .slice x.1 x.2.2.1.length x.2.1), (6, .int .i64 (x.2.2.2 : Int))]) _ (fun x => [Own 69 B3C x.1 x.2.1 x.2.2.1]) _ (fun x => x.2.2.2 ≤ 15 ∧ (∀ d ∈ x.2.2.1, good 15 d) ∧ x.2.2.1.length ≤ 225 * x.2.2.2) (fun x => 15 - x.2.2.2) (A1, 0, ([] : List B3), 0) (by (try dsimp only); exact ⟨by omega, by simp, by simp⟩) (Ent.cons rfl (Ent.cons rfl (Ent.nil _))) (Ent.cons (t := 2) rfl (Ent.cons (t := 5) rfl (Ent.nil _))) (Sub.k (Sub.k (Sub.nil _))) ?_))))
 rintro ⟨z0A, z0c, z0, a⟩ ⟨ha, hg0, hl0⟩
 dsimp only at ha hg0 hl0 ⊢
 refine V.seq (V.seq (V.region (O.m rfl (O.m rfl (O.q rfl (Pu.lss rfl rfl rfl) (O.nil (X.next (V.condD rfl (fun c1 => ?_) (fun c1 => ?_)))))))))
 ·refine V.skip (X.next (V.seq (V.block (V.seq (V.region (O.m rfl (O.q rfl (Pu.add64 (r := ((a + 1 : Nat) : Int)) rfl (by omega) rfl rfl rfl) (O.m rfl (O.nil (X.next (V.block ?_)))))))))))
  refine V.loop3 (β := (Option Addr) × Nat × (List B3) × Nat) (fun x => [(4, .slice x.1 x.2.2.1.length x.2.1), (7, .int .i64 (x.2.2.2 : Int))]) _ (fun x => [Own 69 B3C x.1 x.2.1 x.2.2.1]) _ (fun x => a < x.2.2.2 ∧ x.2.2.2 ≤ 15 ∧ (∀ d ∈ x.2.2.1, good 15 d) ∧ x.2.2.1.length ≤ 225 * a + 15 * x.2.2.2) (fun x => 15 - x.2.2.2) (z0A, z0c, z0, a + 1) (by (try dsimp only); exact ⟨by omega, by omega, hg0, by omega⟩) (Ent.cons rfl (Ent.cons rfl (Ent.nil _))) (Ent.cons (t := 2) rfl (Ent.cons (t := 5) rfl (Ent.cons (t := 6) rfl (Ent.nil _)))) (Sub.k (Sub.k (Sub.nil _))) ?_
  rintro ⟨z1A, z1c, z1, b⟩ ⟨hab, hb, hg1, hl1⟩
  dsimp only at hab hb hg1 hl1 ⊢
  refine V.seq (V.seq (V.region (O.m rfl (O.m rfl (O.q rfl (Pu.lss rfl rfl rfl) (O.nil (X.next (V.condD rfl (fun c2 => ?_) (fun c2 => ?_)))))))))
  ·refine V.skip (X.next (V.seq (V.block (V.seq (V.region (O.m rfl (O.q rfl (Pu.add64 (r := ((b + 1 : Nat) : Int)) rfl (by omega) rfl rfl rfl) (O.m rfl (O.nil (X.next (V.block ?_)))))))))))
   refine V.loop3 (β := (Option Addr) × Nat × (List B3) × Nat) (fun x => [(4, .slice x.1 x.2.2.1.length x.2.1), (8, .int .i64 (x.2.2.2 : Int))]) _ (fun x => [Own 69 B3C x.1 x.2.1 x.2.2.1]) _ (fun x => b < x.2.2.2 ∧ x.2.2.2 ≤ 15 ∧ (∀ d ∈ x.2.2.1, good 15 d) ∧ x.2.2.1.length ≤ 225 * a + 15 * b + x.2.2.2) (fun x => 15 - x.2.2.2) (z1A, z1c, z1, b + 1) (by (try dsimp only); exact ⟨by omega, by omega, hg1, by omega⟩) (Ent.cons rfl (Ent.cons rfl (Ent.nil _))) (Ent.cons (t := 2) rfl (Ent.cons (t := 5) rfl (Ent.cons (t := 6) rfl (Ent.cons (t := 7) rfl (Ent.nil _))))) (Sub.k (Sub.k (Sub.nil _))) ?_
   rintro ⟨z2A, z2c, z2, e⟩ ⟨hbe, he, hg2, hl2⟩
   dsimp only at hbe he hg2 hl2 ⊢
   refine V.seq (V.seq (V.region (O.m rfl (O.m rfl (O.q rfl (Pu.lss rfl rfl rfl) (O.nil (X.next (V.condD rfl (fun c3 => ?_) (fun c3 => ?_)))))))))
   ·refine V.skip (X.next (V.seq (V.block (V.seq (V.region (O.m rfl (O.q rfl (Pu.isF (by decide) (Pu.eql rfl rfl rfl)) (O.m rfl (O.g rfl (O.g rfl (O.g rfl ?_)))))))))))
    refine O.g rfl (O.g rfl (O.g rfl (O.g rfl (O.g rfl (O.g rfl (O.g rfl (O.m rfl (O.m rfl (O.g rfl (O.g rfl (O.g rfl ?_)))))))))))
    refine O.g rfl (O.g rfl (O.g rfl (O.g rfl (O.g rfl (O.g rfl (O.g rfl (O.m rfl (O.m rfl (O.gm rfl (O.gq rfl (Pu.isT (by decide) (Pu.eql rfl rfl rfl)) (O.gm rfl ?_)))))))))))
    refine O.gm rfl (O.gq rfl (Pu.add64 (r := ((a + 1 : Nat) : Int)) rfl (by omega) rfl rfl rfl) (O.gm rfl (O.gq rfl (Pu.add64 (r := ((b + 1 : Nat) : Int)) rfl (by omega) rfl rfl rfl) (O.gq rfl (Pu.xor (m := a + 1) (n := b + 1) K64.i (by omega) (by omega) rfl rfl rfl) (O.gm rfl (O.gq rfl (Pu.add64 (r := ((e + 1 : Nat) : Int)) rfl (by omega) rfl rfl rfl) (O.gq rfl (Pu.xor (m := (a + 1 ^^^ b + 1)) (n := e + 1) K64.i (xor_lt (by omega) (by omega)) (by omega) rfl rfl rfl) (O.gq rfl (Pu.eql rfl rfl rfl) (O.gm rfl (O.m rfl (O.nil ?_)))))))))))
    refine X.next (V.condD rfl (fun c4 => ?_) (fun c4 => ?_))
    ·refine V.region (O.m rfl (O.m rfl (O.m rfl (O.m rfl (O.q rfl (Pu.buildA (cs := [.int .i64 (↑a : Int), .int .i64 (↑b : Int), .int .i64 (↑e : Int)]) (v := B3.v ((↑a : Int), (↑b : Int), (↑e : Int))) rfl rfl Tryz.underlying69 zr69 sz2 rfl (by kernel_rfl)) (O.f rfl (Ef.build B3C ([((↑a : Int), (↑b : Int), (↑e : Int))] : List B3) rfl Tryz.underlying24 inf69 rfl rfl rfl (by first | decide | (simp; done)) (by kernel_rfl)) ?_))))))
     rintro _ _ ⟨A2, hA2, rfl, rfl⟩
     refine O.f rfl (Ef.append (xs := z2) (ys := ([((↑a : Int), (↑b : Int), (↑e : Int))] : List B3)) 1 rfl Tryz.underlying24 inf69 rfl rfl rfl rfl rfl rfl hA2 (Ld.own 0 (by exact rfl)) (by simp only [List.length_append, List.length_cons, List.length_nil] at *; omega) (by decide)) ?_
     rintro _ _ ⟨A3, k1, rfl, rfl, hA3⟩
     replace hA3 := hA3 (.inr (by simp))
     exact O.m rfl (O.nil (X.blockNormal (X.next (V.region (O.m rfl (O.q rfl (Pu.add64 (r := ((e + 1 : Nat) : Int)) rfl (by omega) rfl rfl rfl) (O.m rfl (O.nil (X.back3 (A3, k1, (z2 ++ ([((↑a : Int), (↑b : Int), (↑e : Int))] : List B3)), e + 1) (by (try dsimp only); exact ⟨by omega, by omega, (by first | exact hg2 | exact good_snoc hg2 (by unfold good; simp only; omega)), (by first | omega | (simp only [List.length_append, List.length_singleton]; omega))⟩) (by first | omega | (dsimp only; omega)) (Ent.cons rfl (Ent.cons rfl (Ent.nil _))) (Ent.cons (t := 2) rfl (Ent.cons (t := 5) rfl (Ent.cons (t := 6) rfl (Ent.cons (t := 7) rfl (Ent.nil _))))) (Sub.keep 1 rfl (Sub.keep 1 rfl (Sub.nil _))))))))))))
    ·exact V.skip (X.blockNormal (X.next (V.region (O.m rfl (O.q rfl (Pu.add64 (r := ((e + 1 : Nat) : Int)) rfl (by omega) rfl rfl rfl) (O.m rfl (O.nil (X.back3 (z2A, z2c, z2, e + 1) (by (try dsimp only); exact ⟨by omega, by omega, (by first | exact hg2 | exact good_snoc hg2 (by unfold good; simp only; omega)), (by first | omega | (simp only [List.length_append, List.length_singleton]; omega))⟩) (by first | omega | (dsimp only; omega)) (Ent.cons rfl (Ent.cons rfl (Ent.nil _))) (Ent.cons (t := 2) rfl (Ent.cons (t := 5) rfl (Ent.cons (t := 6) rfl (Ent.cons (t := 7) rfl (Ent.nil _))))) (Sub.k (Sub.k (Sub.nil _)))))))))))
   ·exact V.exit (X.thenExit (X.thenExit (X.blockHit (X.blockNormal (X.next (V.region (O.m rfl (O.q rfl (Pu.add64 (r := ((b + 1 : Nat) : Int)) rfl (by omega) rfl rfl rfl) (O.m rfl (O.nil (X.back3 (z2A, z2c, z2, b + 1) (by (try dsimp only); exact ⟨by omega, by omega, hg2, by omega⟩) (by first | omega | (dsimp only; omega)) (Ent.cons rfl (Ent.cons rfl (Ent.nil _))) (Ent.cons (t := 2) rfl (Ent.cons (t := 5) rfl (Ent.cons (t := 6) rfl (Ent.nil _)))) (Sub.k (Sub.k (Sub.nil _))))))))))))))
  ·exact V.exit (X.thenExit (X.thenExit (X.blockHit (X.blockNormal (X.next (V.region (O.m rfl (O.q rfl (Pu.add64 (r := ((a + 1 : Nat) : Int)) rfl (by omega) rfl rfl rfl) (O.m rfl (O.nil (X.back3 (z1A, z1c, z1, a + 1) (by (try dsimp only); exact ⟨by omega, hg1, by omega⟩) (by first | omega | (dsimp only; omega)) (Ent.cons rfl (Ent.cons rfl (Ent.nil _))) (Ent.cons (t := 2) rfl (Ent.cons (t := 5) rfl (Ent.nil _))) (Sub.k (Sub.k (Sub.nil _))))))))))))))
 ·refine V.exit (X.thenExit (X.thenExit (X.blockHit (X.next (V.seq (V.region (O.m rfl (O.m rfl (O.f rfl (Ef.call1 call45 rfl rfl (fun w hw => l01Made_ok  (15 : Int) z0 _ _ w ((Ld.own 0 (by exact rfl)) w hw) (by first | omega | (simp only [tops_len, conts_len, bl, List.length_append, List.length_cons, List.length_nil] at *; omega)) (by first | assumption | omega | (try dsimp only at *; omega)))) ?_)))))))))
  rintro _ _ rfl
  refine O.exi (fun r1A => O.exi (fun r1c => O.exi (fun r1 => O.sep (O.pur ?_))))
  rintro ⟨rfl, hr1_1, hr1_2⟩
  refine O.s rfl rfl (Ef.storeAll 2 rfl sz26 rfl rfl rfl rfl (by simp [Value.oneCell']) rfl) ?_
  rintro _ _ rfl
  exact O.m rfl (O.nil (X.next (V.ret (X.blockRet (X.thenRet (X.retCell2 rfl ag26 sz26 rfl rfl rfl (Ld.whole 2 rfl) (fun w hw => St.mkExi r1A (St.mkExi r1c (St.mkExi r1 (St.unsep (St.addPur ⟨rfl, DrS.perm ⟨by decide, hg0, by omega⟩ hr1_1⟩ (hw.sub (Sub.k (Sub.nil _))))))))))))))
theorem l01NamedAny_ok (x : ByteArray) (w : World) (hx : x ∈ nmL) : Does Tryz.prog 74 [.string x] w [] (fun v => [.exi fun pv : Int => .exi fun rA : Option Addr => .exi fun rc : Nat => .exi fun r : List B3 => .sep (.pur (v = .tuple #[.agg #[.int .i64 pv, .slice rA r.length rc], .bool true] ∧ DrS 4000 pv r)) (Own 69 B3C rA rc r)]) := by
 unfold nmL at hx
 simp only [List.mem_cons, List.not_mem_nil, or_false] at hx
 rcases hx with rfl | rfl | rfl | rfl | rfl | rfl
 ·exact (l01NamedD0_ok w).mono (fun v w hs => St.mkExi 3 hs)
 ·exact (l01NamedD1_ok w).mono (fun v w hs => St.mkExi 7 hs)
 ·exact (l01NamedD2_ok w).mono (fun v w hs => St.mkExi 9 hs)
 ·exact (l01NamedD3_ok w).mono (fun v w hs => St.mkExi 13 hs)
 ·exact (l01NamedD4_ok w).mono (fun v w hs => St.mkExi 15 hs)
 ·exact (l01NamedD5_ok w).mono (fun v w hs => St.mkExi 15 hs)
theorem l01OwnN_ok (xs : List Int) (n : Nat) (A : Option Addr) (c : Nat) (w : World) (hn : n = xs.length) (hx : Rd I64 w A xs) (hA : A.isSome = true) (lx : xs.length ≤ 1099511627776) : Does Tryz.prog 113 [.slice A n c] w [] (fun v => [.exi fun p : (Option Addr × Nat) × List Int => .sep (.pur (v = .slice p.1.1 p.2.length p.1.2 ∧ p.2 = xs)) (Own 2 I64 p.1.1 p.1.2 p.2)]) := by
 subst hn
 exact l01Own_ok xs A c w hx hA lx
set_option maxRecDepth 100000 in
set_option maxHeartbeats 1000000 in
theorem l01DrawOrder_ok (cA : Option Addr) (cc : Nat) (code : List UInt8) (s : Nat) (n : Int) (w0 : World) (H : List Assn) (hc : Rd U8C w0 cA code) (lc : code.length ≤ 1048576) (hn : 0 ≤ n ∧ n ≤ 1000) : Does Tryz.prog 76 [.pointer (some ⟨s, 0, none⟩), .int .i64 n] w0 (SrcK 118 cA cc code s :: H) (fun rv_ => [.exi fun (rA : Option Addr) => .exi fun (rc : Nat) => .exi fun (r : List Int) => .sep (.pur (rv_ = .slice rA r.length rc ∧ OrdP n r)) (.sep (Own 2 I64 rA rc r) (SrcK 118 cA cc code s))] ++ H) := by
 refine Does.enter Tryz.func76 rfl rfl [(0, .pointer (some ⟨s, 0, none⟩)), (1, .int .i64 n)] rfl (V.seq (V.region (O.m rfl (O.nil (X.next (V.seq (V.region (O.f rfl (Ef.build I64 ([] : List Int) rfl Tryz.underlying41 inf2 rfl rfl rfl (by first | decide | (simp; done)) (by kernel_rfl)) ?_))))))))
 rintro _ _ ⟨A1, hA1, rfl, rfl⟩
 refine O.m rfl (O.nil (X.next (V.seq (V.seq (V.region (O.m rfl (O.nil (X.next (V.block (V.loop3 (β := (Option Addr) × Nat × (List Int) × Nat) (fun x => [(5, .slice x.1 x.2.2.1.length x.2.1), (6, .int .i64 (x.2.2.2 : Int))]) _ (fun x => [Own 2 I64 x.1 x.2.1 x.2.2.1]) _ (fun x => x.2.2.2 ≤ n.toNat ∧ OrdP (x.2.2.2 : Int) x.2.2.1 ∧ x.1.isSome = true) (fun x => n.toNat - x.2.2.2) (A1, 0, ([] : List Int), 0) (by (try dsimp only); exact ⟨by omega, ord_nil, hA1⟩) (Ent.cons rfl (Ent.cons rfl (Ent.nil _))) (Ent.cons (t := 0) rfl (Ent.cons (t := 1) rfl (Ent.nil _))) (Sub.k (Sub.k (Sub.refl _))) ?_))))))))))
 rintro ⟨outA, outc, out, i⟩ ⟨hi, ho, hoS⟩
 dsimp only at hi ho hoS ⊢
 have hol := ho.1
 refine V.seq (V.seq (V.region (O.m rfl (O.m rfl (O.q rfl (Pu.lss rfl rfl rfl) (O.nil (X.next (V.condD rfl (fun c1 => ?_) (fun c1 => ?_)))))))))
 ·refine V.skip (X.next (V.seq (V.block (V.seq (V.region (O.m rfl (O.m rfl (O.q rfl (Pu.add64 (r := ((i + 1 : Nat) : Int)) rfl (by omega) rfl rfl rfl) (O.f rfl (Ef.call call68 rfl rfl (Does.pre (fun w hw => hw.sub (Sub.keep 1 rfl (Sub.k (Sub.refl _)))) (l01Next_ok _ _ _ s (↑(i + 1) : Int) w0 _   (by first | assumption | omega | (try dsimp only at *; omega)) (by first | assumption | omega | (try dsimp only at *; omega))))) ?_)))))))))
  rintro _ _ rfl
  refine O.exi (fun r1 => O.sep (O.pur ?_))
  rintro ⟨rfl, hr1_1, hr1_2, hr1_3⟩
  refine O.m rfl (O.nil (X.next (V.fact (fun w hw => Own.cap hw (i := 1) rfl) (fun hcap => ?_))))
  have hol := ho.1
  have hdl : (out.drop r1.toNat).length = out.length - r1.toNat := List.length_drop
  refine V.draw mo (by kernel_rfl) (fun hwf => D.m 0 rfl (D.m 1 rfl (D.q 2 rfl (Pu.sliceH ((r1).toNat) rfl Tryz.underlying41 sz2 rfl rfl (by omega) (by omega)) (D.m 4 rfl (D.m 7 rfl (D.m 8 rfl (D.q 9 rfl (Pu.sliceL ((r1).toNat) rfl Tryz.underlying41 sz2 rfl rfl (by omega) (by omega)) (D.twoBC hwf (e1 := 5) (e2 := 3) rfl rfl rfl rfl rfl rfl rfl rfl rfl rfl rfl rfl rfl rfl rfl rfl rfl (fun H hs => Ef.build I64 ([(↑i : Int)] : List Int) rfl Tryz.underlying41 inf2 rfl rfl rfl (by first | decide | (simp; done)) (by kernel_rfl)) (fun H hs => Ef.call1 call113 rfl rfl (fun w hw => l01OwnN_ok (out.take ((r1).toNat)) _ _ _ w (by rw [List.length_take]; omega) (((Ld.own 1 (by exact rfl)) w (hs w hw)).take ((r1).toNat)) hoS (by rw [List.length_take]; omega))) ?_))))))))
  rintro A2 _ hA2
  refine D.exi (fun p1 => D.sep (D.pur1 ?_))
  rintro ⟨rfl, hp1⟩
  have hpl : p1.2.length = r1.toNat := by rw [hp1, List.length_take]; omega
  refine D.f hwf 6 rfl (Ef.append (xs := p1.2) (ys := ([(↑i : Int)] : List Int)) 0 rfl Tryz.underlying41 inf2 rfl rfl rfl rfl rfl rfl hA2 (Ld.own 1 (by exact rfl)) (by simp only [List.length_append, List.length_cons, List.length_nil] at *; omega) (by decide)) ?_
  rintro _ _ ⟨A3, k1, rfl, rfl, hA3⟩ hs
  replace hA3 := hA3 (.inr (by simp))
  refine ⟨fun w hw => hw.sub (Sub.keep 2 rfl (Sub.keep 2 rfl (Sub.drop (Sub.drop (Sub.refl _))))), (D.f hwf 10 rfl (Ef.append (xs := (p1.2 ++ ([(↑i : Int)] : List Int))) (ys := (out.drop ((r1).toNat))) 0 rfl Tryz.underlying41 inf2 rfl rfl rfl rfl rfl (by first | (simp only [List.length_take, List.length_drop]; done) | (simp only [List.length_take, List.length_drop]; omega)) (by split <;> simp [hoS]) (fun w hw => ((Ld.own 3 (by exact rfl)) w hw).drop rfl (Own.cap hw (i := 3) (by exact rfl))) (by simp only [List.length_append, List.length_cons, List.length_nil] at *; omega) (by decide)) ?_)⟩
  rintro _ _ ⟨A4, k2, rfl, rfl, hA4⟩ hs
  replace hA4 := hA4 (.inl hA3)
  exact ⟨fun w hw => hw.sub (Sub.keep 2 rfl (Sub.keep 2 rfl (Sub.drop (Sub.drop (Sub.refl _))))), (D.last hwf (e := 11) rfl rfl rfl rfl rfl rfl (Pu.assign rfl rfl) (X.blockNormal (X.next (V.region (O.m rfl (O.q rfl (Pu.add64 (r := ((i + 1 : Nat) : Int)) rfl (by omega) rfl rfl rfl) (O.m rfl (O.nil (X.back3 (A4, k2, ((p1.2 ++ ([(↑i : Int)] : List Int)) ++ (out.drop ((r1).toNat))), i + 1) (by (try dsimp only); exact ⟨by omega, by rw [hp1]; exact ord_ins ho, hA4⟩) (by first | omega | (dsimp only; omega)) (Ent.cons rfl (Ent.cons rfl (Ent.nil _))) (Ent.cons (t := 0) rfl (Ent.cons (t := 1) rfl (Ent.nil _))) (Sub.k (Sub.keep 1 rfl (Sub.drop (Sub.drop (Sub.refl _))))))))))))))⟩
 ·refine V.exit (X.thenExit (X.thenExit (X.blockHit (X.next (V.seq (V.region (O.m rfl (O.m rfl (O.nil (X.next (V.ret ?_)))))))))))
  exact X.ret1 rfl rfl (fun w hw => St.mkExi outA (St.mkExi outc (St.mkExi out (St.unsep (St.addPur ⟨rfl, (by have e : (i : Int) = n := (by omega); rw [← e]; exact ho)⟩ (St.unsep (hw.sub (Sub.k (Sub.k (Sub.refl _))))))))))
set_option maxRecDepth 100000 in
set_option maxHeartbeats 1000000 in
theorem l01Free_ok (v : Int) (bs : List B3) (b : B3) (A : Option Addr) (c : Nat) (w : World) (hx : Rd B3C w A bs) (lx : bs.length ≤ 4611686018427387904) : Does Tryz.prog 160 [.agg #[.int .i64 v, .slice A bs.length c], B3.v b] w [] (fun r => [.pur (r = .bool (decide (∀ d ∈ bs, common d b ≤ 1)))]) := by
 refine Does.enter Tryz.func160 rfl rfl [(0, .agg #[.int .i64 v, .slice A bs.length c]), (1, B3.v b)] rfl (V.seq (V.region (O.f rfl (Ef.box rfl rfl rfl) ?_)))
 rintro _ _ ⟨b1, rfl, rfl⟩
 refine O.f rfl (Ef.box rfl rfl rfl) ?_
 rintro _ _ ⟨b2, rfl, rfl⟩
 refine O.m rfl (O.nil (X.next (V.seq (V.seq (V.region (O.m rfl (O.nil (X.next (V.block (V.loop3 (β := Nat) (fun i => [(5, .int .i64 (i : Int))]) _ (fun i => []) _ (fun i => i ≤ bs.length ∧ ∀ j (hj : j < bs.length), j < i → common bs[j] b ≤ 1) (fun i => bs.length - i) 0 ⟨by omega, fun j hj h => by omega⟩ (Ent.cons rfl (Ent.nil _)) (Ent.cons (t := 2) rfl (Ent.cons (t := 3) rfl (Ent.nil _))) (Sub.k (Sub.k (Sub.nil _))) ?_))))))))))
 rintro i ⟨hi, hn⟩
 refine V.seq (V.seq (V.region (O.m rfl (O.q rfl (Pu.fieldAddr 1 rfl Tryz.underlying26 rfl sz24 rfl rfl) (O.q rfl (Pu.load rfl pl24 rfl (Ld.blk 1 rfl rfl)) (O.q rfl (Pu.len rfl Tryz.underlying24 rfl) (O.q rfl (Pu.lss rfl rfl rfl) (O.nil (X.next (V.condD rfl (fun c1 => ?_) (fun c1 => ?_)))))))))))
 ·refine V.skip (X.next (V.seq (V.block (V.seq (V.draw mo (by kernel_rfl) (fun hwf => D.q 0 rfl (Pu.fieldAddr 1 rfl Tryz.underlying26 rfl sz24 rfl rfl) (D.q 1 rfl (Pu.load rfl pl24 rfl (Ld.blk 1 rfl rfl)) (D.m 2 rfl (D.q 3 rfl (Pu.indexAddr (i) rfl Tryz.underlying24 sz69 rfl rfl (by omega) (by omega) (hx.some (by omega))) ?_)))))))))
  have e1 : i < bs.length := by omega
  refine D.q 4 rfl (Pu.loadAgg' (v := B3.v (bs[i]'e1)) rfl rfl ag69 sz69 rfl rfl (Ld.rds (Ld.old hx) (k := i) e1 rfl)) (D.q 5 rfl (Pu.loadAgg' (v := B3.v b) rfl rfl ag69 sz69 rfl rfl (Ld.whole 0 rfl)) (D.f hwf 6 rfl (Ef.callP call115 rfl rfl (fun w hw => l01Common_ok _ _ _)) ?_))
  rintro _ _ ⟨rfl, rfl⟩ hs
  refine ⟨fun w hw => hw, (D.q 7 rfl (Pu.gtr rfl rfl rfl) (D.done hwf rfl (X.next (V.condD rfl (fun c2 => ?_) (fun c2 => ?_)))))⟩
  ·exact V.seq (V.region (O.m rfl (O.nil (X.next (V.ret (X.blockRet (X.thenRet (X.thenRet (X.blockRet (X.thenRet (X.ret1 rfl rfl (fun w hw => St.retP (boolF (fun h => by have := h _ (List.getElem_mem e1); omega)) hw))))))))))))
  ·exact V.skip (X.blockNormal (X.next (V.region (O.m rfl (O.q rfl (Pu.add64 (r := ((i + 1 : Nat) : Int)) rfl (by omega) rfl rfl rfl) (O.m rfl (O.nil (X.back3 (i + 1) ⟨by omega, fun j hj h => by by_cases e : j = i; (· subst e; omega); (· exact hn j hj (by omega))⟩ (by first | omega | (dsimp only; omega)) (Ent.cons rfl (Ent.nil _)) (Ent.cons (t := 2) rfl (Ent.cons (t := 3) rfl (Ent.nil _))) (Sub.k (Sub.k (Sub.nil _)))))))))))
 ·exact V.exit (X.thenExit (X.thenExit (X.blockHit (X.next (V.seq (V.region (O.m rfl (O.nil (X.next (V.ret (X.ret1 rfl rfl (fun w hw => St.retP (boolT (fun d hd => by obtain ⟨j, hj, rfl⟩ := List.getElem_of_mem hd; exact hn j hj (by omega))) hw))))))))))))
set_option maxRecDepth 100000 in
set_option maxHeartbeats 1000000 in
theorem l01DrawOf_ok (cA : Option Addr) (cc : Nat) (code : List UInt8) (s : Nat) (v_ : Int) (w0 : World) (H : List Assn) (hc : Rd U8C w0 cA code) (lc : code.length ≤ 1048576) (hv : 3 ≤ v_ ∧ v_ ≤ 15) : Does Tryz.prog 146 [.pointer (some ⟨s, 0, none⟩), .int .i64 v_] w0 (SrcK 118 cA cc code s :: H) (fun rv_ => [.exi fun (rA : Option Addr) => .exi fun (rc : Nat) => .exi fun (r : List B3) => .sep (.pur (rv_ = .agg #[.int .i64 v_, .slice rA r.length rc] ∧ DrS 40 v_ r)) (.sep (Own 69 B3C rA rc r) (SrcK 118 cA cc code s))] ++ H) := by
 refine Does.enter Tryz.func146 rfl rfl [(0, .pointer (some ⟨s, 0, none⟩)), (1, .int .i64 v_)] rfl (V.seq (V.region (O.f rfl (Ef.alloc rfl zr26 rfl) ?_)))
 rintro _ _ ⟨b1, rfl, rfl⟩
 refine O.nil (X.next (V.seq (V.region (O.m rfl (O.f rfl (Ef.build B3C ([] : List B3) rfl Tryz.underlying24 inf69 rfl rfl rfl (by first | decide | (simp; done)) (by kernel_rfl)) ?_)))))
 rintro _ _ ⟨A1, hA1, rfl, rfl⟩
 refine O.q rfl (Pu.buildS (cs := [.int .i64 v_, .slice A1 0 0]) rfl rfl Tryz.underlying26 zr26 (by kernel_rfl) rfl (by kernel_rfl)) (O.f rfl (Ef.alloc rfl zr26 rfl) ?_)
 rintro _ _ ⟨b2, rfl, rfl⟩
 refine O.s rfl rfl (Ef.storeAll 0 rfl sz26 rfl rfl rfl rfl (by simp [Value.oneCell']) rfl) ?_
 rintro _ _ rfl
 refine O.nil (X.next (V.seq (V.seq (V.region (O.m rfl (O.m rfl (O.f rfl (Ef.build I64 ([(4 : Int), (12 : Int), (40 : Int)] : List Int) rfl Tryz.underlying41 inf2 rfl rfl rfl (by first | decide | (simp; done)) (by kernel_rfl)) ?_)))))))
 rintro _ _ ⟨A2, hA2, rfl, rfl⟩
 refine O.f rfl (Ef.call call98 rfl rfl (Does.pre (fun w hw => hw.sub (Sub.keep 4 rfl (Sub.k (Sub.k (Sub.k (Sub.k (Sub.refl _))))))) (l01Pick_ok _ _ _ s ([(4 : Int), (12 : Int), (40 : Int)] : List Int) _ _ w0 _ (Ld.own 0 (by exact rfl)) (by first | omega | (simp only [tops_len, conts_len, bl, List.length_append, List.length_cons, List.length_nil] at *; omega)) (by first | assumption | omega | (try dsimp only at *; omega)) (by first | assumption | omega | (try dsimp only at *; omega)) (by first | (simp; done) | omega)))) ?_
 rintro _ _ rfl
 refine O.exi (fun r1 => O.sep (O.pur ?_))
 rintro ⟨rfl, hr1_1⟩
 have hp40 : 0 ≤ r1 ∧ r1 ≤ 40 := by simp only [List.mem_cons, List.not_mem_nil, or_false] at hr1_1; omega
 refine O.f rfl (Ef.call call68 rfl rfl (Does.pre (fun w hw => hw.sub (Sub.k (Sub.k (Sub.k (Sub.k (Sub.k (Sub.refl _))))))) (l01Next_ok _ _ _ s r1 w0 _   (by first | assumption | omega | (try dsimp only at *; omega)) (by first | assumption | omega | (try dsimp only at *; omega))))) ?_
 rintro _ _ rfl
 refine O.exi (fun r2 => O.sep (O.pur ?_))
 rintro ⟨rfl, hr2_1, hr2_2, hr2_3⟩
 refine O.m rfl (O.nil (X.next (V.block (V.loop3 (β := Int × (Option Addr) × Nat × (List B3)) (fun x => [(6, .int .i64 (x.1 : Int))]) _ (fun x => [Blk b2 [.int .i64 v_, .slice x.2.1 x.2.2.2.length x.2.2.1] 26, Own 69 B3C x.2.1 x.2.2.1 x.2.2.2]) _ (fun x => (∀ b ∈ x.2.2.2, good v_ b) ∧ x.2.2.2.length + x.1.toNat ≤ 40) (fun x => x.1.toNat) (r2, A1, 0, ([] : List B3)) (by (try dsimp only); exact ⟨by simp, by simp only [List.length_nil]; omega⟩) (Ent.cons rfl (Ent.nil _)) (Ent.cons (t := 0) rfl (Ent.cons (t := 1) rfl (Ent.cons (t := 4) rfl (Ent.cons (t := 5) rfl (Ent.nil _))))) (Sub.keep 2 rfl (Sub.keep 2 rfl (Sub.k (Sub.k (Sub.k (Sub.refl _)))))) ?_))))
 rintro ⟨k, xsA, xsc, xs⟩ ⟨hg, hl⟩
 dsimp only at hg hl ⊢
 refine V.seq (V.seq (V.region (O.m rfl (O.q rfl (Pu.gtr rfl rfl rfl) (O.nil (X.next (V.condD rfl (fun c1 => ?_) (fun c1 => ?_))))))))
 ·refine V.skip (X.next (V.seq (V.block (V.seq (V.region (O.m rfl (O.m rfl (O.f rfl (Ef.call call76 rfl rfl (Does.pre (fun w hw => hw.sub (Sub.keep 2 rfl (Sub.k (Sub.k (Sub.k (Sub.k (Sub.refl _))))))) (l01DrawOrder_ok _ _ _ s v_ w0 _   (by first | assumption | omega | (try dsimp only at *; omega)) (by first | assumption | omega | (try dsimp only at *; omega)) (by omega)))) ?_))))))))
  rintro _ _ rfl
  refine O.exi (fun r3A => O.exi (fun r3c => O.exi (fun r3 => O.sep (O.pur ?_))))
  rintro ⟨rfl, hr3_1⟩
  refine O.sep (O.m rfl (O.nil (X.next (V.seq ?_))))
  have hol := hr3_1.1
  have g0 := ord_at hr3_1 (i := 0) (by omega)
  have g1 := ord_at hr3_1 (i := 1) (by omega)
  have g2 := ord_at hr3_1 (i := 2) (by omega)
  have hgb := good_bk3 g0 g1 g2 (ord_ne hr3_1 (by omega) (by omega) (by decide)) (ord_ne hr3_1 (by omega) (by omega) (by decide)) (ord_ne hr3_1 (by omega) (by omega) (by decide))
  refine V.draw mo (by kernel_rfl) (fun hwf => D.m 0 rfl (D.q 1 rfl (Pu.indexAddrS (0) rfl Tryz.underlying41 sz2 rfl rfl (by omega) (by omega) (fun w hw => Own.some hw (i := 0) (by exact rfl) (by omega))) ?_))
  have e1 : 0 < r3.length := by omega
  refine D.q 2 rfl (Pu.load rfl pl2 rfl (Ld.rd (Ld.own 0 (by exact rfl)) (k := 0) e1 rfl rfl)) (D.m 3 rfl (D.q 4 rfl (Pu.indexAddrS (1) rfl Tryz.underlying41 sz2 rfl rfl (by omega) (by omega) (fun w hw => Own.some hw (i := 0) (by exact rfl) (by omega))) ?_))
  have e2 : 1 < r3.length := by omega
  refine D.q 5 rfl (Pu.load rfl pl2 rfl (Ld.rd (Ld.own 0 (by exact rfl)) (k := 1) e2 rfl rfl)) (D.m 6 rfl (D.q 7 rfl (Pu.indexAddrS (2) rfl Tryz.underlying41 sz2 rfl rfl (by omega) (by omega) (fun w hw => Own.some hw (i := 0) (by exact rfl) (by omega))) ?_))
  have e3 : 2 < r3.length := by omega
  refine D.q 8 rfl (Pu.load rfl pl2 rfl (Ld.rd (Ld.own 0 (by exact rfl)) (k := 2) e3 rfl rfl)) (D.either hwf (e1 := 9) (e2 := 10) rfl ?_ ?_)
  ·refine ⟨_, _, rfl, rfl, fun _ _ => wanted_none rfl _, Ef.callP call112 rfl rfl (fun w hw => l01BlockD_ok  (r3[0]'e1) (r3[1]'e2) (r3[2]'e3) w   (by first | assumption | omega | (try dsimp only at *; omega)) (by first | assumption | omega | (try dsimp only at *; omega)) (by first | assumption | omega | (try dsimp only at *; omega))), rfl, rfl, ?_⟩
   rintro _ _ ⟨rfl, rfl⟩ hs
   refine ⟨fun w hw => hw, (D.f hwf 10 rfl (Ef.alloc rfl zr69 rfl) ?_)⟩
   rintro _ _ ⟨b3, rfl, rfl⟩ hs
   refine ⟨fun w hw => hw.sub (Sub.keep 1 rfl (Sub.keep 1 rfl (Sub.keep 1 rfl (Sub.keep 1 rfl (Sub.keep 1 rfl (Sub.keep 1 rfl (Sub.drop (Sub.refl _)))))))), (D.f hwf 11 rfl (Ef.storeAll 0 rfl sz69 rfl rfl rfl rfl (by simp [Value.oneCell']) rfl) ?_)⟩
   rintro _ _ rfl hs
   refine ⟨fun w hw => hw.sub (Sub.keep 1 rfl (Sub.keep 1 rfl (Sub.keep 1 rfl (Sub.keep 1 rfl (Sub.keep 1 rfl (Sub.keep 1 rfl (Sub.drop (Sub.refl _)))))))), (D.done hwf rfl (X.next (V.seq (V.region (O.q rfl (Pu.loadAgg rfl ag26 sz26 rfl rfl (Ld.whole 3 rfl)) (O.q rfl (Pu.loadAgg' (v := B3.v (bk3 (r3[0]'e1) (r3[1]'e2) (r3[2]'e3))) rfl rfl ag69 sz69 rfl rfl (Ld.whole 0 rfl)) (O.f rfl (Ef.callP call160 rfl rfl (fun w hw => l01Free_ok  v_ xs (bk3 (r3[0]'e1) (r3[1]'e2) (r3[2]'e3)) _ _ w ((Ld.own 4 (by exact rfl)) w hw) (by first | omega | (simp only [tops_len, conts_len, bl, List.length_append, List.length_cons, List.length_nil] at *; omega)) )) ?_)))))))⟩
   rintro _ _ ⟨rfl, rfl⟩
   refine O.nil (X.next (V.condD rfl (fun c2 => ?_) (fun c2 => ?_)))
   ·refine V.draw mo (by kernel_rfl) (fun hwf => D.m 0 rfl (D.q 2 rfl (Pu.fieldAddr 1 rfl Tryz.underlying26 rfl sz24 rfl rfl) (D.q 3 rfl (Pu.load rfl pl24 rfl (Ld.blk 3 rfl rfl)) (D.q 5 rfl (Pu.loadAgg' (v := B3.v (bk3 (r3[0]'e1) (r3[1]'e2) (r3[2]'e3))) rfl rfl ag69 sz69 rfl rfl (Ld.whole 0 rfl)) (D.either hwf (e1 := 1) (e2 := 6) rfl ?_ ?_)))))
    ·refine ⟨_, _, rfl, rfl, fun _ _ => wanted_none rfl _, Ef.build B3C ([] : List B3) rfl Tryz.underlying24 inf69 rfl rfl rfl (by first | decide | (simp; done)) (by kernel_rfl), rfl, rfl, ?_⟩
     rintro _ _ ⟨A3, hA3, rfl, rfl⟩ hs
     refine ⟨fun w hw => hw.sub (Sub.keep 1 rfl (Sub.keep 1 rfl (Sub.keep 1 rfl (Sub.keep 1 rfl (Sub.keep 1 rfl (Sub.keep 1 rfl (Sub.keep 1 rfl (Sub.drop (Sub.refl _))))))))), (D.either hwf (e1 := 4) (e2 := 6) rfl ?_ ?_)⟩
     ·refine ⟨_, _, rfl, rfl, fun _ _ => wanted_none rfl _, Ef.appendN (xs := ([] : List B3)) (ys := xs) 0 rfl Tryz.underlying24 inf69 rfl rfl rfl rfl rfl rfl (fun w hw h => Own.nilc hw (i := 5) (by exact rfl) h) (Ld.own 5 (by exact rfl)) (by simp only [List.length_append, List.length_cons, List.length_nil] at *; omega) (by decide), rfl, rfl, ?_⟩
      rintro _ _ ⟨A4, k1, rfl, rfl, hA4⟩ hs
      replace hA4 := hA4 (.inl hA3)
      refine ⟨fun w hw => hw.sub (Sub.keep 1 rfl (Sub.keep 1 rfl (Sub.keep 1 rfl (Sub.keep 1 rfl (Sub.keep 1 rfl (Sub.keep 1 rfl (Sub.keep 1 rfl (Sub.drop (Sub.refl _))))))))), (D.f hwf 6 rfl (Ef.build B3C ([(bk3 (r3[0]'e1) (r3[1]'e2) (r3[2]'e3))] : List B3) rfl Tryz.underlying24 inf69 rfl rfl rfl (by first | decide | (simp; done)) (by kernel_rfl)) ?_)⟩
      rintro _ _ ⟨A5, hA5, rfl, rfl⟩ hs
      refine ⟨fun w hw => hw.sub (Sub.keep 2 rfl (Sub.keep 2 rfl (Sub.keep 2 rfl (Sub.keep 2 rfl (Sub.keep 2 rfl (Sub.keep 2 rfl (Sub.keep 2 rfl (Sub.drop (Sub.drop (Sub.refl _)))))))))), (D.f hwf 7 rfl (Ef.append (xs := (([] : List B3) ++ xs)) (ys := ([(bk3 (r3[0]'e1) (r3[1]'e2) (r3[2]'e3))] : List B3)) 1 rfl Tryz.underlying24 inf69 rfl rfl rfl rfl rfl rfl hA5 (Ld.own 0 (by exact rfl)) (by simp only [List.length_append, List.length_cons, List.length_nil] at *; omega) (by decide)) ?_)⟩
      rintro _ _ ⟨A6, k2, rfl, rfl, hA6⟩ hs
      replace hA6 := hA6 (.inr (by simp))
      refine ⟨fun w hw => hw.sub (Sub.keep 2 rfl (Sub.keep 2 rfl (Sub.keep 2 rfl (Sub.keep 2 rfl (Sub.keep 2 rfl (Sub.keep 2 rfl (Sub.keep 2 rfl (Sub.drop (Sub.drop (Sub.refl _)))))))))), (D.f hwf 8 rfl (Ef.call1 call45 rfl rfl (fun w hw => l01Made_ok  v_ ((([] : List B3) ++ xs) ++ ([(bk3 (r3[0]'e1) (r3[1]'e2) (r3[2]'e3))] : List B3)) _ _ w ((Ld.own 1 (by exact rfl)) w hw) (by first | omega | (simp only [List.length_append, List.length_cons, List.length_nil, List.length_take, List.length_drop]; omega)) (by first | omega | (simp only [List.length_append, List.length_cons, List.length_nil, List.length_take, List.length_drop]; omega)))) ?_)⟩
      rintro _ _ rfl hs
      refine ⟨fun w hw => hs w hw.tail, (D.exi (fun r4A => D.exi (fun r4c => D.exi (fun r4 => D.sep (D.pur1 ?_)))))⟩
      rintro ⟨rfl, hr4_1, hr4_2⟩
      refine D.effX (Hs' := []) hwf (e := 9) rfl rfl rfl rfl (Ef.storeAll 6 rfl sz26 rfl rfl rfl rfl (by simp [Value.oneCell']) rfl) rfl [] rfl (List.forall_mem_nil _) ?_
      rintro _ _ rfl
      exact ⟨fun w hw => hw.sub (Sub.nil _), (D.done hwf rfl (X.blockNormal (X.next (V.region (O.m rfl (O.q rfl (Pu.sub64 rfl (by omega) rfl rfl rfl) (O.m rfl (O.nil (X.back3 ((k - (1 : Int)), r4A, r4c, r4) (by (try dsimp only); exact ⟨fun d hd => good_snoc hg hgb d (hr4_1.mem_iff.1 hd), by have h := hr4_1.length_eq; simp only [List.length_append, List.length_singleton, List.length_nil] at h; omega⟩) (by first | omega | (dsimp only; omega)) (Ent.cons rfl (Ent.nil _)) (Ent.cons (t := 0) rfl (Ent.cons (t := 1) rfl (Ent.cons (t := 4) rfl (Ent.cons (t := 5) rfl (Ent.nil _))))) (Sub.keep 6 rfl (Sub.k (Sub.keep 4 rfl (Sub.keep 5 rfl (Sub.keep 5 rfl (Sub.drop (Sub.drop (Sub.drop (Sub.drop (Sub.drop (Sub.refl _))))))))))))))))))))⟩
     ·refine ⟨_, _, rfl, rfl, fun _ _ => wanted_none rfl _, Ef.build B3C ([(bk3 (r3[0]'e1) (r3[1]'e2) (r3[2]'e3))] : List B3) rfl Tryz.underlying24 inf69 rfl rfl rfl (by first | decide | (simp; done)) (by kernel_rfl), rfl, rfl, ?_⟩
      rintro _ _ ⟨A4, hA4, rfl, rfl⟩ hs
      refine ⟨fun w hw => hw.sub (Sub.keep 2 rfl (Sub.keep 2 rfl (Sub.keep 2 rfl (Sub.keep 2 rfl (Sub.keep 2 rfl (Sub.keep 2 rfl (Sub.keep 2 rfl (Sub.drop (Sub.drop (Sub.refl _)))))))))), (D.f hwf 4 rfl (Ef.appendN (xs := ([] : List B3)) (ys := xs) 1 rfl Tryz.underlying24 inf69 rfl rfl rfl rfl rfl rfl (fun w hw h => Own.nilc hw (i := 6) (by exact rfl) h) (Ld.own 6 (by exact rfl)) (by simp only [List.length_append, List.length_cons, List.length_nil] at *; omega) (by decide)) ?_)⟩
      rintro _ _ ⟨A5, k1, rfl, rfl, hA5⟩ hs
      replace hA5 := hA5 (.inl hA3)
      refine ⟨fun w hw => hw.sub (Sub.keep 2 rfl (Sub.keep 2 rfl (Sub.keep 2 rfl (Sub.keep 2 rfl (Sub.keep 2 rfl (Sub.keep 2 rfl (Sub.keep 2 rfl (Sub.drop (Sub.drop (Sub.refl _)))))))))), (D.f hwf 7 rfl (Ef.append (xs := (([] : List B3) ++ xs)) (ys := ([(bk3 (r3[0]'e1) (r3[1]'e2) (r3[2]'e3))] : List B3)) 1 rfl Tryz.underlying24 inf69 rfl rfl rfl rfl rfl rfl hA4 (Ld.own 0 (by exact rfl)) (by simp only [List.length_append, List.length_cons, List.length_nil] at *; omega) (by decide)) ?_)⟩
      rintro _ _ ⟨A6, k2, rfl, rfl, hA6⟩ hs
      replace hA6 := hA6 (.inr (by simp))
      refine ⟨fun w hw => hw.sub (Sub.keep 2 rfl (Sub.keep 2 rfl (Sub.keep 2 rfl (Sub.keep 2 rfl (Sub.keep 2 rfl (Sub.keep 2 rfl (Sub.keep 2 rfl (Sub.drop (Sub.drop (Sub.refl _)))))))))), (D.f hwf 8 rfl (Ef.call1 call45 rfl rfl (fun w hw => l01Made_ok  v_ ((([] : List B3) ++ xs) ++ ([(bk3 (r3[0]'e1) (r3[1]'e2) (r3[2]'e3))] : List B3)) _ _ w ((Ld.own 1 (by exact rfl)) w hw) (by first | omega | (simp only [List.length_append, List.length_cons, List.length_nil, List.length_take, List.length_drop]; omega)) (by first | omega | (simp only [List.length_append, List.length_cons, List.length_nil, List.length_take, List.length_drop]; omega)))) ?_)⟩
      rintro _ _ rfl hs
      refine ⟨fun w hw => hs w hw.tail, (D.exi (fun r4A => D.exi (fun r4c => D.exi (fun r4 => D.sep (D.pur1 ?_)))))⟩
      rintro ⟨rfl, hr4_1, hr4_2⟩
      refine D.effX (Hs' := []) hwf (e := 9) rfl rfl rfl rfl (Ef.storeAll 6 rfl sz26 rfl rfl rfl rfl (by simp [Value.oneCell']) rfl) rfl [] rfl (List.forall_mem_nil _) ?_
      rintro _ _ rfl
      exact ⟨fun w hw => hw.sub (Sub.nil _), (D.done hwf rfl (X.blockNormal (X.next (V.region (O.m rfl (O.q rfl (Pu.sub64 rfl (by omega) rfl rfl rfl) (O.m rfl (O.nil (X.back3 ((k - (1 : Int)), r4A, r4c, r4) (by (try dsimp only); exact ⟨fun d hd => good_snoc hg hgb d (hr4_1.mem_iff.1 hd), by have h := hr4_1.length_eq; simp only [List.length_append, List.length_singleton, List.length_nil] at h; omega⟩) (by first | omega | (dsimp only; omega)) (Ent.cons rfl (Ent.nil _)) (Ent.cons (t := 0) rfl (Ent.cons (t := 1) rfl (Ent.cons (t := 4) rfl (Ent.cons (t := 5) rfl (Ent.nil _))))) (Sub.keep 6 rfl (Sub.k (Sub.keep 4 rfl (Sub.keep 5 rfl (Sub.keep 5 rfl (Sub.drop (Sub.drop (Sub.drop (Sub.drop (Sub.drop (Sub.refl _))))))))))))))))))))⟩
    ·refine ⟨_, _, rfl, rfl, fun _ _ => wanted_none rfl _, Ef.build B3C ([(bk3 (r3[0]'e1) (r3[1]'e2) (r3[2]'e3))] : List B3) rfl Tryz.underlying24 inf69 rfl rfl rfl (by first | decide | (simp; done)) (by kernel_rfl), rfl, rfl, ?_⟩
     rintro _ _ ⟨A3, hA3, rfl, rfl⟩ hs
     refine ⟨fun w hw => hw.sub (Sub.keep 1 rfl (Sub.keep 1 rfl (Sub.keep 1 rfl (Sub.keep 1 rfl (Sub.keep 1 rfl (Sub.keep 1 rfl (Sub.keep 1 rfl (Sub.drop (Sub.refl _))))))))), (D.f hwf 1 rfl (Ef.build B3C ([] : List B3) rfl Tryz.underlying24 inf69 rfl rfl rfl (by first | decide | (simp; done)) (by kernel_rfl)) ?_)⟩
     rintro _ _ ⟨A4, hA4, rfl, rfl⟩ hs
     refine ⟨fun w hw => hw.sub (Sub.keep 2 rfl (Sub.keep 2 rfl (Sub.keep 2 rfl (Sub.keep 2 rfl (Sub.keep 2 rfl (Sub.keep 2 rfl (Sub.keep 2 rfl (Sub.drop (Sub.drop (Sub.refl _)))))))))), (D.f hwf 4 rfl (Ef.appendN (xs := ([] : List B3)) (ys := xs) 0 rfl Tryz.underlying24 inf69 rfl rfl rfl rfl rfl rfl (fun w hw h => Own.nilc hw (i := 6) (by exact rfl) h) (Ld.own 6 (by exact rfl)) (by simp only [List.length_append, List.length_cons, List.length_nil] at *; omega) (by decide)) ?_)⟩
     rintro _ _ ⟨A5, k1, rfl, rfl, hA5⟩ hs
     replace hA5 := hA5 (.inl hA4)
     refine ⟨fun w hw => hw.sub (Sub.keep 2 rfl (Sub.keep 2 rfl (Sub.keep 2 rfl (Sub.keep 2 rfl (Sub.keep 2 rfl (Sub.keep 2 rfl (Sub.keep 2 rfl (Sub.drop (Sub.drop (Sub.refl _)))))))))), (D.f hwf 7 rfl (Ef.append (xs := (([] : List B3) ++ xs)) (ys := ([(bk3 (r3[0]'e1) (r3[1]'e2) (r3[2]'e3))] : List B3)) 0 rfl Tryz.underlying24 inf69 rfl rfl rfl rfl rfl rfl hA3 (Ld.own 1 (by exact rfl)) (by simp only [List.length_append, List.length_cons, List.length_nil] at *; omega) (by decide)) ?_)⟩
     rintro _ _ ⟨A6, k2, rfl, rfl, hA6⟩ hs
     replace hA6 := hA6 (.inr (by simp))
     refine ⟨fun w hw => hw.sub (Sub.keep 2 rfl (Sub.keep 2 rfl (Sub.keep 2 rfl (Sub.keep 2 rfl (Sub.keep 2 rfl (Sub.keep 2 rfl (Sub.keep 2 rfl (Sub.drop (Sub.drop (Sub.refl _)))))))))), (D.f hwf 8 rfl (Ef.call1 call45 rfl rfl (fun w hw => l01Made_ok  v_ ((([] : List B3) ++ xs) ++ ([(bk3 (r3[0]'e1) (r3[1]'e2) (r3[2]'e3))] : List B3)) _ _ w ((Ld.own 0 (by exact rfl)) w hw) (by first | omega | (simp only [List.length_append, List.length_cons, List.length_nil, List.length_take, List.length_drop]; omega)) (by first | omega | (simp only [List.length_append, List.length_cons, List.length_nil, List.length_take, List.length_drop]; omega)))) ?_)⟩
     rintro _ _ rfl hs
     refine ⟨fun w hw => hs w hw.tail, (D.exi (fun r4A => D.exi (fun r4c => D.exi (fun r4 => D.sep (D.pur1 ?_)))))⟩
     rintro ⟨rfl, hr4_1, hr4_2⟩
     refine D.effX (Hs' := []) hwf (e := 9) rfl rfl rfl rfl (Ef.storeAll 6 rfl sz26 rfl rfl rfl rfl (by simp [Value.oneCell']) rfl) rfl [] rfl (List.forall_mem_nil _) ?_
     rintro _ _ rfl
     exact ⟨fun w hw => hw.sub (Sub.nil _), (D.done hwf rfl (X.blockNormal (X.next (V.region (O.m rfl (O.q rfl (Pu.sub64 rfl (by omega) rfl rfl rfl) (O.m rfl (O.nil (X.back3 ((k - (1 : Int)), r4A, r4c, r4) (by (try dsimp only); exact ⟨fun d hd => good_snoc hg hgb d (hr4_1.mem_iff.1 hd), by have h := hr4_1.length_eq; simp only [List.length_append, List.length_singleton, List.length_nil] at h; omega⟩) (by first | omega | (dsimp only; omega)) (Ent.cons rfl (Ent.nil _)) (Ent.cons (t := 0) rfl (Ent.cons (t := 1) rfl (Ent.cons (t := 4) rfl (Ent.cons (t := 5) rfl (Ent.nil _))))) (Sub.keep 6 rfl (Sub.k (Sub.keep 4 rfl (Sub.keep 5 rfl (Sub.keep 5 rfl (Sub.drop (Sub.drop (Sub.drop (Sub.drop (Sub.drop (Sub.refl _))))))))))))))))))))⟩
   ·exact V.skip (X.blockNormal (X.next (V.region (O.m rfl (O.q rfl (Pu.sub64 rfl (by omega) rfl rfl rfl) (O.m rfl (O.nil (X.back3 ((k - (1 : Int)), xsA, xsc, xs) (by (try dsimp only); exact ⟨hg, by omega⟩) (by first | omega | (dsimp only; omega)) (Ent.cons rfl (Ent.nil _)) (Ent.cons (t := 0) rfl (Ent.cons (t := 1) rfl (Ent.cons (t := 4) rfl (Ent.cons (t := 5) rfl (Ent.nil _))))) (Sub.keep 3 rfl (Sub.keep 3 rfl (Sub.keep 2 rfl (Sub.keep 2 rfl (Sub.keep 2 rfl (Sub.drop (Sub.drop (Sub.refl _))))))))))))))))
  ·refine ⟨_, _, rfl, rfl, fun _ _ => wanted_none rfl _, Ef.alloc rfl zr69 rfl, rfl, rfl, ?_⟩
   rintro _ _ ⟨b3, rfl, rfl⟩ hs
   refine ⟨fun w hw => hw.sub (Sub.keep 1 rfl (Sub.keep 1 rfl (Sub.keep 1 rfl (Sub.keep 1 rfl (Sub.keep 1 rfl (Sub.keep 1 rfl (Sub.drop (Sub.refl _)))))))), (D.f hwf 9 rfl (Ef.callP call112 rfl rfl (fun w hw => l01BlockD_ok  (r3[0]'e1) (r3[1]'e2) (r3[2]'e3) w   (by first | assumption | omega | (try dsimp only at *; omega)) (by first | assumption | omega | (try dsimp only at *; omega)) (by first | assumption | omega | (try dsimp only at *; omega)))) ?_)⟩
   rintro _ _ ⟨rfl, rfl⟩ hs
   refine ⟨fun w hw => hw.sub (Sub.keep 1 rfl (Sub.keep 1 rfl (Sub.keep 1 rfl (Sub.keep 1 rfl (Sub.keep 1 rfl (Sub.keep 1 rfl (Sub.drop (Sub.refl _)))))))), (D.f hwf 11 rfl (Ef.storeAll 0 rfl sz69 rfl rfl rfl rfl (by simp [Value.oneCell']) rfl) ?_)⟩
   rintro _ _ rfl hs
   refine ⟨fun w hw => hw.sub (Sub.keep 1 rfl (Sub.keep 1 rfl (Sub.keep 1 rfl (Sub.keep 1 rfl (Sub.keep 1 rfl (Sub.keep 1 rfl (Sub.drop (Sub.refl _)))))))), (D.done hwf rfl (X.next (V.seq (V.region (O.q rfl (Pu.loadAgg rfl ag26 sz26 rfl rfl (Ld.whole 3 rfl)) (O.q rfl (Pu.loadAgg' (v := B3.v (bk3 (r3[0]'e1) (r3[1]'e2) (r3[2]'e3))) rfl rfl ag69 sz69 rfl rfl (Ld.whole 0 rfl)) (O.f rfl (Ef.callP call160 rfl rfl (fun w hw => l01Free_ok  v_ xs (bk3 (r3[0]'e1) (r3[1]'e2) (r3[2]'e3)) _ _ w ((Ld.own 4 (by exact rfl)) w hw) (by first | omega | (simp only [tops_len, conts_len, bl, List.length_append, List.length_cons, List.length_nil] at *; omega)) )) ?_)))))))⟩
   rintro _ _ ⟨rfl, rfl⟩
   refine O.nil (X.next (V.condD rfl (fun c2 => ?_) (fun c2 => ?_)))
   ·refine V.draw mo (by kernel_rfl) (fun hwf => D.m 0 rfl (D.q 2 rfl (Pu.fieldAddr 1 rfl Tryz.underlying26 rfl sz24 rfl rfl) (D.q 3 rfl (Pu.load rfl pl24 rfl (Ld.blk 3 rfl rfl)) (D.q 5 rfl (Pu.loadAgg' (v := B3.v (bk3 (r3[0]'e1) (r3[1]'e2) (r3[2]'e3))) rfl rfl ag69 sz69 rfl rfl (Ld.whole 0 rfl)) (D.either hwf (e1 := 1) (e2 := 6) rfl ?_ ?_)))))
    ·refine ⟨_, _, rfl, rfl, fun _ _ => wanted_none rfl _, Ef.build B3C ([] : List B3) rfl Tryz.underlying24 inf69 rfl rfl rfl (by first | decide | (simp; done)) (by kernel_rfl), rfl, rfl, ?_⟩
     rintro _ _ ⟨A3, hA3, rfl, rfl⟩ hs
     refine ⟨fun w hw => hw.sub (Sub.keep 1 rfl (Sub.keep 1 rfl (Sub.keep 1 rfl (Sub.keep 1 rfl (Sub.keep 1 rfl (Sub.keep 1 rfl (Sub.keep 1 rfl (Sub.drop (Sub.refl _))))))))), (D.either hwf (e1 := 4) (e2 := 6) rfl ?_ ?_)⟩
     ·refine ⟨_, _, rfl, rfl, fun _ _ => wanted_none rfl _, Ef.appendN (xs := ([] : List B3)) (ys := xs) 0 rfl Tryz.underlying24 inf69 rfl rfl rfl rfl rfl rfl (fun w hw h => Own.nilc hw (i := 5) (by exact rfl) h) (Ld.own 5 (by exact rfl)) (by simp only [List.length_append, List.length_cons, List.length_nil] at *; omega) (by decide), rfl, rfl, ?_⟩
      rintro _ _ ⟨A4, k1, rfl, rfl, hA4⟩ hs
      replace hA4 := hA4 (.inl hA3)
      refine ⟨fun w hw => hw.sub (Sub.keep 1 rfl (Sub.keep 1 rfl (Sub.keep 1 rfl (Sub.keep 1 rfl (Sub.keep 1 rfl (Sub.keep 1 rfl (Sub.keep 1 rfl (Sub.drop (Sub.refl _))))))))), (D.f hwf 6 rfl (Ef.build B3C ([(bk3 (r3[0]'e1) (r3[1]'e2) (r3[2]'e3))] : List B3) rfl Tryz.underlying24 inf69 rfl rfl rfl (by first | decide | (simp; done)) (by kernel_rfl)) ?_)⟩
      rintro _ _ ⟨A5, hA5, rfl, rfl⟩ hs
      refine ⟨fun w hw => hw.sub (Sub.keep 2 rfl (Sub.keep 2 rfl (Sub.keep 2 rfl (Sub.keep 2 rfl (Sub.keep 2 rfl (Sub.keep 2 rfl (Sub.keep 2 rfl (Sub.drop (Sub.drop (Sub.refl _)))))))))), (D.f hwf 7 rfl (Ef.append (xs := (([] : List B3) ++ xs)) (ys := ([(bk3 (r3[0]'e1) (r3[1]'e2) (r3[2]'e3))] : List B3)) 1 rfl Tryz.underlying24 inf69 rfl rfl rfl rfl rfl rfl hA5 (Ld.own 0 (by exact rfl)) (by simp only [List.length_append, List.length_cons, List.length_nil] at *; omega) (by decide)) ?_)⟩
      rintro _ _ ⟨A6, k2, rfl, rfl, hA6⟩ hs
      replace hA6 := hA6 (.inr (by simp))
      refine ⟨fun w hw => hw.sub (Sub.keep 2 rfl (Sub.keep 2 rfl (Sub.keep 2 rfl (Sub.keep 2 rfl (Sub.keep 2 rfl (Sub.keep 2 rfl (Sub.keep 2 rfl (Sub.drop (Sub.drop (Sub.refl _)))))))))), (D.f hwf 8 rfl (Ef.call1 call45 rfl rfl (fun w hw => l01Made_ok  v_ ((([] : List B3) ++ xs) ++ ([(bk3 (r3[0]'e1) (r3[1]'e2) (r3[2]'e3))] : List B3)) _ _ w ((Ld.own 1 (by exact rfl)) w hw) (by first | omega | (simp only [List.length_append, List.length_cons, List.length_nil, List.length_take, List.length_drop]; omega)) (by first | omega | (simp only [List.length_append, List.length_cons, List.length_nil, List.length_take, List.length_drop]; omega)))) ?_)⟩
      rintro _ _ rfl hs
      refine ⟨fun w hw => hs w hw.tail, (D.exi (fun r4A => D.exi (fun r4c => D.exi (fun r4 => D.sep (D.pur1 ?_)))))⟩
      rintro ⟨rfl, hr4_1, hr4_2⟩
      refine D.effX (Hs' := []) hwf (e := 9) rfl rfl rfl rfl (Ef.storeAll 6 rfl sz26 rfl rfl rfl rfl (by simp [Value.oneCell']) rfl) rfl [] rfl (List.forall_mem_nil _) ?_
      rintro _ _ rfl
      exact ⟨fun w hw => hw.sub (Sub.nil _), (D.done hwf rfl (X.blockNormal (X.next (V.region (O.m rfl (O.q rfl (Pu.sub64 rfl (by omega) rfl rfl rfl) (O.m rfl (O.nil (X.back3 ((k - (1 : Int)), r4A, r4c, r4) (by (try dsimp only); exact ⟨fun d hd => good_snoc hg hgb d (hr4_1.mem_iff.1 hd), by have h := hr4_1.length_eq; simp only [List.length_append, List.length_singleton, List.length_nil] at h; omega⟩) (by first | omega | (dsimp only; omega)) (Ent.cons rfl (Ent.nil _)) (Ent.cons (t := 0) rfl (Ent.cons (t := 1) rfl (Ent.cons (t := 4) rfl (Ent.cons (t := 5) rfl (Ent.nil _))))) (Sub.keep 6 rfl (Sub.k (Sub.keep 4 rfl (Sub.keep 5 rfl (Sub.keep 5 rfl (Sub.drop (Sub.drop (Sub.drop (Sub.drop (Sub.drop (Sub.refl _))))))))))))))))))))⟩
     ·refine ⟨_, _, rfl, rfl, fun _ _ => wanted_none rfl _, Ef.build B3C ([(bk3 (r3[0]'e1) (r3[1]'e2) (r3[2]'e3))] : List B3) rfl Tryz.underlying24 inf69 rfl rfl rfl (by first | decide | (simp; done)) (by kernel_rfl), rfl, rfl, ?_⟩
      rintro _ _ ⟨A4, hA4, rfl, rfl⟩ hs
      refine ⟨fun w hw => hw.sub (Sub.keep 2 rfl (Sub.keep 2 rfl (Sub.keep 2 rfl (Sub.keep 2 rfl (Sub.keep 2 rfl (Sub.keep 2 rfl (Sub.keep 2 rfl (Sub.drop (Sub.drop (Sub.refl _)))))))))), (D.f hwf 4 rfl (Ef.appendN (xs := ([] : List B3)) (ys := xs) 1 rfl Tryz.underlying24 inf69 rfl rfl rfl rfl rfl rfl (fun w hw h => Own.nilc hw (i := 6) (by exact rfl) h) (Ld.own 6 (by exact rfl)) (by simp only [List.length_append, List.length_cons, List.length_nil] at *; omega) (by decide)) ?_)⟩
      rintro _ _ ⟨A5, k1, rfl, rfl, hA5⟩ hs
      replace hA5 := hA5 (.inl hA3)
      refine ⟨fun w hw => hw.sub (Sub.keep 2 rfl (Sub.keep 2 rfl (Sub.keep 2 rfl (Sub.keep 2 rfl (Sub.keep 2 rfl (Sub.keep 2 rfl (Sub.keep 2 rfl (Sub.drop (Sub.drop (Sub.refl _)))))))))), (D.f hwf 7 rfl (Ef.append (xs := (([] : List B3) ++ xs)) (ys := ([(bk3 (r3[0]'e1) (r3[1]'e2) (r3[2]'e3))] : List B3)) 1 rfl Tryz.underlying24 inf69 rfl rfl rfl rfl rfl rfl hA4 (Ld.own 0 (by exact rfl)) (by simp only [List.length_append, List.length_cons, List.length_nil] at *; omega) (by decide)) ?_)⟩
      rintro _ _ ⟨A6, k2, rfl, rfl, hA6⟩ hs
      replace hA6 := hA6 (.inr (by simp))
      refine ⟨fun w hw => hw.sub (Sub.keep 2 rfl (Sub.keep 2 rfl (Sub.keep 2 rfl (Sub.keep 2 rfl (Sub.keep 2 rfl (Sub.keep 2 rfl (Sub.keep 2 rfl (Sub.drop (Sub.drop (Sub.refl _)))))))))), (D.f hwf 8 rfl (Ef.call1 call45 rfl rfl (fun w hw => l01Made_ok  v_ ((([] : List B3) ++ xs) ++ ([(bk3 (r3[0]'e1) (r3[1]'e2) (r3[2]'e3))] : List B3)) _ _ w ((Ld.own 1 (by exact rfl)) w hw) (by first | omega | (simp only [List.length_append, List.length_cons, List.length_nil, List.length_take, List.length_drop]; omega)) (by first | omega | (simp only [List.length_append, List.length_cons, List.length_nil, List.length_take, List.length_drop]; omega)))) ?_)⟩
      rintro _ _ rfl hs
      refine ⟨fun w hw => hs w hw.tail, (D.exi (fun r4A => D.exi (fun r4c => D.exi (fun r4 => D.sep (D.pur1 ?_)))))⟩
      rintro ⟨rfl, hr4_1, hr4_2⟩
      refine D.effX (Hs' := []) hwf (e := 9) rfl rfl rfl rfl (Ef.storeAll 6 rfl sz26 rfl rfl rfl rfl (by simp [Value.oneCell']) rfl) rfl [] rfl (List.forall_mem_nil _) ?_
      rintro _ _ rfl
      exact ⟨fun w hw => hw.sub (Sub.nil _), (D.done hwf rfl (X.blockNormal (X.next (V.region (O.m rfl (O.q rfl (Pu.sub64 rfl (by omega) rfl rfl rfl) (O.m rfl (O.nil (X.back3 ((k - (1 : Int)), r4A, r4c, r4) (by (try dsimp only); exact ⟨fun d hd => good_snoc hg hgb d (hr4_1.mem_iff.1 hd), by have h := hr4_1.length_eq; simp only [List.length_append, List.length_singleton, List.length_nil] at h; omega⟩) (by first | omega | (dsimp only; omega)) (Ent.cons rfl (Ent.nil _)) (Ent.cons (t := 0) rfl (Ent.cons (t := 1) rfl (Ent.cons (t := 4) rfl (Ent.cons (t := 5) rfl (Ent.nil _))))) (Sub.keep 6 rfl (Sub.k (Sub.keep 4 rfl (Sub.keep 5 rfl (Sub.keep 5 rfl (Sub.drop (Sub.drop (Sub.drop (Sub.drop (Sub.drop (Sub.refl _))))))))))))))))))))⟩
    ·refine ⟨_, _, rfl, rfl, fun _ _ => wanted_none rfl _, Ef.build B3C ([(bk3 (r3[0]'e1) (r3[1]'e2) (r3[2]'e3))] : List B3) rfl Tryz.underlying24 inf69 rfl rfl rfl (by first | decide | (simp; done)) (by kernel_rfl), rfl, rfl, ?_⟩
     rintro _ _ ⟨A3, hA3, rfl, rfl⟩ hs
     refine ⟨fun w hw => hw.sub (Sub.keep 1 rfl (Sub.keep 1 rfl (Sub.keep 1 rfl (Sub.keep 1 rfl (Sub.keep 1 rfl (Sub.keep 1 rfl (Sub.keep 1 rfl (Sub.drop (Sub.refl _))))))))), (D.f hwf 1 rfl (Ef.build B3C ([] : List B3) rfl Tryz.underlying24 inf69 rfl rfl rfl (by first | decide | (simp; done)) (by kernel_rfl)) ?_)⟩
     rintro _ _ ⟨A4, hA4, rfl, rfl⟩ hs
     refine ⟨fun w hw => hw.sub (Sub.keep 2 rfl (Sub.keep 2 rfl (Sub.keep 2 rfl (Sub.keep 2 rfl (Sub.keep 2 rfl (Sub.keep 2 rfl (Sub.keep 2 rfl (Sub.drop (Sub.drop (Sub.refl _)))))))))), (D.f hwf 4 rfl (Ef.appendN (xs := ([] : List B3)) (ys := xs) 0 rfl Tryz.underlying24 inf69 rfl rfl rfl rfl rfl rfl (fun w hw h => Own.nilc hw (i := 6) (by exact rfl) h) (Ld.own 6 (by exact rfl)) (by simp only [List.length_append, List.length_cons, List.length_nil] at *; omega) (by decide)) ?_)⟩
     rintro _ _ ⟨A5, k1, rfl, rfl, hA5⟩ hs
     replace hA5 := hA5 (.inl hA4)
     refine ⟨fun w hw => hw.sub (Sub.keep 2 rfl (Sub.keep 2 rfl (Sub.keep 2 rfl (Sub.keep 2 rfl (Sub.keep 2 rfl (Sub.keep 2 rfl (Sub.keep 2 rfl (Sub.drop (Sub.drop (Sub.refl _)))))))))), (D.f hwf 7 rfl (Ef.append (xs := (([] : List B3) ++ xs)) (ys := ([(bk3 (r3[0]'e1) (r3[1]'e2) (r3[2]'e3))] : List B3)) 0 rfl Tryz.underlying24 inf69 rfl rfl rfl rfl rfl rfl hA3 (Ld.own 1 (by exact rfl)) (by simp only [List.length_append, List.length_cons, List.length_nil] at *; omega) (by decide)) ?_)⟩
     rintro _ _ ⟨A6, k2, rfl, rfl, hA6⟩ hs
     replace hA6 := hA6 (.inr (by simp))
     refine ⟨fun w hw => hw.sub (Sub.keep 2 rfl (Sub.keep 2 rfl (Sub.keep 2 rfl (Sub.keep 2 rfl (Sub.keep 2 rfl (Sub.keep 2 rfl (Sub.keep 2 rfl (Sub.drop (Sub.drop (Sub.refl _)))))))))), (D.f hwf 8 rfl (Ef.call1 call45 rfl rfl (fun w hw => l01Made_ok  v_ ((([] : List B3) ++ xs) ++ ([(bk3 (r3[0]'e1) (r3[1]'e2) (r3[2]'e3))] : List B3)) _ _ w ((Ld.own 0 (by exact rfl)) w hw) (by first | omega | (simp only [List.length_append, List.length_cons, List.length_nil, List.length_take, List.length_drop]; omega)) (by first | omega | (simp only [List.length_append, List.length_cons, List.length_nil, List.length_take, List.length_drop]; omega)))) ?_)⟩
     rintro _ _ rfl hs
     refine ⟨fun w hw => hs w hw.tail, (D.exi (fun r4A => D.exi (fun r4c => D.exi (fun r4 => D.sep (D.pur1 ?_)))))⟩
     rintro ⟨rfl, hr4_1, hr4_2⟩
     refine D.effX (Hs' := []) hwf (e := 9) rfl rfl rfl rfl (Ef.storeAll 6 rfl sz26 rfl rfl rfl rfl (by simp [Value.oneCell']) rfl) rfl [] rfl (List.forall_mem_nil _) ?_
     rintro _ _ rfl
     exact ⟨fun w hw => hw.sub (Sub.nil _), (D.done hwf rfl (X.blockNormal (X.next (V.region (O.m rfl (O.q rfl (Pu.sub64 rfl (by omega) rfl rfl rfl) (O.m rfl (O.nil (X.back3 ((k - (1 : Int)), r4A, r4c, r4) (by (try dsimp only); exact ⟨fun d hd => good_snoc hg hgb d (hr4_1.mem_iff.1 hd), by have h := hr4_1.length_eq; simp only [List.length_append, List.length_singleton, List.length_nil] at h; omega⟩) (by first | omega | (dsimp only; omega)) (Ent.cons rfl (Ent.nil _)) (Ent.cons (t := 0) rfl (Ent.cons (t := 1) rfl (Ent.cons (t := 4) rfl (Ent.cons (t := 5) rfl (Ent.nil _))))) (Sub.keep 6 rfl (Sub.k (Sub.keep 4 rfl (Sub.keep 5 rfl (Sub.keep 5 rfl (Sub.drop (Sub.drop (Sub.drop (Sub.drop (Sub.drop (Sub.refl _))))))))))))))))))))⟩
   ·exact V.skip (X.blockNormal (X.next (V.region (O.m rfl (O.q rfl (Pu.sub64 rfl (by omega) rfl rfl rfl) (O.m rfl (O.nil (X.back3 ((k - (1 : Int)), xsA, xsc, xs) (by (try dsimp only); exact ⟨hg, by omega⟩) (by first | omega | (dsimp only; omega)) (Ent.cons rfl (Ent.nil _)) (Ent.cons (t := 0) rfl (Ent.cons (t := 1) rfl (Ent.cons (t := 4) rfl (Ent.cons (t := 5) rfl (Ent.nil _))))) (Sub.keep 3 rfl (Sub.keep 3 rfl (Sub.keep 2 rfl (Sub.keep 2 rfl (Sub.keep 2 rfl (Sub.drop (Sub.drop (Sub.refl _))))))))))))))))
 ·refine V.exit (X.thenExit (X.thenExit (X.blockHit (X.next (V.seq (V.region (O.q rfl (Pu.loadAgg rfl ag26 sz26 rfl rfl (Ld.whole 0 rfl)) (O.s rfl rfl (Ef.storeAll 4 rfl sz26 rfl rfl rfl rfl (by simp [Value.oneCell']) rfl) ?_))))))))
  rintro _ _ rfl
  exact O.nil (X.next (V.ret (X.retCell rfl ag26 sz26 rfl rfl (Ld.whole 4 rfl) (fun w hw => St.mkExi xsA (St.mkExi xsc (St.mkExi xs (St.unsep (St.addPur ⟨rfl, ⟨hv, hg, by omega⟩⟩ (St.unsep (hw.sub (Sub.keep 1 rfl (Sub.keep 1 rfl (Sub.drop (Sub.drop (Sub.drop (Sub.refl _))))))))))))))))
set_option maxRecDepth 100000 in
set_option maxHeartbeats 1000000 in
theorem l01Switched_ok (cA : Option Addr) (cc : Nat) (code : List UInt8) (n : Nat) (s : Nat) (v : Int) (bs : List B3) (A : Option Addr) (c : Nat) (w0 : World) (H : List Assn) (hc : Rd U8C w0 cA code) (lc : code.length ≤ 1048576) (hD : DrS n v bs) (hn : n ≤ 5000) : Does Tryz.prog 129 [.pointer (some ⟨s, 0, none⟩), .agg #[.int .i64 v, .slice A bs.length c]] w0 (SrcK 118 cA cc code s :: Own 69 B3C A c bs :: H) (fun rv_ => [.exi fun (rA : Option Addr) => .exi fun (rc : Nat) => .exi fun (r : List B3) => .sep (.pur (rv_ = .agg #[.int .i64 v, .slice rA r.length rc] ∧ DrS (n + 4) v r)) (.sep (Own 69 B3C rA rc r) (SrcK 118 cA cc code s))] ++ H) := by
 refine Does.enter Tryz.func129 rfl rfl [(0, .pointer (some ⟨s, 0, none⟩)), (1, .agg #[.int .i64 v, .slice A bs.length c])] rfl ?_
 have hv := hD.1
 have hg := hD.2.1
 have hl := hD.2.2
 have hg15 := hD.g15
 refine V.seq (V.region (O.f rfl (Ef.box rfl rfl rfl) ?_))
 rintro _ _ ⟨b1, rfl, rfl⟩
 refine O.f rfl (Ef.alloc rfl zr26 rfl) ?_
 rintro _ _ ⟨b2, rfl, rfl⟩
 refine O.nil (X.next (V.seq (V.region (O.m rfl (O.q rfl (Pu.fieldAddr 0 rfl Tryz.underlying26 rfl sz2 rfl rfl) (O.q rfl (Pu.load rfl pl2 rfl (Ld.blk 1 rfl rfl)) (O.f rfl (Ef.call call76 rfl rfl (Does.pre (fun w hw => hw.sub (Sub.keep 2 rfl (Sub.k (Sub.k (Sub.k (Sub.refl _)))))) (l01DrawOrder_ok _ _ _ s v w0 _   (by first | assumption | omega | (try dsimp only at *; omega)) (by first | assumption | omega | (try dsimp only at *; omega)) (by omega)))) ?_)))))))
 rintro _ _ rfl
 refine O.exi (fun r1A => O.exi (fun r1c => O.exi (fun r1 => O.sep (O.pur ?_))))
 rintro ⟨rfl, hr1_1⟩
 refine O.sep ?_
 have hol := hr1_1.1
 refine O.m rfl (O.nil (X.next (V.seq (V.draw mo (by kernel_rfl) (fun hwf => D.m 0 rfl (D.q 1 rfl (Pu.indexAddrS (0) rfl Tryz.underlying41 sz2 rfl rfl (by omega) (by omega) (fun w hw => Own.some hw (i := 0) (by exact rfl) (by omega))) ?_))))))
 have e1 : 0 < r1.length := by omega
 refine D.q 2 rfl (Pu.load rfl pl2 rfl (Ld.rd (Ld.own 0 (by exact rfl)) (k := 0) e1 rfl rfl)) (D.m 3 rfl (D.q 4 rfl (Pu.indexAddrS (1) rfl Tryz.underlying41 sz2 rfl rfl (by omega) (by omega) (fun w hw => Own.some hw (i := 0) (by exact rfl) (by omega))) ?_))
 have e2 : 1 < r1.length := by omega
 refine D.q 5 rfl (Pu.load rfl pl2 rfl (Ld.rd (Ld.own 0 (by exact rfl)) (k := 1) e2 rfl rfl)) (D.m 6 rfl (D.m 7 rfl (D.done hwf rfl (X.next (V.seq (V.seq (V.region (O.m rfl (O.nil (X.next (V.block ?_)))))))))))
 refine V.loop3 (β := Nat) (fun i => [(8, .int .i64 (i : Int))]) _ (fun i => []) _ (fun i => 2 ≤ i ∧ i ≤ r1.length) (fun i => r1.length - i) 2 ⟨by omega, by omega⟩ (Ent.cons rfl (Ent.nil _)) (Ent.cons (t := 3) rfl (Ent.cons (t := 4) rfl (Ent.cons (t := 5) rfl (Ent.cons (t := 6) rfl (Ent.cons (t := 7) rfl (Ent.nil _)))))) (Sub.k (Sub.k (Sub.k (Sub.k (Sub.k (Sub.refl _)))))) ?_
 rintro i ⟨hi2, hi⟩
 refine V.seq (V.seq (V.region (O.m rfl (O.m rfl (O.q rfl (Pu.len rfl Tryz.underlying41 rfl) (O.q rfl (Pu.lss rfl rfl rfl) (O.nil (X.next (V.condD rfl (fun c1 => ?_) (fun c1 => ?_))))))))))
 ·refine V.skip (X.next (V.seq (V.block (V.seq (V.region (O.m rfl (O.m rfl (O.q rfl (Pu.indexAddrS (i) rfl Tryz.underlying41 sz2 rfl rfl (by omega) (by omega) (fun w hw => Own.some hw (i := 0) (by exact rfl) (by omega))) ?_))))))))
  have e3 : i < r1.length := by omega
  refine O.q rfl (Pu.load rfl pl2 rfl (Ld.rd (Ld.own 0 (by exact rfl)) (k := i) e3 rfl rfl)) (O.m rfl (O.nil (X.next (V.seq ?_))))
  have g0 := ord_at hr1_1 (i := 0) (by omega)
  have g1 := ord_at hr1_1 (i := 1) (by omega)
  have gi := ord_at hr1_1 (i := i) (by omega)
  have n01 := ord_ne hr1_1 (i := 0) (j := 1) (by omega) (by omega) (by decide)
  have n0i := ord_ne hr1_1 (i := 0) (j := i) (by omega) (by omega) (by omega)
  have n1i := ord_ne hr1_1 (i := 1) (j := i) (by omega) (by omega) (by omega)
  refine V.region (O.q rfl (Pu.loadAgg rfl ag26 sz26 rfl rfl (Ld.whole 3 rfl)) (O.m rfl (O.m rfl (O.f rfl (Ef.callP call154 rfl rfl (fun w hw => l01Third_ok  v bs (r1[0]'e1) (r1[i]'e3) _ _ w ((Ld.own 4 (by exact rfl)) w hw) (by first | omega | (simp only [tops_len, conts_len, bl, List.length_append, List.length_cons, List.length_nil] at *; omega)) hg15 (by omega) (by omega))) ?_))))
  rintro _ _ ⟨rfl, rfl⟩
  refine O.m rfl (O.nil (X.next (V.seq (V.region (O.q rfl (Pu.loadAgg rfl ag26 sz26 rfl rfl (Ld.whole 3 rfl)) (O.m rfl (O.m rfl (O.f rfl (Ef.callP call154 rfl rfl (fun w hw => l01Third_ok  v bs (r1[1]'e2) (r1[i]'e3) _ _ w ((Ld.own 4 (by exact rfl)) w hw) (by first | omega | (simp only [tops_len, conts_len, bl, List.length_append, List.length_cons, List.length_nil] at *; omega)) hg15 (by omega) (by omega))) ?_))))))))
  rintro _ _ ⟨rfl, rfl⟩
  refine O.m rfl (O.nil (X.next (V.seq (V.seq (V.region (O.m rfl (O.q rfl (Pu.lss rfl rfl rfl) (O.m rfl (O.splitD 46 rfl (fun c2 => ?_) (fun c2 => ?_))))))))))
  ·refine O.g rfl (O.g rfl (O.m rfl (O.m rfl (O.g rfl (O.g rfl (O.g rfl (O.m rfl (O.m rfl (O.g rfl (O.g rfl (O.g rfl ?_)))))))))))
   refine O.m rfl (O.nil (X.next (V.condT rfl (V.exit (X.thenExit (X.blockHit (X.next (V.region (O.m rfl (O.q rfl (Pu.add64 (r := ((i + 1 : Nat) : Int)) rfl (by omega) rfl rfl rfl) (O.m rfl ?_)))))))))))
   exact O.nil (X.back3 (i + 1) ⟨by omega, by omega⟩ (by first | omega | (dsimp only; omega)) (Ent.cons rfl (Ent.nil _)) (Ent.cons (t := 3) rfl (Ent.cons (t := 4) rfl (Ent.cons (t := 5) rfl (Ent.cons (t := 6) rfl (Ent.cons (t := 7) rfl (Ent.nil _)))))) (Sub.k (Sub.k (Sub.k (Sub.k (Sub.k (Sub.refl _)))))))
  ·refine O.gm rfl (O.gq rfl (Pu.lss rfl rfl rfl) (O.m rfl (O.m rfl (O.splitD 50 rfl (fun c3 => ?_) (fun c3 => ?_)))))
   ·refine O.g rfl (O.g rfl (O.g rfl (O.m rfl (O.m rfl (O.g rfl (O.g rfl (O.g rfl (O.m rfl (O.nil (X.next (V.condT rfl ?_)))))))))))
    exact V.exit (X.thenExit (X.blockHit (X.next (V.region (O.m rfl (O.q rfl (Pu.add64 (r := ((i + 1 : Nat) : Int)) rfl (by omega) rfl rfl rfl) (O.m rfl (O.nil (X.back3 (i + 1) ⟨by omega, by omega⟩ (by first | omega | (dsimp only; omega)) (Ent.cons rfl (Ent.nil _)) (Ent.cons (t := 3) rfl (Ent.cons (t := 4) rfl (Ent.cons (t := 5) rfl (Ent.cons (t := 6) rfl (Ent.cons (t := 7) rfl (Ent.nil _)))))) (Sub.k (Sub.k (Sub.k (Sub.k (Sub.k (Sub.refl _)))))))))))))))
   ·refine O.gm rfl (O.gm rfl (O.gq rfl (Pu.eql rfl rfl rfl) (O.m rfl (O.m rfl (O.splitD 55 rfl (fun c4 => ?_) (fun c4 => ?_))))))
    ·refine O.g rfl (O.g rfl (O.g rfl (O.m rfl (O.nil (X.next (V.condT rfl (V.exit (X.thenExit (X.blockHit (X.next (V.region ?_)))))))))))
     exact O.m rfl (O.q rfl (Pu.add64 (r := ((i + 1 : Nat) : Int)) rfl (by omega) rfl rfl rfl) (O.m rfl (O.nil (X.back3 (i + 1) ⟨by omega, by omega⟩ (by first | omega | (dsimp only; omega)) (Ent.cons rfl (Ent.nil _)) (Ent.cons (t := 3) rfl (Ent.cons (t := 4) rfl (Ent.cons (t := 5) rfl (Ent.cons (t := 6) rfl (Ent.cons (t := 7) rfl (Ent.nil _)))))) (Sub.k (Sub.k (Sub.k (Sub.k (Sub.k (Sub.refl _))))))))))
    ·refine O.gm rfl (O.gm rfl (O.gq rfl (Pu.eql rfl rfl rfl) (O.m rfl (O.nil (X.next (V.condD rfl (fun c5 => ?_) (fun c5 => ?_)))))))
     ·exact V.exit (X.thenExit (X.blockHit (X.next (V.region (O.m rfl (O.q rfl (Pu.add64 (r := ((i + 1 : Nat) : Int)) rfl (by omega) rfl rfl rfl) (O.m rfl (O.nil (X.back3 (i + 1) ⟨by omega, by omega⟩ (by first | omega | (dsimp only; omega)) (Ent.cons rfl (Ent.nil _)) (Ent.cons (t := 3) rfl (Ent.cons (t := 4) rfl (Ent.cons (t := 5) rfl (Ent.cons (t := 6) rfl (Ent.cons (t := 7) rfl (Ent.nil _)))))) (Sub.k (Sub.k (Sub.k (Sub.k (Sub.k (Sub.refl _)))))))))))))))
     ·refine V.skip (X.next (V.seq ?_))
      have te : (0 ≤ (third bs (r1[0]'e1) (r1[i]'e3)) ∧ (third bs (r1[0]'e1) (r1[i]'e3)) < v) ∧ (third bs (r1[0]'e1) (r1[i]'e3)) ≠ (r1[0]'e1) ∧ (third bs (r1[0]'e1) (r1[i]'e3)) ≠ (r1[i]'e3) := third_good hg n0i (by omega)
      have tf : (0 ≤ (third bs (r1[1]'e2) (r1[i]'e3)) ∧ (third bs (r1[1]'e2) (r1[i]'e3)) < v) ∧ (third bs (r1[1]'e2) (r1[i]'e3)) ≠ (r1[1]'e2) ∧ (third bs (r1[1]'e2) (r1[i]'e3)) ≠ (r1[i]'e3) := third_good hg n1i (by omega)
      refine V.region (O.q rfl (Pu.loadAgg rfl ag26 sz26 rfl rfl (Ld.whole 3 rfl)) (O.m rfl (O.m rfl (O.f rfl (Ef.callP call154 rfl rfl (fun w hw => l01Third_ok  v bs (r1[0]'e1) (third bs (r1[1]'e2) (r1[i]'e3)) _ _ w ((Ld.own 4 (by exact rfl)) w hw) (by first | omega | (simp only [tops_len, conts_len, bl, List.length_append, List.length_cons, List.length_nil] at *; omega)) hg15 (by omega) (by omega))) ?_))))
      rintro _ _ ⟨rfl, rfl⟩
      refine O.m rfl (O.nil (X.next (V.seq (V.seq (V.region (O.m rfl (O.q rfl (Pu.lss rfl rfl rfl) (O.m rfl (O.splitD 66 rfl (fun c6 => ?_) (fun c6 => ?_))))))))))
      ·refine O.g rfl (O.g rfl (O.g rfl (O.m rfl (O.m rfl (O.g rfl (O.g rfl (O.g rfl (O.g rfl (O.g rfl (O.g rfl (O.m rfl ?_)))))))))))
       exact O.nil (X.next (V.condT rfl (V.exit (X.thenExit (X.blockHit (X.next (V.region (O.m rfl (O.q rfl (Pu.add64 (r := ((i + 1 : Nat) : Int)) rfl (by omega) rfl rfl rfl) (O.m rfl (O.nil (X.back3 (i + 1) ⟨by omega, by omega⟩ (by first | omega | (dsimp only; omega)) (Ent.cons rfl (Ent.nil _)) (Ent.cons (t := 3) rfl (Ent.cons (t := 4) rfl (Ent.cons (t := 5) rfl (Ent.cons (t := 6) rfl (Ent.cons (t := 7) rfl (Ent.nil _)))))) (Sub.k (Sub.k (Sub.k (Sub.k (Sub.k (Sub.refl _))))))))))))))))))
      ·refine O.gm rfl (O.gm rfl (O.gq rfl (Pu.eql rfl rfl rfl) (O.m rfl (O.m rfl (O.splitD 71 rfl (fun c7 => ?_) (fun c7 => ?_))))))
       ·refine O.g rfl (O.g rfl (O.g rfl (O.g rfl (O.g rfl (O.g rfl (O.m rfl (O.nil (X.next (V.condT rfl (V.exit (X.thenExit ?_)))))))))))
        exact X.blockHit (X.next (V.region (O.m rfl (O.q rfl (Pu.add64 (r := ((i + 1 : Nat) : Int)) rfl (by omega) rfl rfl rfl) (O.m rfl (O.nil (X.back3 (i + 1) ⟨by omega, by omega⟩ (by first | omega | (dsimp only; omega)) (Ent.cons rfl (Ent.nil _)) (Ent.cons (t := 3) rfl (Ent.cons (t := 4) rfl (Ent.cons (t := 5) rfl (Ent.cons (t := 6) rfl (Ent.cons (t := 7) rfl (Ent.nil _)))))) (Sub.k (Sub.k (Sub.k (Sub.k (Sub.k (Sub.refl _)))))))))))))
       ·refine O.gq rfl (Pu.loadAgg rfl ag26 sz26 rfl rfl (Ld.whole 3 rfl)) (O.gm rfl (O.gm rfl (O.gf rfl (Ef.callP call154 rfl rfl (fun w hw => l01Third_ok  v bs (r1[1]'e2) (third bs (r1[0]'e1) (r1[i]'e3)) _ _ w ((Ld.own 4 (by exact rfl)) w hw) (by first | omega | (simp only [tops_len, conts_len, bl, List.length_append, List.length_cons, List.length_nil] at *; omega)) hg15 (by omega) (by omega))) ?_)))
        rintro _ _ ⟨rfl, rfl⟩
        refine O.gm rfl (O.gq rfl (Pu.neq rfl rfl rfl) (O.m rfl (O.nil (X.next (V.condNot rfl (fun c8 => ?_) (fun c8 => ?_))))))
        ·exact V.exit (X.thenExit (X.blockHit (X.next (V.region (O.m rfl (O.q rfl (Pu.add64 (r := ((i + 1 : Nat) : Int)) rfl (by omega) rfl rfl rfl) (O.m rfl (O.nil (X.back3 (i + 1) ⟨by omega, by omega⟩ (by first | omega | (dsimp only; omega)) (Ent.cons rfl (Ent.nil _)) (Ent.cons (t := 3) rfl (Ent.cons (t := 4) rfl (Ent.cons (t := 5) rfl (Ent.cons (t := 6) rfl (Ent.cons (t := 7) rfl (Ent.nil _)))))) (Sub.k (Sub.k (Sub.k (Sub.k (Sub.k (Sub.refl _)))))))))))))))
        ·refine V.skip (X.next (V.seq ?_))
         have td : (0 ≤ (third bs (r1[0]'e1) (third bs (r1[1]'e2) (r1[i]'e3))) ∧ (third bs (r1[0]'e1) (third bs (r1[1]'e2) (r1[i]'e3))) < v) ∧ (third bs (r1[0]'e1) (third bs (r1[1]'e2) (r1[i]'e3))) ≠ (r1[0]'e1) ∧ (third bs (r1[0]'e1) (third bs (r1[1]'e2) (r1[i]'e3))) ≠ (third bs (r1[1]'e2) (r1[i]'e3)) := third_good hg (by omega) (by omega)
         have tg := third_good hg (a := (r1[1]'e2)) (b := (third bs (r1[0]'e1) (r1[i]'e3))) (by omega) (by omega)
         have q1 : good v (bk3 (r1[1]'e2) (r1[i]'e3) (third bs (r1[0]'e1) (r1[i]'e3))) := good_bk3 (by omega) (by omega) (by omega) (by omega) (by omega) (by omega)
         have q2 : good v (bk3 (r1[1]'e2) (third bs (r1[0]'e1) (third bs (r1[1]'e2) (r1[i]'e3))) (third bs (r1[1]'e2) (r1[i]'e3))) := good_bk3 (by omega) (by omega) (by omega) (by omega) (by omega) (by omega)
         have q3 : good v (bk3 (r1[0]'e1) (r1[i]'e3) (third bs (r1[1]'e2) (r1[i]'e3))) := good_bk3 (by omega) (by omega) (by omega) (by omega) (by omega) (by omega)
         have q4 : good v (bk3 (r1[0]'e1) (third bs (r1[0]'e1) (third bs (r1[1]'e2) (r1[i]'e3))) (third bs (r1[0]'e1) (r1[i]'e3))) := good_bk3 (by omega) (by omega) (by omega) (by omega) (by omega) (by omega)
         refine V.region (O.m rfl (O.m rfl (O.m rfl (O.f rfl (Ef.callP call112 rfl rfl (fun w hw => l01BlockD_ok  (r1[1]'e2) (r1[i]'e3) (third bs (r1[0]'e1) (r1[i]'e3)) w   (by first | assumption | omega | (try dsimp only at *; omega)) (by first | assumption | omega | (try dsimp only at *; omega)) (by first | assumption | omega | (try dsimp only at *; omega)))) ?_))))
         rintro _ _ ⟨rfl, rfl⟩
         refine O.m rfl (O.m rfl (O.m rfl (O.f rfl (Ef.callP call112 rfl rfl (fun w hw => l01BlockD_ok  (r1[1]'e2) (third bs (r1[0]'e1) (third bs (r1[1]'e2) (r1[i]'e3))) (third bs (r1[1]'e2) (r1[i]'e3)) w   (by first | assumption | omega | (try dsimp only at *; omega)) (by first | assumption | omega | (try dsimp only at *; omega)) (by first | assumption | omega | (try dsimp only at *; omega)))) ?_)))
         rintro _ _ ⟨rfl, rfl⟩
         refine O.m rfl (O.m rfl (O.m rfl (O.f rfl (Ef.callP call112 rfl rfl (fun w hw => l01BlockD_ok  (r1[0]'e1) (r1[i]'e3) (third bs (r1[1]'e2) (r1[i]'e3)) w   (by first | assumption | omega | (try dsimp only at *; omega)) (by first | assumption | omega | (try dsimp only at *; omega)) (by first | assumption | omega | (try dsimp only at *; omega)))) ?_)))
         rintro _ _ ⟨rfl, rfl⟩
         refine O.m rfl (O.m rfl (O.m rfl (O.f rfl (Ef.callP call112 rfl rfl (fun w hw => l01BlockD_ok  (r1[0]'e1) (third bs (r1[0]'e1) (third bs (r1[1]'e2) (r1[i]'e3))) (third bs (r1[0]'e1) (r1[i]'e3)) w   (by first | assumption | omega | (try dsimp only at *; omega)) (by first | assumption | omega | (try dsimp only at *; omega)) (by first | assumption | omega | (try dsimp only at *; omega)))) ?_)))
         rintro _ _ ⟨rfl, rfl⟩
         refine O.f rfl (Ef.build B3C ([(bk3 (r1[1]'e2) (r1[i]'e3) (third bs (r1[0]'e1) (r1[i]'e3))), (bk3 (r1[1]'e2) (third bs (r1[0]'e1) (third bs (r1[1]'e2) (r1[i]'e3))) (third bs (r1[1]'e2) (r1[i]'e3))), (bk3 (r1[0]'e1) (r1[i]'e3) (third bs (r1[1]'e2) (r1[i]'e3))), (bk3 (r1[0]'e1) (third bs (r1[0]'e1) (third bs (r1[1]'e2) (r1[i]'e3))) (third bs (r1[0]'e1) (r1[i]'e3)))] : List B3) rfl Tryz.underlying24 inf69 rfl rfl rfl (by first | decide | (simp; done)) (by kernel_rfl)) ?_
         rintro _ _ ⟨A1, hA1, rfl, rfl⟩
         refine O.m rfl (O.nil (X.next (V.seq (V.region (O.m rfl (O.m rfl (O.m rfl (O.f rfl (Ef.callP call112 rfl rfl (fun w hw => l01BlockD_ok  (r1[0]'e1) (r1[i]'e3) (third bs (r1[0]'e1) (r1[i]'e3)) w   (by first | assumption | omega | (try dsimp only at *; omega)) (by first | assumption | omega | (try dsimp only at *; omega)) (by first | assumption | omega | (try dsimp only at *; omega)))) ?_))))))))
         rintro _ _ ⟨rfl, rfl⟩
         refine O.m rfl (O.m rfl (O.m rfl (O.f rfl (Ef.callP call112 rfl rfl (fun w hw => l01BlockD_ok  (r1[0]'e1) (third bs (r1[0]'e1) (third bs (r1[1]'e2) (r1[i]'e3))) (third bs (r1[1]'e2) (r1[i]'e3)) w   (by first | assumption | omega | (try dsimp only at *; omega)) (by first | assumption | omega | (try dsimp only at *; omega)) (by first | assumption | omega | (try dsimp only at *; omega)))) ?_)))
         rintro _ _ ⟨rfl, rfl⟩
         refine O.m rfl (O.m rfl (O.m rfl (O.f rfl (Ef.callP call112 rfl rfl (fun w hw => l01BlockD_ok  (r1[1]'e2) (r1[i]'e3) (third bs (r1[1]'e2) (r1[i]'e3)) w   (by first | assumption | omega | (try dsimp only at *; omega)) (by first | assumption | omega | (try dsimp only at *; omega)) (by first | assumption | omega | (try dsimp only at *; omega)))) ?_)))
         rintro _ _ ⟨rfl, rfl⟩
         refine O.m rfl (O.m rfl (O.m rfl (O.f rfl (Ef.callP call112 rfl rfl (fun w hw => l01BlockD_ok  (r1[1]'e2) (third bs (r1[0]'e1) (third bs (r1[1]'e2) (r1[i]'e3))) (third bs (r1[0]'e1) (r1[i]'e3)) w   (by first | assumption | omega | (try dsimp only at *; omega)) (by first | assumption | omega | (try dsimp only at *; omega)) (by first | assumption | omega | (try dsimp only at *; omega)))) ?_)))
         rintro _ _ ⟨rfl, rfl⟩
         refine O.f rfl (Ef.build B3C ([(bk3 (r1[0]'e1) (r1[i]'e3) (third bs (r1[0]'e1) (r1[i]'e3))), (bk3 (r1[0]'e1) (third bs (r1[0]'e1) (third bs (r1[1]'e2) (r1[i]'e3))) (third bs (r1[1]'e2) (r1[i]'e3))), (bk3 (r1[1]'e2) (r1[i]'e3) (third bs (r1[1]'e2) (r1[i]'e3))), (bk3 (r1[1]'e2) (third bs (r1[0]'e1) (third bs (r1[1]'e2) (r1[i]'e3))) (third bs (r1[0]'e1) (r1[i]'e3)))] : List B3) rfl Tryz.underlying24 inf69 rfl rfl rfl (by first | decide | (simp; done)) (by kernel_rfl)) ?_
         rintro _ _ ⟨A2, hA2, rfl, rfl⟩
         refine O.m rfl (O.nil (X.next (V.seq (V.seq (V.region (O.m rfl (O.nil (X.next (V.block (V.loop3 (β := (Option Addr) × Nat × (List B3) × Nat) (fun x => [(13, .slice x.1 x.2.2.1.length x.2.1), (15, .int .i64 (x.2.2.2 : Int))]) _ (fun x => [Own 69 B3C x.1 x.2.1 x.2.2.1]) _ (fun x => x.2.2.2 ≤ bs.length ∧ (∀ d ∈ x.2.2.1, good v d) ∧ x.2.2.1.length ≤ 4 + x.2.2.2) (fun x => bs.length - x.2.2.2) (A1, 4, ([(bk3 (r1[1]'e2) (r1[i]'e3) (third bs (r1[0]'e1) (r1[i]'e3))), (bk3 (r1[1]'e2) (third bs (r1[0]'e1) (third bs (r1[1]'e2) (r1[i]'e3))) (third bs (r1[1]'e2) (r1[i]'e3))), (bk3 (r1[0]'e1) (r1[i]'e3) (third bs (r1[1]'e2) (r1[i]'e3))), (bk3 (r1[0]'e1) (third bs (r1[0]'e1) (third bs (r1[1]'e2) (r1[i]'e3))) (third bs (r1[0]'e1) (r1[i]'e3)))] : List B3), 0) (by (try dsimp only); exact ⟨by omega, (by intro d hd; simp only [List.mem_cons, List.not_mem_nil, or_false] at hd; rcases hd with rfl | rfl | rfl | rfl; (· exact q1); (· exact q2); (· exact q3); (· exact q4)), by simp⟩) (Ent.cons rfl (Ent.cons rfl (Ent.nil _))) (Ent.cons (t := 3) rfl (Ent.cons (t := 4) rfl (Ent.cons (t := 5) rfl (Ent.cons (t := 6) rfl (Ent.cons (t := 7) rfl (Ent.cons (t := 8) rfl (Ent.cons (t := 14) rfl (Ent.nil _)))))))) (Sub.keep 1 rfl (Sub.k (Sub.k (Sub.k (Sub.k (Sub.k (Sub.k (Sub.refl _)))))))) ?_))))))))))
         rintro ⟨blocksA, blocksc, blocks, k⟩ ⟨hk, hgb, hlb⟩
         dsimp only at hk hgb hlb ⊢
         refine V.seq (V.seq (V.region (O.m rfl (O.q rfl (Pu.fieldAddr 1 rfl Tryz.underlying26 rfl sz24 rfl rfl) (O.q rfl (Pu.load rfl pl24 rfl (Ld.blk 5 rfl rfl)) (O.q rfl (Pu.len rfl Tryz.underlying24 rfl) (O.q rfl (Pu.lss rfl rfl rfl) (O.nil (X.next (V.condD rfl (fun c9 => ?_) (fun c9 => ?_)))))))))))
         ·refine V.skip (X.next (V.seq (V.block (V.seq (V.draw mo (by kernel_rfl) (fun hwf => D.q 0 rfl (Pu.fieldAddr 1 rfl Tryz.underlying26 rfl sz24 rfl rfl) (D.q 1 rfl (Pu.load rfl pl24 rfl (Ld.blk 5 rfl rfl)) (D.m 2 rfl (D.q 3 rfl (Pu.indexAddrS (k) rfl Tryz.underlying24 sz69 rfl rfl (by omega) (by omega) (fun w hw => Own.some hw (i := 6) (by exact rfl) (by omega))) ?_)))))))))
          have e4 : k < bs.length := by omega
          refine D.q 4 rfl (Pu.loadAgg' (v := B3.v (bs[k]'e4)) rfl rfl ag69 sz69 rfl rfl (Ld.rds (C := B3C) (Ld.own 6 (by exact rfl)) (k := k) e4 rfl)) (D.m 5 rfl (D.q 6 rfl (Pu.indexAddr (0) rfl Tryz.underlying24 sz69 rfl rfl (by omega) (by simp) hA2) ?_))
          have e5 : 0 < ([(bk3 (r1[0]'e1) (r1[i]'e3) (third bs (r1[0]'e1) (r1[i]'e3))), (bk3 (r1[0]'e1) (third bs (r1[0]'e1) (third bs (r1[1]'e2) (r1[i]'e3))) (third bs (r1[1]'e2) (r1[i]'e3))), (bk3 (r1[1]'e2) (r1[i]'e3) (third bs (r1[1]'e2) (r1[i]'e3))), (bk3 (r1[1]'e2) (third bs (r1[0]'e1) (third bs (r1[1]'e2) (r1[i]'e3))) (third bs (r1[0]'e1) (r1[i]'e3)))] : List B3).length := by simp
          refine D.q 7 rfl (Pu.loadAgg' (v := B3.v (([(bk3 (r1[0]'e1) (r1[i]'e3) (third bs (r1[0]'e1) (r1[i]'e3))), (bk3 (r1[0]'e1) (third bs (r1[0]'e1) (third bs (r1[1]'e2) (r1[i]'e3))) (third bs (r1[1]'e2) (r1[i]'e3))), (bk3 (r1[1]'e2) (r1[i]'e3) (third bs (r1[1]'e2) (r1[i]'e3))), (bk3 (r1[1]'e2) (third bs (r1[0]'e1) (third bs (r1[1]'e2) (r1[i]'e3))) (third bs (r1[0]'e1) (r1[i]'e3)))] : List B3)[0]'e5)) rfl rfl ag69 sz69 rfl rfl (Ld.rds (C := B3C) (Ld.own 1 (by exact rfl)) (k := 0) e5 rfl)) (D.q 8 rfl (Pu.neqB3 Tryz.underlying69 Tryz.underlying2 sz2 (by kernel_rfl) rfl rfl rfl) (D.m 9 rfl (D.splitN 129 rfl (fun c10 => ?_) (fun c10 => ?_))))
          ·refine D.gq 10 rfl (Pu.fieldAddr 1 rfl Tryz.underlying26 rfl sz24 rfl rfl) (D.gq 11 rfl (Pu.load rfl pl24 rfl (Ld.blk 5 rfl rfl)) (D.gm 12 rfl (D.gq 13 rfl (Pu.indexAddrS (k) rfl Tryz.underlying24 sz69 rfl rfl (by omega) (by omega) (fun w hw => Own.some hw (i := 6) (by exact rfl) (by omega))) (D.gq 14 rfl (Pu.loadAgg' (v := B3.v (bs[k]'e4)) rfl rfl ag69 sz69 rfl rfl (Ld.rds (C := B3C) (Ld.own 6 (by exact rfl)) (k := k) e4 rfl)) (D.gm 15 rfl (D.gq 16 rfl (Pu.indexAddr (1) rfl Tryz.underlying24 sz69 rfl rfl (by omega) (by simp) hA2) ?_))))))
           have e6 : 1 < ([(bk3 (r1[0]'e1) (r1[i]'e3) (third bs (r1[0]'e1) (r1[i]'e3))), (bk3 (r1[0]'e1) (third bs (r1[0]'e1) (third bs (r1[1]'e2) (r1[i]'e3))) (third bs (r1[1]'e2) (r1[i]'e3))), (bk3 (r1[1]'e2) (r1[i]'e3) (third bs (r1[1]'e2) (r1[i]'e3))), (bk3 (r1[1]'e2) (third bs (r1[0]'e1) (third bs (r1[1]'e2) (r1[i]'e3))) (third bs (r1[0]'e1) (r1[i]'e3)))] : List B3).length := by simp
           refine D.gq 17 rfl (Pu.loadAgg' (v := B3.v (([(bk3 (r1[0]'e1) (r1[i]'e3) (third bs (r1[0]'e1) (r1[i]'e3))), (bk3 (r1[0]'e1) (third bs (r1[0]'e1) (third bs (r1[1]'e2) (r1[i]'e3))) (third bs (r1[1]'e2) (r1[i]'e3))), (bk3 (r1[1]'e2) (r1[i]'e3) (third bs (r1[1]'e2) (r1[i]'e3))), (bk3 (r1[1]'e2) (third bs (r1[0]'e1) (third bs (r1[1]'e2) (r1[i]'e3))) (third bs (r1[0]'e1) (r1[i]'e3)))] : List B3)[1]'e6)) rfl rfl ag69 sz69 rfl rfl (Ld.rds (C := B3C) (Ld.own 1 (by exact rfl)) (k := 1) e6 rfl)) (D.gq 18 rfl (Pu.neqB3 Tryz.underlying69 Tryz.underlying2 sz2 (by kernel_rfl) rfl rfl rfl) (D.m 19 rfl (D.m 20 rfl (D.splitN 140 rfl (fun c11 => ?_) (fun c11 => ?_)))))
           ·refine D.gq 21 rfl (Pu.fieldAddr 1 rfl Tryz.underlying26 rfl sz24 rfl rfl) (D.gq 22 rfl (Pu.load rfl pl24 rfl (Ld.blk 5 rfl rfl)) (D.gm 23 rfl (D.gq 24 rfl (Pu.indexAddrS (k) rfl Tryz.underlying24 sz69 rfl rfl (by omega) (by omega) (fun w hw => Own.some hw (i := 6) (by exact rfl) (by omega))) (D.gq 25 rfl (Pu.loadAgg' (v := B3.v (bs[k]'e4)) rfl rfl ag69 sz69 rfl rfl (Ld.rds (C := B3C) (Ld.own 6 (by exact rfl)) (k := k) e4 rfl)) (D.gm 26 rfl (D.gq 27 rfl (Pu.indexAddr (2) rfl Tryz.underlying24 sz69 rfl rfl (by omega) (by simp) hA2) ?_))))))
            have e7 : 2 < ([(bk3 (r1[0]'e1) (r1[i]'e3) (third bs (r1[0]'e1) (r1[i]'e3))), (bk3 (r1[0]'e1) (third bs (r1[0]'e1) (third bs (r1[1]'e2) (r1[i]'e3))) (third bs (r1[1]'e2) (r1[i]'e3))), (bk3 (r1[1]'e2) (r1[i]'e3) (third bs (r1[1]'e2) (r1[i]'e3))), (bk3 (r1[1]'e2) (third bs (r1[0]'e1) (third bs (r1[1]'e2) (r1[i]'e3))) (third bs (r1[0]'e1) (r1[i]'e3)))] : List B3).length := by simp
            refine D.gq 28 rfl (Pu.loadAgg' (v := B3.v (([(bk3 (r1[0]'e1) (r1[i]'e3) (third bs (r1[0]'e1) (r1[i]'e3))), (bk3 (r1[0]'e1) (third bs (r1[0]'e1) (third bs (r1[1]'e2) (r1[i]'e3))) (third bs (r1[1]'e2) (r1[i]'e3))), (bk3 (r1[1]'e2) (r1[i]'e3) (third bs (r1[1]'e2) (r1[i]'e3))), (bk3 (r1[1]'e2) (third bs (r1[0]'e1) (third bs (r1[1]'e2) (r1[i]'e3))) (third bs (r1[0]'e1) (r1[i]'e3)))] : List B3)[2]'e7)) rfl rfl ag69 sz69 rfl rfl (Ld.rds (C := B3C) (Ld.own 1 (by exact rfl)) (k := 2) e7 rfl)) (D.gq 29 rfl (Pu.neqB3 Tryz.underlying69 Tryz.underlying2 sz2 (by kernel_rfl) rfl rfl rfl) (D.m 30 rfl (D.m 31 rfl (D.splitN 151 rfl (fun c12 => ?_) (fun c12 => ?_)))))
            ·refine D.gq 32 rfl (Pu.fieldAddr 1 rfl Tryz.underlying26 rfl sz24 rfl rfl) (D.gq 33 rfl (Pu.load rfl pl24 rfl (Ld.blk 5 rfl rfl)) (D.gm 34 rfl (D.gq 35 rfl (Pu.indexAddrS (k) rfl Tryz.underlying24 sz69 rfl rfl (by omega) (by omega) (fun w hw => Own.some hw (i := 6) (by exact rfl) (by omega))) (D.gq 36 rfl (Pu.loadAgg' (v := B3.v (bs[k]'e4)) rfl rfl ag69 sz69 rfl rfl (Ld.rds (C := B3C) (Ld.own 6 (by exact rfl)) (k := k) e4 rfl)) (D.gm 37 rfl (D.gq 38 rfl (Pu.indexAddr (3) rfl Tryz.underlying24 sz69 rfl rfl (by omega) (by simp) hA2) ?_))))))
             have e8 : 3 < ([(bk3 (r1[0]'e1) (r1[i]'e3) (third bs (r1[0]'e1) (r1[i]'e3))), (bk3 (r1[0]'e1) (third bs (r1[0]'e1) (third bs (r1[1]'e2) (r1[i]'e3))) (third bs (r1[1]'e2) (r1[i]'e3))), (bk3 (r1[1]'e2) (r1[i]'e3) (third bs (r1[1]'e2) (r1[i]'e3))), (bk3 (r1[1]'e2) (third bs (r1[0]'e1) (third bs (r1[1]'e2) (r1[i]'e3))) (third bs (r1[0]'e1) (r1[i]'e3)))] : List B3).length := by simp
             refine D.gq 39 rfl (Pu.loadAgg' (v := B3.v (([(bk3 (r1[0]'e1) (r1[i]'e3) (third bs (r1[0]'e1) (r1[i]'e3))), (bk3 (r1[0]'e1) (third bs (r1[0]'e1) (third bs (r1[1]'e2) (r1[i]'e3))) (third bs (r1[1]'e2) (r1[i]'e3))), (bk3 (r1[1]'e2) (r1[i]'e3) (third bs (r1[1]'e2) (r1[i]'e3))), (bk3 (r1[1]'e2) (third bs (r1[0]'e1) (third bs (r1[1]'e2) (r1[i]'e3))) (third bs (r1[0]'e1) (r1[i]'e3)))] : List B3)[3]'e8)) rfl rfl ag69 sz69 rfl rfl (Ld.rds (C := B3C) (Ld.own 1 (by exact rfl)) (k := 3) e8 rfl)) (D.gq 40 rfl (Pu.neqB3 Tryz.underlying69 Tryz.underlying2 sz2 (by kernel_rfl) rfl rfl rfl) (D.m 41 rfl (D.done hwf rfl (X.next (V.condNot rfl (fun c13 => ?_) (fun c13 => ?_))))))
             ·refine V.region (O.m rfl (O.q rfl (Pu.fieldAddr 1 rfl Tryz.underlying26 rfl sz24 rfl rfl) (O.q rfl (Pu.load rfl pl24 rfl (Ld.blk 5 rfl rfl)) (O.m rfl (O.q rfl (Pu.indexAddrS (k) rfl Tryz.underlying24 sz69 rfl rfl (by omega) (by omega) (fun w hw => Own.some hw (i := 6) (by exact rfl) (by omega))) (O.q rfl (Pu.loadAgg' (v := B3.v (bs[k]'e4)) rfl rfl ag69 sz69 rfl rfl (Ld.rds (C := B3C) (Ld.own 6 (by exact rfl)) (k := k) e4 rfl)) (O.f rfl (Ef.build B3C ([(bs[k]'e4)] : List B3) rfl Tryz.underlying24 inf69 rfl rfl rfl (by first | decide | (simp; done)) (by kernel_rfl)) ?_)))))))
              rintro _ _ ⟨A3, hA3, rfl, rfl⟩
              refine O.f rfl (Ef.append (xs := blocks) (ys := ([(bs[k]'e4)] : List B3)) 1 rfl Tryz.underlying24 inf69 rfl rfl rfl rfl rfl rfl hA3 (Ld.own 0 (by exact rfl)) (by simp only [List.length_append, List.length_cons, List.length_nil] at *; omega) (by decide)) ?_
              rintro _ _ ⟨A4, k1, rfl, rfl, hA4⟩
              replace hA4 := hA4 (.inr (by simp))
              exact O.m rfl (O.nil (X.blockNormal (X.next (V.region (O.m rfl (O.q rfl (Pu.add64 (r := ((k + 1 : Nat) : Int)) rfl (by omega) rfl rfl rfl) (O.m rfl (O.nil (X.back3 (A4, k1, (blocks ++ ([(bs[k]'e4)] : List B3)), k + 1) (by (try dsimp only); exact ⟨by omega, (by first | exact hgb | exact good_snoc hgb (hg _ (List.getElem_mem _))), (by first | omega | (simp only [List.length_append, List.length_singleton]; omega))⟩) (by first | omega | (dsimp only; omega)) (Ent.cons rfl (Ent.cons rfl (Ent.nil _))) (Ent.cons (t := 3) rfl (Ent.cons (t := 4) rfl (Ent.cons (t := 5) rfl (Ent.cons (t := 6) rfl (Ent.cons (t := 7) rfl (Ent.cons (t := 8) rfl (Ent.cons (t := 14) rfl (Ent.nil _)))))))) (Sub.keep 1 rfl (Sub.keep 1 rfl (Sub.keep 1 rfl (Sub.keep 1 rfl (Sub.keep 1 rfl (Sub.keep 1 rfl (Sub.keep 1 rfl (Sub.drop (Sub.refl _))))))))))))))))))
             ·exact V.skip (X.blockNormal (X.next (V.region (O.m rfl (O.q rfl (Pu.add64 (r := ((k + 1 : Nat) : Int)) rfl (by omega) rfl rfl rfl) (O.m rfl (O.nil (X.back3 (blocksA, blocksc, blocks, k + 1) (by (try dsimp only); exact ⟨by omega, (by first | exact hgb | exact good_snoc hgb (hg _ (List.getElem_mem _))), (by first | omega | (simp only [List.length_append, List.length_singleton]; omega))⟩) (by first | omega | (dsimp only; omega)) (Ent.cons rfl (Ent.cons rfl (Ent.nil _))) (Ent.cons (t := 3) rfl (Ent.cons (t := 4) rfl (Ent.cons (t := 5) rfl (Ent.cons (t := 6) rfl (Ent.cons (t := 7) rfl (Ent.cons (t := 8) rfl (Ent.cons (t := 14) rfl (Ent.nil _)))))))) (Sub.k (Sub.k (Sub.k (Sub.k (Sub.k (Sub.k (Sub.k (Sub.refl _))))))))))))))))
            ·refine D.g 32 rfl (D.g 33 rfl (D.g 34 rfl (D.g 35 rfl (D.g 36 rfl (D.g 37 rfl (D.g 38 rfl (D.g 39 rfl (D.g 40 rfl (D.m 41 rfl (D.done hwf rfl (X.next ?_)))))))))))
             exact V.condF rfl (V.skip (X.blockNormal (X.next (V.region (O.m rfl (O.q rfl (Pu.add64 (r := ((k + 1 : Nat) : Int)) rfl (by omega) rfl rfl rfl) (O.m rfl (O.nil (X.back3 (blocksA, blocksc, blocks, k + 1) (by (try dsimp only); exact ⟨by omega, (by first | exact hgb | exact good_snoc hgb (hg _ (List.getElem_mem _))), (by first | omega | (simp only [List.length_append, List.length_singleton]; omega))⟩) (by first | omega | (dsimp only; omega)) (Ent.cons rfl (Ent.cons rfl (Ent.nil _))) (Ent.cons (t := 3) rfl (Ent.cons (t := 4) rfl (Ent.cons (t := 5) rfl (Ent.cons (t := 6) rfl (Ent.cons (t := 7) rfl (Ent.cons (t := 8) rfl (Ent.cons (t := 14) rfl (Ent.nil _)))))))) (Sub.k (Sub.k (Sub.k (Sub.k (Sub.k (Sub.k (Sub.k (Sub.refl _)))))))))))))))))
           ·refine D.g 21 rfl (D.g 22 rfl (D.g 23 rfl (D.g 24 rfl (D.g 25 rfl (D.g 26 rfl (D.g 27 rfl (D.g 28 rfl (D.g 29 rfl (D.m 30 rfl (D.m 31 rfl (D.g 32 rfl ?_)))))))))))
            refine D.g 33 rfl (D.g 34 rfl (D.g 35 rfl (D.g 36 rfl (D.g 37 rfl (D.g 38 rfl (D.g 39 rfl (D.g 40 rfl (D.m 41 rfl (D.done hwf rfl (X.next (V.condF rfl ?_)))))))))))
            exact V.skip (X.blockNormal (X.next (V.region (O.m rfl (O.q rfl (Pu.add64 (r := ((k + 1 : Nat) : Int)) rfl (by omega) rfl rfl rfl) (O.m rfl (O.nil (X.back3 (blocksA, blocksc, blocks, k + 1) (by (try dsimp only); exact ⟨by omega, (by first | exact hgb | exact good_snoc hgb (hg _ (List.getElem_mem _))), (by first | omega | (simp only [List.length_append, List.length_singleton]; omega))⟩) (by first | omega | (dsimp only; omega)) (Ent.cons rfl (Ent.cons rfl (Ent.nil _))) (Ent.cons (t := 3) rfl (Ent.cons (t := 4) rfl (Ent.cons (t := 5) rfl (Ent.cons (t := 6) rfl (Ent.cons (t := 7) rfl (Ent.cons (t := 8) rfl (Ent.cons (t := 14) rfl (Ent.nil _)))))))) (Sub.k (Sub.k (Sub.k (Sub.k (Sub.k (Sub.k (Sub.k (Sub.refl _))))))))))))))))
          ·refine D.g 10 rfl (D.g 11 rfl (D.g 12 rfl (D.g 13 rfl (D.g 14 rfl (D.g 15 rfl (D.g 16 rfl (D.g 17 rfl (D.g 18 rfl (D.m 19 rfl (D.m 20 rfl (D.g 21 rfl ?_)))))))))))
           refine D.g 22 rfl (D.g 23 rfl (D.g 24 rfl (D.g 25 rfl (D.g 26 rfl (D.g 27 rfl (D.g 28 rfl (D.g 29 rfl (D.m 30 rfl (D.m 31 rfl (D.g 32 rfl (D.g 33 rfl ?_)))))))))))
           refine D.g 34 rfl (D.g 35 rfl (D.g 36 rfl (D.g 37 rfl (D.g 38 rfl (D.g 39 rfl (D.g 40 rfl (D.m 41 rfl (D.done hwf rfl (X.next (V.condF rfl (V.skip ?_)))))))))))
           exact X.blockNormal (X.next (V.region (O.m rfl (O.q rfl (Pu.add64 (r := ((k + 1 : Nat) : Int)) rfl (by omega) rfl rfl rfl) (O.m rfl (O.nil (X.back3 (blocksA, blocksc, blocks, k + 1) (by (try dsimp only); exact ⟨by omega, (by first | exact hgb | exact good_snoc hgb (hg _ (List.getElem_mem _))), (by first | omega | (simp only [List.length_append, List.length_singleton]; omega))⟩) (by first | omega | (dsimp only; omega)) (Ent.cons rfl (Ent.cons rfl (Ent.nil _))) (Ent.cons (t := 3) rfl (Ent.cons (t := 4) rfl (Ent.cons (t := 5) rfl (Ent.cons (t := 6) rfl (Ent.cons (t := 7) rfl (Ent.cons (t := 8) rfl (Ent.cons (t := 14) rfl (Ent.nil _)))))))) (Sub.k (Sub.k (Sub.k (Sub.k (Sub.k (Sub.k (Sub.k (Sub.refl _)))))))))))))))
         ·refine V.exit (X.thenExit (X.thenExit (X.blockHit (X.next (V.seq (V.region (O.q rfl (Pu.fieldAddr 0 rfl Tryz.underlying26 rfl sz2 rfl rfl) (O.q rfl (Pu.load rfl pl2 rfl (Ld.blk 5 rfl rfl)) (O.m rfl (O.f rfl (Ef.call1 call45 rfl rfl (fun w hw => l01Made_ok  v blocks _ _ w ((Ld.own 0 (by exact rfl)) w hw) (by first | omega | (simp only [List.length_append, List.length_cons, List.length_nil, List.length_take, List.length_drop]; omega)) (by first | omega | (simp only [List.length_append, List.length_cons, List.length_nil, List.length_take, List.length_drop]; omega)))) ?_))))))))))
          rintro _ _ rfl
          refine O.exi (fun r2A => O.exi (fun r2c => O.exi (fun r2 => O.sep (O.pur ?_))))
          rintro ⟨rfl, hr2_1, hr2_2⟩
          refine O.s rfl rfl (Ef.storeAll 5 rfl sz26 rfl rfl rfl rfl (by simp [Value.oneCell']) rfl) ?_
          rintro _ _ rfl
          exact O.nil (X.next (V.ret (X.blockRet (X.thenRet (X.thenRet (X.blockRet (X.thenRet (X.retCell rfl ag26 sz26 rfl rfl (Ld.whole 5 rfl) (fun w hw => St.mkExi r2A (St.mkExi r2c (St.mkExi r2 (St.unsep (St.addPur ⟨rfl, DrS.perm ⟨hv, hgb, by omega⟩ hr2_1⟩ (St.unsep (hw.sub (Sub.k (Sub.keep 3 rfl (Sub.drop (Sub.drop (Sub.drop (Sub.drop (Sub.drop (Sub.drop (Sub.refl _))))))))))))))))))))))))
 ·refine V.exit (X.thenExit (X.thenExit (X.blockHit (X.next (V.seq (V.region (O.q rfl (Pu.loadAgg rfl ag26 sz26 rfl rfl (Ld.whole 3 rfl)) (O.s rfl rfl (Ef.storeAll 2 rfl sz26 rfl rfl rfl rfl (by simp [Value.oneCell']) rfl) ?_))))))))
  rintro _ _ rfl
  exact O.nil (X.next (V.ret (X.retCell rfl ag26 sz26 rfl rfl (Ld.whole 2 rfl) (fun w hw => St.mkExi A (St.mkExi c (St.mkExi bs (St.unsep (St.addPur ⟨rfl, hD.mono (by omega)⟩ (St.unsep (hw.sub (Sub.keep 4 rfl (Sub.keep 1 rfl (Sub.drop (Sub.drop (Sub.drop (Sub.refl _))))))))))))))))
set_option maxRecDepth 100000 in
set_option maxHeartbeats 1000000 in
theorem l01DrawFull_ok (cA : Option Addr) (cc : Nat) (code : List UInt8) (s : Nat) (w0 : World) (H : List Assn) (hc : Rd U8C w0 cA code) (lc : code.length ≤ 1048576) : Does Tryz.prog 128 [.pointer (some ⟨s, 0, none⟩)] w0 (SrcK 118 cA cc code s :: H) (fun rv_ => [.exi fun (pv : Int) => .exi fun (rA : Option Addr) => .exi fun (rc : Nat) => .exi fun (r : List B3) => .sep (.pur (rv_ = .agg #[.int .i64 pv, .slice rA r.length rc] ∧ DrS 4100 pv r)) (.sep (Own 69 B3C rA rc r) (SrcK 118 cA cc code s))] ++ H) := by
 refine Does.enter Tryz.func128 rfl rfl [(0, .pointer (some ⟨s, 0, none⟩))] rfl ?_
 refine V.seq ?_
 refine V.region ?_
 refine O.f rfl (Ef.alloc rfl zr26 rfl) ?_
 rintro _ _ ⟨b1, rfl, rfl⟩
 refine O.nil ?_
 refine X.next ?_
 refine V.seq ?_
 refine V.region ?_
 refine O.f rfl (Ef.call1 call153 rfl rfl (fun w hw => l01Names_ok   w   )) ?_
 rintro _ _ rfl
 refine O.exi (fun r1A => ?_)
 refine O.exi (fun r1c => ?_)
 refine O.exi (fun r1 => ?_)
 refine O.sep ?_
 refine O.pur ?_
 rintro ⟨rfl, hr1_1⟩
 have hnl : r1.length = 6 := by rw [hr1_1]; rfl
 refine O.m rfl ?_
 refine O.nil ?_
 refine X.next ?_
 refine V.seq ?_
 refine V.region ?_
 refine O.m rfl ?_
 refine O.m rfl ?_
 refine O.m rfl ?_
 refine O.f rfl (Ef.build I64 ([(3 : Int), (6 : Int)] : List Int) rfl Tryz.underlying41 inf2 rfl rfl rfl (by first | decide | (simp; done)) (by kernel_rfl)) ?_
 rintro _ _ ⟨A1, hA1, rfl, rfl⟩
 refine O.f rfl (Ef.call call98 rfl rfl (Does.pre (fun w hw => hw.sub (Sub.keep 3 rfl (Sub.k (Sub.k (Sub.k (Sub.refl _)))))) (l01Pick_ok _ _ _ s ([(3 : Int), (6 : Int)] : List Int) _ _ w0 _ (Ld.own 0 (by exact rfl)) (by first | omega | (simp only [tops_len, conts_len, bl, List.length_append, List.length_cons, List.length_nil] at *; omega)) (by first | assumption | omega | (try dsimp only at *; omega)) (by first | assumption | omega | (try dsimp only at *; omega)) (by first | (simp; done) | omega)))) ?_
 rintro _ _ rfl
 refine O.exi (fun r2 => ?_)
 refine O.sep ?_
 refine O.pur ?_
 rintro ⟨rfl, hr2_1⟩
 have hpk : r2 = 3 ∨ r2 = 6 := by simpa using hr2_1
 refine O.f rfl (Ef.call call68 rfl rfl (Does.pre (fun w hw => hw.sub (Sub.k (Sub.k (Sub.k (Sub.k (Sub.refl _)))))) (l01Next_ok _ _ _ s r2 w0 _   (by first | assumption | omega | (try dsimp only at *; omega)) (by first | assumption | omega | (try dsimp only at *; omega))))) ?_
 rintro _ _ rfl
 refine O.exi (fun r3 => ?_)
 refine O.sep ?_
 refine O.pur ?_
 rintro ⟨rfl, hr3_1, hr3_2, hr3_3⟩
 refine O.q rfl (Pu.indexAddrS ((r3).toNat) rfl Tryz.underlying171 sz9 rfl rfl (by omega) (by omega) (fun w hw => Own.some hw (i := 2) (by exact rfl) (by omega))) ?_
 have e1 : (r3).toNat < r1.length := by omega
 refine O.q rfl (Pu.load rfl pl9 rfl (Ld.rd (Ld.own 2 (by exact rfl)) (k := (r3).toNat) e1 rfl rfl)) ?_
 refine O.f rfl (Ef.call1 call74 rfl rfl (fun w hw => l01NamedAny_ok  (r1[(r3).toNat]'e1) w   (by rw [← hr1_1]; exact List.getElem_mem _))) ?_
 rintro _ _ rfl
 refine O.exi (fun pv1 => ?_)
 refine O.exi (fun r4A => ?_)
 refine O.exi (fun r4c => ?_)
 refine O.exi (fun r4 => ?_)
 refine O.sep ?_
 refine O.pur ?_
 rintro ⟨rfl, hpv1_1⟩
 have hDn := hpv1_1
 have hvn := hDn.1
 have hln := hDn.2.2
 refine O.m rfl ?_
 refine O.m rfl ?_
 refine O.m rfl ?_
 refine O.f rfl (Ef.alloc rfl zr26 rfl) ?_
 rintro _ _ ⟨b2, rfl, rfl⟩
 refine O.s rfl rfl (Ef.storeAll 0 rfl sz26 rfl rfl rfl rfl (by simp [Value.oneCell']) rfl) ?_
 rintro _ _ rfl
 refine O.m rfl ?_
 refine O.nil ?_
 refine X.next ?_
 refine V.seq ?_
 refine V.drawS mo (by kernel_rfl) (Sub.k (Sub.k (Sub.keep 1 rfl (Sub.keep 1 rfl (Sub.keep 1 rfl (Sub.drop (Sub.refl _))))))) (fun hwf => ?_)
 refine D.q 0 rfl (Pu.loadAgg rfl ag26 sz26 rfl rfl (Ld.whole 0 rfl)) ?_
 refine D.m 1 rfl ?_
 refine D.q 2 rfl (Pu.fieldAddr 0 rfl Tryz.underlying26 rfl sz2 rfl rfl) ?_
 refine D.q 3 rfl (Pu.load rfl pl2 rfl (Ld.blk 0 rfl rfl)) ?_
 refine D.f hwf 4 rfl (Ef.call call76 rfl rfl (Does.pre (fun w hw => hw.sub (Sub.keep 2 rfl (Sub.k (Sub.k (Sub.k (Sub.k (Sub.k (Sub.refl _)))))))) (l01DrawOrder_ok _ _ _ s pv1 w0 _   (by first | assumption | omega | (try dsimp only at *; omega)) (by first | assumption | omega | (try dsimp only at *; omega)) (by omega)))) ?_
 rintro _ _ rfl hs
 refine ⟨fun w hw => hw.tail.sub (Sub.k (Sub.k (Sub.k (Sub.k (Sub.k (Sub.refl _)))))), ?_⟩
 refine D.exi (fun r5A => ?_)
 refine D.exi (fun r5c => ?_)
 refine D.exi (fun r5 => ?_)
 refine D.sep ?_
 refine D.pur1 ?_
 rintro ⟨rfl, hr5_1⟩
 refine D.sep ?_
 have hol := hr5_1.1
 refine D.f hwf 5 rfl (Ef.call1 call75 rfl rfl (fun w hw => l01RenamedD_ok  pv1 r4 r5 _ _ _ _ w ((Ld.own 3 (by exact rfl)) w hw) ((Ld.own 0 (by exact rfl)) w hw) (by first | omega | (simp only [tops_len, conts_len, bl, List.length_append, List.length_cons, List.length_nil] at *; omega)) (by first | omega | (simp only [tops_len, conts_len, bl, List.length_append, List.length_cons, List.length_nil] at *; omega)) (by rw [hr5_1.1]; exact hDn.2.1) (by have := hDn.2.2; omega) (fun q hq => by have := hr5_1.2.2 q hq; have := hDn.1; omega))) ?_
 rintro _ _ rfl hs
 refine ⟨fun w hw => hs w hw.tail, ?_⟩
 refine D.exi (fun r6A => ?_)
 refine D.exi (fun r6c => ?_)
 refine D.exi (fun r6 => ?_)
 refine D.sep ?_
 refine D.pur1 ?_
 rintro ⟨rfl, hr6_1, hr6_2⟩
 have hDr := hDn.ren hr5_1 hr6_1
 refine D.effX (Hs' := []) hwf (e := 6) rfl rfl rfl rfl (Ef.storeAll 3 rfl sz26 rfl rfl rfl rfl (by simp [Value.oneCell']) rfl) rfl [] rfl (List.forall_mem_nil _) ?_
 rintro _ _ rfl
 refine ⟨fun w hw => hw.sub (Sub.nil _), ?_⟩
 refine D.done hwf rfl ?_
 refine X.next ?_
 refine V.seq ?_
 refine V.seq ?_
 refine V.region ?_
 refine O.m rfl ?_
 refine O.f rfl (Ef.call call68 rfl rfl (Does.pre (fun w hw => hw.sub (Sub.keep 2 rfl (Sub.k (Sub.k (Sub.k (Sub.k (Sub.k (Sub.k (Sub.k (Sub.refl _)))))))))) (l01Next_ok _ _ _ s (3 : Int) w0 _   (by first | assumption | omega | (try dsimp only at *; omega)) (by first | assumption | omega | (try dsimp only at *; omega))))) ?_
 rintro _ _ rfl
 refine O.exi (fun r7 => ?_)
 refine O.sep ?_
 refine O.pur ?_
 rintro ⟨rfl, hr7_1, hr7_2, hr7_3⟩
 refine O.m rfl ?_
 refine O.nil ?_
 refine X.next ?_
 refine V.block ?_
 refine V.loop3 (β := Int × (Option Addr) × Nat × (List B3)) (fun x => [(6, .int .i64 (x.1 : Int))]) _ (fun x => [Blk b2 [.int .i64 pv1, .slice x.2.1 x.2.2.2.length x.2.2.1] 26, Own 69 B3C x.2.1 x.2.2.1 x.2.2.2]) _ (fun x => x.1 ≤ 2 ∧ DrS (4008 - 4 * x.1.toNat) pv1 x.2.2.2) (fun x => x.1.toNat) (r7, r6A, r6c, r6) (by (try dsimp only); exact ⟨by omega, hDr.mono (by omega)⟩) (Ent.cons rfl (Ent.nil _)) (Ent.cons (t := 0) rfl (Ent.cons (t := 2) rfl (Ent.cons (t := 4) rfl (Ent.nil _)))) (Sub.keep 3 rfl (Sub.keep 1 rfl (Sub.k (Sub.k (Sub.k (Sub.k (Sub.k (Sub.k (Sub.refl _))))))))) ?_
 rintro ⟨k, xsA, xsc, xs⟩ ⟨hk, hDx⟩
 dsimp only at hk hDx ⊢
 refine V.seq ?_
 refine V.seq ?_
 refine V.region ?_
 refine O.m rfl ?_
 refine O.q rfl (Pu.gtr rfl rfl rfl) ?_
 refine O.nil ?_
 refine X.next ?_
 refine V.condD rfl (fun c1 => ?_) (fun c1 => ?_)
 ·refine V.skip ?_
  refine X.next ?_
  refine V.seq ?_
  refine V.block ?_
  refine V.region ?_
  refine O.m rfl ?_
  refine O.q rfl (Pu.loadAgg rfl ag26 sz26 rfl rfl (Ld.whole 0 rfl)) ?_
  refine O.f rfl (Ef.call call129 rfl rfl (Does.pre (fun w hw => hw.sub (Sub.keep 2 rfl (Sub.keep 1 rfl (Sub.k (Sub.k (Sub.k (Sub.k (Sub.k (Sub.k (Sub.refl _)))))))))) (l01Switched_ok _ _ _ (4008 - 4 * k.toNat) s pv1 xs _ _ w0 _   (by first | assumption | omega | (try dsimp only at *; omega)) (by first | assumption | omega | (try dsimp only at *; omega)) hDx (by omega)))) ?_
  rintro _ _ rfl
  refine O.exi (fun r8A => ?_)
  refine O.exi (fun r8c => ?_)
  refine O.exi (fun r8 => ?_)
  refine O.sep ?_
  refine O.pur ?_
  rintro ⟨rfl, hr8_1⟩
  refine O.sep ?_
  refine O.s rfl rfl (Ef.storeAll 2 rfl sz26 rfl rfl rfl rfl (by simp [Value.oneCell']) rfl) ?_
  rintro _ _ rfl
  refine O.nil ?_
  refine X.blockNormal ?_
  refine X.next ?_
  refine V.region ?_
  refine O.m rfl ?_
  refine O.q rfl (Pu.sub64 rfl (by omega) rfl rfl rfl) ?_
  refine O.m rfl ?_
  refine O.nil ?_
  exact X.back3 ((k - (1 : Int)), r8A, r8c, r8) (by (try dsimp only); exact ⟨by omega, hr8_1.mono (by omega)⟩) (by first | omega | (dsimp only; omega)) (Ent.cons rfl (Ent.nil _)) (Ent.cons (t := 0) rfl (Ent.cons (t := 2) rfl (Ent.cons (t := 4) rfl (Ent.nil _)))) (Sub.keep 2 rfl (Sub.k (Sub.k (Sub.k (Sub.k (Sub.k (Sub.k (Sub.k (Sub.refl _)))))))))
 ·refine V.exit ?_
  refine X.thenExit ?_
  refine X.thenExit ?_
  refine X.blockHit ?_
  refine X.next ?_
  refine V.seq ?_
  refine V.region ?_
  refine O.q rfl (Pu.loadAgg rfl ag26 sz26 rfl rfl (Ld.whole 0 rfl)) ?_
  refine O.s rfl rfl (Ef.storeAll 7 rfl sz26 rfl rfl rfl rfl (by simp [Value.oneCell']) rfl) ?_
  rintro _ _ rfl
  refine O.nil ?_
  refine X.next ?_
  refine V.ret ?_
  refine X.retCell rfl ag26 sz26 rfl rfl (Ld.whole 7 rfl) ?_
  exact fun w hw => St.mkExi pv1 (St.mkExi xsA (St.mkExi xsc (St.mkExi xs (St.unsep (St.addPur ⟨rfl, hDx.mono (by omega)⟩ (St.unsep (hw.sub (Sub.keep 1 rfl (Sub.keep 1 rfl (Sub.drop (Sub.drop (Sub.drop (Sub.drop (Sub.drop (Sub.drop (Sub.refl _))))))))))))))))
set_option maxRecDepth 100000 in
set_option maxHeartbeats 1000000 in
theorem l01Without_ok (v : Int) (bs : List B3) (i : Int) (A : Option Addr) (c : Nat) (w0 : World) (H : List Assn) (hi : 0 ≤ i ∧ i < bs.length) (lb : bs.length ≤ 100000) : Does Tryz.prog 145 [.agg #[.int .i64 v, .slice A bs.length c], .int .i64 i] w0 (Own 69 B3C A c bs :: H) (fun rv_ => [.exi fun (rA : Option Addr) => .exi fun (rc : Nat) => .exi fun (r : List B3) => .sep (.pur (rv_ = .agg #[.int .i64 v, .slice rA r.length rc] ∧ r = bs.take i.toNat ++ bs.drop (i.toNat + 1))) (Own 69 B3C rA rc r)] ++ H) := by
 refine Does.enter Tryz.func145 rfl rfl [(0, .agg #[.int .i64 v, .slice A bs.length c]), (1, .int .i64 i)] rfl (V.seq (V.region (O.f rfl (Ef.box rfl rfl rfl) ?_)))
 rintro _ _ ⟨b1, rfl, rfl⟩
 refine O.f rfl (Ef.alloc rfl zr26 rfl) ?_
 rintro _ _ ⟨b2, rfl, rfl⟩
 refine O.nil (X.next (V.seq (V.fact (fun w hw => Own.some hw (i := 2) rfl (by omega)) (fun hAS => V.fact (fun w hw => Own.cap hw (i := 2) rfl) (fun hcap => ?_)))))
 have htl : (bs.take i.toNat).length = i.toNat := by rw [List.length_take]; omega
 have hdl : (bs.drop (i + (1 : Int)).toNat).length = bs.length - (i.toNat + 1) := by rw [List.length_drop]; omega
 refine V.draw mo (by kernel_rfl) (fun hwf => D.q 0 rfl (Pu.fieldAddr 0 rfl Tryz.underlying26 rfl sz2 rfl rfl) (D.q 1 rfl (Pu.load rfl pl2 rfl (Ld.blk 1 rfl rfl)) (D.q 3 rfl (Pu.fieldAddr 1 rfl Tryz.underlying26 rfl sz24 rfl rfl) (D.q 4 rfl (Pu.load rfl pl24 rfl (Ld.blk 1 rfl rfl)) (D.m 5 rfl (D.q 6 rfl (Pu.sliceH ((i).toNat) rfl Tryz.underlying24 sz69 rfl rfl (by omega) (by omega)) (D.q 8 rfl (Pu.fieldAddr 1 rfl Tryz.underlying26 rfl sz24 rfl rfl) (D.q 9 rfl (Pu.load rfl pl24 rfl (Ld.blk 1 rfl rfl)) (D.m 10 rfl (D.q 11 rfl (Pu.add64 rfl (by omega) rfl rfl rfl) (D.q 12 rfl (Pu.sliceL (((i + (1 : Int))).toNat) rfl Tryz.underlying24 sz69 rfl rfl (by omega) (by omega)) ?_)))))))))))
 refine D.f hwf 2 rfl (Ef.build B3C ([] : List B3) rfl Tryz.underlying24 inf69 rfl rfl rfl (by first | decide | (simp; done)) (by kernel_rfl)) ?_
 rintro _ _ ⟨A1, hA1, rfl, rfl⟩ hs
 refine ⟨fun w hw => hw.sub (Sub.keep 1 rfl (Sub.keep 1 rfl (Sub.keep 1 rfl (Sub.drop (Sub.refl _))))), (D.f hwf 7 rfl (Ef.append (xs := ([] : List B3)) (ys := (bs.take ((i).toNat))) 0 rfl Tryz.underlying24 inf69 rfl rfl rfl rfl rfl (by first | (simp only [List.length_take, List.length_drop]; done) | (simp only [List.length_take, List.length_drop]; omega)) hAS (fun w hw => ((Ld.own 3 (by exact rfl)) w hw).take ((i).toNat)) (by simp only [List.length_append, List.length_cons, List.length_nil] at *; omega) (by decide)) ?_)⟩
 rintro _ _ ⟨A2, k1, rfl, rfl, hA2⟩ hs
 replace hA2 := hA2 (.inl hA1)
 refine ⟨fun w hw => hw.sub (Sub.keep 1 rfl (Sub.keep 1 rfl (Sub.keep 1 rfl (Sub.drop (Sub.refl _))))), (D.f hwf 13 rfl (Ef.append (xs := (([] : List B3) ++ (bs.take ((i).toNat)))) (ys := (bs.drop (((i + (1 : Int))).toNat))) 0 rfl Tryz.underlying24 inf69 rfl rfl rfl rfl rfl (by first | (simp only [List.length_take, List.length_drop]; done) | (simp only [List.length_take, List.length_drop]; omega)) (by split <;> simp [hAS]) (fun w hw => ((Ld.own 3 (by exact rfl)) w hw).drop rfl (Own.cap hw (i := 3) (by exact rfl))) (by simp only [List.length_append, List.length_cons, List.length_nil] at *; omega) (by decide)) ?_)⟩
 rintro _ _ ⟨A3, k2, rfl, rfl, hA3⟩ hs
 replace hA3 := hA3 (.inl hA2)
 refine ⟨fun w hw => hw.sub (Sub.keep 1 rfl (Sub.keep 1 rfl (Sub.keep 1 rfl (Sub.drop (Sub.refl _))))), (D.q 14 rfl (Pu.buildS (cs := [.int .i64 v, .slice A3 (((([] : List B3) ++ (bs.take ((i).toNat))) ++ (bs.drop (((i + (1 : Int))).toNat))).length) k2]) rfl rfl Tryz.underlying26 zr26 (by kernel_rfl) rfl (by kernel_rfl)) (D.effX (Hs' := []) hwf (e := 15) rfl rfl rfl rfl (Ef.storeAll 1 rfl sz26 rfl rfl rfl rfl (by simp [Value.oneCell']) rfl) rfl [] rfl (List.forall_mem_nil _) ?_))⟩
 rintro _ _ rfl
 exact ⟨fun w hw => hw.sub (Sub.nil _), (D.done hwf rfl (X.next (V.ret (X.retCell rfl ag26 sz26 rfl rfl (Ld.whole 1 rfl) (fun w hw => St.mkExi A3 (St.mkExi k2 (St.mkExi ((([] : List B3) ++ (bs.take ((i).toNat))) ++ (bs.drop (((i + (1 : Int))).toNat))) (St.unsep (St.addPur ⟨rfl, by rw [show (i + (1 : Int)).toNat = i.toNat + 1 by omega]; rfl⟩ (hw.sub (Sub.k (Sub.drop (Sub.drop (Sub.drop (Sub.refl _)))))))))))))))⟩
set_option maxRecDepth 100000 in
set_option maxHeartbeats 1000000 in
theorem l01Draw_ok (cA : Option Addr) (cc : Nat) (code : List UInt8) (s : Nat) (w0 : World) (H : List Assn) (hc : Rd U8C w0 cA code) (lc : code.length ≤ 1048576) : Does Tryz.prog 109 [.pointer (some ⟨s, 0, none⟩)] w0 (SrcK 118 cA cc code s :: H) (fun rv_ => [.exi fun (pv : Int) => .exi fun (rA : Option Addr) => .exi fun (rc : Nat) => .exi fun (r : List B3) => .sep (.pur (rv_ = .agg #[.int .i64 pv, .slice rA r.length rc] ∧ DrS 4100 pv r)) (.sep (Own 69 B3C rA rc r) (SrcK 118 cA cc code s))] ++ H) := by
 refine Does.enter Tryz.func109 rfl rfl [(0, .pointer (some ⟨s, 0, none⟩))] rfl (V.seq (V.region (O.f rfl (Ef.alloc rfl zr26 rfl) ?_)))
 rintro _ _ ⟨b1, rfl, rfl⟩
 refine O.nil (X.next (V.seq (V.seq (V.region (O.m rfl (O.f rfl (Ef.call call68 rfl rfl (Does.pre (fun w hw => hw.sub (Sub.keep 1 rfl (Sub.k (Sub.refl _)))) (l01Next_ok _ _ _ s (4 : Int) w0 _   (by first | assumption | omega | (try dsimp only at *; omega)) (by first | assumption | omega | (try dsimp only at *; omega))))) ?_))))))
 rintro _ _ rfl
 refine O.exi (fun r1 => O.sep (O.pur ?_))
 rintro ⟨rfl, hr1_1, hr1_2, hr1_3⟩
 refine O.nil (X.next (V.block (V.seq (V.region (O.q rfl (Pu.eql rfl rfl rfl) (O.m rfl (O.nil (X.next (V.condD rfl (fun c1 => ?_) (fun c1 => ?_))))))))))
 ·refine V.seq (V.region (O.m rfl (O.f rfl (Ef.call call128 rfl rfl (Does.pre (fun w hw => hw.sub (Sub.k (Sub.k (Sub.refl _)))) (l01DrawFull_ok _ _ _ s w0 _   (by first | assumption | omega | (try dsimp only at *; omega)) (by first | assumption | omega | (try dsimp only at *; omega))))) ?_)))
  rintro _ _ rfl
  refine O.exi (fun pv1 => O.exi (fun r2A => O.exi (fun r2c => O.exi (fun r2 => O.sep (O.pur ?_)))))
  rintro ⟨rfl, hpv1_1⟩
  refine O.sep (O.s rfl rfl (Ef.storeAll 2 rfl sz26 rfl rfl rfl rfl (by simp [Value.oneCell']) rfl) ?_)
  rintro _ _ rfl
  exact O.nil (X.next (V.ret (X.blockRet (X.thenRet (X.retCell rfl ag26 sz26 rfl rfl (Ld.whole 2 rfl) (fun w hw => St.mkExi pv1 (St.mkExi r2A (St.mkExi r2c (St.mkExi r2 (St.unsep (St.addPur ⟨rfl, (by first | exact hpv1_1 | exact hpv2_1 | exact DrS.mono hr3_1 (by decide) | exact DrS.mono hr2_1 (by decide))⟩ (St.unsep (hw.sub (Sub.k (Sub.k (Sub.drop (Sub.refl _)))))))))))))))))
 ·refine V.seq (V.region (O.q rfl (Pu.eql rfl rfl rfl) (O.m rfl (O.nil (X.next (V.condD rfl (fun c2 => ?_) (fun c2 => ?_)))))))
  ·refine V.seq (V.region (O.m rfl (O.f rfl (Ef.call call128 rfl rfl (Does.pre (fun w hw => hw.sub (Sub.k (Sub.k (Sub.refl _)))) (l01DrawFull_ok _ _ _ s w0 _   (by first | assumption | omega | (try dsimp only at *; omega)) (by first | assumption | omega | (try dsimp only at *; omega))))) ?_)))
   rintro _ _ rfl
   refine O.exi (fun pv2 => O.exi (fun r3A => O.exi (fun r3c => O.exi (fun r3 => O.sep (O.pur ?_)))))
   rintro ⟨rfl, hpv2_1⟩
   refine O.sep (O.f rfl (Ef.alloc rfl zr26 rfl) ?_)
   rintro _ _ ⟨b2, rfl, rfl⟩
   refine O.s rfl rfl (Ef.storeAll 0 rfl sz26 rfl rfl rfl rfl (by simp [Value.oneCell']) rfl) ?_
   rintro _ _ rfl
   refine O.nil (X.next (V.seq (V.seq (V.region (O.m rfl (O.f rfl (Ef.call call68 rfl rfl (Does.pre (fun w hw => hw.sub (Sub.keep 2 rfl (Sub.k (Sub.k (Sub.k (Sub.refl _)))))) (l01Next_ok _ _ _ s (5 : Int) w0 _   (by first | assumption | omega | (try dsimp only at *; omega)) (by first | assumption | omega | (try dsimp only at *; omega))))) ?_))))))
   rintro _ _ rfl
   refine O.exi (fun r4 => O.sep (O.pur ?_))
   rintro ⟨rfl, hr4_1, hr4_2, hr4_3⟩
   refine O.m rfl (O.nil (X.next (V.block (V.loop3 (β := Int × (Option Addr) × Nat × (List B3)) (fun x => [(4, .int .i64 (x.1 : Int))]) _ (fun x => [Blk b2 [.int .i64 pv2, .slice x.2.1 x.2.2.2.length x.2.2.1] 26, Own 69 B3C x.2.1 x.2.2.1 x.2.2.2]) _ (fun x => x.1 ≤ 4 ∧ DrS 4100 pv2 x.2.2.2) (fun x => x.1.toNat) (r4, r3A, r3c, r3) (by (try dsimp only); exact ⟨by omega, hpv2_1⟩) (Ent.cons rfl (Ent.nil _)) (Ent.cons (t := 0) rfl (Ent.cons (t := 2) rfl (Ent.cons (t := 3) rfl (Ent.nil _)))) (Sub.keep 1 rfl (Sub.keep 1 rfl (Sub.k (Sub.k (Sub.refl _))))) ?_))))
   rintro ⟨k, xsA, xsc, xs⟩ ⟨hk, hDx⟩
   dsimp only at hk hDx ⊢
   refine V.seq (V.seq (V.region (O.m rfl (O.q rfl (Pu.gtr rfl rfl rfl) (O.m rfl (O.splitD 19 rfl (fun c3 => ?_) (fun c3 => ?_)))))))
   ·refine O.gq rfl (Pu.fieldAddr 1 rfl Tryz.underlying26 rfl sz24 rfl rfl) (O.gq rfl (Pu.load rfl pl24 rfl (Ld.blk 0 rfl rfl)) (O.gq rfl (Pu.len rfl Tryz.underlying24 rfl) (O.gq rfl (Pu.gtr rfl rfl rfl) (O.m rfl (O.nil (X.next (V.condD rfl (fun c4 => ?_) (fun c4 => ?_))))))))
    ·refine V.skip (X.next (V.seq (V.block ?_)))
     have hlx := hDx.2.2
     refine V.drawS mo (by kernel_rfl) (Sub.k (Sub.keep 2 rfl (Sub.drop (Sub.drop (Sub.refl _))))) (fun hwf => D.q 0 rfl (Pu.loadAgg rfl ag26 sz26 rfl rfl (Ld.whole 0 rfl)) (D.m 1 rfl (D.q 2 rfl (Pu.fieldAddr 1 rfl Tryz.underlying26 rfl sz24 rfl rfl) (D.q 3 rfl (Pu.load rfl pl24 rfl (Ld.blk 0 rfl rfl)) (D.q 4 rfl (Pu.len rfl Tryz.underlying24 rfl) (D.f hwf 5 rfl (Ef.call call68 rfl rfl (Does.pre (fun w hw => hw.sub (Sub.keep 2 rfl (Sub.k (Sub.k (Sub.k (Sub.refl _)))))) (l01Next_ok _ _ _ s (↑xs.length : Int) w0 _   (by first | assumption | omega | (try dsimp only at *; omega)) (by first | assumption | omega | (try dsimp only at *; omega))))) ?_))))))
     rintro _ _ rfl hs
     refine ⟨fun w hw => hw.tail.sub (Sub.k (Sub.keep 1 rfl (Sub.drop (Sub.refl _)))), (D.exi (fun r5 => D.sep (D.pur1 ?_)))⟩
     rintro ⟨rfl, hr5_1, hr5_2, hr5_3⟩
     refine D.f hwf 6 rfl (Ef.call call145 rfl rfl (Does.pre (fun w hw => hw.sub (Sub.keep 2 rfl (Sub.k (Sub.k (Sub.k (Sub.refl _)))))) (l01Without_ok  pv2 xs r5 _ _ w0 _   (by omega) (by omega)))) ?_
     rintro _ _ rfl hs
     refine ⟨fun w hw => hw.tail.sub (Sub.keep 1 rfl (Sub.keep 1 rfl (Sub.drop (Sub.refl _)))), (D.exi (fun r6A => D.exi (fun r6c => D.exi (fun r6 => D.sep (D.pur1 ?_)))))⟩
     rintro ⟨rfl, hr6_1⟩
     refine D.effX (Hs' := []) hwf (e := 7) rfl rfl rfl rfl (Ef.storeAll 2 rfl sz26 rfl rfl rfl rfl (by simp [Value.oneCell']) rfl) rfl [] rfl (List.forall_mem_nil _) ?_
     rintro _ _ rfl
     exact ⟨fun w hw => hw.sub (Sub.nil _), (D.done hwf rfl (X.blockNormal (X.next (V.region (O.m rfl (O.q rfl (Pu.sub64 rfl (by omega) rfl rfl rfl) (O.m rfl (O.nil (X.back3 ((k - (1 : Int)), r6A, r6c, r6) (by (try dsimp only); exact ⟨by omega, hDx.cut hr6_1⟩) (by first | omega | (dsimp only; omega)) (Ent.cons rfl (Ent.nil _)) (Ent.cons (t := 0) rfl (Ent.cons (t := 2) rfl (Ent.cons (t := 3) rfl (Ent.nil _)))) (Sub.keep 2 rfl (Sub.k (Sub.k (Sub.k (Sub.refl _))))))))))))))⟩
    ·refine V.exit (X.thenExit (X.thenExit (X.blockHit (X.next (V.seq (V.region (O.q rfl (Pu.loadAgg rfl ag26 sz26 rfl rfl (Ld.whole 0 rfl)) (O.s rfl rfl (Ef.storeAll 3 rfl sz26 rfl rfl rfl rfl (by simp [Value.oneCell']) rfl) ?_))))))))
     rintro _ _ rfl
     exact O.nil (X.next (V.ret (X.blockRet (X.thenRet (X.retCell rfl ag26 sz26 rfl rfl (Ld.whole 3 rfl) (fun w hw => St.mkExi pv2 (St.mkExi xsA (St.mkExi xsc (St.mkExi xs (St.unsep (St.addPur ⟨rfl, hDx⟩ (St.unsep (hw.sub (Sub.keep 1 rfl (Sub.keep 1 rfl (Sub.drop (Sub.drop (Sub.refl _))))))))))))))))))
   ·refine O.g rfl (O.g rfl (O.g rfl (O.g rfl (O.m rfl (O.nil (X.next (V.condF rfl (V.exit (X.thenExit (X.thenExit (X.blockHit ?_)))))))))))
    refine X.next (V.seq (V.region (O.q rfl (Pu.loadAgg rfl ag26 sz26 rfl rfl (Ld.whole 0 rfl)) (O.s rfl rfl (Ef.storeAll 3 rfl sz26 rfl rfl rfl rfl (by simp [Value.oneCell']) rfl) ?_))))
    rintro _ _ rfl
    exact O.nil (X.next (V.ret (X.blockRet (X.thenRet (X.retCell rfl ag26 sz26 rfl rfl (Ld.whole 3 rfl) (fun w hw => St.mkExi pv2 (St.mkExi xsA (St.mkExi xsc (St.mkExi xs (St.unsep (St.addPur ⟨rfl, hDx⟩ (St.unsep (hw.sub (Sub.keep 1 rfl (Sub.keep 1 rfl (Sub.drop (Sub.drop (Sub.refl _))))))))))))))))))
  ·refine V.skip (X.blockNormal (X.next (V.seq (V.region (O.m rfl (O.m rfl (O.f rfl (Ef.call call68 rfl rfl (Does.pre (fun w hw => hw.sub (Sub.k (Sub.k (Sub.refl _)))) (l01Next_ok _ _ _ s (13 : Int) w0 _   (by first | assumption | omega | (try dsimp only at *; omega)) (by first | assumption | omega | (try dsimp only at *; omega))))) ?_)))))))
   rintro _ _ rfl
   refine O.exi (fun r7 => O.sep (O.pur ?_))
   rintro ⟨rfl, hr7_1, hr7_2, hr7_3⟩
   refine O.q rfl (Pu.add64 rfl (by omega) rfl rfl rfl) (O.f rfl (Ef.call call146 rfl rfl (Does.pre (fun w hw => hw.sub (Sub.k (Sub.k (Sub.refl _)))) (l01DrawOf_ok _ _ _ s ((3 : Int) + r7) w0 _   (by first | assumption | omega | (try dsimp only at *; omega)) (by first | assumption | omega | (try dsimp only at *; omega)) (by omega)))) ?_)
   rintro _ _ rfl
   refine O.exi (fun r8A => O.exi (fun r8c => O.exi (fun r8 => O.sep (O.pur ?_))))
   rintro ⟨rfl, hr8_1⟩
   refine O.sep (O.s rfl rfl (Ef.storeAll 2 rfl sz26 rfl rfl rfl rfl (by simp [Value.oneCell']) rfl) ?_)
   rintro _ _ rfl
   exact O.nil (X.next (V.ret (X.retCell rfl ag26 sz26 rfl rfl (Ld.whole 2 rfl) (fun w hw => St.mkExi ((3 : Int) + r7) (St.mkExi r8A (St.mkExi r8c (St.mkExi r8 (St.unsep (St.addPur ⟨rfl, (by first | exact hpv1_1 | exact hpv2_1 | exact DrS.mono hr3_1 (by decide) | exact DrS.mono hr8_1 (by decide))⟩ (St.unsep (hw.sub (Sub.k (Sub.k (Sub.drop (Sub.refl _)))))))))))))))
end Go.Proofs.YtoeldiaidjnibaaGreat
