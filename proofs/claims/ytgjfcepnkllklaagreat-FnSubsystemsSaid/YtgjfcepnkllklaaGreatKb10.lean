/-
  Contracts, part 10.
-/
import Derived.Test.YtgjfcepnkllklaaGreatKb9
set_option linter.unusedVariables false
set_option linter.unusedSimpArgs false
namespace Go.Proofs.YtgjfcepnkllklaaGreat
open Go Go.RowKit Go.Vc Go.Proofs
set_option maxRecDepth 100000 in
set_option maxHeartbeats 1000000 in
theorem l07With_ok (code : List UInt8) (codeA : Option Addr) (codec : Nat) (w : World) (hcode : Rd U8C w codeA code) (lcode : code.length ≤ 1099511627776) (lc : code.length ≤ 1048576) : Does Tryz.prog 117 [.slice codeA code.length codec] w [] (fun rv_ => [.exi fun (pv : Int) => .exi fun (rA : Option Addr) => .exi fun (rc : Nat) => .exi fun (r : List B3) => .exi fun (oA : Option Addr) => .exi fun (oc : Nat) => .exi fun (o : List Int) => .sep (.pur (rv_ = .tuple #[.agg #[.int .i64 pv, .slice rA r.length rc], .slice oA o.length oc] ∧ r.length ≤ 4200 ∧ o.length ≤ 100)) (.sep (Own 51 B3C rA rc r) (Own 2 I64 oA oc o))]) := by
  refine Does.enter Tryz.func117 rfl rfl [(0, .slice codeA code.length codec)] rfl ?_
  refine V.seq ?_
  refine V.region ?_
  refine O.e rfl rfl rfl (Ef.alloc rfl zr26 rfl) ?_
  rintro _ _ ⟨b1, rfl, rfl⟩
  refine O.p rfl rfl rfl (Pu.assign rfl rfl) ?_
  refine O.nil ?_
  refine X.next ?_
  refine V.seq ?_
  refine V.region ?_
  refine O.p rfl rfl rfl (Pu.move rfl rfl) ?_
  refine O.e rfl rfl rfl (Ef.call1 call76 rfl rfl (fun w hw => l01From_ok  code _ _ w ((Ld.old hcode) w hw) (by first | omega | (simp only [tops_len, conts_len, bl, List.length_append, List.length_cons, List.length_nil] at *; omega)) (by first | assumption | omega | (try dsimp only at *; omega)))) ?_
  rintro _ _ rfl
  refine O.exi (fun s1 => ?_)
  refine O.sep ?_
  refine O.pur ?_
  rintro rfl
  refine O.p rfl rfl rfl (Pu.assign rfl rfl) ?_
  refine O.nil ?_
  refine X.next ?_
  refine V.seq ?_
  refine V.region ?_
  refine O.p rfl rfl rfl (Pu.move rfl rfl) ?_
  refine O.e rfl rfl rfl (Ef.call call89 rfl rfl (Does.pre (fun w hw => hw.sub (Sub.keep 0 rfl (Sub.keep 0 rfl (Sub.nil _)))) (l01Draw_ok _ _ _ s1 w _   (by first | assumption | omega | (try dsimp only at *; omega)) (by first | assumption | omega | (try dsimp only at *; omega))))) ?_
  rintro _ _ rfl
  refine O.exi (fun pv1 => ?_)
  refine O.exi (fun r1A => ?_)
  refine O.exi (fun r1c => ?_)
  refine O.exi (fun r1 => ?_)
  refine O.sep ?_
  refine O.pur ?_
  rintro ⟨rfl, hpv1_1⟩
  refine O.sep ?_
  have hvn := hpv1_1.1
  have hln := hpv1_1.2.2
  refine O.e rfl rfl rfl (Ef.alloc rfl zr26 rfl) ?_
  rintro _ _ ⟨b2, rfl, rfl⟩
  refine O.s rfl rfl (Ef.storeAll 0 rfl sz26 rfl rfl rfl rfl (by simp [Value.oneCell']) rfl) ?_
  rintro _ _ rfl
  refine O.nil ?_
  refine X.next ?_
  refine V.seq ?_
  refine V.region ?_
  refine O.p rfl rfl rfl (Pu.move rfl rfl) ?_
  refine O.p rfl rfl rfl (Pu.fieldAddr 0 rfl Tryz.underlying26 rfl sz2 rfl rfl) ?_
  refine O.p rfl rfl rfl (Pu.load rfl pl2 rfl (Ld.blk 0 rfl rfl)) ?_
  refine O.e rfl rfl rfl (Ef.call call198 rfl rfl (Does.pre (fun w hw => hw.sub (Sub.keep 2 rfl (Sub.keep 0 rfl (Sub.keep 0 rfl (Sub.keep 0 rfl (Sub.nil _)))))) (l01DrawSet_ok _ _ _ s1 pv1 w _   (by first | assumption | omega | (try dsimp only at *; omega)) (by first | assumption | omega | (try dsimp only at *; omega)) (by omega)))) ?_
  rintro _ _ rfl
  refine O.exi (fun o1A => ?_)
  refine O.exi (fun o1c => ?_)
  refine O.exi (fun o1 => ?_)
  refine O.sep ?_
  refine O.pur ?_
  rintro ⟨rfl, ho1_1⟩
  refine O.sep ?_
  refine O.p rfl rfl rfl (Pu.assign rfl rfl) ?_
  refine O.nil ?_
  refine X.next ?_
  refine V.seq ?_
  refine V.seq ?_
  refine V.region ?_
  refine O.p rfl rfl rfl (Pu.fieldAddr 1 rfl Tryz.underlying26 rfl sz24 rfl rfl) ?_
  refine O.p rfl rfl rfl (Pu.load rfl pl24 rfl (Ld.blk 2 rfl rfl)) ?_
  refine O.p rfl rfl rfl (Pu.len rfl Tryz.underlying24 rfl) ?_
  refine O.p rfl rfl rfl (Pu.gtr rfl rfl rfl) ?_
  refine O.p rfl rfl rfl (Pu.move rfl rfl) ?_
  refine O.splitD 21 rfl (fun c1 => ?_) (fun c1 => ?_)
  · skip
    refine O.gp rfl rfl rfl rfl rfl (Pu.move rfl rfl) ?_
    refine O.ge rfl rfl rfl rfl rfl (Ef.call call92 rfl rfl (Does.pre (fun w hw => hw.sub (Sub.keep 1 rfl (Sub.keep 0 rfl (Sub.keep 0 rfl (Sub.keep 0 rfl (Sub.keep 0 rfl (Sub.nil _))))))) (l01Next_ok _ _ _ s1 (3 : Int) w _   (by first | assumption | omega | (try dsimp only at *; omega)) (by first | assumption | omega | (try dsimp only at *; omega))))) ?_
    rintro _ _ rfl
    refine O.exi (fun r2 => ?_)
    refine O.sep ?_
    refine O.pur ?_
    rintro ⟨rfl, hr2_1, hr2_2, hr2_3⟩
    refine O.gp rfl rfl rfl rfl rfl (Pu.eql rfl rfl rfl) ?_
    refine O.p rfl rfl rfl (Pu.pickT rfl rfl rfl) ?_
    refine O.nil ?_
    refine X.next ?_
    refine V.condD rfl (fun c2 => ?_) (fun c2 => ?_)
    · skip
      refine V.seq ?_
      refine V.drawS mo (by kernel_rfl) (Sub.keep 1 rfl (Sub.keep 1 rfl (Sub.keep 1 rfl (Sub.keep 1 rfl (Sub.nil _))))) (fun hwf => ?_)
      refine D.p 0 rfl rfl rfl rfl rfl rfl (Pu.fieldAddr 1 rfl Tryz.underlying26 rfl sz24 rfl rfl) ?_
      refine D.p 1 rfl rfl rfl rfl rfl rfl (Pu.load rfl pl24 rfl (Ld.blk 1 rfl rfl)) ?_
      refine D.p 2 rfl rfl rfl rfl rfl rfl (Pu.move rfl rfl) ?_
      refine D.p 3 rfl rfl rfl rfl rfl rfl (Pu.fieldAddr 1 rfl Tryz.underlying26 rfl sz24 rfl rfl) ?_
      refine D.p 4 rfl rfl rfl rfl rfl rfl (Pu.load rfl pl24 rfl (Ld.blk 1 rfl rfl)) ?_
      refine D.p 5 rfl rfl rfl rfl rfl rfl (Pu.len rfl Tryz.underlying24 rfl) ?_
      refine D.either hwf (e1 := 6) (e2 := 9) rfl ?_ ?_
      · skip
        refine ⟨_, _, rfl, rfl, fun _ _ => wanted_none rfl _, Ef.call call92 rfl rfl (Does.pre (fun w hw => hw.sub (Sub.keep 0 rfl (Sub.keep 0 rfl (Sub.keep 0 rfl (Sub.keep 0 rfl (Sub.keep 0 rfl (Sub.nil _))))))) (l01Next_ok _ _ _ s1 (↑r1.length : Int) w _   (by first | assumption | omega | (try dsimp only at *; omega)) (by first | assumption | omega | (try dsimp only at *; omega)))), rfl, rfl, ?_⟩
        rintro _ _ rfl hs
        refine ⟨fun w hw => hw.tail.sub (Sub.keep 0 rfl (Sub.keep 0 rfl (Sub.keep 0 rfl (Sub.keep 0 rfl (Sub.nil _))))), ?_⟩
        refine D.exi (fun r3 => ?_)
        refine D.sep ?_
        refine D.pur1 ?_
        rintro ⟨rfl, hr3_1, hr3_2, hr3_3⟩
        refine D.p 7 rfl rfl rfl rfl rfl rfl (Pu.indexAddrS ((r3).toNat) rfl Tryz.underlying24 sz51 rfl rfl (by omega) (by omega) (fun w hw => Own.some hw (i := 2) (by exact rfl) (by omega))) ?_
        have e1 : (r3).toNat < r1.length := by omega
        refine D.p 8 rfl rfl rfl rfl rfl rfl (Pu.loadAgg' (v := B3.v (r1[(r3).toNat]'e1)) rfl rfl ag51 sz51 rfl rfl (Ld.rds (C := B3C) (Ld.own 2 (by exact rfl)) (k := (r3).toNat) e1 rfl)) ?_
        refine D.eff hwf (e := 9) rfl rfl rfl rfl (Ef.alloc rfl zr51 rfl) rfl rfl rfl ?_
        rintro _ _ ⟨b3, rfl, rfl⟩ hs
        refine ⟨fun w hw => hw.sub (Sub.keep 2 rfl (Sub.keep 2 rfl (Sub.keep 2 rfl (Sub.keep 2 rfl (Sub.nil _))))), ?_⟩
        refine D.eff hwf (e := 10) rfl rfl rfl rfl (Ef.storeAll 0 rfl sz51 rfl rfl rfl rfl (by simp [Value.oneCell']) rfl) rfl rfl rfl ?_
        rintro _ _ rfl hs
        refine ⟨fun w hw => hw.sub (Sub.keep 2 rfl (Sub.keep 2 rfl (Sub.keep 2 rfl (Sub.keep 2 rfl (Sub.nil _))))), ?_⟩
        refine D.done hwf rfl ?_
        refine X.next ?_
        refine V.seq ?_
        refine V.region ?_
        refine O.p rfl rfl rfl (Pu.move rfl rfl) ?_
        refine O.p rfl rfl rfl (Pu.fieldAddr 0 rfl Tryz.underlying26 rfl sz2 rfl rfl) ?_
        refine O.p rfl rfl rfl (Pu.load rfl pl2 rfl (Ld.blk 3 rfl rfl)) ?_
        refine O.e rfl rfl rfl (Ef.call call92 rfl rfl (Does.pre (fun w hw => hw.sub (Sub.keep 1 rfl (Sub.keep 0 rfl (Sub.keep 0 rfl (Sub.keep 0 rfl (Sub.keep 0 rfl (Sub.keep 0 rfl (Sub.nil _)))))))) (l01Next_ok _ _ _ s1 pv1 w _   (by first | assumption | omega | (try dsimp only at *; omega)) (by first | assumption | omega | (try dsimp only at *; omega))))) ?_
        rintro _ _ rfl
        refine O.exi (fun r4 => ?_)
        refine O.sep ?_
        refine O.pur ?_
        rintro ⟨rfl, hr4_1, hr4_2, hr4_3⟩
        refine O.p rfl rfl rfl (Pu.assign rfl rfl) ?_
        refine O.nil ?_
        refine X.next ?_
        have hgk : good 15 (r1[(r3).toNat]'e1) := hpv1_1.g15 _ (List.getElem_mem _)
        have hbm := bmask_lt15 hgk
        have hor : bmask (r1[(r3).toNat]'e1) ||| 2 ^ (r4).toNat < 32768 := (Nat.or_lt_two_pow (n := 15) (bmask_lt15 hgk) (by have : 2 ^ (r4).toNat ≤ 2 ^ 14 := Nat.pow_le_pow_right (by decide) (by omega); omega))
        refine V.ent (Ent.cons (t := 2) rfl (Ent.cons (t := 4) rfl (Ent.cons (t := 5) rfl (Ent.cons (t := 7) rfl (Ent.cons (t := 8) rfl (Ent.nil _)))))) ?_
        refine V.drawS mo (by kernel_rfl) (Sub.keep 1 rfl (Sub.keep 1 rfl (Sub.keep 1 rfl (Sub.keep 1 rfl (Sub.keep 1 rfl (Sub.nil _)))))) (fun hwf => ?_)
        refine D.p 0 rfl rfl rfl rfl rfl rfl (Pu.loadAgg rfl ag26 sz26 rfl rfl (Ld.whole 2 rfl)) ?_
        refine D.p 1 rfl rfl rfl rfl rfl rfl (Pu.loadAgg' (v := B3.v (r1[(r3).toNat]'e1)) rfl rfl ag51 sz51 rfl rfl (Ld.whole 0 rfl)) ?_
        refine D.p 3 rfl rfl rfl rfl rfl rfl (Pu.move rfl rfl) ?_
        refine D.p 4 rfl rfl rfl rfl rfl rfl (Pu.convU' ((r4).toNat) (by omega) ⟨_, Tryz.underlying2⟩ Tryz.underlying90 (by omega) rfl rfl) ?_
        refine D.p 5 rfl rfl rfl rfl rfl rfl (Pu.shl1' (p := (r4).toNat) (by omega) K64.i (by omega) rfl rfl rfl) ?_
        refine D.eff hwf (e := 2) rfl rfl rfl rfl (Ef.callP call191 rfl rfl (fun w hw => l05Bits_ok (r1[(r3).toNat]'e1) w hgk)) rfl rfl rfl ?_
        rintro _ _ ⟨rfl, rfl⟩ hs
        refine ⟨fun w hw => hw.sub (Sub.keep 1 rfl (Sub.keep 1 rfl (Sub.keep 1 rfl (Sub.keep 1 rfl (Sub.keep 1 rfl (Sub.nil _)))))), ?_⟩
        refine D.p 6 rfl rfl rfl rfl rfl rfl (Pu.or (m := (bmask (r1[(r3).toNat]'e1))) (n := (2 ^ (r4).toNat)) K64.i (by omega) (pow_lt62 (by omega)) rfl rfl rfl) ?_
        refine D.eff hwf (e := 7) rfl rfl rfl rfl (Ef.call1 call102 rfl rfl (fun w hw => l07Span_ok  pv1 r1 ((bmask (r1[(r3).toNat]'e1)) ||| (2 ^ (r4).toNat)) _ _ w ((Ld.own 4 (by exact rfl)) w hw) (by first | omega | (simp only [tops_len, conts_len, bl, List.length_append, List.length_cons, List.length_nil] at *; omega)) hpv1_1.g15 hor)) rfl rfl rfl ?_
        rintro _ _ rfl hs
        refine ⟨fun w hw => hs w hw.tail, ?_⟩
        refine D.exi (fun t1 => ?_)
        refine D.pur1 ?_
        rintro ⟨rfl, ht1_1, ht1_2⟩
        refine D.eff hwf (e := 8) rfl rfl rfl rfl (Ef.call1 call101 rfl rfl (fun w hw => l07Points_ok t1 w (by omega))) rfl rfl rfl ?_
        rintro _ _ rfl hs
        refine ⟨fun w hw => hs w hw.tail, ?_⟩
        refine D.exi (fun p1 => ?_)
        refine D.sep ?_
        refine D.pur1 ?_
        rintro ⟨rfl, hp1⟩
        have hpl : p1.2.length ≤ 15 := by rw [hp1]; exact pts_len _
        refine D.p 9 rfl rfl rfl rfl rfl rfl (Pu.assign rfl rfl) ?_
        refine D.done hwf rfl ?_
        refine X.next ?_
        refine V.seq ?_
        refine V.region ?_
        refine O.p rfl rfl rfl (Pu.move rfl rfl) ?_
        refine O.p rfl rfl rfl (Pu.loadAgg rfl ag26 sz26 rfl rfl (Ld.whole 4 rfl)) ?_
        refine O.e rfl rfl rfl (Ef.call call94 rfl rfl (Does.pre (fun w hw => hw.sub (Sub.keep 1 rfl (Sub.keep 4 rfl (Sub.keep 0 rfl (Sub.keep 0 rfl (Sub.keep 0 rfl (Sub.keep 0 rfl (Sub.keep 0 rfl (Sub.nil _))))))))) (l01Bad_ok _ _ _ s1 pv1 r1 _ _ w _   (by first | assumption | omega | (try dsimp only at *; omega)) (by first | assumption | omega | (try dsimp only at *; omega)) hpv1_1))) ?_
        rintro _ _ rfl
        refine O.exi (fun pv2 => ?_)
        refine O.exi (fun r5A => ?_)
        refine O.exi (fun r5c => ?_)
        refine O.exi (fun r5 => ?_)
        refine O.sep ?_
        refine O.pur ?_
        rintro ⟨rfl, hpv2_1, hpv2_2⟩
        refine O.sep ?_
        refine O.p rfl rfl rfl (Pu.move rfl rfl) ?_
        refine O.s rfl rfl (Ef.storeAll 6 rfl sz26 rfl rfl rfl rfl (by simp [Value.oneCell']) rfl) ?_
        rintro _ _ rfl
        refine O.p rfl rfl rfl (Pu.assign rfl rfl) ?_
        refine O.nil ?_
        refine X.next ?_
        refine V.ret ?_
        refine X.retCell2 rfl ag26 sz26 rfl rfl rfl (Ld.whole 6 rfl) ?_
        exact fun w hw => St.mkExi pv2 (St.mkExi r5A (St.mkExi r5c (St.mkExi r5 (St.mkExi (p1.1.1) (St.mkExi (p1.1.2) (St.mkExi (p1.2) (St.unsep (St.addPur ⟨rfl, by omega, by omega⟩ (St.unsep (hw.sub (Sub.keep 0 rfl (Sub.keep 1 rfl (Sub.nil _)))))))))))))
      · skip
        refine ⟨_, _, rfl, rfl, fun _ _ => wanted_none rfl _, Ef.alloc rfl zr51 rfl, rfl, rfl, ?_⟩
        rintro _ _ ⟨b3, rfl, rfl⟩ hs
        refine ⟨fun w hw => hw.sub (Sub.keep 2 rfl (Sub.keep 2 rfl (Sub.keep 2 rfl (Sub.keep 2 rfl (Sub.nil _))))), ?_⟩
        refine D.eff hwf (e := 6) rfl rfl rfl rfl (Ef.call call92 rfl rfl (Does.pre (fun w hw => hw.sub (Sub.keep 1 rfl (Sub.keep 0 rfl (Sub.keep 0 rfl (Sub.keep 0 rfl (Sub.keep 0 rfl (Sub.keep 0 rfl (Sub.nil _)))))))) (l01Next_ok _ _ _ s1 (↑r1.length : Int) w _   (by first | assumption | omega | (try dsimp only at *; omega)) (by first | assumption | omega | (try dsimp only at *; omega))))) rfl rfl rfl ?_
        rintro _ _ rfl hs
        refine ⟨fun w hw => hw.tail.sub (Sub.keep 1 rfl (Sub.keep 1 rfl (Sub.keep 1 rfl (Sub.keep 1 rfl (Sub.nil _))))), ?_⟩
        refine D.exi (fun r3 => ?_)
        refine D.sep ?_
        refine D.pur1 ?_
        rintro ⟨rfl, hr3_1, hr3_2, hr3_3⟩
        refine D.p 7 rfl rfl rfl rfl rfl rfl (Pu.indexAddrS ((r3).toNat) rfl Tryz.underlying24 sz51 rfl rfl (by omega) (by omega) (fun w hw => Own.some hw (i := 2) (by exact rfl) (by omega))) ?_
        have e1 : (r3).toNat < r1.length := by omega
        refine D.p 8 rfl rfl rfl rfl rfl rfl (Pu.loadAgg' (v := B3.v (r1[(r3).toNat]'e1)) rfl rfl ag51 sz51 rfl rfl (Ld.rds (C := B3C) (Ld.own 2 (by exact rfl)) (k := (r3).toNat) e1 rfl)) ?_
        refine D.eff hwf (e := 10) rfl rfl rfl rfl (Ef.storeAll 1 rfl sz51 rfl rfl rfl rfl (by simp [Value.oneCell']) rfl) rfl rfl rfl ?_
        rintro _ _ rfl hs
        refine ⟨fun w hw => hw.sub (Sub.keep 2 rfl (Sub.keep 2 rfl (Sub.keep 2 rfl (Sub.keep 2 rfl (Sub.nil _))))), ?_⟩
        refine D.done hwf rfl ?_
        refine X.next ?_
        refine V.seq ?_
        refine V.region ?_
        refine O.p rfl rfl rfl (Pu.move rfl rfl) ?_
        refine O.p rfl rfl rfl (Pu.fieldAddr 0 rfl Tryz.underlying26 rfl sz2 rfl rfl) ?_
        refine O.p rfl rfl rfl (Pu.load rfl pl2 rfl (Ld.blk 3 rfl rfl)) ?_
        refine O.e rfl rfl rfl (Ef.call call92 rfl rfl (Does.pre (fun w hw => hw.sub (Sub.keep 0 rfl (Sub.keep 0 rfl (Sub.keep 0 rfl (Sub.keep 0 rfl (Sub.keep 0 rfl (Sub.keep 0 rfl (Sub.nil _)))))))) (l01Next_ok _ _ _ s1 pv1 w _   (by first | assumption | omega | (try dsimp only at *; omega)) (by first | assumption | omega | (try dsimp only at *; omega))))) ?_
        rintro _ _ rfl
        refine O.exi (fun r4 => ?_)
        refine O.sep ?_
        refine O.pur ?_
        rintro ⟨rfl, hr4_1, hr4_2, hr4_3⟩
        refine O.p rfl rfl rfl (Pu.assign rfl rfl) ?_
        refine O.nil ?_
        refine X.next ?_
        have hgk : good 15 (r1[(r3).toNat]'e1) := hpv1_1.g15 _ (List.getElem_mem _)
        have hbm := bmask_lt15 hgk
        have hor : bmask (r1[(r3).toNat]'e1) ||| 2 ^ (r4).toNat < 32768 := (Nat.or_lt_two_pow (n := 15) (bmask_lt15 hgk) (by have : 2 ^ (r4).toNat ≤ 2 ^ 14 := Nat.pow_le_pow_right (by decide) (by omega); omega))
        refine V.ent (Ent.cons (t := 2) rfl (Ent.cons (t := 4) rfl (Ent.cons (t := 5) rfl (Ent.cons (t := 7) rfl (Ent.cons (t := 8) rfl (Ent.nil _)))))) ?_
        refine V.drawS mo (by kernel_rfl) (Sub.keep 1 rfl (Sub.keep 1 rfl (Sub.keep 1 rfl (Sub.keep 1 rfl (Sub.keep 1 rfl (Sub.nil _)))))) (fun hwf => ?_)
        refine D.p 0 rfl rfl rfl rfl rfl rfl (Pu.loadAgg rfl ag26 sz26 rfl rfl (Ld.whole 2 rfl)) ?_
        refine D.p 1 rfl rfl rfl rfl rfl rfl (Pu.loadAgg' (v := B3.v (r1[(r3).toNat]'e1)) rfl rfl ag51 sz51 rfl rfl (Ld.whole 0 rfl)) ?_
        refine D.p 3 rfl rfl rfl rfl rfl rfl (Pu.move rfl rfl) ?_
        refine D.p 4 rfl rfl rfl rfl rfl rfl (Pu.convU' ((r4).toNat) (by omega) ⟨_, Tryz.underlying2⟩ Tryz.underlying90 (by omega) rfl rfl) ?_
        refine D.p 5 rfl rfl rfl rfl rfl rfl (Pu.shl1' (p := (r4).toNat) (by omega) K64.i (by omega) rfl rfl rfl) ?_
        refine D.eff hwf (e := 2) rfl rfl rfl rfl (Ef.callP call191 rfl rfl (fun w hw => l05Bits_ok (r1[(r3).toNat]'e1) w hgk)) rfl rfl rfl ?_
        rintro _ _ ⟨rfl, rfl⟩ hs
        refine ⟨fun w hw => hw.sub (Sub.keep 1 rfl (Sub.keep 1 rfl (Sub.keep 1 rfl (Sub.keep 1 rfl (Sub.keep 1 rfl (Sub.nil _)))))), ?_⟩
        refine D.p 6 rfl rfl rfl rfl rfl rfl (Pu.or (m := (bmask (r1[(r3).toNat]'e1))) (n := (2 ^ (r4).toNat)) K64.i (by omega) (pow_lt62 (by omega)) rfl rfl rfl) ?_
        refine D.eff hwf (e := 7) rfl rfl rfl rfl (Ef.call1 call102 rfl rfl (fun w hw => l07Span_ok  pv1 r1 ((bmask (r1[(r3).toNat]'e1)) ||| (2 ^ (r4).toNat)) _ _ w ((Ld.own 4 (by exact rfl)) w hw) (by first | omega | (simp only [tops_len, conts_len, bl, List.length_append, List.length_cons, List.length_nil] at *; omega)) hpv1_1.g15 hor)) rfl rfl rfl ?_
        rintro _ _ rfl hs
        refine ⟨fun w hw => hs w hw.tail, ?_⟩
        refine D.exi (fun t1 => ?_)
        refine D.pur1 ?_
        rintro ⟨rfl, ht1_1, ht1_2⟩
        refine D.eff hwf (e := 8) rfl rfl rfl rfl (Ef.call1 call101 rfl rfl (fun w hw => l07Points_ok t1 w (by omega))) rfl rfl rfl ?_
        rintro _ _ rfl hs
        refine ⟨fun w hw => hs w hw.tail, ?_⟩
        refine D.exi (fun p1 => ?_)
        refine D.sep ?_
        refine D.pur1 ?_
        rintro ⟨rfl, hp1⟩
        have hpl : p1.2.length ≤ 15 := by rw [hp1]; exact pts_len _
        refine D.p 9 rfl rfl rfl rfl rfl rfl (Pu.assign rfl rfl) ?_
        refine D.done hwf rfl ?_
        refine X.next ?_
        refine V.seq ?_
        refine V.region ?_
        refine O.p rfl rfl rfl (Pu.move rfl rfl) ?_
        refine O.p rfl rfl rfl (Pu.loadAgg rfl ag26 sz26 rfl rfl (Ld.whole 4 rfl)) ?_
        refine O.e rfl rfl rfl (Ef.call call94 rfl rfl (Does.pre (fun w hw => hw.sub (Sub.keep 1 rfl (Sub.keep 4 rfl (Sub.keep 0 rfl (Sub.keep 0 rfl (Sub.keep 0 rfl (Sub.keep 0 rfl (Sub.keep 0 rfl (Sub.nil _))))))))) (l01Bad_ok _ _ _ s1 pv1 r1 _ _ w _   (by first | assumption | omega | (try dsimp only at *; omega)) (by first | assumption | omega | (try dsimp only at *; omega)) hpv1_1))) ?_
        rintro _ _ rfl
        refine O.exi (fun pv2 => ?_)
        refine O.exi (fun r5A => ?_)
        refine O.exi (fun r5c => ?_)
        refine O.exi (fun r5 => ?_)
        refine O.sep ?_
        refine O.pur ?_
        rintro ⟨rfl, hpv2_1, hpv2_2⟩
        refine O.sep ?_
        refine O.p rfl rfl rfl (Pu.move rfl rfl) ?_
        refine O.s rfl rfl (Ef.storeAll 6 rfl sz26 rfl rfl rfl rfl (by simp [Value.oneCell']) rfl) ?_
        rintro _ _ rfl
        refine O.p rfl rfl rfl (Pu.assign rfl rfl) ?_
        refine O.nil ?_
        refine X.next ?_
        refine V.ret ?_
        refine X.retCell2 rfl ag26 sz26 rfl rfl rfl (Ld.whole 6 rfl) ?_
        exact fun w hw => St.mkExi pv2 (St.mkExi r5A (St.mkExi r5c (St.mkExi r5 (St.mkExi (p1.1.1) (St.mkExi (p1.1.2) (St.mkExi (p1.2) (St.unsep (St.addPur ⟨rfl, by omega, by omega⟩ (St.unsep (hw.sub (Sub.keep 0 rfl (Sub.keep 1 rfl (Sub.nil _)))))))))))))
    · skip
      refine V.skip ?_
      refine X.next ?_
      refine V.seq ?_
      refine V.region ?_
      refine O.p rfl rfl rfl (Pu.move rfl rfl) ?_
      refine O.p rfl rfl rfl (Pu.loadAgg rfl ag26 sz26 rfl rfl (Ld.whole 2 rfl)) ?_
      refine O.e rfl rfl rfl (Ef.call call94 rfl rfl (Does.pre (fun w hw => hw.sub (Sub.keep 0 rfl (Sub.keep 2 rfl (Sub.keep 0 rfl (Sub.keep 0 rfl (Sub.keep 0 rfl (Sub.nil _))))))) (l01Bad_ok _ _ _ s1 pv1 r1 _ _ w _   (by first | assumption | omega | (try dsimp only at *; omega)) (by first | assumption | omega | (try dsimp only at *; omega)) hpv1_1))) ?_
      rintro _ _ rfl
      refine O.exi (fun pv2 => ?_)
      refine O.exi (fun r3A => ?_)
      refine O.exi (fun r3c => ?_)
      refine O.exi (fun r3 => ?_)
      refine O.sep ?_
      refine O.pur ?_
      rintro ⟨rfl, hpv2_1, hpv2_2⟩
      refine O.sep ?_
      refine O.p rfl rfl rfl (Pu.move rfl rfl) ?_
      refine O.s rfl rfl (Ef.storeAll 4 rfl sz26 rfl rfl rfl rfl (by simp [Value.oneCell']) rfl) ?_
      rintro _ _ rfl
      refine O.p rfl rfl rfl (Pu.assign rfl rfl) ?_
      refine O.nil ?_
      refine X.next ?_
      refine V.ret ?_
      refine X.retCell2 rfl ag26 sz26 rfl rfl rfl (Ld.whole 4 rfl) ?_
      exact fun w hw => St.mkExi pv2 (St.mkExi r3A (St.mkExi r3c (St.mkExi r3 (St.mkExi o1A (St.mkExi o1c (St.mkExi o1 (St.unsep (St.addPur ⟨rfl, by omega, by omega⟩ (St.unsep (hw.sub (Sub.keep 0 rfl (Sub.keep 1 rfl (Sub.nil _)))))))))))))
  · skip
    refine O.gs rfl rfl rfl rfl rfl rfl ?_
    refine O.gs rfl rfl rfl rfl rfl rfl ?_
    refine O.gs rfl rfl rfl rfl rfl rfl ?_
    refine O.p rfl rfl rfl (Pu.pickF rfl rfl rfl) ?_
    refine O.nil ?_
    refine X.next ?_
    refine V.condF rfl ?_
    refine V.skip ?_
    refine X.next ?_
    refine V.seq ?_
    refine V.region ?_
    refine O.p rfl rfl rfl (Pu.move rfl rfl) ?_
    refine O.p rfl rfl rfl (Pu.loadAgg rfl ag26 sz26 rfl rfl (Ld.whole 2 rfl)) ?_
    refine O.e rfl rfl rfl (Ef.call call94 rfl rfl (Does.pre (fun w hw => hw.sub (Sub.keep 1 rfl (Sub.keep 2 rfl (Sub.keep 0 rfl (Sub.keep 0 rfl (Sub.keep 0 rfl (Sub.nil _))))))) (l01Bad_ok _ _ _ s1 pv1 r1 _ _ w _   (by first | assumption | omega | (try dsimp only at *; omega)) (by first | assumption | omega | (try dsimp only at *; omega)) hpv1_1))) ?_
    rintro _ _ rfl
    refine O.exi (fun pv3 => ?_)
    refine O.exi (fun r4A => ?_)
    refine O.exi (fun r4c => ?_)
    refine O.exi (fun r4 => ?_)
    refine O.sep ?_
    refine O.pur ?_
    rintro ⟨rfl, hpv3_1, hpv3_2⟩
    refine O.sep ?_
    refine O.p rfl rfl rfl (Pu.move rfl rfl) ?_
    refine O.s rfl rfl (Ef.storeAll 4 rfl sz26 rfl rfl rfl rfl (by simp [Value.oneCell']) rfl) ?_
    rintro _ _ rfl
    refine O.p rfl rfl rfl (Pu.assign rfl rfl) ?_
    refine O.nil ?_
    refine X.next ?_
    refine V.ret ?_
    refine X.retCell2 rfl ag26 sz26 rfl rfl rfl (Ld.whole 4 rfl) ?_
    exact fun w hw => St.mkExi pv3 (St.mkExi r4A (St.mkExi r4c (St.mkExi r4 (St.mkExi o1A (St.mkExi o1c (St.mkExi o1 (St.unsep (St.addPur ⟨rfl, by omega, by omega⟩ (St.unsep (hw.sub (Sub.keep 0 rfl (Sub.keep 1 rfl (Sub.nil _)))))))))))))
set_option maxRecDepth 100000 in
set_option maxHeartbeats 1000000 in
theorem DrawIsClosed_ok (code : List UInt8) (codeA : Option Addr) (codec : Nat) (w : World) (hcode : Rd U8C w codeA code) (lcode : code.length ≤ 1099511627776) (lc : code.length ≤ 1048576) : Does Tryz.prog 38 [.slice codeA code.length codec] w [] (fun rv_ => [.exi fun (pv : Int) => .exi fun (rA : Option Addr) => .exi fun (rc : Nat) => .exi fun (r : List B3) => .exi fun (oA : Option Addr) => .exi fun (oc : Nat) => .exi fun (o : List Int) => .sep (.pur (rv_ = .tuple #[.agg #[.int .i64 pv, .slice rA r.length rc], .slice oA o.length oc] ∧ r.length ≤ 4200 ∧ o.length ≤ 100)) (.sep (Own 51 B3C rA rc r) (Own 2 I64 oA oc o))]) := by
  refine Does.enter Tryz.func38 rfl rfl [(0, .slice codeA code.length codec)] rfl ?_
  refine V.seq ?_
  refine V.region ?_
  refine O.e rfl rfl rfl (Ef.alloc rfl zr26 rfl) ?_
  rintro _ _ ⟨b1, rfl, rfl⟩
  refine O.p rfl rfl rfl (Pu.assign rfl rfl) ?_
  refine O.nil ?_
  refine X.next ?_
  refine V.seq ?_
  refine V.region ?_
  refine O.p rfl rfl rfl (Pu.move rfl rfl) ?_
  refine O.e rfl rfl rfl (Ef.call1 call117 rfl rfl (fun w hw => l07With_ok  code _ _ w ((Ld.old hcode) w hw) (by first | omega | (simp only [tops_len, conts_len, bl, List.length_append, List.length_cons, List.length_nil] at *; omega)) (by first | assumption | omega | (try dsimp only at *; omega)))) ?_
  rintro _ _ rfl
  refine O.exi (fun pv1 => ?_)
  refine O.exi (fun r1A => ?_)
  refine O.exi (fun r1c => ?_)
  refine O.exi (fun r1 => ?_)
  refine O.exi (fun o1A => ?_)
  refine O.exi (fun o1c => ?_)
  refine O.exi (fun o1 => ?_)
  refine O.sep ?_
  refine O.pur ?_
  rintro ⟨rfl, hpv1_1, hpv1_2⟩
  refine O.sep ?_
  refine O.p rfl rfl rfl (Pu.move rfl rfl) ?_
  refine O.p rfl rfl rfl (Pu.extract rfl rfl rfl) ?_
  refine O.p rfl rfl rfl (Pu.extract rfl rfl rfl) ?_
  refine O.e rfl rfl rfl (Ef.alloc rfl zr26 rfl) ?_
  rintro _ _ ⟨b2, rfl, rfl⟩
  refine O.s rfl rfl (Ef.storeAll 0 rfl sz26 rfl rfl rfl rfl (by simp [Value.oneCell']) rfl) ?_
  rintro _ _ rfl
  refine O.p rfl rfl rfl (Pu.assign rfl rfl) ?_
  refine O.nil ?_
  refine X.next ?_
  refine V.seq ?_
  refine V.region ?_
  refine O.p rfl rfl rfl (Pu.loadAgg rfl ag26 sz26 rfl rfl (Ld.whole 0 rfl)) ?_
  refine O.p rfl rfl rfl (Pu.move rfl rfl) ?_
  refine O.s rfl rfl (Ef.storeAll 3 rfl sz26 rfl rfl rfl rfl (by simp [Value.oneCell']) rfl) ?_
  rintro _ _ rfl
  refine O.p rfl rfl rfl (Pu.assign rfl rfl) ?_
  refine O.nil ?_
  refine X.next ?_
  refine V.ret ?_
  refine X.retCell2 rfl ag26 sz26 rfl rfl rfl (Ld.whole 3 rfl) ?_
  exact fun w hw => St.mkExi pv1 (St.mkExi r1A (St.mkExi r1c (St.mkExi r1 (St.mkExi o1A (St.mkExi o1c (St.mkExi o1 (St.unsep (St.addPur ⟨rfl, hpv1_1, hpv1_2⟩ (St.unsep (hw.sub (Sub.keep 1 rfl (Sub.keep 1 rfl (Sub.nil _)))))))))))))
set_option maxRecDepth 100000 in
set_option maxHeartbeats 1000000 in
theorem FnSubsystems_ok (code : List UInt8) (codeA : Option Addr) (codec : Nat) (w : World) (hcode : Rd U8C w codeA code) (lcode : code.length ≤ 9223372036854775807) : Does Tryz.prog 4 [.slice codeA code.length codec] w [] (fun r => [.pur (r = .bool true)]) := by
  refine Does.enter Tryz.func4 rfl rfl [(0, .slice codeA code.length codec)] rfl ?_
  refine V.seq ?_
  refine V.region ?_
  refine O.p rfl rfl rfl (Pu.assign rfl rfl) ?_
  refine O.nil ?_
  refine X.next ?_
  refine V.seq ?_
  refine V.seq ?_
  refine V.region ?_
  refine O.p rfl rfl rfl (Pu.move rfl rfl) ?_
  refine O.e rfl rfl rfl (Ef.callP call7 rfl rfl (fun w hw => big_ok  code _ _ w ((Ld.old hcode) w hw) (by first | omega | (simp only [tops_len, conts_len, bl, List.length_append, List.length_cons, List.length_nil] at *; omega)) )) ?_
  rintro _ _ ⟨rfl, rfl⟩
  refine O.nil ?_
  refine X.next ?_
  refine V.condD rfl (fun c1 => ?_) (fun c1 => ?_)
  · skip
    refine V.seq ?_
    refine V.region ?_
    refine O.p rfl rfl rfl (Pu.assign rfl rfl) ?_
    refine O.nil ?_
    refine X.next ?_
    refine V.ret ?_
    refine X.thenRet ?_
    refine X.ret1 rfl rfl ?_
    exact fun w hw => St.retP rfl hw
  · skip
    have lc : code.length ≤ 1048576 := by omega
    refine V.skip ?_
    refine X.next ?_
    refine V.seq ?_
    refine V.region ?_
    refine O.p rfl rfl rfl (Pu.move rfl rfl) ?_
    refine O.e rfl rfl rfl (Ef.call1 call28 rfl rfl (fun w hw => DrawSpanOf_ok  code _ _ w ((Ld.old hcode) w hw) (by first | omega | (simp only [tops_len, conts_len, bl, List.length_append, List.length_cons, List.length_nil] at *; omega)) (by first | assumption | omega | (try dsimp only at *; omega)))) ?_
    rintro _ _ rfl
    refine O.exi (fun pv1 => ?_)
    refine O.exi (fun r1A => ?_)
    refine O.exi (fun r1c => ?_)
    refine O.exi (fun r1 => ?_)
    refine O.exi (fun o1A => ?_)
    refine O.exi (fun o1c => ?_)
    refine O.exi (fun o1 => ?_)
    refine O.sep ?_
    refine O.pur ?_
    rintro ⟨rfl, hpv1_1, hpv1_2⟩
    refine O.sep ?_
    refine O.p rfl rfl rfl (Pu.move rfl rfl) ?_
    refine O.p rfl rfl rfl (Pu.extract rfl rfl rfl) ?_
    refine O.p rfl rfl rfl (Pu.extract rfl rfl rfl) ?_
    refine O.e rfl rfl rfl (Ef.alloc rfl zr26 rfl) ?_
    rintro _ _ ⟨b1, rfl, rfl⟩
    refine O.s rfl rfl (Ef.storeAll 0 rfl sz26 rfl rfl rfl rfl (by simp [Value.oneCell']) rfl) ?_
    rintro _ _ rfl
    refine O.p rfl rfl rfl (Pu.assign rfl rfl) ?_
    refine O.nil ?_
    refine X.next ?_
    refine V.seq ?_
    refine V.region ?_
    refine O.p rfl rfl rfl (Pu.loadAgg rfl ag26 sz26 rfl rfl (Ld.whole 0 rfl)) ?_
    refine O.p rfl rfl rfl (Pu.move rfl rfl) ?_
    refine O.e rfl rfl rfl (Ef.call1 call29 rfl rfl (fun w hw => implSpanOf_ok  pv1 r1 o1 _ _ _ _ w ((Ld.own 1 (by exact rfl)) w hw) ((Ld.own 2 (by exact rfl)) w hw) (by first | omega | (simp only [tops_len, conts_len, bl, List.length_append, List.length_cons, List.length_nil] at *; omega)) (by first | omega | (simp only [tops_len, conts_len, bl, List.length_append, List.length_cons, List.length_nil] at *; omega)) )) ?_
    rintro _ _ rfl
    refine O.exi (fun o2A => ?_)
    refine O.exi (fun o2c => ?_)
    refine O.exi (fun o2 => ?_)
    refine O.sep ?_
    refine O.pur ?_
    rintro ⟨rfl, ho2_1⟩
    have hlo2 := ho2_1.len
    refine O.p rfl rfl rfl (Pu.move rfl rfl) ?_
    refine O.p rfl rfl rfl (Pu.extract rfl rfl rfl) ?_
    refine O.p rfl rfl rfl (Pu.extract rfl rfl rfl) ?_
    refine O.p rfl rfl rfl (Pu.assign rfl rfl) ?_
    refine O.p rfl rfl rfl (Pu.assign rfl rfl) ?_
    refine O.nil ?_
    refine X.next ?_
    refine V.seq ?_
    refine V.region ?_
    refine O.p rfl rfl rfl (Pu.loadAgg rfl ag26 sz26 rfl rfl (Ld.whole 1 rfl)) ?_
    refine O.p rfl rfl rfl (Pu.move rfl rfl) ?_
    refine O.e rfl rfl rfl (Ef.call1 call30 rfl rfl (fun w hw => specSpanOf_ok  pv1 r1 o1 _ _ _ _ w ((Ld.own 2 (by exact rfl)) w hw) ((Ld.own 3 (by exact rfl)) w hw) (by first | omega | (simp only [tops_len, conts_len, bl, List.length_append, List.length_cons, List.length_nil] at *; omega)) (by first | omega | (simp only [tops_len, conts_len, bl, List.length_append, List.length_cons, List.length_nil] at *; omega)) )) ?_
    rintro _ _ rfl
    refine O.exi (fun o3A => ?_)
    refine O.exi (fun o3c => ?_)
    refine O.exi (fun o3 => ?_)
    refine O.sep ?_
    refine O.pur ?_
    rintro ⟨rfl, ho3_1⟩
    have heq := ho2_1.unique ho3_1
    have hlo3 := ho3_1.len
    refine O.p rfl rfl rfl (Pu.move rfl rfl) ?_
    refine O.p rfl rfl rfl (Pu.extract rfl rfl rfl) ?_
    refine O.p rfl rfl rfl (Pu.extract rfl rfl rfl) ?_
    refine O.p rfl rfl rfl (Pu.assign rfl rfl) ?_
    refine O.p rfl rfl rfl (Pu.assign rfl rfl) ?_
    refine O.nil ?_
    refine X.next ?_
    refine V.seq ?_
    refine V.seq ?_
    refine V.region ?_
    refine O.p rfl rfl rfl (Pu.move rfl rfl) ?_
    refine O.p rfl rfl rfl (Pu.move rfl rfl) ?_
    refine O.p rfl rfl rfl (Pu.neq rfl rfl rfl) ?_
    refine O.p rfl rfl rfl (Pu.move rfl rfl) ?_
    refine O.splitN 55 rfl (fun c2 => ?_) (fun c2 => ?_)
    · skip
      refine O.gs rfl rfl rfl rfl rfl rfl ?_
      refine O.gs rfl rfl rfl rfl rfl rfl ?_
      refine O.gs rfl rfl rfl rfl rfl rfl ?_
      refine O.gs rfl rfl rfl rfl rfl rfl ?_
      refine O.p rfl rfl rfl (Pu.pickT rfl rfl rfl) ?_
      refine O.nil ?_
      refine X.next ?_
      refine V.condT rfl ?_
      refine V.seq ?_
      refine V.region ?_
      refine O.p rfl rfl rfl (Pu.assign rfl rfl) ?_
      refine O.nil ?_
      refine X.next ?_
      refine V.ret ?_
      refine X.thenRet ?_
      refine X.ret1 rfl rfl ?_
      exact absurd (by first | assumption | rfl | exact ⟨rfl, rfl⟩ | exact ⟨rfl, by assumption⟩ | exact ⟨⟨rfl, by assumption⟩, rfl, by assumption⟩ | omega | (simp only [*]; done) | (rw [rfl])) c2
    · skip
      refine O.gp rfl rfl rfl rfl rfl (Pu.move rfl rfl) ?_
      refine O.gp rfl rfl rfl rfl rfl (Pu.move rfl rfl) ?_
      refine O.ge rfl rfl rfl rfl rfl (Ef.callP call27 rfl rfl (fun w hw => likeInts_ok  o2 o3 _ _ _ _ w ((Ld.own 1 (by exact rfl)) w hw) ((Ld.own 0 (by exact rfl)) w hw) (by first | omega | (simp only [tops_len, conts_len, bl, List.length_append, List.length_cons, List.length_nil] at *; omega)) (by first | omega | (simp only [tops_len, conts_len, bl, List.length_append, List.length_cons, List.length_nil] at *; omega)) )) ?_
      rintro _ _ ⟨rfl, rfl⟩
      refine O.gp rfl rfl rfl rfl rfl (Pu.not rfl rfl) ?_
      refine O.p rfl rfl rfl (Pu.pickF rfl rfl rfl) ?_
      refine O.nil ?_
      refine X.next ?_
      refine V.condNot rfl (fun c3 => ?_) (fun c3 => ?_)
      · skip
        refine V.seq ?_
        refine V.region ?_
        refine O.p rfl rfl rfl (Pu.assign rfl rfl) ?_
        refine O.nil ?_
        refine X.next ?_
        refine V.ret ?_
        refine X.thenRet ?_
        refine X.ret1 rfl rfl ?_
        exact absurd (by first | assumption | rfl | exact ⟨rfl, rfl⟩ | exact ⟨rfl, by assumption⟩ | exact ⟨⟨rfl, by assumption⟩, rfl, by assumption⟩ | omega | (simp only [*]; done) | (rw [rfl])) c3
      · skip
        refine V.skip ?_
        refine X.next ?_
        refine V.seq ?_
        refine V.seq ?_
        refine V.region ?_
        refine O.p rfl rfl rfl (Pu.move rfl rfl) ?_
        refine O.p rfl rfl rfl (Pu.eql rfl rfl rfl) ?_
        refine O.nil ?_
        refine X.next ?_
        refine V.cut2 [] (Ent.cons (t := 0) rfl (Ent.nil _)) (Sub.keep 0 rfl (Sub.keep 0 rfl (Sub.keep 0 rfl (Sub.keep 0 rfl (Sub.keep 0 rfl (Sub.nil _)))))) ?_ ?_
        · skip
          refine V.condD rfl (fun c4 => ?_) (fun c4 => ?_)
          · skip
            obtain ⟨hS, hL⟩ := sc_ok c4
            obtain ⟨t, ht, hsp⟩ := ho2_1.1 c4
            have hL2 : SetL pv1 o2 := by rw [hsp]; exact span_setL hS hL ht
            have hc2 : scode pv1 r1 o2 = 0 := sc_0 hS hL2
            have hm2 : maskL o2 = t := by rw [hsp]; exact maskL_pts' ht.lt
            have hcl : scode pv1 r1 o2 = 0 ∧ Clo r1 (maskL o2) := ⟨hc2, by rw [hm2]; exact ht.clo⟩
            have hown : (scode pv1 r1 o1 = 0 ∧ Clo r1 (maskL o1)) ↔ o2 = o1 := ⟨fun h => by rw [hsp]; exact (span_own hS hL ht).2 h.2, fun h => ⟨c4, (span_own hS hL ht).1 (by rw [← hsp]; exact h)⟩⟩
            have hin : ∀ p ∈ o1, p ∈ o2 := fun p hp => by rw [hsp]; refine inc_pts ht.inc ?_; rw [setL_pts hL hS.hi]; exact hp
            refine V.seq ?_
            refine V.region ?_
            refine O.p rfl rfl rfl (Pu.loadAgg rfl ag26 sz26 rfl rfl (Ld.whole 2 rfl)) ?_
            refine O.p rfl rfl rfl (Pu.move rfl rfl) ?_
            refine O.e rfl rfl rfl (Ef.callP call31 rfl rfl (fun w hw => implIsClosed_ok  pv1 r1 o2 _ _ _ _ w ((Ld.own 3 (by exact rfl)) w hw) ((Ld.own 1 (by exact rfl)) w hw) (by first | omega | (simp only [tops_len, conts_len, bl, List.length_append, List.length_cons, List.length_nil] at *; omega)) (by first | omega | (simp only [tops_len, conts_len, bl, List.length_append, List.length_cons, List.length_nil] at *; omega)) )) ?_
            rintro _ _ ⟨rfl, rfl⟩
            refine O.p rfl rfl rfl (Pu.move rfl rfl) ?_
            refine O.p rfl rfl rfl (Pu.extract rfl rfl rfl) ?_
            refine O.p rfl rfl rfl (Pu.extract rfl rfl rfl) ?_
            refine O.p rfl rfl rfl (Pu.assign rfl rfl) ?_
            refine O.p rfl rfl rfl (Pu.assign rfl rfl) ?_
            refine O.nil ?_
            refine X.next ?_
            refine V.seq ?_
            refine V.region ?_
            refine O.p rfl rfl rfl (Pu.loadAgg rfl ag26 sz26 rfl rfl (Ld.whole 2 rfl)) ?_
            refine O.p rfl rfl rfl (Pu.move rfl rfl) ?_
            refine O.e rfl rfl rfl (Ef.call1 call29 rfl rfl (fun w hw => implSpanOf_ok  pv1 r1 o2 _ _ _ _ w ((Ld.own 3 (by exact rfl)) w hw) ((Ld.own 1 (by exact rfl)) w hw) (by first | omega | (simp only [tops_len, conts_len, bl, List.length_append, List.length_cons, List.length_nil] at *; omega)) (by first | omega | (simp only [tops_len, conts_len, bl, List.length_append, List.length_cons, List.length_nil] at *; omega)) )) ?_
            rintro _ _ rfl
            refine O.exi (fun o4A => ?_)
            refine O.exi (fun o4c => ?_)
            refine O.exi (fun o4 => ?_)
            refine O.sep ?_
            refine O.pur ?_
            rintro ⟨rfl, ho4_1⟩
            have hlo4 := ho4_1.len
            have hag : o4 = o2 := by obtain ⟨u, hu, e⟩ := ho4_1.1 hc2; rw [hm2] at hu; rw [e, ← ht.again.unique hu, ← hsp]
            refine O.p rfl rfl rfl (Pu.move rfl rfl) ?_
            refine O.p rfl rfl rfl (Pu.extract rfl rfl rfl) ?_
            refine O.p rfl rfl rfl (Pu.extract rfl rfl rfl) ?_
            refine O.p rfl rfl rfl (Pu.assign rfl rfl) ?_
            refine O.p rfl rfl rfl (Pu.assign rfl rfl) ?_
            refine O.nil ?_
            refine X.next ?_
            refine V.seq ?_
            refine V.region ?_
            refine O.p rfl rfl rfl (Pu.loadAgg rfl ag26 sz26 rfl rfl (Ld.whole 3 rfl)) ?_
            refine O.p rfl rfl rfl (Pu.move rfl rfl) ?_
            refine O.e rfl rfl rfl (Ef.callP call31 rfl rfl (fun w hw => implIsClosed_ok  pv1 r1 o1 _ _ _ _ w ((Ld.own 4 (by exact rfl)) w hw) ((Ld.own 5 (by exact rfl)) w hw) (by first | omega | (simp only [tops_len, conts_len, bl, List.length_append, List.length_cons, List.length_nil] at *; omega)) (by first | omega | (simp only [tops_len, conts_len, bl, List.length_append, List.length_cons, List.length_nil] at *; omega)) )) ?_
            rintro _ _ ⟨rfl, rfl⟩
            refine O.p rfl rfl rfl (Pu.move rfl rfl) ?_
            refine O.p rfl rfl rfl (Pu.extract rfl rfl rfl) ?_
            refine O.p rfl rfl rfl (Pu.extract rfl rfl rfl) ?_
            refine O.p rfl rfl rfl (Pu.assign rfl rfl) ?_
            refine O.p rfl rfl rfl (Pu.assign rfl rfl) ?_
            refine O.nil ?_
            refine X.next ?_
            refine V.seq ?_
            refine V.seq ?_
            refine V.region ?_
            refine O.p rfl rfl rfl (Pu.move rfl rfl) ?_
            refine O.p rfl rfl rfl (Pu.neq rfl rfl rfl) ?_
            refine O.p rfl rfl rfl (Pu.move rfl rfl) ?_
            refine O.splitN 83 rfl (fun c5 => ?_) (fun c5 => ?_)
            · skip
              refine O.gs rfl rfl rfl rfl rfl rfl ?_
              refine O.gs rfl rfl rfl rfl rfl rfl ?_
              refine O.p rfl rfl rfl (Pu.pickT rfl rfl rfl) ?_
              refine O.p rfl rfl rfl (Pu.move rfl rfl) ?_
              refine O.gs rfl rfl rfl rfl rfl rfl ?_
              refine O.gs rfl rfl rfl rfl rfl rfl ?_
              refine O.p rfl rfl rfl (Pu.pickT rfl rfl rfl) ?_
              refine O.p rfl rfl rfl (Pu.move rfl rfl) ?_
              refine O.gs rfl rfl rfl rfl rfl rfl ?_
              refine O.gs rfl rfl rfl rfl rfl rfl ?_
              refine O.p rfl rfl rfl (Pu.pickT rfl rfl rfl) ?_
              refine O.p rfl rfl rfl (Pu.move rfl rfl) ?_
              refine O.gs rfl rfl rfl rfl rfl rfl ?_
              refine O.gs rfl rfl rfl rfl rfl rfl ?_
              refine O.gs rfl rfl rfl rfl rfl rfl ?_
              refine O.gs rfl rfl rfl rfl rfl rfl ?_
              refine O.p rfl rfl rfl (Pu.pickT rfl rfl rfl) ?_
              refine O.p rfl rfl rfl (Pu.move rfl rfl) ?_
              refine O.gs rfl rfl rfl rfl rfl rfl ?_
              refine O.gs rfl rfl rfl rfl rfl rfl ?_
              refine O.gs rfl rfl rfl rfl rfl rfl ?_
              refine O.gs rfl rfl rfl rfl rfl rfl ?_
              refine O.gs rfl rfl rfl rfl rfl rfl ?_
              refine O.p rfl rfl rfl (Pu.pickT rfl rfl rfl) ?_
              refine O.nil ?_
              refine X.next ?_
              refine V.condT rfl ?_
              refine V.seq ?_
              refine V.region ?_
              refine O.p rfl rfl rfl (Pu.assign rfl rfl) ?_
              refine O.nil ?_
              refine X.next ?_
              refine V.ret ?_
              refine X.thenRet ?_
              refine X.thenRet ?_
              refine X.thenRet ?_
              refine X.ret1 rfl rfl ?_
              exact absurd (by first | assumption | rfl | exact ⟨rfl, rfl⟩ | exact ⟨rfl, by assumption⟩ | exact ⟨⟨rfl, by assumption⟩, rfl, by assumption⟩ | omega | (simp only [*]; done) | (rw [rfl])) c5
            · skip
              refine O.gp rfl rfl rfl rfl rfl (Pu.move rfl rfl) ?_
              refine O.gp rfl rfl rfl rfl rfl (Pu.neq rfl rfl rfl) ?_
              refine O.p rfl rfl rfl (Pu.pickF rfl rfl rfl) ?_
              refine O.p rfl rfl rfl (Pu.move rfl rfl) ?_
              refine O.splitN 87 rfl (fun c6 => ?_) (fun c6 => ?_)
              · skip
                refine O.gs rfl rfl rfl rfl rfl rfl ?_
                refine O.gs rfl rfl rfl rfl rfl rfl ?_
                refine O.p rfl rfl rfl (Pu.pickT rfl rfl rfl) ?_
                refine O.p rfl rfl rfl (Pu.move rfl rfl) ?_
                refine O.gs rfl rfl rfl rfl rfl rfl ?_
                refine O.gs rfl rfl rfl rfl rfl rfl ?_
                refine O.p rfl rfl rfl (Pu.pickT rfl rfl rfl) ?_
                refine O.p rfl rfl rfl (Pu.move rfl rfl) ?_
                refine O.gs rfl rfl rfl rfl rfl rfl ?_
                refine O.gs rfl rfl rfl rfl rfl rfl ?_
                refine O.gs rfl rfl rfl rfl rfl rfl ?_
                refine O.gs rfl rfl rfl rfl rfl rfl ?_
                refine O.p rfl rfl rfl (Pu.pickT rfl rfl rfl) ?_
                refine O.p rfl rfl rfl (Pu.move rfl rfl) ?_
                refine O.gs rfl rfl rfl rfl rfl rfl ?_
                refine O.gs rfl rfl rfl rfl rfl rfl ?_
                refine O.gs rfl rfl rfl rfl rfl rfl ?_
                refine O.gs rfl rfl rfl rfl rfl rfl ?_
                refine O.gs rfl rfl rfl rfl rfl rfl ?_
                refine O.p rfl rfl rfl (Pu.pickT rfl rfl rfl) ?_
                refine O.nil ?_
                refine X.next ?_
                refine V.condT rfl ?_
                refine V.seq ?_
                refine V.region ?_
                refine O.p rfl rfl rfl (Pu.assign rfl rfl) ?_
                refine O.nil ?_
                refine X.next ?_
                refine V.ret ?_
                refine X.thenRet ?_
                refine X.thenRet ?_
                refine X.thenRet ?_
                refine X.ret1 rfl rfl ?_
                exact absurd (by first | assumption | rfl | exact ⟨rfl, rfl⟩ | exact ⟨rfl, by assumption⟩ | exact ⟨⟨rfl, by assumption⟩, rfl, by assumption⟩ | omega | (simp only [*]; done) | (rw [rfl])) c6
              · skip
                refine O.gp rfl rfl rfl rfl rfl (Pu.move rfl rfl) ?_
                refine O.gp rfl rfl rfl rfl rfl (Pu.neq rfl rfl rfl) ?_
                refine O.p rfl rfl rfl (Pu.pickF rfl rfl rfl) ?_
                refine O.p rfl rfl rfl (Pu.move rfl rfl) ?_
                refine O.splitN 91 rfl (fun c7 => ?_) (fun c7 => ?_)
                · skip
                  refine O.gs rfl rfl rfl rfl rfl rfl ?_
                  refine O.gs rfl rfl rfl rfl rfl rfl ?_
                  refine O.p rfl rfl rfl (Pu.pickT rfl rfl rfl) ?_
                  refine O.p rfl rfl rfl (Pu.move rfl rfl) ?_
                  refine O.gs rfl rfl rfl rfl rfl rfl ?_
                  refine O.gs rfl rfl rfl rfl rfl rfl ?_
                  refine O.gs rfl rfl rfl rfl rfl rfl ?_
                  refine O.gs rfl rfl rfl rfl rfl rfl ?_
                  refine O.p rfl rfl rfl (Pu.pickT rfl rfl rfl) ?_
                  refine O.p rfl rfl rfl (Pu.move rfl rfl) ?_
                  refine O.gs rfl rfl rfl rfl rfl rfl ?_
                  refine O.gs rfl rfl rfl rfl rfl rfl ?_
                  refine O.gs rfl rfl rfl rfl rfl rfl ?_
                  refine O.gs rfl rfl rfl rfl rfl rfl ?_
                  refine O.gs rfl rfl rfl rfl rfl rfl ?_
                  refine O.p rfl rfl rfl (Pu.pickT rfl rfl rfl) ?_
                  refine O.nil ?_
                  refine X.next ?_
                  refine V.condT rfl ?_
                  refine V.seq ?_
                  refine V.region ?_
                  refine O.p rfl rfl rfl (Pu.assign rfl rfl) ?_
                  refine O.nil ?_
                  refine X.next ?_
                  refine V.ret ?_
                  refine X.thenRet ?_
                  refine X.thenRet ?_
                  refine X.thenRet ?_
                  refine X.ret1 rfl rfl ?_
                  exact absurd (by first | assumption | rfl | exact ⟨rfl, rfl⟩ | exact ⟨rfl, by assumption⟩ | exact ⟨⟨rfl, by assumption⟩, rfl, by assumption⟩ | omega | (simp only [*]; done) | (rw [rfl])) c7
                · skip
                  refine O.gp rfl rfl rfl rfl rfl (Pu.move rfl rfl) ?_
                  refine O.gp rfl rfl rfl rfl rfl (Pu.not rfl rfl) ?_
                  refine O.p rfl rfl rfl (Pu.pickF rfl rfl rfl) ?_
                  refine O.p rfl rfl rfl (Pu.move rfl rfl) ?_
                  refine O.splitN 95 rfl (fun c8 => ?_) (fun c8 => ?_)
                  · skip
                    refine O.gs rfl rfl rfl rfl rfl rfl ?_
                    refine O.gs rfl rfl rfl rfl rfl rfl ?_
                    refine O.gs rfl rfl rfl rfl rfl rfl ?_
                    refine O.gs rfl rfl rfl rfl rfl rfl ?_
                    refine O.p rfl rfl rfl (Pu.pickT rfl rfl rfl) ?_
                    refine O.p rfl rfl rfl (Pu.move rfl rfl) ?_
                    refine O.gs rfl rfl rfl rfl rfl rfl ?_
                    refine O.gs rfl rfl rfl rfl rfl rfl ?_
                    refine O.gs rfl rfl rfl rfl rfl rfl ?_
                    refine O.gs rfl rfl rfl rfl rfl rfl ?_
                    refine O.gs rfl rfl rfl rfl rfl rfl ?_
                    refine O.p rfl rfl rfl (Pu.pickT rfl rfl rfl) ?_
                    refine O.nil ?_
                    refine X.next ?_
                    refine V.condT rfl ?_
                    refine V.seq ?_
                    refine V.region ?_
                    refine O.p rfl rfl rfl (Pu.assign rfl rfl) ?_
                    refine O.nil ?_
                    refine X.next ?_
                    refine V.ret ?_
                    refine X.thenRet ?_
                    refine X.thenRet ?_
                    refine X.thenRet ?_
                    refine X.ret1 rfl rfl ?_
                    exact absurd (by first | assumption | rfl | exact ⟨rfl, rfl⟩ | exact ⟨rfl, by assumption⟩ | exact ⟨⟨rfl, by assumption⟩, rfl, by assumption⟩ | omega | (simp only [*]; done) | (rw [rfl])) c8
                  · skip
                    refine O.gp rfl rfl rfl rfl rfl (Pu.move rfl rfl) ?_
                    refine O.gp rfl rfl rfl rfl rfl (Pu.move rfl rfl) ?_
                    refine O.ge rfl rfl rfl rfl rfl (Ef.callP call27 rfl rfl (fun w hw => likeInts_ok  o4 o2 _ _ _ _ w ((Ld.own 0 (by exact rfl)) w hw) ((Ld.own 2 (by exact rfl)) w hw) (by first | omega | (simp only [tops_len, conts_len, bl, List.length_append, List.length_cons, List.length_nil] at *; omega)) (by first | omega | (simp only [tops_len, conts_len, bl, List.length_append, List.length_cons, List.length_nil] at *; omega)) )) ?_
                    rintro _ _ ⟨rfl, rfl⟩
                    refine O.gp rfl rfl rfl rfl rfl (Pu.not rfl rfl) ?_
                    refine O.p rfl rfl rfl (Pu.pickF rfl rfl rfl) ?_
                    refine O.p rfl rfl rfl (Pu.move rfl rfl) ?_
                    refine O.splitN 101 rfl (fun c9 => ?_) (fun c9 => ?_)
                    · skip
                      refine O.gs rfl rfl rfl rfl rfl rfl ?_
                      refine O.gs rfl rfl rfl rfl rfl rfl ?_
                      refine O.gs rfl rfl rfl rfl rfl rfl ?_
                      refine O.gs rfl rfl rfl rfl rfl rfl ?_
                      refine O.gs rfl rfl rfl rfl rfl rfl ?_
                      refine O.p rfl rfl rfl (Pu.pickT rfl rfl rfl) ?_
                      refine O.nil ?_
                      refine X.next ?_
                      refine V.condT rfl ?_
                      refine V.seq ?_
                      refine V.region ?_
                      refine O.p rfl rfl rfl (Pu.assign rfl rfl) ?_
                      refine O.nil ?_
                      refine X.next ?_
                      refine V.ret ?_
                      refine X.thenRet ?_
                      refine X.thenRet ?_
                      refine X.thenRet ?_
                      refine X.ret1 rfl rfl ?_
                      exact absurd (by first | assumption | rfl | exact ⟨rfl, rfl⟩ | exact ⟨rfl, by assumption⟩ | exact ⟨⟨rfl, by assumption⟩, rfl, by assumption⟩ | omega | (simp only [*]; done) | (rw [rfl])) c9
                    · skip
                      refine O.gp rfl rfl rfl rfl rfl (Pu.move rfl rfl) ?_
                      refine O.gp rfl rfl rfl rfl rfl (Pu.move rfl rfl) ?_
                      refine O.gp rfl rfl rfl rfl rfl (Pu.move rfl rfl) ?_
                      refine O.ge rfl rfl rfl rfl rfl (Ef.callP call27 rfl rfl (fun w hw => likeInts_ok  o2 o1 _ _ _ _ w ((Ld.own 2 (by exact rfl)) w hw) ((Ld.own 5 (by exact rfl)) w hw) (by first | omega | (simp only [tops_len, conts_len, bl, List.length_append, List.length_cons, List.length_nil] at *; omega)) (by first | omega | (simp only [tops_len, conts_len, bl, List.length_append, List.length_cons, List.length_nil] at *; omega)) )) ?_
                      rintro _ _ ⟨rfl, rfl⟩
                      refine O.gp rfl rfl rfl rfl rfl (Pu.boolNeq Tryz.underlying4 rfl rfl rfl) ?_
                      refine O.p rfl rfl rfl (Pu.pickF rfl rfl rfl) ?_
                      refine O.nil ?_
                      refine X.next ?_
                      refine V.cond rfl (fun c10 => ?_) (fun c10 => ?_)
                      · skip
                        exact (dec_ne hown c10).elim
                      · skip
                        refine V.skip ?_
                        refine X.next ?_
                        refine V.seq ?_
                        dsimp only [List.getElem_toArray, List.getElem_cons_zero, List.getElem_cons_succ]
                        refine V.region ?_
                        refine O.p rfl rfl rfl (Pu.assign rfl rfl) ?_
                        refine O.nil ?_
                        refine X.next ?_
                        refine V.block ?_
                        refine V.loop3 (β := Nat) (fun i => [(15, .int .i64 (i : Int))]) _ (fun i => []) _ (fun i => i ≤ o1.length) (fun i => o1.length - i) 0 (by omega) (Ent.cons rfl (Ent.nil _)) (Ent.cons (t := 0) rfl (Ent.cons (t := 4) rfl (Ent.cons (t := 5) rfl (Ent.nil _)))) (Sub.keep 0 rfl (Sub.keep 0 rfl (Sub.keep 0 rfl (Sub.keep 0 rfl (Sub.keep 0 rfl (Sub.keep 0 rfl (Sub.nil _))))))) ?_
                        rintro i hi
                        refine V.seq ?_
                        refine V.seq ?_
                        refine V.region ?_
                        refine O.p rfl rfl rfl (Pu.move rfl rfl) ?_
                        refine O.p rfl rfl rfl (Pu.move rfl rfl) ?_
                        refine O.p rfl rfl rfl (Pu.len rfl Tryz.underlying34 rfl) ?_
                        refine O.p rfl rfl rfl (Pu.lss rfl rfl rfl) ?_
                        refine O.nil ?_
                        refine X.next ?_
                        refine V.condD rfl (fun c11 => ?_) (fun c11 => ?_)
                        · skip
                          refine V.skip ?_
                          refine X.next ?_
                          refine V.seq ?_
                          refine V.block ?_
                          refine V.seq ?_
                          refine V.region ?_
                          refine O.p rfl rfl rfl (Pu.move rfl rfl) ?_
                          refine O.p rfl rfl rfl (Pu.move rfl rfl) ?_
                          refine O.p rfl rfl rfl (Pu.move rfl rfl) ?_
                          refine O.p rfl rfl rfl (Pu.indexAddrS (i) rfl Tryz.underlying34 sz2 rfl rfl (by omega) (by omega) (fun w hw => Own.some hw (i := 5) (by exact rfl) (by omega))) ?_
                          have e1 : i < o1.length := by omega
                          refine O.p rfl rfl rfl (Pu.load rfl pl2 rfl (Ld.rd (Ld.own 5 (by exact rfl)) (k := i) e1 rfl rfl)) ?_
                          refine O.e rfl rfl rfl (Ef.callP call32 rfl rfl (fun w hw => hasInt_ok  o2 (o1[i]'e1) _ _ w ((Ld.own 2 (by exact rfl)) w hw) (by first | omega | (simp only [tops_len, conts_len, bl, List.length_append, List.length_cons, List.length_nil] at *; omega)) )) ?_
                          rintro _ _ ⟨rfl, rfl⟩
                          refine O.p rfl rfl rfl (Pu.not rfl rfl) ?_
                          refine O.nil ?_
                          refine X.next ?_
                          refine V.condNot rfl (fun c12 => ?_) (fun c12 => ?_)
                          · skip
                            exact absurd (hin _ (List.getElem_mem _)) c12
                          · skip
                            refine V.skip ?_
                            refine X.blockNormal ?_
                            refine X.next ?_
                            refine V.region ?_
                            refine O.p rfl rfl rfl (Pu.move rfl rfl) ?_
                            refine O.p rfl rfl rfl (Pu.add64 (r := ((i + 1 : Nat) : Int)) rfl (by omega) rfl rfl rfl) ?_
                            refine O.p rfl rfl rfl (Pu.assign rfl rfl) ?_
                            refine O.nil ?_
                            exact X.back3 (i + 1) (by omega) (by first | omega | (dsimp only; omega)) (Ent.cons rfl (Ent.nil _)) (Ent.cons (t := 0) rfl (Ent.cons (t := 4) rfl (Ent.cons (t := 5) rfl (Ent.nil _)))) (Sub.keep 0 rfl (Sub.keep 0 rfl (Sub.keep 0 rfl (Sub.keep 0 rfl (Sub.keep 0 rfl (Sub.keep 0 rfl (Sub.nil _)))))))
                        · skip
                          refine V.exit ?_
                          refine X.thenExit ?_
                          refine X.thenExit ?_
                          refine X.blockHit ?_
                          exact X.cut (Ent.nil _) (Ent.cons (t := 0) rfl (Ent.nil _)) (Sub.keep 1 rfl (Sub.keep 1 rfl (Sub.keep 1 rfl (Sub.keep 1 rfl (Sub.keep 1 rfl (Sub.nil _))))))
          · skip
            refine V.skip ?_
            exact X.cut (Ent.nil _) (Ent.cons (t := 0) rfl (Ent.nil _)) (Sub.keep 0 rfl (Sub.keep 0 rfl (Sub.keep 0 rfl (Sub.keep 0 rfl (Sub.keep 0 rfl (Sub.nil _))))))
        · skip
          refine X.next ?_
          refine V.seq ?_
          refine V.region ?_
          refine O.p rfl rfl rfl (Pu.move rfl rfl) ?_
          refine O.e rfl rfl rfl (Ef.call1 call33 rfl rfl (fun w hw => DrawSubsystems_ok  code _ _ w ((Ld.old hcode) w hw) (by first | omega | (simp only [tops_len, conts_len, bl, List.length_append, List.length_cons, List.length_nil] at *; omega)) (by first | assumption | omega | (try dsimp only at *; omega)))) ?_
          rintro _ _ rfl
          refine O.exi (fun pv2 => ?_)
          refine O.exi (fun r2A => ?_)
          refine O.exi (fun r2c => ?_)
          refine O.exi (fun r2 => ?_)
          refine O.sep ?_
          refine O.pur ?_
          rintro ⟨rfl, hpv2_1⟩
          refine O.e rfl rfl rfl (Ef.alloc rfl zr26 rfl) ?_
          rintro _ _ ⟨b2, rfl, rfl⟩
          refine O.s rfl rfl (Ef.storeAll 0 rfl sz26 rfl rfl rfl rfl (by simp [Value.oneCell']) rfl) ?_
          rintro _ _ rfl
          refine O.nil ?_
          refine X.next ?_
          refine V.seq ?_
          refine V.region ?_
          refine O.p rfl rfl rfl (Pu.loadAgg rfl ag26 sz26 rfl rfl (Ld.whole 0 rfl)) ?_
          refine O.e rfl rfl rfl (Ef.call1 call34 rfl rfl (fun w hw => implSubsystems_ok  pv2 r2 _ _ w ((Ld.own 1 (by exact rfl)) w hw) (by first | omega | (simp only [tops_len, conts_len, bl, List.length_append, List.length_cons, List.length_nil] at *; omega)) )) ?_
          rintro _ _ rfl
          refine O.exi (fun p1A => ?_)
          refine O.exi (fun p1c => ?_)
          refine O.exi (fun p1 => ?_)
          refine O.sep ?_
          refine O.pur ?_
          rintro ⟨rfl, hp1_1⟩
          refine O.sep ?_
          refine O.fact (RowsA.len 1 rfl) (fun hn_p1 => ?_)
          have htl_p1 := tops_len p1
          have hsm := hp1_1.small
          have hcl_ := conts_len p1
          refine O.p rfl rfl rfl (Pu.move rfl rfl) ?_
          refine O.p rfl rfl rfl (Pu.extract rfl rfl rfl) ?_
          refine O.p rfl rfl rfl (Pu.extract rfl rfl rfl) ?_
          refine O.p rfl rfl rfl (Pu.assign rfl rfl) ?_
          refine O.p rfl rfl rfl (Pu.assign rfl rfl) ?_
          refine O.nil ?_
          refine X.next ?_
          refine V.seq ?_
          refine V.region ?_
          refine O.p rfl rfl rfl (Pu.loadAgg rfl ag26 sz26 rfl rfl (Ld.whole 2 rfl)) ?_
          refine O.e rfl rfl rfl (Ef.call1 call35 rfl rfl (fun w hw => specSubsystems_ok  pv2 r2 _ _ w ((Ld.own 3 (by exact rfl)) w hw) (by first | omega | (simp only [tops_len, conts_len, bl, List.length_append, List.length_cons, List.length_nil] at *; omega)) )) ?_
          rintro _ _ rfl
          refine O.exi (fun p2A => ?_)
          refine O.exi (fun p2c => ?_)
          refine O.exi (fun p2 => ?_)
          refine O.sep ?_
          refine O.pur ?_
          rintro ⟨rfl, hp2_1⟩
          refine O.sep ?_
          refine O.fact (RowsA.len 1 rfl) (fun hn_p2 => ?_)
          have htl_p2 := tops_len p2
          have hsq := SubR.unique hp1_1 hp2_1
          have hcl2_ := conts_len p2
          have hsm2 := hp2_1.small
          refine O.p rfl rfl rfl (Pu.move rfl rfl) ?_
          refine O.p rfl rfl rfl (Pu.extract rfl rfl rfl) ?_
          refine O.p rfl rfl rfl (Pu.extract rfl rfl rfl) ?_
          refine O.p rfl rfl rfl (Pu.assign rfl rfl) ?_
          refine O.p rfl rfl rfl (Pu.assign rfl rfl) ?_
          refine O.nil ?_
          refine X.next ?_
          refine V.seq ?_
          refine V.seq ?_
          refine V.region ?_
          refine O.p rfl rfl rfl (Pu.move rfl rfl) ?_
          refine O.p rfl rfl rfl (Pu.move rfl rfl) ?_
          refine O.p rfl rfl rfl (Pu.neq rfl rfl rfl) ?_
          refine O.p rfl rfl rfl (Pu.move rfl rfl) ?_
          refine O.splitN 136 rfl (fun c13 => ?_) (fun c13 => ?_)
          · skip
            refine O.gs rfl rfl rfl rfl rfl rfl ?_
            refine O.gs rfl rfl rfl rfl rfl rfl ?_
            refine O.gs rfl rfl rfl rfl rfl rfl ?_
            refine O.gs rfl rfl rfl rfl rfl rfl ?_
            refine O.p rfl rfl rfl (Pu.pickT rfl rfl rfl) ?_
            refine O.nil ?_
            refine X.next ?_
            refine V.condT rfl ?_
            refine V.seq ?_
            refine V.region ?_
            refine O.p rfl rfl rfl (Pu.assign rfl rfl) ?_
            refine O.nil ?_
            refine X.next ?_
            refine V.ret ?_
            refine X.thenRet ?_
            refine X.ret1 rfl rfl ?_
            exact absurd (by first | assumption | rfl | exact ⟨rfl, rfl⟩ | exact ⟨rfl, by assumption⟩ | exact ⟨⟨rfl, by assumption⟩, rfl, by assumption⟩ | omega | (simp only [*]; done) | (rw [rfl])) c13
          · skip
            refine O.gp rfl rfl rfl rfl rfl (Pu.move rfl rfl) ?_
            refine O.gp rfl rfl rfl rfl rfl (Pu.move rfl rfl) ?_
            refine O.ge rfl rfl rfl rfl rfl (Ef.callP call13 rfl rfl (fun w hw => rows5_ok  p1 p2 _ _ _ _ w ((Ld.ll 2 3 (by exact rfl) (by exact rfl)) w hw) ((Ld.ll 0 1 (by exact rfl) (by exact rfl)) w hw) (by first | omega | (simp only [tops_len, conts_len, bl, List.length_append, List.length_cons, List.length_nil] at *; omega)) (by first | omega | (simp only [tops_len, conts_len, bl, List.length_append, List.length_cons, List.length_nil] at *; omega)) )) ?_
            rintro _ _ ⟨rfl, rfl⟩
            refine O.gp rfl rfl rfl rfl rfl (Pu.not rfl rfl) ?_
            refine O.p rfl rfl rfl (Pu.pickF rfl rfl rfl) ?_
            refine O.nil ?_
            refine X.next ?_
            refine V.condNot rfl (fun c14 => ?_) (fun c14 => ?_)
            · skip
              refine V.seq ?_
              refine V.region ?_
              refine O.p rfl rfl rfl (Pu.assign rfl rfl) ?_
              refine O.nil ?_
              refine X.next ?_
              refine V.ret ?_
              refine X.thenRet ?_
              refine X.ret1 rfl rfl ?_
              exact absurd (by first | assumption | rfl | exact ⟨rfl, rfl⟩ | exact ⟨rfl, by assumption⟩ | exact ⟨⟨rfl, by assumption⟩, rfl, by assumption⟩ | omega | (simp only [*]; done) | (rw [rfl])) c14
            · skip
              refine V.skip ?_
              refine X.next ?_
              refine V.seq ?_
              refine V.seq ?_
              refine V.region ?_
              refine O.p rfl rfl rfl (Pu.move rfl rfl) ?_
              refine O.p rfl rfl rfl (Pu.eql rfl rfl rfl) ?_
              refine O.nil ?_
              refine X.next ?_
              refine V.cut2 [] (Ent.cons (t := 0) rfl (Ent.nil _)) (Sub.keep 0 rfl (Sub.keep 0 rfl (Sub.keep 0 rfl (Sub.keep 0 rfl (Sub.keep 0 rfl (Sub.keep 0 rfl (Sub.keep 0 rfl (Sub.keep 0 rfl (Sub.keep 0 rfl (Sub.keep 0 rfl (Sub.keep 0 rfl (Sub.nil _)))))))))))) ?_ ?_
              · skip
                refine V.condD rfl (fun c15 => ?_) (fun c15 => ?_)
                · skip
                  have hS := Decidable.byContradiction (fun h => absurd (if_neg h ▸ c15) (by decide))
                  have hpm := (hp1_1.1 hS).1
                  have h3c := three_count hS hpm
                  have hfw := hS.few
                  refine V.seq ?_
                  refine V.region ?_
                  refine O.p rfl rfl rfl (Pu.assign rfl rfl) ?_
                  refine O.nil ?_
                  refine X.next ?_
                  refine V.seq ?_
                  refine V.seq ?_
                  refine V.region ?_
                  refine O.p rfl rfl rfl (Pu.assign rfl rfl) ?_
                  refine O.nil ?_
                  refine X.next ?_
                  refine V.block ?_
                  refine V.loop3 (β := Nat × Nat) (fun x => [(21, .int .i64 (x.1 : Int)), (22, .int .i64 (x.2 : Int))]) _ (fun x => []) _ (fun x => x.2 ≤ p1.length ∧ x.1 = (((conts p1).take x.2).filter fun q => decide (q.length = 3)).length ∧ x.1 ≤ x.2) (fun x => p1.length - x.2) (0, 0) (by (try dsimp only); exact ⟨by omega, rfl, by omega⟩) (Ent.cons rfl (Ent.cons rfl (Ent.nil _))) (Ent.cons (t := 0) rfl (Ent.cons (t := 16) rfl (Ent.cons (t := 17) rfl (Ent.nil _)))) (Sub.keep 0 rfl (Sub.keep 0 rfl (Sub.keep 0 rfl (Sub.keep 0 rfl (Sub.keep 0 rfl (Sub.keep 0 rfl (Sub.keep 0 rfl (Sub.keep 0 rfl (Sub.keep 0 rfl (Sub.keep 0 rfl (Sub.keep 0 rfl (Sub.nil _)))))))))))) ?_
                  rintro ⟨three, i⟩ ⟨hi, hth, ht3⟩
                  dsimp only at hi hth ht3 ⊢
                  refine V.seq ?_
                  refine V.seq ?_
                  refine V.region ?_
                  refine O.p rfl rfl rfl (Pu.move rfl rfl) ?_
                  refine O.p rfl rfl rfl (Pu.move rfl rfl) ?_
                  refine O.p rfl rfl rfl (Pu.len rfl Tryz.underlying28 rfl) ?_
                  refine O.p rfl rfl rfl (Pu.lss rfl rfl rfl) ?_
                  refine O.nil ?_
                  refine X.next ?_
                  refine V.condD rfl (fun c16 => ?_) (fun c16 => ?_)
                  · skip
                    refine V.skip ?_
                    refine X.next ?_
                    refine V.seq ?_
                    refine V.block ?_
                    refine V.seq ?_
                    refine V.seq ?_
                    have ei : i < p1.length := by omega
                    have eg : (conts p1)[i]'(by omega) = (p1[i]'ei).2 := conts_get p1 _
                    have hst := cnt3_step (l := conts p1) (i := i) (by omega)
                    rw [eg] at hst
                    obtain ⟨s, hs15, hq, hqe, hq3, hqS⟩ := sub_at hS hpm (q := (p1[i]'ei).2) (by rw [← eg]; exact List.getElem_mem _)
                    have hq15 := pts_len s
                    rw [← hqe] at hq15
                    refine V.region ?_
                    refine O.p rfl rfl rfl (Pu.move rfl rfl) ?_
                    refine O.p rfl rfl rfl (Pu.move rfl rfl) ?_
                    refine O.p rfl rfl rfl (Pu.indexAddrS (i) rfl Tryz.underlying28 sz34 rfl rfl (by omega) (by omega) (fun w hw => Own.some hw (i := 2) (by exact rfl) (by omega))) ?_
                    refine O.p rfl rfl rfl (Pu.load rfl pl34 rfl (Ld.row (Ld.own 2 (by exact rfl)) hn_p1 ei rfl)) ?_
                    refine O.p rfl rfl rfl (Pu.len rfl Tryz.underlying34 rfl) ?_
                    refine O.p rfl rfl rfl (Pu.eql rfl rfl rfl) ?_
                    refine O.nil ?_
                    refine X.next ?_
                    refine V.condD rfl (fun c17 => ?_) (fun c17 => ?_)
                    · skip
                      refine V.region ?_
                      refine O.p rfl rfl rfl (Pu.move rfl rfl) ?_
                      refine O.p rfl rfl rfl (Pu.add64 (r := ((three + 1 : Nat) : Int)) rfl (by omega) rfl rfl rfl) ?_
                      refine O.p rfl rfl rfl (Pu.assign rfl rfl) ?_
                      refine O.nil ?_
                      refine X.next ?_
                      refine V.seq ?_
                      refine V.seq ?_
                      refine V.region ?_
                      refine O.p rfl rfl rfl (Pu.move rfl rfl) ?_
                      refine O.p rfl rfl rfl (Pu.gtr rfl rfl rfl) ?_
                      refine O.nil ?_
                      refine X.next ?_
                      refine V.condD rfl (fun c18 => ?_) (fun c18 => ?_)
                      · skip
                        refine V.exit ?_
                        refine X.thenExit ?_
                        refine X.blockHit ?_
                        refine X.next ?_
                        refine V.region ?_
                        refine O.p rfl rfl rfl (Pu.move rfl rfl) ?_
                        refine O.p rfl rfl rfl (Pu.add64 (r := ((i + 1 : Nat) : Int)) rfl (by omega) rfl rfl rfl) ?_
                        refine O.p rfl rfl rfl (Pu.assign rfl rfl) ?_
                        refine O.nil ?_
                        exact X.back3 (three + 1, i + 1) (by (try dsimp only); exact ⟨by omega, by rw [hst, ← hth]; first | rw [if_pos (by omega)] | rw [if_neg (by omega)]; first | rfl | omega, by omega⟩) (by first | omega | (dsimp only; omega)) (Ent.cons rfl (Ent.cons rfl (Ent.nil _))) (Ent.cons (t := 0) rfl (Ent.cons (t := 16) rfl (Ent.cons (t := 17) rfl (Ent.nil _)))) (Sub.keep 0 rfl (Sub.keep 0 rfl (Sub.keep 0 rfl (Sub.keep 0 rfl (Sub.keep 0 rfl (Sub.keep 0 rfl (Sub.keep 0 rfl (Sub.keep 0 rfl (Sub.keep 0 rfl (Sub.keep 0 rfl (Sub.keep 0 rfl (Sub.nil _))))))))))))
                      · skip
                        refine V.skip ?_
                        refine X.next ?_
                        refine V.seq ?_
                        refine V.draw mo (by kernel_rfl) (fun hwf => ?_)
                        refine D.p 0 rfl rfl rfl rfl rfl rfl (Pu.loadAgg rfl ag26 sz26 rfl rfl (Ld.whole 4 rfl)) ?_
                        refine D.p 1 rfl rfl rfl rfl rfl rfl (Pu.move rfl rfl) ?_
                        refine D.p 2 rfl rfl rfl rfl rfl rfl (Pu.move rfl rfl) ?_
                        refine D.p 3 rfl rfl rfl rfl rfl rfl (Pu.indexAddrS (i) rfl Tryz.underlying28 sz34 rfl rfl (by omega) (by omega) (fun w hw => Own.some hw (i := 2) (by exact rfl) (by omega))) ?_
                        refine D.p 4 rfl rfl rfl rfl rfl rfl (Pu.load rfl pl34 rfl (Ld.row (Ld.own 2 (by exact rfl)) hn_p1 ei rfl)) ?_
                        refine D.either hwf (e1 := 5) (e2 := 9) rfl ?_ ?_
                        · skip
                          refine ⟨_, _, rfl, rfl, fun _ _ => wanted_none rfl _, Ef.call1 call36 rfl rfl (fun w hw => blocksOnV_ok  pv2 r2 ((p1[i]'ei).2) _ _ _ _ w ((Ld.own 5 (by exact rfl)) w hw) ((Ld.rows 3 (by exact rfl) ei) w hw) (by first | omega | (simp only [tops_len, conts_len, bl, List.length_append, List.length_cons, List.length_nil] at *; omega)) (by omega) hS hqS hq3), rfl, rfl, ?_⟩
                          rintro _ _ rfl hs
                          refine ⟨fun w hw => hs w hw.tail, ?_⟩
                          refine D.exi (fun r3A => ?_)
                          refine D.exi (fun r3c => ?_)
                          refine D.exi (fun r3 => ?_)
                          refine D.sep ?_
                          refine D.pur1 ?_
                          rintro ⟨rfl, hr3_1⟩
                          have hon := on_sts hS hs15 hq (by rw [← hqe]; exact hq3)
                          rw [← hqe, ← hr3_1] at hon
                          have hfi : (if STS ((p1[i]'ei).2.length : Int) r3 then (0 : Int) else 1) = 0 := if_pos hon.1
                          have hln := hon.1.few
                          refine D.p 6 rfl rfl rfl rfl rfl rfl (Pu.move rfl rfl) ?_
                          refine D.p 7 rfl rfl rfl rfl rfl rfl (Pu.extract rfl rfl rfl) ?_
                          refine D.p 8 rfl rfl rfl rfl rfl rfl (Pu.extract rfl rfl rfl) ?_
                          refine D.eff hwf (e := 9) rfl rfl rfl rfl (Ef.alloc rfl zr26 rfl) rfl rfl rfl ?_
                          rintro _ _ ⟨b3, rfl, rfl⟩ hs
                          refine ⟨fun w hw => hw.sub (Sub.keep 2 rfl (Sub.keep 2 rfl (Sub.keep 2 rfl (Sub.keep 2 rfl (Sub.keep 2 rfl (Sub.keep 2 rfl (Sub.keep 2 rfl (Sub.keep 2 rfl (Sub.keep 2 rfl (Sub.keep 2 rfl (Sub.keep 2 rfl (Sub.nil _)))))))))))), ?_⟩
                          refine D.eff hwf (e := 10) rfl rfl rfl rfl (Ef.storeAll 0 rfl sz26 rfl rfl rfl rfl (by simp [Value.oneCell']) rfl) rfl rfl rfl ?_
                          rintro _ _ rfl hs
                          refine ⟨fun w hw => hw.sub (Sub.keep 2 rfl (Sub.keep 2 rfl (Sub.keep 2 rfl (Sub.keep 2 rfl (Sub.keep 2 rfl (Sub.keep 2 rfl (Sub.keep 2 rfl (Sub.keep 2 rfl (Sub.keep 2 rfl (Sub.keep 2 rfl (Sub.keep 2 rfl (Sub.nil _)))))))))))), ?_⟩
                          refine D.p 11 rfl rfl rfl rfl rfl rfl (Pu.assign rfl rfl) ?_
                          refine D.done hwf rfl ?_
                          refine X.next ?_
                          refine V.seq ?_
                          refine V.region ?_
                          refine O.p rfl rfl rfl (Pu.loadAgg rfl ag26 sz26 rfl rfl (Ld.whole 0 rfl)) ?_
                          refine O.e rfl rfl rfl (Ef.callP call37 rfl rfl (fun w hw => implIsFull_ok  (((p1[i]'ei).2).length : Int) r3 _ _ w ((Ld.own 1 (by exact rfl)) w hw) (by first | omega | (simp only [tops_len, conts_len, bl, List.length_append, List.length_cons, List.length_nil] at *; omega)) )) ?_
                          rintro _ _ ⟨rfl, rfl⟩
                          refine O.p rfl rfl rfl (Pu.move rfl rfl) ?_
                          refine O.p rfl rfl rfl (Pu.extract rfl rfl rfl) ?_
                          refine O.p rfl rfl rfl (Pu.extract rfl rfl rfl) ?_
                          refine O.p rfl rfl rfl (Pu.assign rfl rfl) ?_
                          refine O.p rfl rfl rfl (Pu.assign rfl rfl) ?_
                          refine O.nil ?_
                          refine X.next ?_
                          refine V.seq ?_
                          refine V.region ?_
                          refine O.p rfl rfl rfl (Pu.move rfl rfl) ?_
                          refine O.p rfl rfl rfl (Pu.neq rfl rfl rfl) ?_
                          refine O.p rfl rfl rfl (Pu.move rfl rfl) ?_
                          refine O.splitN 176 rfl (fun c19 => ?_) (fun c19 => ?_)
                          · skip
                            exact absurd rfl c19
                          · skip
                            refine O.gp rfl rfl rfl rfl rfl (Pu.move rfl rfl) ?_
                            refine O.gp rfl rfl rfl rfl rfl (Pu.neq rfl rfl rfl) ?_
                            refine O.p rfl rfl rfl (Pu.pickF rfl rfl rfl) ?_
                            refine O.p rfl rfl rfl (Pu.move rfl rfl) ?_
                            refine O.splitN 180 rfl (fun c20 => ?_) (fun c20 => ?_)
                            · skip
                              refine O.gs rfl rfl rfl rfl rfl rfl ?_
                              refine O.gs rfl rfl rfl rfl rfl rfl ?_
                              refine O.p rfl rfl rfl (Pu.pickT rfl rfl rfl) ?_
                              refine O.nil ?_
                              refine X.next ?_
                              refine V.condT rfl ?_
                              refine V.seq ?_
                              refine V.region ?_
                              refine O.p rfl rfl rfl (Pu.assign rfl rfl) ?_
                              refine O.nil ?_
                              refine X.next ?_
                              refine V.ret ?_
                              refine X.blockRet ?_
                              refine X.thenRet ?_
                              refine X.thenRet ?_
                              refine X.blockRet ?_
                              refine X.thenRet ?_
                              refine X.thenRet ?_
                              refine X.thenRet ?_
                              refine X.ret1 rfl rfl ?_
                              exact absurd (by first | assumption | rfl | exact ⟨rfl, rfl⟩ | exact ⟨rfl, by assumption⟩ | exact ⟨⟨rfl, by assumption⟩, rfl, by assumption⟩ | omega | (simp only [*]; done) | (rw [rfl])) c20
                            · skip
                              refine O.gp rfl rfl rfl rfl rfl (Pu.move rfl rfl) ?_
                              refine O.gp rfl rfl rfl rfl rfl (Pu.not rfl rfl) ?_
                              refine O.p rfl rfl rfl (Pu.pickF rfl rfl rfl) ?_
                              refine O.nil ?_
                              refine X.next ?_
                              refine V.condNot rfl (fun c21 => ?_) (fun c21 => ?_)
                              · skip
                                refine V.seq ?_
                                refine V.region ?_
                                refine O.p rfl rfl rfl (Pu.assign rfl rfl) ?_
                                refine O.nil ?_
                                refine X.next ?_
                                refine V.ret ?_
                                refine X.blockRet ?_
                                refine X.thenRet ?_
                                refine X.thenRet ?_
                                refine X.blockRet ?_
                                refine X.thenRet ?_
                                refine X.thenRet ?_
                                refine X.thenRet ?_
                                refine X.ret1 rfl rfl ?_
                                exact absurd (by first | assumption | rfl | exact ⟨rfl, rfl⟩ | exact ⟨rfl, by assumption⟩ | exact ⟨⟨rfl, by assumption⟩, rfl, by assumption⟩ | omega | (simp only [*]; done) | (rw [rfl])) c21
                              · skip
                                refine V.skip ?_
                                refine X.blockNormal ?_
                                refine X.next ?_
                                refine V.region ?_
                                refine O.p rfl rfl rfl (Pu.move rfl rfl) ?_
                                refine O.p rfl rfl rfl (Pu.add64 (r := ((i + 1 : Nat) : Int)) rfl (by omega) rfl rfl rfl) ?_
                                refine O.p rfl rfl rfl (Pu.assign rfl rfl) ?_
                                refine O.nil ?_
                                exact X.back3 (three + 1, i + 1) (by (try dsimp only); exact ⟨by omega, by rw [hst, ← hth]; first | rw [if_pos (by omega)] | rw [if_neg (by omega)]; first | rfl | omega, by omega⟩) (by first | omega | (dsimp only; omega)) (Ent.cons rfl (Ent.cons rfl (Ent.nil _))) (Ent.cons (t := 0) rfl (Ent.cons (t := 16) rfl (Ent.cons (t := 17) rfl (Ent.nil _)))) (Sub.keep 2 rfl (Sub.keep 2 rfl (Sub.keep 2 rfl (Sub.keep 2 rfl (Sub.keep 2 rfl (Sub.keep 2 rfl (Sub.keep 2 rfl (Sub.keep 2 rfl (Sub.keep 2 rfl (Sub.keep 2 rfl (Sub.keep 2 rfl (Sub.nil _))))))))))))
                        · skip
                          refine ⟨_, _, rfl, rfl, fun _ _ => wanted_none rfl _, Ef.alloc rfl zr26 rfl, rfl, rfl, ?_⟩
                          rintro _ _ ⟨b3, rfl, rfl⟩ hs
                          refine ⟨fun w hw => hw.sub (Sub.keep 1 rfl (Sub.keep 1 rfl (Sub.keep 1 rfl (Sub.keep 1 rfl (Sub.keep 1 rfl (Sub.keep 1 rfl (Sub.keep 1 rfl (Sub.keep 1 rfl (Sub.keep 1 rfl (Sub.keep 1 rfl (Sub.keep 1 rfl (Sub.nil _)))))))))))), ?_⟩
                          refine D.eff hwf (e := 5) rfl rfl rfl rfl (Ef.call1 call36 rfl rfl (fun w hw => blocksOnV_ok  pv2 r2 ((p1[i]'ei).2) _ _ _ _ w ((Ld.own 6 (by exact rfl)) w hw) ((Ld.rows 4 (by exact rfl) ei) w hw) (by first | omega | (simp only [tops_len, conts_len, bl, List.length_append, List.length_cons, List.length_nil] at *; omega)) (by omega) hS hqS hq3)) rfl rfl rfl ?_
                          rintro _ _ rfl hs
                          refine ⟨fun w hw => hs w hw.tail, ?_⟩
                          refine D.exi (fun r3A => ?_)
                          refine D.exi (fun r3c => ?_)
                          refine D.exi (fun r3 => ?_)
                          refine D.sep ?_
                          refine D.pur1 ?_
                          rintro ⟨rfl, hr3_1⟩
                          have hon := on_sts hS hs15 hq (by rw [← hqe]; exact hq3)
                          rw [← hqe, ← hr3_1] at hon
                          have hfi : (if STS ((p1[i]'ei).2.length : Int) r3 then (0 : Int) else 1) = 0 := if_pos hon.1
                          have hln := hon.1.few
                          refine D.p 6 rfl rfl rfl rfl rfl rfl (Pu.move rfl rfl) ?_
                          refine D.p 7 rfl rfl rfl rfl rfl rfl (Pu.extract rfl rfl rfl) ?_
                          refine D.p 8 rfl rfl rfl rfl rfl rfl (Pu.extract rfl rfl rfl) ?_
                          refine D.eff hwf (e := 10) rfl rfl rfl rfl (Ef.storeAll 1 rfl sz26 rfl rfl rfl rfl (by simp [Value.oneCell']) rfl) rfl rfl rfl ?_
                          rintro _ _ rfl hs
                          refine ⟨fun w hw => hw.sub (Sub.keep 2 rfl (Sub.keep 2 rfl (Sub.keep 2 rfl (Sub.keep 2 rfl (Sub.keep 2 rfl (Sub.keep 2 rfl (Sub.keep 2 rfl (Sub.keep 2 rfl (Sub.keep 2 rfl (Sub.keep 2 rfl (Sub.keep 2 rfl (Sub.nil _)))))))))))), ?_⟩
                          refine D.p 11 rfl rfl rfl rfl rfl rfl (Pu.assign rfl rfl) ?_
                          refine D.done hwf rfl ?_
                          refine X.next ?_
                          refine V.seq ?_
                          refine V.region ?_
                          refine O.p rfl rfl rfl (Pu.loadAgg rfl ag26 sz26 rfl rfl (Ld.whole 1 rfl)) ?_
                          refine O.e rfl rfl rfl (Ef.callP call37 rfl rfl (fun w hw => implIsFull_ok  (((p1[i]'ei).2).length : Int) r3 _ _ w ((Ld.own 0 (by exact rfl)) w hw) (by first | omega | (simp only [tops_len, conts_len, bl, List.length_append, List.length_cons, List.length_nil] at *; omega)) )) ?_
                          rintro _ _ ⟨rfl, rfl⟩
                          refine O.p rfl rfl rfl (Pu.move rfl rfl) ?_
                          refine O.p rfl rfl rfl (Pu.extract rfl rfl rfl) ?_
                          refine O.p rfl rfl rfl (Pu.extract rfl rfl rfl) ?_
                          refine O.p rfl rfl rfl (Pu.assign rfl rfl) ?_
                          refine O.p rfl rfl rfl (Pu.assign rfl rfl) ?_
                          refine O.nil ?_
                          refine X.next ?_
                          refine V.seq ?_
                          refine V.region ?_
                          refine O.p rfl rfl rfl (Pu.move rfl rfl) ?_
                          refine O.p rfl rfl rfl (Pu.neq rfl rfl rfl) ?_
                          refine O.p rfl rfl rfl (Pu.move rfl rfl) ?_
                          refine O.splitN 176 rfl (fun c19 => ?_) (fun c19 => ?_)
                          · skip
                            exact absurd rfl c19
                          · skip
                            refine O.gp rfl rfl rfl rfl rfl (Pu.move rfl rfl) ?_
                            refine O.gp rfl rfl rfl rfl rfl (Pu.neq rfl rfl rfl) ?_
                            refine O.p rfl rfl rfl (Pu.pickF rfl rfl rfl) ?_
                            refine O.p rfl rfl rfl (Pu.move rfl rfl) ?_
                            refine O.splitN 180 rfl (fun c20 => ?_) (fun c20 => ?_)
                            · skip
                              refine O.gs rfl rfl rfl rfl rfl rfl ?_
                              refine O.gs rfl rfl rfl rfl rfl rfl ?_
                              refine O.p rfl rfl rfl (Pu.pickT rfl rfl rfl) ?_
                              refine O.nil ?_
                              refine X.next ?_
                              refine V.condT rfl ?_
                              refine V.seq ?_
                              refine V.region ?_
                              refine O.p rfl rfl rfl (Pu.assign rfl rfl) ?_
                              refine O.nil ?_
                              refine X.next ?_
                              refine V.ret ?_
                              refine X.blockRet ?_
                              refine X.thenRet ?_
                              refine X.thenRet ?_
                              refine X.blockRet ?_
                              refine X.thenRet ?_
                              refine X.thenRet ?_
                              refine X.thenRet ?_
                              refine X.ret1 rfl rfl ?_
                              exact absurd (by first | assumption | rfl | exact ⟨rfl, rfl⟩ | exact ⟨rfl, by assumption⟩ | exact ⟨⟨rfl, by assumption⟩, rfl, by assumption⟩ | omega | (simp only [*]; done) | (rw [rfl])) c20
                            · skip
                              refine O.gp rfl rfl rfl rfl rfl (Pu.move rfl rfl) ?_
                              refine O.gp rfl rfl rfl rfl rfl (Pu.not rfl rfl) ?_
                              refine O.p rfl rfl rfl (Pu.pickF rfl rfl rfl) ?_
                              refine O.nil ?_
                              refine X.next ?_
                              refine V.condNot rfl (fun c21 => ?_) (fun c21 => ?_)
                              · skip
                                refine V.seq ?_
                                refine V.region ?_
                                refine O.p rfl rfl rfl (Pu.assign rfl rfl) ?_
                                refine O.nil ?_
                                refine X.next ?_
                                refine V.ret ?_
                                refine X.blockRet ?_
                                refine X.thenRet ?_
                                refine X.thenRet ?_
                                refine X.blockRet ?_
                                refine X.thenRet ?_
                                refine X.thenRet ?_
                                refine X.thenRet ?_
                                refine X.ret1 rfl rfl ?_
                                exact absurd (by first | assumption | rfl | exact ⟨rfl, rfl⟩ | exact ⟨rfl, by assumption⟩ | exact ⟨⟨rfl, by assumption⟩, rfl, by assumption⟩ | omega | (simp only [*]; done) | (rw [rfl])) c21
                              · skip
                                refine V.skip ?_
                                refine X.blockNormal ?_
                                refine X.next ?_
                                refine V.region ?_
                                refine O.p rfl rfl rfl (Pu.move rfl rfl) ?_
                                refine O.p rfl rfl rfl (Pu.add64 (r := ((i + 1 : Nat) : Int)) rfl (by omega) rfl rfl rfl) ?_
                                refine O.p rfl rfl rfl (Pu.assign rfl rfl) ?_
                                refine O.nil ?_
                                exact X.back3 (three + 1, i + 1) (by (try dsimp only); exact ⟨by omega, by rw [hst, ← hth]; first | rw [if_pos (by omega)] | rw [if_neg (by omega)]; first | rfl | omega, by omega⟩) (by first | omega | (dsimp only; omega)) (Ent.cons rfl (Ent.cons rfl (Ent.nil _))) (Ent.cons (t := 0) rfl (Ent.cons (t := 16) rfl (Ent.cons (t := 17) rfl (Ent.nil _)))) (Sub.keep 2 rfl (Sub.keep 2 rfl (Sub.keep 2 rfl (Sub.keep 2 rfl (Sub.keep 2 rfl (Sub.keep 2 rfl (Sub.keep 2 rfl (Sub.keep 2 rfl (Sub.keep 2 rfl (Sub.keep 2 rfl (Sub.keep 2 rfl (Sub.nil _))))))))))))
                    · skip
                      refine V.skip ?_
                      refine X.next ?_
                      refine V.seq ?_
                      refine V.seq ?_
                      refine V.region ?_
                      refine O.p rfl rfl rfl (Pu.move rfl rfl) ?_
                      refine O.p rfl rfl rfl (Pu.gtr rfl rfl rfl) ?_
                      refine O.nil ?_
                      refine X.next ?_
                      refine V.condD rfl (fun c19 => ?_) (fun c19 => ?_)
                      · skip
                        refine V.exit ?_
                        refine X.thenExit ?_
                        refine X.blockHit ?_
                        refine X.next ?_
                        refine V.region ?_
                        refine O.p rfl rfl rfl (Pu.move rfl rfl) ?_
                        refine O.p rfl rfl rfl (Pu.add64 (r := ((i + 1 : Nat) : Int)) rfl (by omega) rfl rfl rfl) ?_
                        refine O.p rfl rfl rfl (Pu.assign rfl rfl) ?_
                        refine O.nil ?_
                        exact X.back3 (three, i + 1) (by (try dsimp only); exact ⟨by omega, by rw [hst, ← hth]; first | rw [if_pos (by omega)] | rw [if_neg (by omega)]; first | rfl | omega, by omega⟩) (by first | omega | (dsimp only; omega)) (Ent.cons rfl (Ent.cons rfl (Ent.nil _))) (Ent.cons (t := 0) rfl (Ent.cons (t := 16) rfl (Ent.cons (t := 17) rfl (Ent.nil _)))) (Sub.keep 0 rfl (Sub.keep 0 rfl (Sub.keep 0 rfl (Sub.keep 0 rfl (Sub.keep 0 rfl (Sub.keep 0 rfl (Sub.keep 0 rfl (Sub.keep 0 rfl (Sub.keep 0 rfl (Sub.keep 0 rfl (Sub.keep 0 rfl (Sub.nil _))))))))))))
                      · skip
                        refine V.skip ?_
                        refine X.next ?_
                        refine V.seq ?_
                        refine V.draw mo (by kernel_rfl) (fun hwf => ?_)
                        refine D.p 0 rfl rfl rfl rfl rfl rfl (Pu.loadAgg rfl ag26 sz26 rfl rfl (Ld.whole 4 rfl)) ?_
                        refine D.p 1 rfl rfl rfl rfl rfl rfl (Pu.move rfl rfl) ?_
                        refine D.p 2 rfl rfl rfl rfl rfl rfl (Pu.move rfl rfl) ?_
                        refine D.p 3 rfl rfl rfl rfl rfl rfl (Pu.indexAddrS (i) rfl Tryz.underlying28 sz34 rfl rfl (by omega) (by omega) (fun w hw => Own.some hw (i := 2) (by exact rfl) (by omega))) ?_
                        refine D.p 4 rfl rfl rfl rfl rfl rfl (Pu.load rfl pl34 rfl (Ld.row (Ld.own 2 (by exact rfl)) hn_p1 ei rfl)) ?_
                        refine D.either hwf (e1 := 5) (e2 := 9) rfl ?_ ?_
                        · skip
                          refine ⟨_, _, rfl, rfl, fun _ _ => wanted_none rfl _, Ef.call1 call36 rfl rfl (fun w hw => blocksOnV_ok  pv2 r2 ((p1[i]'ei).2) _ _ _ _ w ((Ld.own 5 (by exact rfl)) w hw) ((Ld.rows 3 (by exact rfl) ei) w hw) (by first | omega | (simp only [tops_len, conts_len, bl, List.length_append, List.length_cons, List.length_nil] at *; omega)) (by omega) hS hqS hq3), rfl, rfl, ?_⟩
                          rintro _ _ rfl hs
                          refine ⟨fun w hw => hs w hw.tail, ?_⟩
                          refine D.exi (fun r3A => ?_)
                          refine D.exi (fun r3c => ?_)
                          refine D.exi (fun r3 => ?_)
                          refine D.sep ?_
                          refine D.pur1 ?_
                          rintro ⟨rfl, hr3_1⟩
                          have hon := on_sts hS hs15 hq (by rw [← hqe]; exact hq3)
                          rw [← hqe, ← hr3_1] at hon
                          have hfi : (if STS ((p1[i]'ei).2.length : Int) r3 then (0 : Int) else 1) = 0 := if_pos hon.1
                          have hln := hon.1.few
                          refine D.p 6 rfl rfl rfl rfl rfl rfl (Pu.move rfl rfl) ?_
                          refine D.p 7 rfl rfl rfl rfl rfl rfl (Pu.extract rfl rfl rfl) ?_
                          refine D.p 8 rfl rfl rfl rfl rfl rfl (Pu.extract rfl rfl rfl) ?_
                          refine D.eff hwf (e := 9) rfl rfl rfl rfl (Ef.alloc rfl zr26 rfl) rfl rfl rfl ?_
                          rintro _ _ ⟨b3, rfl, rfl⟩ hs
                          refine ⟨fun w hw => hw.sub (Sub.keep 2 rfl (Sub.keep 2 rfl (Sub.keep 2 rfl (Sub.keep 2 rfl (Sub.keep 2 rfl (Sub.keep 2 rfl (Sub.keep 2 rfl (Sub.keep 2 rfl (Sub.keep 2 rfl (Sub.keep 2 rfl (Sub.keep 2 rfl (Sub.nil _)))))))))))), ?_⟩
                          refine D.eff hwf (e := 10) rfl rfl rfl rfl (Ef.storeAll 0 rfl sz26 rfl rfl rfl rfl (by simp [Value.oneCell']) rfl) rfl rfl rfl ?_
                          rintro _ _ rfl hs
                          refine ⟨fun w hw => hw.sub (Sub.keep 2 rfl (Sub.keep 2 rfl (Sub.keep 2 rfl (Sub.keep 2 rfl (Sub.keep 2 rfl (Sub.keep 2 rfl (Sub.keep 2 rfl (Sub.keep 2 rfl (Sub.keep 2 rfl (Sub.keep 2 rfl (Sub.keep 2 rfl (Sub.nil _)))))))))))), ?_⟩
                          refine D.p 11 rfl rfl rfl rfl rfl rfl (Pu.assign rfl rfl) ?_
                          refine D.done hwf rfl ?_
                          refine X.next ?_
                          refine V.seq ?_
                          refine V.region ?_
                          refine O.p rfl rfl rfl (Pu.loadAgg rfl ag26 sz26 rfl rfl (Ld.whole 0 rfl)) ?_
                          refine O.e rfl rfl rfl (Ef.callP call37 rfl rfl (fun w hw => implIsFull_ok  (((p1[i]'ei).2).length : Int) r3 _ _ w ((Ld.own 1 (by exact rfl)) w hw) (by first | omega | (simp only [tops_len, conts_len, bl, List.length_append, List.length_cons, List.length_nil] at *; omega)) )) ?_
                          rintro _ _ ⟨rfl, rfl⟩
                          refine O.p rfl rfl rfl (Pu.move rfl rfl) ?_
                          refine O.p rfl rfl rfl (Pu.extract rfl rfl rfl) ?_
                          refine O.p rfl rfl rfl (Pu.extract rfl rfl rfl) ?_
                          refine O.p rfl rfl rfl (Pu.assign rfl rfl) ?_
                          refine O.p rfl rfl rfl (Pu.assign rfl rfl) ?_
                          refine O.nil ?_
                          refine X.next ?_
                          refine V.seq ?_
                          refine V.region ?_
                          refine O.p rfl rfl rfl (Pu.move rfl rfl) ?_
                          refine O.p rfl rfl rfl (Pu.neq rfl rfl rfl) ?_
                          refine O.p rfl rfl rfl (Pu.move rfl rfl) ?_
                          refine O.splitN 176 rfl (fun c20 => ?_) (fun c20 => ?_)
                          · skip
                            exact absurd rfl c20
                          · skip
                            refine O.gp rfl rfl rfl rfl rfl (Pu.move rfl rfl) ?_
                            refine O.gp rfl rfl rfl rfl rfl (Pu.neq rfl rfl rfl) ?_
                            refine O.p rfl rfl rfl (Pu.pickF rfl rfl rfl) ?_
                            refine O.p rfl rfl rfl (Pu.move rfl rfl) ?_
                            refine O.splitN 180 rfl (fun c21 => ?_) (fun c21 => ?_)
                            · skip
                              refine O.gs rfl rfl rfl rfl rfl rfl ?_
                              refine O.gs rfl rfl rfl rfl rfl rfl ?_
                              refine O.p rfl rfl rfl (Pu.pickT rfl rfl rfl) ?_
                              refine O.nil ?_
                              refine X.next ?_
                              refine V.condT rfl ?_
                              refine V.seq ?_
                              refine V.region ?_
                              refine O.p rfl rfl rfl (Pu.assign rfl rfl) ?_
                              refine O.nil ?_
                              refine X.next ?_
                              refine V.ret ?_
                              refine X.blockRet ?_
                              refine X.thenRet ?_
                              refine X.thenRet ?_
                              refine X.blockRet ?_
                              refine X.thenRet ?_
                              refine X.thenRet ?_
                              refine X.thenRet ?_
                              refine X.ret1 rfl rfl ?_
                              exact absurd (by first | assumption | rfl | exact ⟨rfl, rfl⟩ | exact ⟨rfl, by assumption⟩ | exact ⟨⟨rfl, by assumption⟩, rfl, by assumption⟩ | omega | (simp only [*]; done) | (rw [rfl])) c21
                            · skip
                              refine O.gp rfl rfl rfl rfl rfl (Pu.move rfl rfl) ?_
                              refine O.gp rfl rfl rfl rfl rfl (Pu.not rfl rfl) ?_
                              refine O.p rfl rfl rfl (Pu.pickF rfl rfl rfl) ?_
                              refine O.nil ?_
                              refine X.next ?_
                              refine V.condNot rfl (fun c22 => ?_) (fun c22 => ?_)
                              · skip
                                refine V.seq ?_
                                refine V.region ?_
                                refine O.p rfl rfl rfl (Pu.assign rfl rfl) ?_
                                refine O.nil ?_
                                refine X.next ?_
                                refine V.ret ?_
                                refine X.blockRet ?_
                                refine X.thenRet ?_
                                refine X.thenRet ?_
                                refine X.blockRet ?_
                                refine X.thenRet ?_
                                refine X.thenRet ?_
                                refine X.thenRet ?_
                                refine X.ret1 rfl rfl ?_
                                exact absurd (by first | assumption | rfl | exact ⟨rfl, rfl⟩ | exact ⟨rfl, by assumption⟩ | exact ⟨⟨rfl, by assumption⟩, rfl, by assumption⟩ | omega | (simp only [*]; done) | (rw [rfl])) c22
                              · skip
                                refine V.skip ?_
                                refine X.blockNormal ?_
                                refine X.next ?_
                                refine V.region ?_
                                refine O.p rfl rfl rfl (Pu.move rfl rfl) ?_
                                refine O.p rfl rfl rfl (Pu.add64 (r := ((i + 1 : Nat) : Int)) rfl (by omega) rfl rfl rfl) ?_
                                refine O.p rfl rfl rfl (Pu.assign rfl rfl) ?_
                                refine O.nil ?_
                                exact X.back3 (three, i + 1) (by (try dsimp only); exact ⟨by omega, by rw [hst, ← hth]; first | rw [if_pos (by omega)] | rw [if_neg (by omega)]; first | rfl | omega, by omega⟩) (by first | omega | (dsimp only; omega)) (Ent.cons rfl (Ent.cons rfl (Ent.nil _))) (Ent.cons (t := 0) rfl (Ent.cons (t := 16) rfl (Ent.cons (t := 17) rfl (Ent.nil _)))) (Sub.keep 2 rfl (Sub.keep 2 rfl (Sub.keep 2 rfl (Sub.keep 2 rfl (Sub.keep 2 rfl (Sub.keep 2 rfl (Sub.keep 2 rfl (Sub.keep 2 rfl (Sub.keep 2 rfl (Sub.keep 2 rfl (Sub.keep 2 rfl (Sub.nil _))))))))))))
                        · skip
                          refine ⟨_, _, rfl, rfl, fun _ _ => wanted_none rfl _, Ef.alloc rfl zr26 rfl, rfl, rfl, ?_⟩
                          rintro _ _ ⟨b3, rfl, rfl⟩ hs
                          refine ⟨fun w hw => hw.sub (Sub.keep 1 rfl (Sub.keep 1 rfl (Sub.keep 1 rfl (Sub.keep 1 rfl (Sub.keep 1 rfl (Sub.keep 1 rfl (Sub.keep 1 rfl (Sub.keep 1 rfl (Sub.keep 1 rfl (Sub.keep 1 rfl (Sub.keep 1 rfl (Sub.nil _)))))))))))), ?_⟩
                          refine D.eff hwf (e := 5) rfl rfl rfl rfl (Ef.call1 call36 rfl rfl (fun w hw => blocksOnV_ok  pv2 r2 ((p1[i]'ei).2) _ _ _ _ w ((Ld.own 6 (by exact rfl)) w hw) ((Ld.rows 4 (by exact rfl) ei) w hw) (by first | omega | (simp only [tops_len, conts_len, bl, List.length_append, List.length_cons, List.length_nil] at *; omega)) (by omega) hS hqS hq3)) rfl rfl rfl ?_
                          rintro _ _ rfl hs
                          refine ⟨fun w hw => hs w hw.tail, ?_⟩
                          refine D.exi (fun r3A => ?_)
                          refine D.exi (fun r3c => ?_)
                          refine D.exi (fun r3 => ?_)
                          refine D.sep ?_
                          refine D.pur1 ?_
                          rintro ⟨rfl, hr3_1⟩
                          have hon := on_sts hS hs15 hq (by rw [← hqe]; exact hq3)
                          rw [← hqe, ← hr3_1] at hon
                          have hfi : (if STS ((p1[i]'ei).2.length : Int) r3 then (0 : Int) else 1) = 0 := if_pos hon.1
                          have hln := hon.1.few
                          refine D.p 6 rfl rfl rfl rfl rfl rfl (Pu.move rfl rfl) ?_
                          refine D.p 7 rfl rfl rfl rfl rfl rfl (Pu.extract rfl rfl rfl) ?_
                          refine D.p 8 rfl rfl rfl rfl rfl rfl (Pu.extract rfl rfl rfl) ?_
                          refine D.eff hwf (e := 10) rfl rfl rfl rfl (Ef.storeAll 1 rfl sz26 rfl rfl rfl rfl (by simp [Value.oneCell']) rfl) rfl rfl rfl ?_
                          rintro _ _ rfl hs
                          refine ⟨fun w hw => hw.sub (Sub.keep 2 rfl (Sub.keep 2 rfl (Sub.keep 2 rfl (Sub.keep 2 rfl (Sub.keep 2 rfl (Sub.keep 2 rfl (Sub.keep 2 rfl (Sub.keep 2 rfl (Sub.keep 2 rfl (Sub.keep 2 rfl (Sub.keep 2 rfl (Sub.nil _)))))))))))), ?_⟩
                          refine D.p 11 rfl rfl rfl rfl rfl rfl (Pu.assign rfl rfl) ?_
                          refine D.done hwf rfl ?_
                          refine X.next ?_
                          refine V.seq ?_
                          refine V.region ?_
                          refine O.p rfl rfl rfl (Pu.loadAgg rfl ag26 sz26 rfl rfl (Ld.whole 1 rfl)) ?_
                          refine O.e rfl rfl rfl (Ef.callP call37 rfl rfl (fun w hw => implIsFull_ok  (((p1[i]'ei).2).length : Int) r3 _ _ w ((Ld.own 0 (by exact rfl)) w hw) (by first | omega | (simp only [tops_len, conts_len, bl, List.length_append, List.length_cons, List.length_nil] at *; omega)) )) ?_
                          rintro _ _ ⟨rfl, rfl⟩
                          refine O.p rfl rfl rfl (Pu.move rfl rfl) ?_
                          refine O.p rfl rfl rfl (Pu.extract rfl rfl rfl) ?_
                          refine O.p rfl rfl rfl (Pu.extract rfl rfl rfl) ?_
                          refine O.p rfl rfl rfl (Pu.assign rfl rfl) ?_
                          refine O.p rfl rfl rfl (Pu.assign rfl rfl) ?_
                          refine O.nil ?_
                          refine X.next ?_
                          refine V.seq ?_
                          refine V.region ?_
                          refine O.p rfl rfl rfl (Pu.move rfl rfl) ?_
                          refine O.p rfl rfl rfl (Pu.neq rfl rfl rfl) ?_
                          refine O.p rfl rfl rfl (Pu.move rfl rfl) ?_
                          refine O.splitN 176 rfl (fun c20 => ?_) (fun c20 => ?_)
                          · skip
                            exact absurd rfl c20
                          · skip
                            refine O.gp rfl rfl rfl rfl rfl (Pu.move rfl rfl) ?_
                            refine O.gp rfl rfl rfl rfl rfl (Pu.neq rfl rfl rfl) ?_
                            refine O.p rfl rfl rfl (Pu.pickF rfl rfl rfl) ?_
                            refine O.p rfl rfl rfl (Pu.move rfl rfl) ?_
                            refine O.splitN 180 rfl (fun c21 => ?_) (fun c21 => ?_)
                            · skip
                              refine O.gs rfl rfl rfl rfl rfl rfl ?_
                              refine O.gs rfl rfl rfl rfl rfl rfl ?_
                              refine O.p rfl rfl rfl (Pu.pickT rfl rfl rfl) ?_
                              refine O.nil ?_
                              refine X.next ?_
                              refine V.condT rfl ?_
                              refine V.seq ?_
                              refine V.region ?_
                              refine O.p rfl rfl rfl (Pu.assign rfl rfl) ?_
                              refine O.nil ?_
                              refine X.next ?_
                              refine V.ret ?_
                              refine X.blockRet ?_
                              refine X.thenRet ?_
                              refine X.thenRet ?_
                              refine X.blockRet ?_
                              refine X.thenRet ?_
                              refine X.thenRet ?_
                              refine X.thenRet ?_
                              refine X.ret1 rfl rfl ?_
                              exact absurd (by first | assumption | rfl | exact ⟨rfl, rfl⟩ | exact ⟨rfl, by assumption⟩ | exact ⟨⟨rfl, by assumption⟩, rfl, by assumption⟩ | omega | (simp only [*]; done) | (rw [rfl])) c21
                            · skip
                              refine O.gp rfl rfl rfl rfl rfl (Pu.move rfl rfl) ?_
                              refine O.gp rfl rfl rfl rfl rfl (Pu.not rfl rfl) ?_
                              refine O.p rfl rfl rfl (Pu.pickF rfl rfl rfl) ?_
                              refine O.nil ?_
                              refine X.next ?_
                              refine V.condNot rfl (fun c22 => ?_) (fun c22 => ?_)
                              · skip
                                refine V.seq ?_
                                refine V.region ?_
                                refine O.p rfl rfl rfl (Pu.assign rfl rfl) ?_
                                refine O.nil ?_
                                refine X.next ?_
                                refine V.ret ?_
                                refine X.blockRet ?_
                                refine X.thenRet ?_
                                refine X.thenRet ?_
                                refine X.blockRet ?_
                                refine X.thenRet ?_
                                refine X.thenRet ?_
                                refine X.thenRet ?_
                                refine X.ret1 rfl rfl ?_
                                exact absurd (by first | assumption | rfl | exact ⟨rfl, rfl⟩ | exact ⟨rfl, by assumption⟩ | exact ⟨⟨rfl, by assumption⟩, rfl, by assumption⟩ | omega | (simp only [*]; done) | (rw [rfl])) c22
                              · skip
                                refine V.skip ?_
                                refine X.blockNormal ?_
                                refine X.next ?_
                                refine V.region ?_
                                refine O.p rfl rfl rfl (Pu.move rfl rfl) ?_
                                refine O.p rfl rfl rfl (Pu.add64 (r := ((i + 1 : Nat) : Int)) rfl (by omega) rfl rfl rfl) ?_
                                refine O.p rfl rfl rfl (Pu.assign rfl rfl) ?_
                                refine O.nil ?_
                                exact X.back3 (three, i + 1) (by (try dsimp only); exact ⟨by omega, by rw [hst, ← hth]; first | rw [if_pos (by omega)] | rw [if_neg (by omega)]; first | rfl | omega, by omega⟩) (by first | omega | (dsimp only; omega)) (Ent.cons rfl (Ent.cons rfl (Ent.nil _))) (Ent.cons (t := 0) rfl (Ent.cons (t := 16) rfl (Ent.cons (t := 17) rfl (Ent.nil _)))) (Sub.keep 2 rfl (Sub.keep 2 rfl (Sub.keep 2 rfl (Sub.keep 2 rfl (Sub.keep 2 rfl (Sub.keep 2 rfl (Sub.keep 2 rfl (Sub.keep 2 rfl (Sub.keep 2 rfl (Sub.keep 2 rfl (Sub.keep 2 rfl (Sub.nil _))))))))))))
                  · skip
                    refine V.exit ?_
                    refine X.thenExit ?_
                    refine X.thenExit ?_
                    refine X.blockHit ?_
                    refine X.next ?_
                    refine V.seq ?_
                    rw [List.take_of_length_le (by omega)] at hth
                    refine V.region ?_
                    refine O.p rfl rfl rfl (Pu.move rfl rfl) ?_
                    refine O.p rfl rfl rfl (Pu.fieldAddr 1 rfl Tryz.underlying26 rfl sz24 rfl rfl) ?_
                    refine O.p rfl rfl rfl (Pu.load rfl pl24 rfl (Ld.blk 4 rfl rfl)) ?_
                    refine O.p rfl rfl rfl (Pu.len rfl Tryz.underlying24 rfl) ?_
                    refine O.p rfl rfl rfl (Pu.neq rfl rfl rfl) ?_
                    refine O.nil ?_
                    refine X.next ?_
                    refine V.condNot rfl (fun c20 => ?_) (fun c20 => ?_)
                    · skip
                      refine V.seq ?_
                      refine V.region ?_
                      refine O.p rfl rfl rfl (Pu.assign rfl rfl) ?_
                      refine O.nil ?_
                      refine X.next ?_
                      refine V.ret ?_
                      refine X.thenRet ?_
                      refine X.thenRet ?_
                      refine X.ret1 rfl rfl ?_
                      exact absurd (by first | assumption | rfl | exact ⟨rfl, rfl⟩ | exact ⟨rfl, by assumption⟩ | exact ⟨⟨rfl, by assumption⟩, rfl, by assumption⟩ | omega | (simp only [*]; done) | (rw [rfl])) c20
                    · skip
                      refine V.skip ?_
                      exact X.cut (Ent.nil _) (Ent.cons (t := 0) rfl (Ent.nil _)) (Sub.keep 0 rfl (Sub.keep 0 rfl (Sub.keep 0 rfl (Sub.keep 0 rfl (Sub.keep 0 rfl (Sub.keep 0 rfl (Sub.keep 0 rfl (Sub.keep 0 rfl (Sub.keep 0 rfl (Sub.keep 0 rfl (Sub.keep 0 rfl (Sub.nil _))))))))))))
                · skip
                  refine V.skip ?_
                  exact X.cut (Ent.nil _) (Ent.cons (t := 0) rfl (Ent.nil _)) (Sub.keep 0 rfl (Sub.keep 0 rfl (Sub.keep 0 rfl (Sub.keep 0 rfl (Sub.keep 0 rfl (Sub.keep 0 rfl (Sub.keep 0 rfl (Sub.keep 0 rfl (Sub.keep 0 rfl (Sub.keep 0 rfl (Sub.keep 0 rfl (Sub.nil _))))))))))))
              · skip
                refine X.next ?_
                refine V.seq ?_
                refine V.region ?_
                refine O.p rfl rfl rfl (Pu.move rfl rfl) ?_
                refine O.e rfl rfl rfl (Ef.call1 call38 rfl rfl (fun w hw => DrawIsClosed_ok  code _ _ w ((Ld.old hcode) w hw) (by first | omega | (simp only [tops_len, conts_len, bl, List.length_append, List.length_cons, List.length_nil] at *; omega)) (by first | assumption | omega | (try dsimp only at *; omega)))) ?_
                rintro _ _ rfl
                refine O.exi (fun pv3 => ?_)
                refine O.exi (fun r3A => ?_)
                refine O.exi (fun r3c => ?_)
                refine O.exi (fun r3 => ?_)
                refine O.exi (fun o5A => ?_)
                refine O.exi (fun o5c => ?_)
                refine O.exi (fun o5 => ?_)
                refine O.sep ?_
                refine O.pur ?_
                rintro ⟨rfl, hpv3_1, hpv3_2⟩
                refine O.sep ?_
                refine O.p rfl rfl rfl (Pu.move rfl rfl) ?_
                refine O.p rfl rfl rfl (Pu.extract rfl rfl rfl) ?_
                refine O.p rfl rfl rfl (Pu.extract rfl rfl rfl) ?_
                refine O.e rfl rfl rfl (Ef.alloc rfl zr26 rfl) ?_
                rintro _ _ ⟨b3, rfl, rfl⟩
                refine O.s rfl rfl (Ef.storeAll 0 rfl sz26 rfl rfl rfl rfl (by simp [Value.oneCell']) rfl) ?_
                rintro _ _ rfl
                refine O.p rfl rfl rfl (Pu.assign rfl rfl) ?_
                refine O.nil ?_
                refine X.next ?_
                refine V.seq ?_
                refine V.region ?_
                refine O.p rfl rfl rfl (Pu.loadAgg rfl ag26 sz26 rfl rfl (Ld.whole 0 rfl)) ?_
                refine O.p rfl rfl rfl (Pu.move rfl rfl) ?_
                refine O.e rfl rfl rfl (Ef.callP call31 rfl rfl (fun w hw => implIsClosed_ok  pv3 r3 o5 _ _ _ _ w ((Ld.own 1 (by exact rfl)) w hw) ((Ld.own 2 (by exact rfl)) w hw) (by first | omega | (simp only [tops_len, conts_len, bl, List.length_append, List.length_cons, List.length_nil] at *; omega)) (by first | omega | (simp only [tops_len, conts_len, bl, List.length_append, List.length_cons, List.length_nil] at *; omega)) )) ?_
                rintro _ _ ⟨rfl, rfl⟩
                refine O.p rfl rfl rfl (Pu.move rfl rfl) ?_
                refine O.p rfl rfl rfl (Pu.extract rfl rfl rfl) ?_
                refine O.p rfl rfl rfl (Pu.extract rfl rfl rfl) ?_
                refine O.p rfl rfl rfl (Pu.assign rfl rfl) ?_
                refine O.p rfl rfl rfl (Pu.assign rfl rfl) ?_
                refine O.nil ?_
                refine X.next ?_
                refine V.seq ?_
                refine V.region ?_
                refine O.p rfl rfl rfl (Pu.loadAgg rfl ag26 sz26 rfl rfl (Ld.whole 0 rfl)) ?_
                refine O.p rfl rfl rfl (Pu.move rfl rfl) ?_
                refine O.e rfl rfl rfl (Ef.callP call39 rfl rfl (fun w hw => specIsClosed_ok  pv3 r3 o5 _ _ _ _ w ((Ld.own 1 (by exact rfl)) w hw) ((Ld.own 2 (by exact rfl)) w hw) (by first | omega | (simp only [tops_len, conts_len, bl, List.length_append, List.length_cons, List.length_nil] at *; omega)) (by first | omega | (simp only [tops_len, conts_len, bl, List.length_append, List.length_cons, List.length_nil] at *; omega)) )) ?_
                rintro _ _ ⟨rfl, rfl⟩
                refine O.p rfl rfl rfl (Pu.move rfl rfl) ?_
                refine O.p rfl rfl rfl (Pu.extract rfl rfl rfl) ?_
                refine O.p rfl rfl rfl (Pu.extract rfl rfl rfl) ?_
                refine O.p rfl rfl rfl (Pu.assign rfl rfl) ?_
                refine O.p rfl rfl rfl (Pu.assign rfl rfl) ?_
                refine O.nil ?_
                refine X.next ?_
                refine V.seq ?_
                refine V.region ?_
                refine O.p rfl rfl rfl (Pu.move rfl rfl) ?_
                refine O.p rfl rfl rfl (Pu.move rfl rfl) ?_
                refine O.p rfl rfl rfl (Pu.eql rfl rfl rfl) ?_
                refine O.p rfl rfl rfl (Pu.move rfl rfl) ?_
                refine O.splitD 209 rfl (fun c21 => ?_) (fun c21 => ?_)
                · skip
                  refine O.gp rfl rfl rfl rfl rfl (Pu.move rfl rfl) ?_
                  refine O.gp rfl rfl rfl rfl rfl (Pu.move rfl rfl) ?_
                  refine O.gp rfl rfl rfl rfl rfl (Pu.boolEql Tryz.underlying4 rfl rfl rfl) ?_
                  refine O.p rfl rfl rfl (Pu.pickT rfl rfl rfl) ?_
                  refine O.p rfl rfl rfl (Pu.assign rfl rfl) ?_
                  refine O.nil ?_
                  refine X.next ?_
                  refine V.ret ?_
                  refine X.ret1 rfl rfl ?_
                  exact fun w hw => St.retP (by simp) hw
                · skip
                  refine O.gs rfl rfl rfl rfl rfl rfl ?_
                  refine O.gs rfl rfl rfl rfl rfl rfl ?_
                  refine O.gs rfl rfl rfl rfl rfl rfl ?_
                  refine O.p rfl rfl rfl (Pu.pickF rfl rfl rfl) ?_
                  refine O.p rfl rfl rfl (Pu.assign rfl rfl) ?_
                  refine O.nil ?_
                  refine X.next ?_
                  refine V.ret ?_
                  refine X.ret1 rfl rfl ?_
                  exact absurd (by first | assumption | rfl | exact ⟨rfl, rfl⟩ | exact ⟨rfl, by assumption⟩ | exact ⟨⟨rfl, by assumption⟩, rfl, by assumption⟩ | omega | (simp only [*]; done) | (rw [rfl])) c21
end Go.Proofs.YtgjfcepnkllklaaGreat
