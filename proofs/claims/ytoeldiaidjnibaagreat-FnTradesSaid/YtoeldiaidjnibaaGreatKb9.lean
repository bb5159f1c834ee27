/-
  Contracts, part 9.
-/
import Derived.Test.YtoeldiaidjnibaaGreatKb8
set_option linter.unusedVariables false
set_option linter.unusedSimpArgs false
namespace Go.Proofs.YtoeldiaidjnibaaGreat
open Go Go.RowKit Go.Vc Go.Proofs
set_option maxRecDepth 100000 in
set_option maxHeartbeats 1000000 in
theorem l04Draw_ok (cA : Option Addr) (cc : Nat) (code : List UInt8) (s : Nat) (w0 : World) (H : List Assn) (hc : Rd U8C w0 cA code) (lc : code.length ≤ 1048576) : Does Tryz.prog 51 [.pointer (some ⟨s, 0, none⟩)] w0 (SrcK 118 cA cc code s :: H) (fun r => [.exi fun (pv : Int) => .exi fun (oA : Option Addr) => .exi fun (oc : Nat) => .exi fun (o : List B3) => .exi fun (iA : Option Addr) => .exi fun (ic : Nat) => .exi fun (i : List B3) => .sep (.pur (r = .agg #[.int .i64 pv, .slice oA o.length oc, .slice iA i.length ic] ∧ o.length ≤ 1000 ∧ i.length ≤ 1000)) (.sep (TrdA oA oc o iA ic i) (SrcK 118 cA cc code s))] ++ H) := by
 refine Does.enter Tryz.func51 rfl rfl [(0, .pointer (some ⟨s, 0, none⟩))] rfl (V.seq (V.region (O.f rfl (Ef.alloc rfl zr28 rfl) ?_)))
 rintro _ _ ⟨b1, rfl, rfl⟩
 refine O.nil (X.next (V.seq (V.region (O.m rfl (O.f rfl (Ef.call call97 rfl rfl (Does.pre (fun w hw => hw.sub (Sub.keep 1 rfl (Sub.k (Sub.refl _)))) (l04DrawOf_ok _ _ _ s w0 _   (by first | assumption | omega | (try dsimp only at *; omega)) (by first | assumption | omega | (try dsimp only at *; omega))))) ?_)))))
 rintro _ _ rfl
 refine O.exi (fun pv1 => O.exi (fun o1A => O.exi (fun o1c => O.exi (fun o1 => O.exi (fun i1A => O.exi (fun i1c => O.exi (fun i1 => O.sep (O.pur ?_))))))))
 rintro ⟨rfl, hpv1_1, hpv1_2⟩
 refine O.sep (O.f rfl (Ef.alloc rfl zr28 rfl) ?_)
 rintro _ _ ⟨b2, rfl, rfl⟩
 refine O.s rfl rfl (Ef.storeAll 0 rfl sz28 rfl rfl rfl rfl (by simp [Value.oneCell']) rfl) ?_
 rintro _ _ rfl
 refine O.nil (X.next (V.seq (V.seq (V.region (O.m rfl (O.f rfl (Ef.call call68 rfl rfl (Does.pre (fun w hw => hw.sub (Sub.keep 2 rfl (Sub.k (Sub.k (Sub.k (Sub.refl _)))))) (l01Next_ok _ _ _ s (40 : Int) w0 _   (by first | assumption | omega | (try dsimp only at *; omega)) (by first | assumption | omega | (try dsimp only at *; omega))))) ?_))))))
 rintro _ _ rfl
 refine O.exi (fun r1 => O.sep (O.pur ?_))
 rintro ⟨rfl, hr1_1, hr1_2, hr1_3⟩
 refine O.nil (X.next (V.block (V.seq (V.region (O.q rfl (Pu.eql rfl rfl rfl) (O.m rfl (O.nil (X.next (V.condD rfl (fun c1 => ?_) (fun c1 => ?_))))))))))
 ·refine V.seq (V.region (O.q rfl (Pu.fieldAddr 2 rfl Tryz.underlying28 rfl sz24 rfl rfl) (O.q rfl (Pu.load rfl pl24 rfl (Ld.blk 1 rfl rfl)) (O.q rfl (Pu.len rfl Tryz.underlying24 rfl) (O.q rfl (Pu.gtr rfl rfl rfl) (O.nil (X.next (V.condD rfl (fun c2 => ?_) (fun c2 => ?_)))))))))
  ·refine V.region (O.q rfl (Pu.fieldAddr 2 rfl Tryz.underlying28 rfl sz24 rfl rfl) (O.q rfl (Pu.load rfl pl24 rfl (Ld.blk 1 rfl rfl)) (O.q rfl (Pu.sliceL 1 rfl Tryz.underlying24 sz69 rfl rfl (by omega) (by omega)) (O.q rfl (Pu.fieldAddr 2 rfl Tryz.underlying28 rfl sz24 rfl rfl) (O.s rfl rfl (Ef.store1 (cs' := [_, _, _]) 1 rfl sz24 rfl rfl rfl rfl rfl (ltb rfl) rfl) ?_)))))
   rintro _ _ rfl
   refine O.nil (X.blockNormal (X.next (V.seq (V.region (O.q rfl (Pu.loadAgg rfl ag28 sz28 rfl rfl (Ld.whole 1 rfl)) (O.s rfl rfl (Ef.storeAll 3 rfl sz28 rfl rfl rfl rfl (by simp [Value.oneCell']) rfl) ?_))))))
   rintro _ _ rfl
   exact O.nil (X.next (V.ret (X.retCell rfl ag28 sz28 rfl rfl (Ld.whole 3 rfl) (RetM.map (fun w hw => hw.sub (Sub.cons 2 rfl (trd_tail (by omega)) (Sub.k (Sub.drop (Sub.drop (Sub.refl _)))))) (fun w hw => St.mkExi pv1 (St.mkExi o1A (St.mkExi o1c (St.mkExi o1 (St.mkExi (if i1c = 1 then i1A else i1A.map (·.add (1 * 3))) (St.mkExi (i1c - 1) (St.mkExi (i1.drop 1) (St.unsep (St.addPur ⟨by simp only [List.length_drop], by omega, by rw [List.length_drop]; omega⟩ (St.unsep (hw.sub (Sub.k (Sub.k (Sub.refl _))))))))))))))))))
  ·refine V.skip (X.blockNormal (X.next (V.seq (V.region (O.q rfl (Pu.loadAgg rfl ag28 sz28 rfl rfl (Ld.whole 1 rfl)) (O.s rfl rfl (Ef.storeAll 3 rfl sz28 rfl rfl rfl rfl (by simp [Value.oneCell']) rfl) ?_))))))
   rintro _ _ rfl
   exact O.nil (X.next (V.ret (X.retCell rfl ag28 sz28 rfl rfl (Ld.whole 3 rfl) (fun w hw => St.mkExi pv1 (St.mkExi o1A (St.mkExi o1c (St.mkExi o1 (St.mkExi i1A (St.mkExi i1c (St.mkExi i1 (St.unsep (St.addPur ⟨rfl, by omega, by omega⟩ (St.unsep (hw.sub (Sub.keep 2 rfl (Sub.k (Sub.drop (Sub.drop (Sub.refl _)))))))))))))))))))
 ·refine V.seq (V.region (O.q rfl (Pu.eql rfl rfl rfl) (O.m rfl (O.nil (X.next (V.condD rfl (fun c3 => ?_) (fun c3 => ?_)))))))
  ·refine V.region (O.m rfl (O.f rfl (Ef.build I64 ([(2 : Int), (16 : Int), (5 : Int)] : List Int) rfl Tryz.underlying41 inf2 rfl rfl rfl (by first | decide | (simp; done)) (by kernel_rfl)) ?_))
   rintro _ _ ⟨A1, hA1, rfl, rfl⟩
   refine O.f rfl (Ef.call call98 rfl rfl (Does.pre (fun w hw => hw.sub (Sub.keep 1 rfl (Sub.k (Sub.k (Sub.k (Sub.k (Sub.refl _))))))) (l01Pick_ok _ _ _ s ([(2 : Int), (16 : Int), (5 : Int)] : List Int) _ _ w0 _ (Ld.own 0 (by exact rfl)) (by first | omega | (simp only [tops_len, conts_len, bl, List.length_append, List.length_cons, List.length_nil] at *; omega)) (by first | assumption | omega | (try dsimp only at *; omega)) (by first | assumption | omega | (try dsimp only at *; omega)) (by first | (simp; done) | omega)))) ?_
   rintro _ _ rfl
   refine O.exi (fun r2 => O.sep (O.pur ?_))
   rintro ⟨rfl, hr2_1⟩
   refine O.q rfl (Pu.fieldAddr 0 rfl Tryz.underlying28 rfl sz2 rfl rfl) (O.s rfl rfl (Ef.store1 (cs' := [_, _, _]) 2 rfl sz2 rfl rfl rfl rfl rfl (ltb rfl) rfl) ?_)
   rintro _ _ rfl
   refine O.nil (X.blockNormal (X.next (V.seq (V.region (O.q rfl (Pu.loadAgg rfl ag28 sz28 rfl rfl (Ld.whole 2 rfl)) (O.s rfl rfl (Ef.storeAll 4 rfl sz28 rfl rfl rfl rfl (by simp [Value.oneCell']) rfl) ?_))))))
   rintro _ _ rfl
   exact O.nil (X.next (V.ret (X.retCell rfl ag28 sz28 rfl rfl (Ld.whole 4 rfl) (fun w hw => St.mkExi r2 (St.mkExi o1A (St.mkExi o1c (St.mkExi o1 (St.mkExi i1A (St.mkExi i1c (St.mkExi i1 (St.unsep (St.addPur ⟨rfl, by omega, by omega⟩ (St.unsep (hw.sub (Sub.keep 3 rfl (Sub.k (Sub.drop (Sub.drop (Sub.drop (Sub.refl _))))))))))))))))))))
  ·refine V.seq (V.region (O.q rfl (Pu.eql rfl rfl rfl) (O.m rfl (O.nil (X.next (V.condD rfl (fun c4 => ?_) (fun c4 => ?_)))))))
   ·refine V.region (O.q rfl (Pu.fieldAddr 1 rfl Tryz.underlying28 rfl sz24 rfl rfl) (O.q rfl (Pu.load rfl pl24 rfl (Ld.blk 1 rfl rfl)) (O.q rfl (Pu.fieldAddr 2 rfl Tryz.underlying28 rfl sz24 rfl rfl) (O.s rfl rfl (Ef.store1 (cs' := [_, _, _]) 1 rfl sz24 rfl rfl rfl rfl rfl (ltb rfl) rfl) ?_))))
    rintro _ _ rfl
    refine O.nil (X.blockNormal (X.next (V.seq (V.region (O.q rfl (Pu.loadAgg rfl ag28 sz28 rfl rfl (Ld.whole 1 rfl)) (O.s rfl rfl (Ef.storeAll 3 rfl sz28 rfl rfl rfl rfl (by simp [Value.oneCell']) rfl) ?_))))))
    rintro _ _ rfl
    exact O.nil (X.next (V.ret (X.retCell rfl ag28 sz28 rfl rfl (Ld.whole 3 rfl) (RetM.map (fun w hw => hw.sub (Sub.cons 2 rfl trd_dup (Sub.k (Sub.drop (Sub.drop (Sub.refl _)))))) (fun w hw => St.mkExi pv1 (St.mkExi o1A (St.mkExi o1c (St.mkExi o1 (St.mkExi o1A (St.mkExi o1c (St.mkExi o1 (St.unsep (St.addPur ⟨rfl, by omega, by omega⟩ (St.unsep (hw.sub (Sub.k (Sub.k (Sub.refl _))))))))))))))))))
   ·refine V.skip (X.blockNormal (X.next (V.seq (V.region (O.q rfl (Pu.loadAgg rfl ag28 sz28 rfl rfl (Ld.whole 1 rfl)) (O.s rfl rfl (Ef.storeAll 3 rfl sz28 rfl rfl rfl rfl (by simp [Value.oneCell']) rfl) ?_))))))
    rintro _ _ rfl
    exact O.nil (X.next (V.ret (X.retCell rfl ag28 sz28 rfl rfl (Ld.whole 3 rfl) (fun w hw => St.mkExi pv1 (St.mkExi o1A (St.mkExi o1c (St.mkExi o1 (St.mkExi i1A (St.mkExi i1c (St.mkExi i1 (St.unsep (St.addPur ⟨rfl, by omega, by omega⟩ (St.unsep (hw.sub (Sub.keep 2 rfl (Sub.k (Sub.drop (Sub.drop (Sub.refl _)))))))))))))))))))
set_option maxRecDepth 100000 in
set_option maxHeartbeats 1000000 in
theorem l04With_ok (code : List UInt8) (codeA : Option Addr) (codec : Nat) (w : World) (hcode : Rd U8C w codeA code) (lcode : code.length ≤ 1099511627776) (lc : code.length ≤ 1048576) : Does Tryz.prog 38 [.slice codeA code.length codec] w [] (fun rv_ => [.exi fun (pv : Int) => .exi fun (rA : Option Addr) => .exi fun (rc : Nat) => .exi fun (r : List B3) => .exi fun (pu : Int) => .exi fun (oA : Option Addr) => .exi fun (oc : Nat) => .exi fun (o : List B3) => .exi fun (iA : Option Addr) => .exi fun (ic : Nat) => .exi fun (i : List B3) => .sep (.pur (rv_ = .tuple #[.agg #[.int .i64 pv, .slice rA r.length rc], .agg #[.int .i64 pu, .slice oA o.length oc, .slice iA i.length ic]] ∧ r.length ≤ 4200 ∧ o.length ≤ 1000 ∧ i.length ≤ 1000)) (.sep (Own 69 B3C rA rc r) (TrdA oA oc o iA ic i))]) := by
 refine Does.enter Tryz.func38 rfl rfl [(0, .slice codeA code.length codec)] rfl (V.seq (V.region (O.f rfl (Ef.alloc rfl zr26 rfl) ?_)))
 rintro _ _ ⟨b1, rfl, rfl⟩
 refine O.f rfl (Ef.alloc rfl zr28 rfl) ?_
 rintro _ _ ⟨b2, rfl, rfl⟩
 refine O.nil (X.next (V.seq (V.region (O.m rfl (O.f rfl (Ef.call1 call52 rfl rfl (fun w hw => l01From_ok  code _ _ w ((Ld.old hcode) w hw) (by first | omega | (simp only [tops_len, conts_len, bl, List.length_append, List.length_cons, List.length_nil] at *; omega)) (by first | assumption | omega | (try dsimp only at *; omega)))) ?_)))))
 rintro _ _ rfl
 refine O.exi (fun s1 => O.sep (O.pur ?_))
 rintro rfl
 refine O.m rfl (O.nil (X.next (V.seq (V.region (O.m rfl (O.f rfl (Ef.call call67 rfl rfl (Does.pre (fun w hw => hw.sub (Sub.k (Sub.k (Sub.k (Sub.nil _))))) (l01Spoil_ok _ _ _ s1 w _   (by first | assumption | omega | (try dsimp only at *; omega)) (by first | assumption | omega | (try dsimp only at *; omega))))) ?_))))))
 rintro _ _ rfl
 refine O.exi (fun pv1 => O.exi (fun r1A => O.exi (fun r1c => O.exi (fun r1 => O.sep (O.pur ?_)))))
 rintro ⟨rfl, hpv1_1, hpv1_2⟩
 refine O.sep (O.f rfl (Ef.alloc rfl zr26 rfl) ?_)
 rintro _ _ ⟨b3, rfl, rfl⟩
 refine O.s rfl rfl (Ef.storeAll 0 rfl sz26 rfl rfl rfl rfl (by simp [Value.oneCell']) rfl) ?_
 rintro _ _ rfl
 refine O.nil (X.next (V.seq (V.seq (V.region (O.q rfl (Pu.loadAgg rfl ag26 sz26 rfl rfl (Ld.whole 0 rfl)) (O.f rfl (Ef.call1 call81 rfl rfl (fun w hw => specPaschTrades_ok  pv1 r1 _ _ w ((Ld.own 1 (by exact rfl)) w hw) (by first | omega | (simp only [tops_len, conts_len, bl, List.length_append, List.length_cons, List.length_nil] at *; omega)) )) ?_))))))
 rintro _ _ rfl
 refine O.exi (fun r2A => O.exi (fun r2c => O.exi (fun r2 => O.sep (O.pur ?_))))
 rintro ⟨rfl, hr2_1, hr2_2⟩
 refine O.sep ?_
 have hsm := hr2_1.four
 have htl := topT_len r2
 refine O.m rfl (O.m rfl (O.m rfl (O.m rfl (O.m rfl (O.nil (X.next (V.seq (V.region (O.m rfl (O.q rfl (Pu.eql rfl rfl rfl) (O.m rfl (O.splitD 20 rfl (fun c1 => ?_) (fun c1 => ?_)))))))))))))
 ·refine O.gm rfl (O.gq rfl (Pu.len rfl Tryz.underlying99 rfl) (O.gq rfl (Pu.gtr rfl rfl rfl) (O.m rfl (O.m rfl (O.splitD 25 rfl (fun c2 => ?_) (fun c2 => ?_))))))
  ·refine O.gm rfl (O.gf rfl (Ef.call call68 rfl rfl (Does.pre (fun w hw => hw.sub (Sub.keep 4 rfl (Sub.k (Sub.k (Sub.k (Sub.k (Sub.k (Sub.k (Sub.nil _))))))))) (l01Next_ok _ _ _ s1 (2 : Int) w _   (by first | assumption | omega | (try dsimp only at *; omega)) (by first | assumption | omega | (try dsimp only at *; omega))))) ?_)
   rintro _ _ rfl
   refine O.exi (fun r3 => O.sep (O.pur ?_))
   rintro ⟨rfl, hr3_1, hr3_2, hr3_3⟩
   refine O.gq rfl (Pu.eql rfl rfl rfl) (O.m rfl (O.nil (X.next (V.condD rfl (fun c3 => ?_) (fun c3 => ?_)))))
   ·refine V.seq (V.drawS mo (by kernel_rfl) (Sub.keep 1 rfl (Sub.keep 1 rfl (Sub.keep 1 rfl (Sub.keep 1 rfl (Sub.nil _))))) (fun hwf => D.q 0 rfl (Pu.loadAgg rfl ag26 sz26 rfl rfl (Ld.whole 2 rfl)) (D.m 1 rfl (D.m 2 rfl (D.m 3 rfl (D.q 4 rfl (Pu.len rfl Tryz.underlying99 rfl) (D.f hwf 5 rfl (Ef.call call68 rfl rfl (Does.pre (fun w hw => hw.sub (Sub.k (Sub.k (Sub.k (Sub.k (Sub.k (Sub.k (Sub.k (Sub.nil _))))))))) (l01Next_ok _ _ _ s1 (↑((topT r2).length) : Int) w _   (by first | assumption | omega | (try dsimp only at *; omega)) (by first | assumption | omega | (try dsimp only at *; omega))))) ?_)))))))
    rintro _ _ rfl hs
    refine ⟨fun w hw => hw.tail.sub (Sub.k (Sub.k (Sub.k (Sub.k (Sub.nil _))))), (D.exi (fun r4 => D.sep (D.pur1 ?_)))⟩
    rintro ⟨rfl, hr4_1, hr4_2, hr4_3⟩
    refine D.q 6 rfl (Pu.indexAddrS ((r4).toNat) rfl Tryz.underlying99 sz28 rfl rfl (by omega) (by omega) (fun w hw => Own.some hw (i := 0) (by exact rfl) (by omega))) ?_
    have e1 : (r4).toNat < r2.length := by have := topT_len r2; omega
    refine D.q 7 rfl (Pu.loadAgg' (v := .agg #[.int .i64 pv1, .slice (r2[(r4).toNat]'e1).1.1.A (r2[(r4).toNat]'e1).1.2.length (r2[(r4).toNat]'e1).1.1.c, .slice (r2[(r4).toNat]'e1).2.1.A (r2[(r4).toNat]'e1).2.2.length (r2[(r4).toNat]'e1).2.1.c]) rfl rfl ag28 sz28 rfl rfl (Ld.rowT (Ld.tt 0 0 (by exact rfl) (by exact rfl)) e1 rfl)) (D.f hwf 8 rfl (Ef.storeAll 6 rfl sz26 rfl rfl rfl rfl (by simp [Value.oneCell']) rfl) ?_)
    rintro _ _ rfl hs
    refine ⟨fun w hw => hw.sub (Sub.keep 1 rfl (Sub.keep 1 rfl (Sub.keep 1 rfl (Sub.keep 1 rfl (Sub.nil _))))), (D.f hwf 9 rfl (Ef.storeAll 5 rfl sz28 rfl rfl rfl rfl (by simp [Value.oneCell']) rfl) ?_)⟩
    rintro _ _ rfl hs
    exact ⟨fun w hw => hw.sub (Sub.keep 1 rfl (Sub.keep 1 rfl (Sub.keep 1 rfl (Sub.keep 1 rfl (Sub.nil _))))), (D.done hwf rfl (X.next (V.ret (X.thenRet (X.retCell22 rfl ag26 sz26 rfl ag28 sz28 rfl rfl rfl (Ld.whole 6 rfl) (Ld.whole 5 rfl) (RetM.map (fun w hw => St.trd_pick (ts := r2) (k := (r4).toNat) e1 (hw.sub (Sub.keep 2 rfl (Sub.keep 3 rfl (Sub.nil _))))) (fun w hw => St.mkExi pv1 (St.mkExi r1A (St.mkExi r1c (St.mkExi r1 (St.mkExi pv1 (St.mkExi ((r2[(r4).toNat]'e1).1.1.A) (St.mkExi ((r2[(r4).toNat]'e1).1.1.c) (St.mkExi ((r2[(r4).toNat]'e1).1.2) (St.mkExi ((r2[(r4).toNat]'e1).2.1.A) (St.mkExi ((r2[(r4).toNat]'e1).2.1.c) (St.mkExi ((r2[(r4).toNat]'e1).2.2) (St.unsep (St.addPur ⟨rfl, (by omega), by have := (hsm _ e1).1; omega, by have := (hsm _ e1).2; omega⟩ (St.unsep (hw.sub (Sub.keep 1 rfl (Sub.k (Sub.nil _))))))))))))))))))))))))⟩
   ·refine V.skip (X.next (V.seq (V.region (O.m rfl (O.f rfl (Ef.call call51 rfl rfl (Does.pre (fun w hw => hw.sub (Sub.k (Sub.k (Sub.k (Sub.k (Sub.k (Sub.k (Sub.k (Sub.nil _))))))))) (l04Draw_ok _ _ _ s1 w _   (by first | assumption | omega | (try dsimp only at *; omega)) (by first | assumption | omega | (try dsimp only at *; omega))))) ?_)))))
    rintro _ _ rfl
    refine O.exi (fun pv2 => O.exi (fun o1A => O.exi (fun o1c => O.exi (fun o1 => O.exi (fun i1A => O.exi (fun i1c => O.exi (fun i1 => O.sep (O.pur ?_))))))))
    rintro ⟨rfl, hpv2_1, hpv2_2⟩
    refine O.sep (O.f rfl (Ef.alloc rfl zr28 rfl) ?_)
    rintro _ _ ⟨b4, rfl, rfl⟩
    refine O.s rfl rfl (Ef.storeAll 0 rfl sz28 rfl rfl rfl rfl (by simp [Value.oneCell']) rfl) ?_
    rintro _ _ rfl
    refine O.nil (X.next (V.seq (V.seq (V.region (O.q rfl (Pu.loadAgg rfl ag28 sz28 rfl rfl (Ld.whole 0 rfl)) (O.f rfl (Ef.callP call43 rfl rfl (fun w hw => l04Is_ok  pv2 o1 i1 _ _ _ _ w ((Ld.trO 1 (by exact rfl)) w hw) ((Ld.trI 1 (by exact rfl)) w hw) (by omega) (by omega) )) ?_))))))
    rintro _ _ ⟨rfl, rfl⟩
    refine O.m rfl (O.splitD 42 rfl (fun c4 => ?_) (fun c4 => ?_))
    ·refine O.gm rfl (O.gf rfl (Ef.call call68 rfl rfl (Does.pre (fun w hw => hw.sub (Sub.keep 2 rfl (Sub.k (Sub.k (Sub.k (Sub.k (Sub.k (Sub.k (Sub.k (Sub.k (Sub.nil _))))))))))) (l01Next_ok _ _ _ s1 (2 : Int) w _   (by first | assumption | omega | (try dsimp only at *; omega)) (by first | assumption | omega | (try dsimp only at *; omega))))) ?_)
     rintro _ _ rfl
     refine O.exi (fun r5 => O.sep (O.pur ?_))
     rintro ⟨rfl, hr5_1, hr5_2, hr5_3⟩
     refine O.gq rfl (Pu.eql rfl rfl rfl) (O.m rfl (O.nil (X.next (V.condD rfl (fun c5 => ?_) (fun c5 => ?_)))))
     ·refine V.seq (V.drawS mo (by kernel_rfl) (Sub.keep 1 rfl (Sub.keep 1 rfl (Sub.keep 1 rfl (Sub.keep 1 rfl (Sub.keep 1 rfl (Sub.keep 1 rfl (Sub.nil _))))))) (fun hwf => D.q 0 rfl (Pu.fieldAddr 0 rfl Tryz.underlying28 rfl sz2 rfl rfl) (D.q 1 rfl (Pu.load rfl pl2 rfl (Ld.blk 0 rfl rfl)) (D.q 2 rfl (Pu.fieldAddr 1 rfl Tryz.underlying28 rfl sz24 rfl rfl) (D.q 3 rfl (Pu.load rfl pl24 rfl (Ld.blk 0 rfl rfl)) (D.q 5 rfl (Pu.loadAgg rfl ag28 sz28 rfl rfl (Ld.whole 0 rfl)) (D.f hwf 4 rfl (Ef.call1 call45 rfl rfl (fun w hw => l01Made_ok  pv2 o1 _ _ w ((Ld.trO 2 (by exact rfl)) w hw) (by first | omega | (simp only [List.length_append, List.length_cons, List.length_nil, List.length_take, List.length_drop]; omega)) (by first | omega | (simp only [List.length_append, List.length_cons, List.length_nil, List.length_take, List.length_drop]; omega)))) ?_)))))))
      rintro _ _ rfl hs
      refine ⟨fun w hw => hs w hw.tail, (D.exi (fun r6A => D.exi (fun r6c => D.exi (fun r6 => D.sep (D.pur1 ?_)))))⟩
      rintro ⟨rfl, hr6_1, hr6_2⟩
      have hlm := hr6_1.length_eq
      refine D.f hwf 6 rfl (Ef.storeAll 9 rfl sz26 rfl rfl rfl rfl (by simp [Value.oneCell']) rfl) ?_
      rintro _ _ rfl hs
      refine ⟨fun w hw => hw.sub (Sub.keep 2 rfl (Sub.keep 2 rfl (Sub.keep 2 rfl (Sub.keep 2 rfl (Sub.keep 2 rfl (Sub.keep 2 rfl (Sub.nil _))))))), (D.f hwf 7 rfl (Ef.storeAll 8 rfl sz28 rfl rfl rfl rfl (by simp [Value.oneCell']) rfl) ?_)⟩
      rintro _ _ rfl hs
      exact ⟨fun w hw => hw.sub (Sub.keep 2 rfl (Sub.keep 2 rfl (Sub.keep 2 rfl (Sub.keep 2 rfl (Sub.keep 2 rfl (Sub.keep 2 rfl (Sub.nil _))))))), (D.done hwf rfl (X.next (V.ret (X.thenRet (X.retCell22 rfl ag26 sz26 rfl ag28 sz28 rfl rfl rfl (Ld.whole 9 rfl) (Ld.whole 8 rfl) (fun w hw => St.mkExi pv2 (St.mkExi r6A (St.mkExi r6c (St.mkExi r6 (St.mkExi pv2 (St.mkExi o1A (St.mkExi o1c (St.mkExi o1 (St.mkExi i1A (St.mkExi i1c (St.mkExi i1 (St.unsep (St.addPur ⟨rfl, (by omega), (by first | omega | (simp only [List.length_nil]; omega)), (by first | omega | (simp only [List.length_nil]; omega))⟩ (St.unsep (hw.sub (Sub.k (Sub.keep 2 rfl (Sub.nil _)))))))))))))))))))))))⟩
     ·refine V.skip (X.next (V.seq (V.drawS mo (by kernel_rfl) (Sub.keep 1 rfl (Sub.keep 1 rfl (Sub.keep 1 rfl (Sub.keep 1 rfl (Sub.keep 1 rfl (Sub.keep 1 rfl (Sub.nil _))))))) (fun hwf => D.q 0 rfl (Pu.loadAgg rfl ag26 sz26 rfl rfl (Ld.whole 4 rfl)) (D.q 1 rfl (Pu.loadAgg rfl ag28 sz28 rfl rfl (Ld.whole 0 rfl)) (D.f hwf 2 rfl (Ef.storeAll 8 rfl sz26 rfl rfl rfl rfl (by simp [Value.oneCell']) rfl) ?_))))))
      rintro _ _ rfl hs
      refine ⟨fun w hw => hw.sub (Sub.keep 1 rfl (Sub.keep 1 rfl (Sub.keep 1 rfl (Sub.keep 1 rfl (Sub.keep 1 rfl (Sub.keep 1 rfl (Sub.nil _))))))), (D.f hwf 3 rfl (Ef.storeAll 7 rfl sz28 rfl rfl rfl rfl (by simp [Value.oneCell']) rfl) ?_)⟩
      rintro _ _ rfl hs
      exact ⟨fun w hw => hw.sub (Sub.keep 1 rfl (Sub.keep 1 rfl (Sub.keep 1 rfl (Sub.keep 1 rfl (Sub.keep 1 rfl (Sub.keep 1 rfl (Sub.nil _))))))), (D.done hwf rfl (X.next (V.ret (X.retCell22 rfl ag26 sz26 rfl ag28 sz28 rfl rfl rfl (Ld.whole 8 rfl) (Ld.whole 7 rfl) (fun w hw => St.mkExi pv1 (St.mkExi r1A (St.mkExi r1c (St.mkExi r1 (St.mkExi pv2 (St.mkExi o1A (St.mkExi o1c (St.mkExi o1 (St.mkExi i1A (St.mkExi i1c (St.mkExi i1 (St.unsep (St.addPur ⟨rfl, (by omega), (by first | omega | (simp only [List.length_nil]; omega)), (by first | omega | (simp only [List.length_nil]; omega))⟩ (St.unsep (hw.sub (Sub.keep 6 rfl (Sub.keep 2 rfl (Sub.nil _))))))))))))))))))))))⟩
    ·refine O.g rfl (O.g rfl (O.g rfl (O.m rfl (O.nil (X.next (V.condF rfl (V.skip (X.next (V.seq (V.drawS mo (by kernel_rfl) (Sub.k (Sub.k (Sub.keep 1 rfl (Sub.keep 1 rfl (Sub.keep 1 rfl (Sub.keep 1 rfl (Sub.nil _))))))) (fun hwf => D.q 0 rfl (Pu.loadAgg rfl ag26 sz26 rfl rfl (Ld.whole 4 rfl)) ?_)))))))))))
     refine D.q 1 rfl (Pu.loadAgg rfl ag28 sz28 rfl rfl (Ld.whole 0 rfl)) (D.f hwf 2 rfl (Ef.storeAll 8 rfl sz26 rfl rfl rfl rfl (by simp [Value.oneCell']) rfl) ?_)
     rintro _ _ rfl hs
     refine ⟨fun w hw => hw.sub (Sub.k (Sub.k (Sub.keep 1 rfl (Sub.keep 1 rfl (Sub.keep 1 rfl (Sub.keep 1 rfl (Sub.nil _))))))), (D.f hwf 3 rfl (Ef.storeAll 7 rfl sz28 rfl rfl rfl rfl (by simp [Value.oneCell']) rfl) ?_)⟩
     rintro _ _ rfl hs
     exact ⟨fun w hw => hw.sub (Sub.k (Sub.k (Sub.keep 1 rfl (Sub.keep 1 rfl (Sub.keep 1 rfl (Sub.keep 1 rfl (Sub.nil _))))))), (D.done hwf rfl (X.next (V.ret (X.retCell22 rfl ag26 sz26 rfl ag28 sz28 rfl rfl rfl (Ld.whole 8 rfl) (Ld.whole 7 rfl) (fun w hw => St.mkExi pv1 (St.mkExi r1A (St.mkExi r1c (St.mkExi r1 (St.mkExi pv2 (St.mkExi o1A (St.mkExi o1c (St.mkExi o1 (St.mkExi i1A (St.mkExi i1c (St.mkExi i1 (St.unsep (St.addPur ⟨rfl, (by omega), (by first | omega | (simp only [List.length_nil]; omega)), (by first | omega | (simp only [List.length_nil]; omega))⟩ (St.unsep (hw.sub (Sub.keep 6 rfl (Sub.keep 1 rfl (Sub.nil _))))))))))))))))))))))⟩
  ·refine O.g rfl (O.g rfl (O.g rfl (O.m rfl (O.nil (X.next (V.condF rfl (V.skip (X.next (V.seq (V.region (O.m rfl ?_)))))))))))
   refine O.f rfl (Ef.call call51 rfl rfl (Does.pre (fun w hw => hw.sub (Sub.keep 4 rfl (Sub.k (Sub.k (Sub.k (Sub.k (Sub.k (Sub.k (Sub.nil _))))))))) (l04Draw_ok _ _ _ s1 w _   (by first | assumption | omega | (try dsimp only at *; omega)) (by first | assumption | omega | (try dsimp only at *; omega))))) ?_
   rintro _ _ rfl
   refine O.exi (fun pv3 => O.exi (fun o2A => O.exi (fun o2c => O.exi (fun o2 => O.exi (fun i2A => O.exi (fun i2c => O.exi (fun i2 => O.sep (O.pur ?_))))))))
   rintro ⟨rfl, hpv3_1, hpv3_2⟩
   refine O.sep (O.f rfl (Ef.alloc rfl zr28 rfl) ?_)
   rintro _ _ ⟨b5, rfl, rfl⟩
   refine O.s rfl rfl (Ef.storeAll 0 rfl sz28 rfl rfl rfl rfl (by simp [Value.oneCell']) rfl) ?_
   rintro _ _ rfl
   refine O.nil (X.next (V.seq (V.seq (V.region (O.q rfl (Pu.loadAgg rfl ag28 sz28 rfl rfl (Ld.whole 0 rfl)) (O.f rfl (Ef.callP call43 rfl rfl (fun w hw => l04Is_ok  pv3 o2 i2 _ _ _ _ w ((Ld.trO 1 (by exact rfl)) w hw) ((Ld.trI 1 (by exact rfl)) w hw) (by omega) (by omega) )) ?_))))))
   rintro _ _ ⟨rfl, rfl⟩
   refine O.m rfl (O.splitD 42 rfl (fun c6 => ?_) (fun c6 => ?_))
   ·refine O.gm rfl (O.gf rfl (Ef.call call68 rfl rfl (Does.pre (fun w hw => hw.sub (Sub.keep 2 rfl (Sub.k (Sub.k (Sub.k (Sub.k (Sub.k (Sub.k (Sub.k (Sub.k (Sub.nil _))))))))))) (l01Next_ok _ _ _ s1 (2 : Int) w _   (by first | assumption | omega | (try dsimp only at *; omega)) (by first | assumption | omega | (try dsimp only at *; omega))))) ?_)
    rintro _ _ rfl
    refine O.exi (fun r7 => O.sep (O.pur ?_))
    rintro ⟨rfl, hr7_1, hr7_2, hr7_3⟩
    refine O.gq rfl (Pu.eql rfl rfl rfl) (O.m rfl (O.nil (X.next (V.condD rfl (fun c7 => ?_) (fun c7 => ?_)))))
    ·refine V.seq (V.drawS mo (by kernel_rfl) (Sub.keep 1 rfl (Sub.keep 1 rfl (Sub.keep 1 rfl (Sub.keep 1 rfl (Sub.keep 1 rfl (Sub.keep 1 rfl (Sub.nil _))))))) (fun hwf => D.q 0 rfl (Pu.fieldAddr 0 rfl Tryz.underlying28 rfl sz2 rfl rfl) (D.q 1 rfl (Pu.load rfl pl2 rfl (Ld.blk 0 rfl rfl)) (D.q 2 rfl (Pu.fieldAddr 1 rfl Tryz.underlying28 rfl sz24 rfl rfl) (D.q 3 rfl (Pu.load rfl pl24 rfl (Ld.blk 0 rfl rfl)) (D.q 5 rfl (Pu.loadAgg rfl ag28 sz28 rfl rfl (Ld.whole 0 rfl)) (D.f hwf 4 rfl (Ef.call1 call45 rfl rfl (fun w hw => l01Made_ok  pv3 o2 _ _ w ((Ld.trO 2 (by exact rfl)) w hw) (by first | omega | (simp only [List.length_append, List.length_cons, List.length_nil, List.length_take, List.length_drop]; omega)) (by first | omega | (simp only [List.length_append, List.length_cons, List.length_nil, List.length_take, List.length_drop]; omega)))) ?_)))))))
     rintro _ _ rfl hs
     refine ⟨fun w hw => hs w hw.tail, (D.exi (fun r8A => D.exi (fun r8c => D.exi (fun r8 => D.sep (D.pur1 ?_)))))⟩
     rintro ⟨rfl, hr8_1, hr8_2⟩
     have hlm := hr8_1.length_eq
     refine D.f hwf 6 rfl (Ef.storeAll 9 rfl sz26 rfl rfl rfl rfl (by simp [Value.oneCell']) rfl) ?_
     rintro _ _ rfl hs
     refine ⟨fun w hw => hw.sub (Sub.keep 2 rfl (Sub.keep 2 rfl (Sub.keep 2 rfl (Sub.keep 2 rfl (Sub.keep 2 rfl (Sub.keep 2 rfl (Sub.nil _))))))), (D.f hwf 7 rfl (Ef.storeAll 8 rfl sz28 rfl rfl rfl rfl (by simp [Value.oneCell']) rfl) ?_)⟩
     rintro _ _ rfl hs
     exact ⟨fun w hw => hw.sub (Sub.keep 2 rfl (Sub.keep 2 rfl (Sub.keep 2 rfl (Sub.keep 2 rfl (Sub.keep 2 rfl (Sub.keep 2 rfl (Sub.nil _))))))), (D.done hwf rfl (X.next (V.ret (X.thenRet (X.retCell22 rfl ag26 sz26 rfl ag28 sz28 rfl rfl rfl (Ld.whole 9 rfl) (Ld.whole 8 rfl) (fun w hw => St.mkExi pv3 (St.mkExi r8A (St.mkExi r8c (St.mkExi r8 (St.mkExi pv3 (St.mkExi o2A (St.mkExi o2c (St.mkExi o2 (St.mkExi i2A (St.mkExi i2c (St.mkExi i2 (St.unsep (St.addPur ⟨rfl, (by omega), (by first | omega | (simp only [List.length_nil]; omega)), (by first | omega | (simp only [List.length_nil]; omega))⟩ (St.unsep (hw.sub (Sub.k (Sub.keep 2 rfl (Sub.nil _)))))))))))))))))))))))⟩
    ·refine V.skip (X.next (V.seq (V.drawS mo (by kernel_rfl) (Sub.keep 1 rfl (Sub.keep 1 rfl (Sub.keep 1 rfl (Sub.keep 1 rfl (Sub.keep 1 rfl (Sub.keep 1 rfl (Sub.nil _))))))) (fun hwf => D.q 0 rfl (Pu.loadAgg rfl ag26 sz26 rfl rfl (Ld.whole 4 rfl)) (D.q 1 rfl (Pu.loadAgg rfl ag28 sz28 rfl rfl (Ld.whole 0 rfl)) (D.f hwf 2 rfl (Ef.storeAll 8 rfl sz26 rfl rfl rfl rfl (by simp [Value.oneCell']) rfl) ?_))))))
     rintro _ _ rfl hs
     refine ⟨fun w hw => hw.sub (Sub.keep 1 rfl (Sub.keep 1 rfl (Sub.keep 1 rfl (Sub.keep 1 rfl (Sub.keep 1 rfl (Sub.keep 1 rfl (Sub.nil _))))))), (D.f hwf 3 rfl (Ef.storeAll 7 rfl sz28 rfl rfl rfl rfl (by simp [Value.oneCell']) rfl) ?_)⟩
     rintro _ _ rfl hs
     exact ⟨fun w hw => hw.sub (Sub.keep 1 rfl (Sub.keep 1 rfl (Sub.keep 1 rfl (Sub.keep 1 rfl (Sub.keep 1 rfl (Sub.keep 1 rfl (Sub.nil _))))))), (D.done hwf rfl (X.next (V.ret (X.retCell22 rfl ag26 sz26 rfl ag28 sz28 rfl rfl rfl (Ld.whole 8 rfl) (Ld.whole 7 rfl) (fun w hw => St.mkExi pv1 (St.mkExi r1A (St.mkExi r1c (St.mkExi r1 (St.mkExi pv3 (St.mkExi o2A (St.mkExi o2c (St.mkExi o2 (St.mkExi i2A (St.mkExi i2c (St.mkExi i2 (St.unsep (St.addPur ⟨rfl, (by omega), (by first | omega | (simp only [List.length_nil]; omega)), (by first | omega | (simp only [List.length_nil]; omega))⟩ (St.unsep (hw.sub (Sub.keep 6 rfl (Sub.keep 2 rfl (Sub.nil _))))))))))))))))))))))⟩
   ·refine O.g rfl (O.g rfl (O.g rfl (O.m rfl (O.nil (X.next (V.condF rfl (V.skip (X.next (V.seq (V.drawS mo (by kernel_rfl) (Sub.k (Sub.k (Sub.keep 1 rfl (Sub.keep 1 rfl (Sub.keep 1 rfl (Sub.keep 1 rfl (Sub.nil _))))))) (fun hwf => D.q 0 rfl (Pu.loadAgg rfl ag26 sz26 rfl rfl (Ld.whole 4 rfl)) ?_)))))))))))
    refine D.q 1 rfl (Pu.loadAgg rfl ag28 sz28 rfl rfl (Ld.whole 0 rfl)) (D.f hwf 2 rfl (Ef.storeAll 8 rfl sz26 rfl rfl rfl rfl (by simp [Value.oneCell']) rfl) ?_)
    rintro _ _ rfl hs
    refine ⟨fun w hw => hw.sub (Sub.k (Sub.k (Sub.keep 1 rfl (Sub.keep 1 rfl (Sub.keep 1 rfl (Sub.keep 1 rfl (Sub.nil _))))))), (D.f hwf 3 rfl (Ef.storeAll 7 rfl sz28 rfl rfl rfl rfl (by simp [Value.oneCell']) rfl) ?_)⟩
    rintro _ _ rfl hs
    exact ⟨fun w hw => hw.sub (Sub.k (Sub.k (Sub.keep 1 rfl (Sub.keep 1 rfl (Sub.keep 1 rfl (Sub.keep 1 rfl (Sub.nil _))))))), (D.done hwf rfl (X.next (V.ret (X.retCell22 rfl ag26 sz26 rfl ag28 sz28 rfl rfl rfl (Ld.whole 8 rfl) (Ld.whole 7 rfl) (fun w hw => St.mkExi pv1 (St.mkExi r1A (St.mkExi r1c (St.mkExi r1 (St.mkExi pv3 (St.mkExi o2A (St.mkExi o2c (St.mkExi o2 (St.mkExi i2A (St.mkExi i2c (St.mkExi i2 (St.unsep (St.addPur ⟨rfl, (by omega), (by first | omega | (simp only [List.length_nil]; omega)), (by first | omega | (simp only [List.length_nil]; omega))⟩ (St.unsep (hw.sub (Sub.keep 6 rfl (Sub.keep 1 rfl (Sub.nil _))))))))))))))))))))))⟩
 ·refine O.g rfl (O.g rfl (O.g rfl (O.m rfl (O.m rfl (O.g rfl (O.g rfl (O.g rfl (O.m rfl (O.nil (X.next (V.condF rfl ?_)))))))))))
  refine V.skip (X.next (V.seq (V.region (O.m rfl (O.f rfl (Ef.call call51 rfl rfl (Does.pre (fun w hw => hw.sub (Sub.keep 4 rfl (Sub.k (Sub.k (Sub.k (Sub.k (Sub.k (Sub.k (Sub.nil _))))))))) (l04Draw_ok _ _ _ s1 w _   (by first | assumption | omega | (try dsimp only at *; omega)) (by first | assumption | omega | (try dsimp only at *; omega))))) ?_)))))
  rintro _ _ rfl
  refine O.exi (fun pv4 => O.exi (fun o3A => O.exi (fun o3c => O.exi (fun o3 => O.exi (fun i3A => O.exi (fun i3c => O.exi (fun i3 => O.sep (O.pur ?_))))))))
  rintro ⟨rfl, hpv4_1, hpv4_2⟩
  refine O.sep (O.f rfl (Ef.alloc rfl zr28 rfl) ?_)
  rintro _ _ ⟨b6, rfl, rfl⟩
  refine O.s rfl rfl (Ef.storeAll 0 rfl sz28 rfl rfl rfl rfl (by simp [Value.oneCell']) rfl) ?_
  rintro _ _ rfl
  refine O.nil (X.next (V.seq (V.seq (V.region (O.q rfl (Pu.loadAgg rfl ag28 sz28 rfl rfl (Ld.whole 0 rfl)) (O.f rfl (Ef.callP call43 rfl rfl (fun w hw => l04Is_ok  pv4 o3 i3 _ _ _ _ w ((Ld.trO 1 (by exact rfl)) w hw) ((Ld.trI 1 (by exact rfl)) w hw) (by omega) (by omega) )) ?_))))))
  rintro _ _ ⟨rfl, rfl⟩
  refine O.m rfl (O.splitD 42 rfl (fun c8 => ?_) (fun c8 => ?_))
  ·refine O.gm rfl (O.gf rfl (Ef.call call68 rfl rfl (Does.pre (fun w hw => hw.sub (Sub.keep 2 rfl (Sub.k (Sub.k (Sub.k (Sub.k (Sub.k (Sub.k (Sub.k (Sub.k (Sub.nil _))))))))))) (l01Next_ok _ _ _ s1 (2 : Int) w _   (by first | assumption | omega | (try dsimp only at *; omega)) (by first | assumption | omega | (try dsimp only at *; omega))))) ?_)
   rintro _ _ rfl
   refine O.exi (fun r9 => O.sep (O.pur ?_))
   rintro ⟨rfl, hr9_1, hr9_2, hr9_3⟩
   refine O.gq rfl (Pu.eql rfl rfl rfl) (O.m rfl (O.nil (X.next (V.condD rfl (fun c9 => ?_) (fun c9 => ?_)))))
   ·refine V.seq (V.drawS mo (by kernel_rfl) (Sub.keep 1 rfl (Sub.keep 1 rfl (Sub.keep 1 rfl (Sub.keep 1 rfl (Sub.keep 1 rfl (Sub.keep 1 rfl (Sub.nil _))))))) (fun hwf => D.q 0 rfl (Pu.fieldAddr 0 rfl Tryz.underlying28 rfl sz2 rfl rfl) (D.q 1 rfl (Pu.load rfl pl2 rfl (Ld.blk 0 rfl rfl)) (D.q 2 rfl (Pu.fieldAddr 1 rfl Tryz.underlying28 rfl sz24 rfl rfl) (D.q 3 rfl (Pu.load rfl pl24 rfl (Ld.blk 0 rfl rfl)) (D.q 5 rfl (Pu.loadAgg rfl ag28 sz28 rfl rfl (Ld.whole 0 rfl)) (D.f hwf 4 rfl (Ef.call1 call45 rfl rfl (fun w hw => l01Made_ok  pv4 o3 _ _ w ((Ld.trO 2 (by exact rfl)) w hw) (by first | omega | (simp only [List.length_append, List.length_cons, List.length_nil, List.length_take, List.length_drop]; omega)) (by first | omega | (simp only [List.length_append, List.length_cons, List.length_nil, List.length_take, List.length_drop]; omega)))) ?_)))))))
    rintro _ _ rfl hs
    refine ⟨fun w hw => hs w hw.tail, (D.exi (fun r10A => D.exi (fun r10c => D.exi (fun r10 => D.sep (D.pur1 ?_)))))⟩
    rintro ⟨rfl, hr10_1, hr10_2⟩
    have hlm := hr10_1.length_eq
    refine D.f hwf 6 rfl (Ef.storeAll 9 rfl sz26 rfl rfl rfl rfl (by simp [Value.oneCell']) rfl) ?_
    rintro _ _ rfl hs
    refine ⟨fun w hw => hw.sub (Sub.keep 2 rfl (Sub.keep 2 rfl (Sub.keep 2 rfl (Sub.keep 2 rfl (Sub.keep 2 rfl (Sub.keep 2 rfl (Sub.nil _))))))), (D.f hwf 7 rfl (Ef.storeAll 8 rfl sz28 rfl rfl rfl rfl (by simp [Value.oneCell']) rfl) ?_)⟩
    rintro _ _ rfl hs
    exact ⟨fun w hw => hw.sub (Sub.keep 2 rfl (Sub.keep 2 rfl (Sub.keep 2 rfl (Sub.keep 2 rfl (Sub.keep 2 rfl (Sub.keep 2 rfl (Sub.nil _))))))), (D.done hwf rfl (X.next (V.ret (X.thenRet (X.retCell22 rfl ag26 sz26 rfl ag28 sz28 rfl rfl rfl (Ld.whole 9 rfl) (Ld.whole 8 rfl) (fun w hw => St.mkExi pv4 (St.mkExi r10A (St.mkExi r10c (St.mkExi r10 (St.mkExi pv4 (St.mkExi o3A (St.mkExi o3c (St.mkExi o3 (St.mkExi i3A (St.mkExi i3c (St.mkExi i3 (St.unsep (St.addPur ⟨rfl, (by omega), (by first | omega | (simp only [List.length_nil]; omega)), (by first | omega | (simp only [List.length_nil]; omega))⟩ (St.unsep (hw.sub (Sub.k (Sub.keep 2 rfl (Sub.nil _)))))))))))))))))))))))⟩
   ·refine V.skip (X.next (V.seq (V.drawS mo (by kernel_rfl) (Sub.keep 1 rfl (Sub.keep 1 rfl (Sub.keep 1 rfl (Sub.keep 1 rfl (Sub.keep 1 rfl (Sub.keep 1 rfl (Sub.nil _))))))) (fun hwf => D.q 0 rfl (Pu.loadAgg rfl ag26 sz26 rfl rfl (Ld.whole 4 rfl)) (D.q 1 rfl (Pu.loadAgg rfl ag28 sz28 rfl rfl (Ld.whole 0 rfl)) (D.f hwf 2 rfl (Ef.storeAll 8 rfl sz26 rfl rfl rfl rfl (by simp [Value.oneCell']) rfl) ?_))))))
    rintro _ _ rfl hs
    refine ⟨fun w hw => hw.sub (Sub.keep 1 rfl (Sub.keep 1 rfl (Sub.keep 1 rfl (Sub.keep 1 rfl (Sub.keep 1 rfl (Sub.keep 1 rfl (Sub.nil _))))))), (D.f hwf 3 rfl (Ef.storeAll 7 rfl sz28 rfl rfl rfl rfl (by simp [Value.oneCell']) rfl) ?_)⟩
    rintro _ _ rfl hs
    exact ⟨fun w hw => hw.sub (Sub.keep 1 rfl (Sub.keep 1 rfl (Sub.keep 1 rfl (Sub.keep 1 rfl (Sub.keep 1 rfl (Sub.keep 1 rfl (Sub.nil _))))))), (D.done hwf rfl (X.next (V.ret (X.retCell22 rfl ag26 sz26 rfl ag28 sz28 rfl rfl rfl (Ld.whole 8 rfl) (Ld.whole 7 rfl) (fun w hw => St.mkExi pv1 (St.mkExi r1A (St.mkExi r1c (St.mkExi r1 (St.mkExi pv4 (St.mkExi o3A (St.mkExi o3c (St.mkExi o3 (St.mkExi i3A (St.mkExi i3c (St.mkExi i3 (St.unsep (St.addPur ⟨rfl, (by omega), (by first | omega | (simp only [List.length_nil]; omega)), (by first | omega | (simp only [List.length_nil]; omega))⟩ (St.unsep (hw.sub (Sub.keep 6 rfl (Sub.keep 2 rfl (Sub.nil _))))))))))))))))))))))⟩
  ·refine O.g rfl (O.g rfl (O.g rfl (O.m rfl (O.nil (X.next (V.condF rfl (V.skip (X.next (V.seq (V.drawS mo (by kernel_rfl) (Sub.k (Sub.k (Sub.keep 1 rfl (Sub.keep 1 rfl (Sub.keep 1 rfl (Sub.keep 1 rfl (Sub.nil _))))))) (fun hwf => D.q 0 rfl (Pu.loadAgg rfl ag26 sz26 rfl rfl (Ld.whole 4 rfl)) ?_)))))))))))
   refine D.q 1 rfl (Pu.loadAgg rfl ag28 sz28 rfl rfl (Ld.whole 0 rfl)) (D.f hwf 2 rfl (Ef.storeAll 8 rfl sz26 rfl rfl rfl rfl (by simp [Value.oneCell']) rfl) ?_)
   rintro _ _ rfl hs
   refine ⟨fun w hw => hw.sub (Sub.k (Sub.k (Sub.keep 1 rfl (Sub.keep 1 rfl (Sub.keep 1 rfl (Sub.keep 1 rfl (Sub.nil _))))))), (D.f hwf 3 rfl (Ef.storeAll 7 rfl sz28 rfl rfl rfl rfl (by simp [Value.oneCell']) rfl) ?_)⟩
   rintro _ _ rfl hs
   exact ⟨fun w hw => hw.sub (Sub.k (Sub.k (Sub.keep 1 rfl (Sub.keep 1 rfl (Sub.keep 1 rfl (Sub.keep 1 rfl (Sub.nil _))))))), (D.done hwf rfl (X.next (V.ret (X.retCell22 rfl ag26 sz26 rfl ag28 sz28 rfl rfl rfl (Ld.whole 8 rfl) (Ld.whole 7 rfl) (fun w hw => St.mkExi pv1 (St.mkExi r1A (St.mkExi r1c (St.mkExi r1 (St.mkExi pv4 (St.mkExi o3A (St.mkExi o3c (St.mkExi o3 (St.mkExi i3A (St.mkExi i3c (St.mkExi i3 (St.unsep (St.addPur ⟨rfl, (by omega), (by first | omega | (simp only [List.length_nil]; omega)), (by first | omega | (simp only [List.length_nil]; omega))⟩ (St.unsep (hw.sub (Sub.keep 6 rfl (Sub.keep 1 rfl (Sub.nil _))))))))))))))))))))))⟩
set_option maxRecDepth 100000 in
set_option maxHeartbeats 1000000 in
theorem DrawCarryOut_ok (code : List UInt8) (codeA : Option Addr) (codec : Nat) (w : World) (hcode : Rd U8C w codeA code) (lcode : code.length ≤ 1099511627776) (lc : code.length ≤ 1048576) : Does Tryz.prog 6 [.slice codeA code.length codec] w [] (fun rv_ => [.exi fun (pv : Int) => .exi fun (rA : Option Addr) => .exi fun (rc : Nat) => .exi fun (r : List B3) => .exi fun (pu : Int) => .exi fun (oA : Option Addr) => .exi fun (oc : Nat) => .exi fun (o : List B3) => .exi fun (iA : Option Addr) => .exi fun (ic : Nat) => .exi fun (i : List B3) => .sep (.pur (rv_ = .tuple #[.agg #[.int .i64 pv, .slice rA r.length rc], .agg #[.int .i64 pu, .slice oA o.length oc, .slice iA i.length ic]] ∧ r.length ≤ 4200 ∧ o.length ≤ 1000 ∧ i.length ≤ 1000)) (.sep (Own 69 B3C rA rc r) (TrdA oA oc o iA ic i))]) := by
 refine Does.enter Tryz.func6 rfl rfl [(0, .slice codeA code.length codec)] rfl (V.seq (V.region (O.f rfl (Ef.alloc rfl zr26 rfl) ?_)))
 rintro _ _ ⟨b1, rfl, rfl⟩
 refine O.f rfl (Ef.alloc rfl zr28 rfl) ?_
 rintro _ _ ⟨b2, rfl, rfl⟩
 refine O.nil (X.next (V.seq (V.region (O.m rfl (O.f rfl (Ef.call1 call38 rfl rfl (fun w hw => l04With_ok  code _ _ w ((Ld.old hcode) w hw) (by first | omega | (simp only [tops_len, conts_len, bl, List.length_append, List.length_cons, List.length_nil] at *; omega)) (by first | assumption | omega | (try dsimp only at *; omega)))) ?_)))))
 rintro _ _ rfl
 refine O.exi (fun pv1 => O.exi (fun r1A => O.exi (fun r1c => O.exi (fun r1 => O.exi (fun pu1 => O.exi (fun o1A => O.exi (fun o1c => O.exi (fun o1 => O.exi (fun i1A => O.exi (fun i1c => O.exi (fun i1 => O.sep ?_)))))))))))
 refine O.pur ?_
 rintro ⟨rfl, hpv1_1, hpv1_2, hpv1_3⟩
 refine O.sep (O.m rfl (O.m rfl (O.s rfl rfl (Ef.storeAll 3 rfl sz26 rfl rfl rfl rfl (by simp [Value.oneCell']) rfl) ?_)))
 rintro _ _ rfl
 refine O.s rfl rfl (Ef.storeAll 2 rfl sz28 rfl rfl rfl rfl (by simp [Value.oneCell']) rfl) ?_
 rintro _ _ rfl
 exact O.nil (X.next (V.ret (X.retCell22 rfl ag26 sz26 rfl ag28 sz28 rfl rfl rfl (Ld.whole 3 rfl) (Ld.whole 2 rfl) (fun w hw => St.mkExi pv1 (St.mkExi r1A (St.mkExi r1c (St.mkExi r1 (St.mkExi pu1 (St.mkExi o1A (St.mkExi o1c (St.mkExi o1 (St.mkExi i1A (St.mkExi i1c (St.mkExi i1 (St.unsep (St.addPur ⟨rfl, hpv1_1, hpv1_2, hpv1_3⟩ (St.unsep (hw.sub (Sub.k (Sub.k (Sub.nil _)))))))))))))))))))))
set_option maxRecDepth 100000 in
set_option maxHeartbeats 1000000 in
theorem DrawInverseTrade_ok (code : List UInt8) (codeA : Option Addr) (codec : Nat) (w : World) (hcode : Rd U8C w codeA code) (lcode : code.length ≤ 1099511627776) (lc : code.length ≤ 1048576) : Does Tryz.prog 14 [.slice codeA code.length codec] w [] (fun r => [.exi fun (pv : Int) => .exi fun (oA : Option Addr) => .exi fun (oc : Nat) => .exi fun (o : List B3) => .exi fun (iA : Option Addr) => .exi fun (ic : Nat) => .exi fun (i : List B3) => .sep (.pur (r = .agg #[.int .i64 pv, .slice oA o.length oc, .slice iA i.length ic] ∧ o.length ≤ 1000 ∧ i.length ≤ 1000)) (TrdA oA oc o iA ic i)]) := by
 refine Does.enter Tryz.func14 rfl rfl [(0, .slice codeA code.length codec)] rfl (V.seq (V.region (O.f rfl (Ef.alloc rfl zr28 rfl) ?_)))
 rintro _ _ ⟨b1, rfl, rfl⟩
 refine O.nil (X.next (V.seq (V.region (O.m rfl (O.f rfl (Ef.call1 call52 rfl rfl (fun w hw => l01From_ok  code _ _ w ((Ld.old hcode) w hw) (by first | omega | (simp only [tops_len, conts_len, bl, List.length_append, List.length_cons, List.length_nil] at *; omega)) (by first | assumption | omega | (try dsimp only at *; omega)))) ?_)))))
 rintro _ _ rfl
 refine O.exi (fun s1 => O.sep (O.pur ?_))
 rintro rfl
 refine O.f rfl (Ef.call call51 rfl rfl (Does.pre (fun w hw => hw.sub (Sub.k (Sub.k (Sub.nil _)))) (l04Draw_ok _ _ _ s1 w _   (by first | assumption | omega | (try dsimp only at *; omega)) (by first | assumption | omega | (try dsimp only at *; omega))))) ?_
 rintro _ _ rfl
 refine O.exi (fun pv1 => O.exi (fun o1A => O.exi (fun o1c => O.exi (fun o1 => O.exi (fun i1A => O.exi (fun i1c => O.exi (fun i1 => O.sep (O.pur ?_))))))))
 rintro ⟨rfl, hpv1_1, hpv1_2⟩
 refine O.sep (O.s rfl rfl (Ef.storeAll 2 rfl sz28 rfl rfl rfl rfl (by simp [Value.oneCell']) rfl) ?_)
 rintro _ _ rfl
 exact O.nil (X.next (V.ret (X.retCell rfl ag28 sz28 rfl rfl (Ld.whole 2 rfl) (fun w hw => St.mkExi pv1 (St.mkExi o1A (St.mkExi o1c (St.mkExi o1 (St.mkExi i1A (St.mkExi i1c (St.mkExi i1 (St.unsep (St.addPur ⟨rfl, hpv1_1, hpv1_2⟩ (hw.sub (Sub.k (Sub.nil _)))))))))))))))
set_option maxRecDepth 100000 in
set_option maxHeartbeats 1000000 in
theorem trade9_ok (v : Int) (os ns : List B3) (v2 : Int) (os2 ns2 : List B3) (A1 A2 : Option Addr) (k1 k2 : Nat) (B1 B2 : Option Addr) (j1 j2 : Nat) (w : World) (ho : Rd B3C w A1 os) (hnt : Rd B3C w A2 ns) (ho2 : Rd B3C w B1 os2) (hn2 : Rd B3C w B2 ns2) (lo : os.length ≤ 4611686018427387904) (ln : ns.length ≤ 4611686018427387904) (lo2 : os2.length ≤ 4611686018427387904) (ln2 : ns2.length ≤ 4611686018427387904) : Does Tryz.prog 17 [.agg #[.int .i64 v, .slice A1 os.length k1, .slice A2 ns.length k2], .agg #[.int .i64 v2, .slice B1 os2.length j1, .slice B2 ns2.length j2]] w [] (fun r => [.pur (r = .bool (decide (v = v2 ∧ os = os2 ∧ ns = ns2)))]) := by
 refine Does.enter Tryz.func17 rfl rfl [(0, .agg #[.int .i64 v, .slice A1 os.length k1, .slice A2 ns.length k2]), (1, .agg #[.int .i64 v2, .slice B1 os2.length j1, .slice B2 ns2.length j2])] rfl (V.seq (V.region (O.f rfl (Ef.box rfl rfl rfl) ?_)))
 rintro _ _ ⟨b1, rfl, rfl⟩
 refine O.f rfl (Ef.box rfl rfl rfl) ?_
 rintro _ _ ⟨b2, rfl, rfl⟩
 refine O.m rfl (O.nil (X.next (V.seq (V.region (O.q rfl (Pu.fieldAddr 0 rfl Tryz.underlying28 rfl sz2 rfl rfl) (O.q rfl (Pu.load rfl pl2 rfl (Ld.blk 1 rfl rfl)) (O.q rfl (Pu.fieldAddr 0 rfl Tryz.underlying28 rfl sz2 rfl rfl) (O.q rfl (Pu.load rfl pl2 rfl (Ld.blk 0 rfl rfl)) (O.q rfl (Pu.eql rfl rfl rfl) (O.m rfl (O.splitD 10 rfl (fun c1 => ?_) (fun c1 => ?_))))))))))))
 ·refine O.gq rfl (Pu.fieldAddr 1 rfl Tryz.underlying28 rfl sz24 rfl rfl) (O.gq rfl (Pu.load rfl pl24 rfl (Ld.blk 1 rfl rfl)) (O.gq rfl (Pu.fieldAddr 1 rfl Tryz.underlying28 rfl sz24 rfl rfl) (O.gq rfl (Pu.load rfl pl24 rfl (Ld.blk 0 rfl rfl)) (O.gf rfl (Ef.callP call47 rfl rfl (fun w hw => blocks9_ok  os os2 _ _ _ _ w ((Ld.old ho) w hw) ((Ld.old ho2) w hw) (by first | omega | (simp only [tops_len, conts_len, bl, List.length_append, List.length_cons, List.length_nil] at *; omega)) (by first | omega | (simp only [tops_len, conts_len, bl, List.length_append, List.length_cons, List.length_nil] at *; omega)) )) ?_))))
  rintro _ _ ⟨rfl, rfl⟩
  refine O.m rfl (O.m rfl (O.splitD 17 rfl (fun c2 => ?_) (fun c2 => ?_)))
  ·refine O.gq rfl (Pu.fieldAddr 2 rfl Tryz.underlying28 rfl sz24 rfl rfl) (O.gq rfl (Pu.load rfl pl24 rfl (Ld.blk 1 rfl rfl)) (O.gq rfl (Pu.fieldAddr 2 rfl Tryz.underlying28 rfl sz24 rfl rfl) (O.gq rfl (Pu.load rfl pl24 rfl (Ld.blk 0 rfl rfl)) (O.gf rfl (Ef.callP call47 rfl rfl (fun w hw => blocks9_ok  ns ns2 _ _ _ _ w ((Ld.old hnt) w hw) ((Ld.old hn2) w hw) (by first | omega | (simp only [tops_len, conts_len, bl, List.length_append, List.length_cons, List.length_nil] at *; omega)) (by first | omega | (simp only [tops_len, conts_len, bl, List.length_append, List.length_cons, List.length_nil] at *; omega)) )) ?_))))
   rintro _ _ ⟨rfl, rfl⟩
   exact O.m rfl (O.m rfl (O.nil (X.next (V.ret (X.ret1 rfl rfl (fun w hw => St.retP (boolD (by first | exact ⟨c1, c2, c3⟩ | exact fun h => c1 h.1 | exact fun h => c2 h.2.1 | exact fun h => c3 h.2.2 | (constructor; (· exact fun h => ⟨c1, c2, h⟩); (· exact fun h => h.2.2)) | simp_all)) hw))))))
  ·exact O.g rfl (O.g rfl (O.g rfl (O.g rfl (O.g rfl (O.m rfl (O.m rfl (O.nil (X.next (V.ret (X.ret1 rfl rfl (fun w hw => St.retP (boolF (by first | exact ⟨c1, c2, c3⟩ | exact fun h => c1 h.1 | exact fun h => c2 h.2.1 | exact fun h => c3 h.2.2 | (constructor; (· exact fun h => ⟨c1, c2, h⟩); (· exact fun h => h.2.2)) | simp_all)) hw)))))))))))
 ·refine O.g rfl (O.g rfl (O.g rfl (O.g rfl (O.g rfl (O.m rfl (O.m rfl (O.g rfl (O.g rfl (O.g rfl (O.g rfl (O.g rfl ?_)))))))))))
  exact O.m rfl (O.m rfl (O.nil (X.next (V.ret (X.ret1 rfl rfl (fun w hw => St.retP (boolF (by first | exact ⟨c1, c2, c3⟩ | exact fun h => c1 h.1 | exact fun h => c2 h.2.1 | exact fun h => c3 h.2.2 | (constructor; (· exact fun h => ⟨c1, c2, h⟩); (· exact fun h => h.2.2)) | simp_all)) hw))))))
set_option maxRecDepth 100000 in
set_option maxHeartbeats 1000000 in
theorem FnTrades_ok (code : List UInt8) (codeA : Option Addr) (codec : Nat) (w : World) (hcode : Rd U8C w codeA code) (lcode : code.length ≤ 9223372036854775807) : Does Tryz.prog 3 [.slice codeA code.length codec] w [] (fun r => [.pur (r = .bool true)]) := by
 refine Does.enter Tryz.func3 rfl rfl [(0, .slice codeA code.length codec)] rfl (V.seq (V.region (O.m rfl (O.nil (X.next (V.seq (V.seq (V.region (O.m rfl (O.f rfl (Ef.callP call5 rfl rfl (fun w hw => big_ok  code _ _ w ((Ld.old hcode) w hw) (by first | omega | (simp only [tops_len, conts_len, bl, List.length_append, List.length_cons, List.length_nil] at *; omega)) )) ?_))))))))))
 rintro _ _ ⟨rfl, rfl⟩
 refine O.nil (X.next (V.condD rfl (fun c1 => ?_) (fun c1 => ?_)))
 ·exact V.seq (V.region (O.m rfl (O.nil (X.next (V.ret (X.thenRet (X.ret1 rfl rfl (fun w hw => St.retP rfl hw))))))))
 ·have lc : code.length ≤ 1048576 := by omega
  refine V.skip (X.next (V.seq (V.region (O.m rfl (O.f rfl (Ef.call1 call6 rfl rfl (fun w hw => DrawCarryOut_ok  code _ _ w ((Ld.old hcode) w hw) (by first | omega | (simp only [tops_len, conts_len, bl, List.length_append, List.length_cons, List.length_nil] at *; omega)) (by first | assumption | omega | (try dsimp only at *; omega)))) ?_)))))
  rintro _ _ rfl
  refine O.exi (fun pv1 => O.exi (fun r1A => O.exi (fun r1c => O.exi (fun r1 => O.exi (fun pu1 => O.exi (fun o1A => O.exi (fun o1c => O.exi (fun o1 => O.exi (fun i1A => O.exi (fun i1c => O.exi (fun i1 => O.sep ?_)))))))))))
  refine O.pur ?_
  rintro ⟨rfl, hpv1_1, hpv1_2, hpv1_3⟩
  refine O.sep (O.m rfl (O.m rfl (O.m rfl (O.f rfl (Ef.alloc rfl zr26 rfl) ?_))))
  rintro _ _ ⟨b1, rfl, rfl⟩
  refine O.f rfl (Ef.alloc rfl zr28 rfl) ?_
  rintro _ _ ⟨b2, rfl, rfl⟩
  refine O.s rfl rfl (Ef.storeAll 1 rfl sz26 rfl rfl rfl rfl (by simp [Value.oneCell']) rfl) ?_
  rintro _ _ rfl
  refine O.s rfl rfl (Ef.storeAll 0 rfl sz28 rfl rfl rfl rfl (by simp [Value.oneCell']) rfl) ?_
  rintro _ _ rfl
  refine O.nil (X.next (V.seq (V.fact (fun w hw => TrdA.nilc (i := 3) hw (by exact rfl)) (fun hnil => V.region (O.q rfl (Pu.loadAgg rfl ag26 sz26 rfl rfl (Ld.whole 1 rfl)) (O.q rfl (Pu.loadAgg rfl ag28 sz28 rfl rfl (Ld.whole 0 rfl)) (O.f rfl (Ef.call1 call7 rfl rfl (fun w hw => implCarry_ok  pv1 r1 pu1 o1 i1 _ _ _ _ _ _ w ((Ld.own 2 (by exact rfl)) w hw) ((Ld.trO 3 (by exact rfl)) w hw) ((Ld.trI 3 (by exact rfl)) w hw) (by first | omega | (simp only [tops_len, conts_len, bl, List.length_append, List.length_cons, List.length_nil] at *; omega)) (by omega) (by omega) hnil.2)) ?_)))))))
  rintro _ _ rfl
  refine O.exi (fun r2A => O.exi (fun r2c => O.exi (fun r2 => O.sep (O.pur ?_))))
  rintro ⟨rfl, hr2_1⟩
  have hly := hr2_1.len
  refine O.m rfl (O.m rfl (O.m rfl (O.f rfl (Ef.alloc rfl zr26 rfl) ?_)))
  rintro _ _ ⟨b3, rfl, rfl⟩
  refine O.s rfl rfl (Ef.storeAll 0 rfl sz26 rfl rfl rfl rfl (by simp [Value.oneCell']) rfl) ?_
  rintro _ _ rfl
  refine O.m rfl (O.nil (X.next (V.seq (V.seq (V.region (O.q rfl (Pu.loadAgg rfl ag26 sz26 rfl rfl (Ld.whole 3 rfl)) (O.q rfl (Pu.loadAgg rfl ag28 sz28 rfl rfl (Ld.whole 2 rfl)) (O.f rfl (Ef.call1 call8 rfl rfl (fun w hw => specCarry_ok  pv1 r1 pu1 o1 i1 _ _ _ _ _ _ w ((Ld.own 4 (by exact rfl)) w hw) ((Ld.trO 5 (by exact rfl)) w hw) ((Ld.trI 5 (by exact rfl)) w hw) (by first | omega | (simp only [tops_len, conts_len, bl, List.length_append, List.length_cons, List.length_nil] at *; omega)) (by omega) (by omega) hnil.2)) ?_))))))))
  rintro _ _ rfl
  refine O.exi (fun r3A => O.exi (fun r3c => O.exi (fun r3 => O.sep (O.pur ?_))))
  rintro ⟨rfl, hr3_1⟩
  have hyeq := hr2_1.unique hr3_1
  have hly2 := hr3_1.len
  refine O.m rfl (O.m rfl (O.m rfl (O.f rfl (Ef.alloc rfl zr26 rfl) ?_)))
  rintro _ _ ⟨b4, rfl, rfl⟩
  refine O.s rfl rfl (Ef.storeAll 0 rfl sz26 rfl rfl rfl rfl (by simp [Value.oneCell']) rfl) ?_
  rintro _ _ rfl
  refine O.m rfl (O.nil (X.next (V.seq (V.draw mo (by kernel_rfl) (fun hwf => D.m 0 rfl (D.m 1 rfl (D.q 2 rfl (Pu.neq rfl rfl rfl) (D.m 3 rfl (D.splitN 52 rfl (fun c2 => ?_) (fun c2 => ?_))))))))))
  ·refine D.g 4 rfl (D.g 5 rfl (D.g 6 rfl (D.g 7 rfl (D.m 8 rfl (D.m 9 rfl (D.g 10 rfl (D.g 11 rfl (D.g 12 rfl (D.g 13 rfl (D.g 14 rfl (D.m 15 rfl ?_)))))))))))
   exact D.done hwf rfl (X.next (V.condT rfl (V.seq (V.region (O.m rfl (O.nil (X.next (V.ret (X.thenRet (X.ret1 rfl rfl (absurd (by first | assumption | rfl | exact ⟨rfl, rfl⟩ | exact ⟨rfl, by assumption⟩ | exact ⟨⟨rfl, by assumption⟩, rfl, by assumption⟩ | omega | (simp only [*]; done) | (rw [rfl])) c2)))))))))))
  ·refine D.gq 4 rfl (Pu.loadAgg rfl ag26 sz26 rfl rfl (Ld.whole 2 rfl)) (D.gq 5 rfl (Pu.loadAgg rfl ag26 sz26 rfl rfl (Ld.whole 0 rfl)) (D.geff hwf (e := 6) rfl rfl rfl rfl rfl rfl (Ef.callP call9 rfl rfl (fun w hw => system9_ok  (if crC pv1 r1 pu1 o1 i1 = 0 then pv1 else 0) r2 (if crC pv1 r1 pu1 o1 i1 = 0 then pv1 else 0) r3 _ _ _ _ w ((Ld.own 3 (by exact rfl)) w hw) ((Ld.own 1 (by exact rfl)) w hw) (by first | omega | (simp only [tops_len, conts_len, bl, List.length_append, List.length_cons, List.length_nil] at *; omega)) (by first | omega | (simp only [tops_len, conts_len, bl, List.length_append, List.length_cons, List.length_nil] at *; omega)) )) rfl rfl rfl ?_))
   rintro _ _ ⟨rfl, rfl⟩ hs
   refine ⟨fun w hw => hw, (D.gq 7 rfl (Pu.not rfl rfl) (D.m 8 rfl (D.m 9 rfl (D.splitN 58 rfl (fun c3 => ?_) (fun c3 => ?_)))))⟩
   ·refine D.g 10 rfl (D.g 11 rfl (D.g 12 rfl (D.g 13 rfl (D.g 14 rfl (D.m 15 rfl (D.done hwf rfl (X.next (V.condT rfl (V.seq (V.region (O.m rfl ?_)))))))))))
    exact O.nil (X.next (V.ret (X.thenRet (X.ret1 rfl rfl (absurd (by first | assumption | rfl | exact ⟨rfl, rfl⟩ | exact ⟨rfl, by assumption⟩ | exact ⟨⟨rfl, by assumption⟩, rfl, by assumption⟩ | omega | (simp only [*]; done) | (rw [rfl])) c3)))))
   ·refine D.gq 10 rfl (Pu.loadAgg rfl ag28 sz28 rfl rfl (Ld.whole 4 rfl)) (D.gq 12 rfl (Pu.loadAgg rfl ag28 sz28 rfl rfl (Ld.whole 4 rfl)) (D.geff hwf (e := 11) rfl rfl rfl rfl rfl rfl (Ef.callP call10 rfl rfl (fun w hw => isTrade_ok  pu1 o1 i1 _ _ _ _ w ((Ld.trO 7 (by exact rfl)) w hw) ((Ld.trI 7 (by exact rfl)) w hw) (by omega) (by omega) )) rfl rfl rfl ?_))
    rintro _ _ ⟨rfl, rfl⟩ hs
    refine ⟨fun w hw => hw, (D.geff hwf (e := 13) rfl rfl rfl rfl rfl rfl (Ef.callP call11 rfl rfl (fun w hw => specIsTrade_ok  pu1 o1 i1 _ _ _ _ w ((Ld.trO 7 (by exact rfl)) w hw) ((Ld.trI 7 (by exact rfl)) w hw) (by omega) (by omega) )) rfl rfl rfl ?_)⟩
    rintro _ _ ⟨rfl, rfl⟩ hs
    refine ⟨fun w hw => hw, (D.gq 14 rfl (Pu.boolNeq Tryz.underlying4 rfl rfl rfl) (D.m 15 rfl (D.done hwf rfl (X.next (V.cond rfl (fun c4 => ?_) (fun c4 => ?_))))))⟩
    ·exact (dec_ne Iff.rfl c4).elim
    ·refine V.skip (X.next (V.seq (V.region (O.q rfl (Pu.loadAgg rfl ag26 sz26 rfl rfl (Ld.whole 5 rfl)) (O.q rfl (Pu.loadAgg rfl ag28 sz28 rfl rfl (Ld.whole 4 rfl)) (O.f rfl (Ef.callP call12 rfl rfl (fun w hw => implFitsSystem_ok  pv1 r1 pu1 o1 i1 _ _ _ _ _ _ w ((Ld.own 6 (by exact rfl)) w hw) ((Ld.trO 7 (by exact rfl)) w hw) ((Ld.trI 7 (by exact rfl)) w hw) (by first | omega | (simp only [tops_len, conts_len, bl, List.length_append, List.length_cons, List.length_nil] at *; omega)) (by omega) (by omega) )) ?_))))))
     rintro _ _ ⟨rfl, rfl⟩
     refine O.m rfl (O.m rfl (O.m rfl (O.m rfl (O.m rfl (O.nil (X.next (V.seq (V.seq (V.region (O.q rfl (Pu.loadAgg rfl ag26 sz26 rfl rfl (Ld.whole 5 rfl)) (O.q rfl (Pu.loadAgg rfl ag28 sz28 rfl rfl (Ld.whole 4 rfl)) ?_)))))))))))
     refine O.f rfl (Ef.callP call13 rfl rfl (fun w hw => specFitsSystem_ok  pv1 r1 pu1 o1 i1 _ _ _ _ _ _ w ((Ld.own 6 (by exact rfl)) w hw) ((Ld.trO 7 (by exact rfl)) w hw) ((Ld.trI 7 (by exact rfl)) w hw) (by first | omega | (simp only [tops_len, conts_len, bl, List.length_append, List.length_cons, List.length_nil] at *; omega)) (by omega) (by omega) )) ?_
     rintro _ _ ⟨rfl, rfl⟩
     refine O.m rfl (O.m rfl (O.m rfl (O.m rfl (O.m rfl (O.nil (X.next (V.seq (V.region (O.m rfl (O.m rfl (O.q rfl (Pu.neq rfl rfl rfl) ?_)))))))))))
     refine O.m rfl (O.splitN 80 rfl (fun c5 => ?_) (fun c5 => ?_))
     ·refine O.g rfl (O.g rfl (O.g rfl (O.m rfl (O.nil (X.next (V.condT rfl (V.seq (V.region (O.m rfl (O.nil (X.next ?_)))))))))))
      exact V.ret (X.thenRet (X.ret1 rfl rfl (absurd (by first | assumption | rfl | exact ⟨rfl, rfl⟩ | exact ⟨rfl, by assumption⟩ | exact ⟨⟨rfl, by assumption⟩, rfl, by assumption⟩ | omega | (simp only [*]; done) | (rw [rfl])) c5)))
     ·refine O.gm rfl (O.gm rfl (O.gq rfl (Pu.boolNeq Tryz.underlying4 rfl rfl rfl) (O.m rfl (O.nil (X.next (V.cond rfl (fun c6 => ?_) (fun c6 => ?_)))))))
      ·exact (dec_ne Iff.rfl c6).elim
      ·refine V.skip (X.next (V.seq (V.region (O.m rfl (O.f rfl (Ef.call1 call14 rfl rfl (fun w hw => DrawInverseTrade_ok  code _ _ w ((Ld.old hcode) w hw) (by first | omega | (simp only [tops_len, conts_len, bl, List.length_append, List.length_cons, List.length_nil] at *; omega)) (by first | assumption | omega | (try dsimp only at *; omega)))) ?_)))))
       rintro _ _ rfl
       refine O.exi (fun pv2 => O.exi (fun o2A => O.exi (fun o2c => O.exi (fun o2 => O.exi (fun i2A => O.exi (fun i2c => O.exi (fun i2 => O.sep (O.pur ?_))))))))
       rintro ⟨rfl, hpv2_1, hpv2_2⟩
       refine O.f rfl (Ef.alloc rfl zr28 rfl) ?_
       rintro _ _ ⟨b5, rfl, rfl⟩
       refine O.s rfl rfl (Ef.storeAll 0 rfl sz28 rfl rfl rfl rfl (by simp [Value.oneCell']) rfl) ?_
       rintro _ _ rfl
       refine O.nil (X.next (V.seq (V.region (O.q rfl (Pu.loadAgg rfl ag28 sz28 rfl rfl (Ld.whole 0 rfl)) (O.f rfl (Ef.call1 call15 rfl rfl (fun w hw => implInverseTrade_ok  pv2 o2 i2 _ _ _ _ w ((Ld.trO 1 (by exact rfl)) w hw) ((Ld.trI 1 (by exact rfl)) w hw) (by omega) (by omega) )) ?_)))))
       rintro _ _ rfl
       refine O.exi (fun o3A => O.exi (fun o3c => O.exi (fun o3 => O.exi (fun i3A => O.exi (fun i3c => O.exi (fun i3 => O.sep (O.pur ?_)))))))
       rintro ⟨rfl, ho3_1⟩
       refine O.sep ?_
       have hin1 := ho3_1
       have hil1 := ho3_1.len
       refine O.m rfl (O.m rfl (O.m rfl (O.f rfl (Ef.alloc rfl zr28 rfl) ?_)))
       rintro _ _ ⟨b6, rfl, rfl⟩
       refine O.s rfl rfl (Ef.storeAll 0 rfl sz28 rfl rfl rfl rfl (by simp [Value.oneCell']) rfl) ?_
       rintro _ _ rfl
       refine O.m rfl (O.nil (X.next (V.seq (V.seq (V.region (O.q rfl (Pu.loadAgg rfl ag28 sz28 rfl rfl (Ld.whole 3 rfl)) (O.f rfl (Ef.call1 call16 rfl rfl (fun w hw => specInverseTrade_ok  pv2 o2 i2 _ _ _ _ w ((Ld.trO 4 (by exact rfl)) w hw) ((Ld.trI 4 (by exact rfl)) w hw) (by omega) (by omega) )) ?_)))))))
       rintro _ _ rfl
       refine O.exi (fun o4A => O.exi (fun o4c => O.exi (fun o4 => O.exi (fun i4A => O.exi (fun i4c => O.exi (fun i4 => O.sep (O.pur ?_)))))))
       rintro ⟨rfl, ho4_1⟩
       refine O.sep ?_
       have hieq := hin1.unique ho4_1
       have hil9 := ho4_1.len
       refine O.m rfl (O.m rfl (O.m rfl (O.f rfl (Ef.alloc rfl zr28 rfl) ?_)))
       rintro _ _ ⟨b7, rfl, rfl⟩
       refine O.s rfl rfl (Ef.storeAll 0 rfl sz28 rfl rfl rfl rfl (by simp [Value.oneCell']) rfl) ?_
       rintro _ _ rfl
       refine O.m rfl (O.nil (X.next (V.seq (V.region (O.m rfl (O.m rfl (O.q rfl (Pu.neq rfl rfl rfl) (O.m rfl (O.splitN 100 rfl (fun c7 => ?_) (fun c7 => ?_))))))))))
       ·refine O.g rfl (O.g rfl (O.g rfl (O.g rfl (O.m rfl (O.nil (X.next (V.condT rfl (V.seq (V.region (O.m rfl (O.nil ?_)))))))))))
        exact X.next (V.ret (X.thenRet (X.ret1 rfl rfl (absurd (by first | assumption | rfl | exact ⟨rfl, rfl⟩ | exact ⟨rfl, by assumption⟩ | exact ⟨⟨rfl, by assumption⟩, rfl, by assumption⟩ | omega | (simp only [*]; done) | (rw [rfl])) c7))))
       ·refine O.gq rfl (Pu.loadAgg rfl ag28 sz28 rfl rfl (Ld.whole 3 rfl)) (O.gq rfl (Pu.loadAgg rfl ag28 sz28 rfl rfl (Ld.whole 0 rfl)) (O.gf rfl (Ef.callP call17 rfl rfl (fun w hw => trade9_ok  (if TRD pv2 o2 i2 then pv2 else 0) o3 i3 (if TRD pv2 o2 i2 then pv2 else 0) o4 i4 _ _ _ _ _ _ _ _ w ((Ld.own 4 (by exact rfl)) w hw) ((Ld.own 5 (by exact rfl)) w hw) ((Ld.own 1 (by exact rfl)) w hw) ((Ld.own 2 (by exact rfl)) w hw) (by omega) (by omega) (by omega) (by omega) )) ?_))
        rintro _ _ ⟨rfl, rfl⟩
        refine O.gq rfl (Pu.not rfl rfl) (O.m rfl (O.nil (X.next (V.condNot rfl (fun c8 => ?_) (fun c8 => ?_)))))
        ·exact absurd ⟨rfl, hieq.1, hieq.2⟩ c8
        ·refine V.skip (X.next (V.seq (V.region (O.q rfl (Pu.loadAgg rfl ag28 sz28 rfl rfl (Ld.whole 6 rfl)) (O.f rfl (Ef.call1 call18 rfl rfl (fun w hw => implPointsOfTrade_ok  pv2 o2 i2 _ _ _ _ w ((Ld.trO 7 (by exact rfl)) w hw) ((Ld.trI 7 (by exact rfl)) w hw) (by omega) (by omega) )) ?_)))))
         rintro _ _ rfl
         refine O.exi (fun o5A => O.exi (fun o5c => O.exi (fun o5 => O.sep (O.pur ?_))))
         rintro ⟨rfl, ho5_1⟩
         have hpt1 := ho5_1
         have hpl1 := ho5_1.len
         refine O.m rfl (O.m rfl (O.m rfl (O.m rfl (O.m rfl (O.nil (X.next (V.seq (V.seq (V.region (O.q rfl (Pu.loadAgg rfl ag28 sz28 rfl rfl (Ld.whole 7 rfl)) (O.f rfl (Ef.call1 call19 rfl rfl (fun w hw => specPointsOfTrade_ok  pv2 o2 i2 _ _ _ _ w ((Ld.trO 8 (by exact rfl)) w hw) ((Ld.trI 8 (by exact rfl)) w hw) (by omega) (by omega) )) ?_)))))))))))
         rintro _ _ rfl
         refine O.exi (fun o6A => O.exi (fun o6c => O.exi (fun o6 => O.sep (O.pur ?_))))
         rintro ⟨rfl, ho6_1⟩
         have hpeq := hpt1.unique ho6_1
         have hpl9 := ho6_1.len
         refine O.m rfl (O.m rfl (O.m rfl (O.m rfl (O.m rfl (O.nil (X.next (V.seq (V.region (O.m rfl (O.m rfl (O.q rfl (Pu.neq rfl rfl rfl) ?_)))))))))))
         refine O.m rfl (O.splitN 119 rfl (fun c9 => ?_) (fun c9 => ?_))
         ·refine O.g rfl (O.g rfl (O.g rfl (O.g rfl (O.m rfl (O.nil (X.next (V.condT rfl (V.seq (V.region (O.m rfl (O.nil ?_)))))))))))
          exact X.next (V.ret (X.thenRet (X.ret1 rfl rfl (absurd (by first | assumption | rfl | exact ⟨rfl, rfl⟩ | exact ⟨rfl, by assumption⟩ | exact ⟨⟨rfl, by assumption⟩, rfl, by assumption⟩ | omega | (simp only [*]; done) | (rw [rfl])) c9))))
         ·refine O.gm rfl (O.gm rfl (O.gf rfl (Ef.callP call20 rfl rfl (fun w hw => likeInts_ok  o5 o6 _ _ _ _ w ((Ld.own 1 (by exact rfl)) w hw) ((Ld.own 0 (by exact rfl)) w hw) (by first | omega | (simp only [tops_len, conts_len, bl, List.length_append, List.length_cons, List.length_nil] at *; omega)) (by first | omega | (simp only [tops_len, conts_len, bl, List.length_append, List.length_cons, List.length_nil] at *; omega)) )) ?_))
          rintro _ _ ⟨rfl, rfl⟩
          refine O.gq rfl (Pu.not rfl rfl) (O.m rfl (O.nil (X.next (V.condNot rfl (fun c10 => ?_) (fun c10 => ?_)))))
          ·exact V.seq (V.region (O.m rfl (O.nil (X.next (V.ret (X.thenRet (X.ret1 rfl rfl (absurd (by first | assumption | rfl | exact ⟨rfl, rfl⟩ | exact ⟨rfl, by assumption⟩ | exact ⟨⟨rfl, by assumption⟩, rfl, by assumption⟩ | omega | (simp only [*]; done) | (rw [rfl])) c10))))))))
          ·refine V.skip (X.next (V.seq (V.seq (V.region (O.m rfl (O.q rfl (Pu.eql rfl rfl rfl) (O.nil (X.next (V.cut2 [] (Ent.cons (t := 3) rfl (Ent.cons (t := 4) rfl (Ent.cons (t := 5) rfl (Ent.cons (t := 6) rfl (Ent.cons (t := 9) rfl (Ent.cons (t := 10) rfl (Ent.nil _))))))) (Sub.k (Sub.k (Sub.k (Sub.k (Sub.k (Sub.k (Sub.k (Sub.k (Sub.k (Sub.k (Sub.k (Sub.k (Sub.k (Sub.k (Sub.k (Sub.k (Sub.k (Sub.k (Sub.nil _))))))))))))))))))) ?_ ?_)))))))))
           ·refine V.condD rfl (fun c11 => ?_) (fun c11 => ?_)
            ·have hT2 : TRD pv2 o2 i2 := Decidable.byContradiction (fun h => absurd (if_neg h ▸ c11) (by decide))
             obtain ⟨hT8, hT9⟩ := hin1.1 hT2
             have hT3 : TRD (if TRD pv2 o2 i2 then pv2 else 0) o3 i3 := by rw [if_pos hT2, hT8, hT9]; exact trd_symm hT2
             have hT5 := trd_len hT2
             refine V.seq (V.region (O.q rfl (Pu.loadAgg rfl ag28 sz28 rfl rfl (Ld.whole 5 rfl)) (O.f rfl (Ef.call1 call15 rfl rfl (fun w hw => implInverseTrade_ok  (if TRD pv2 o2 i2 then pv2 else 0) o3 i3 _ _ _ _ w ((Ld.own 6 (by exact rfl)) w hw) ((Ld.own 7 (by exact rfl)) w hw) (by omega) (by omega) )) ?_)))
             rintro _ _ rfl
             refine O.exi (fun o7A => O.exi (fun o7c => O.exi (fun o7 => O.exi (fun i5A => O.exi (fun i5c => O.exi (fun i5 => O.sep (O.pur ?_)))))))
             rintro ⟨rfl, ho7_1⟩
             refine O.sep ?_
             have hin2 := ho7_1
             have hil2 := ho7_1.len
             refine O.m rfl (O.m rfl (O.m rfl (O.f rfl (Ef.alloc rfl zr28 rfl) ?_)))
             rintro _ _ ⟨b8, rfl, rfl⟩
             refine O.s rfl rfl (Ef.storeAll 0 rfl sz28 rfl rfl rfl rfl (by simp [Value.oneCell']) rfl) ?_
             rintro _ _ rfl
             refine O.m rfl (O.nil (X.next (V.seq (V.region (O.q rfl (Pu.loadAgg rfl ag28 sz28 rfl rfl (Ld.whole 8 rfl)) (O.f rfl (Ef.call1 call18 rfl rfl (fun w hw => implPointsOfTrade_ok  (if TRD pv2 o2 i2 then pv2 else 0) o3 i3 _ _ _ _ w ((Ld.own 9 (by exact rfl)) w hw) ((Ld.own 10 (by exact rfl)) w hw) (by omega) (by omega) )) ?_))))))
             rintro _ _ rfl
             refine O.exi (fun o8A => O.exi (fun o8c => O.exi (fun o8 => O.sep (O.pur ?_))))
             rintro ⟨rfl, ho8_1⟩
             have hpt2 := ho8_1
             have hpl2 := ho8_1.len
             refine O.m rfl (O.m rfl (O.m rfl (O.m rfl (O.m rfl (O.nil (X.next (V.seq (V.region (O.m rfl (O.q rfl (Pu.neq rfl rfl rfl) (O.m rfl (O.splitN 139 rfl (fun c12 => ?_) (fun c12 => ?_)))))))))))))
             ·exact absurd (if_pos hT3) c12
             ·refine O.gq rfl (Pu.loadAgg rfl ag28 sz28 rfl rfl (Ld.whole 1 rfl)) (O.gq rfl (Pu.loadAgg rfl ag28 sz28 rfl rfl (Ld.whole 12 rfl)) (O.gf rfl (Ef.callP call17 rfl rfl (fun w hw => trade9_ok  (if TRD (if TRD pv2 o2 i2 then pv2 else 0) o3 i3 then (if TRD pv2 o2 i2 then pv2 else 0) else 0) o7 i5 pv2 o2 i2 _ _ _ _ _ _ _ _ w ((Ld.own 2 (by exact rfl)) w hw) ((Ld.own 3 (by exact rfl)) w hw) ((Ld.trO 13 (by exact rfl)) w hw) ((Ld.trI 13 (by exact rfl)) w hw) (by omega) (by omega) (by omega) (by omega) )) ?_))
              rintro _ _ ⟨rfl, rfl⟩
              refine O.gq rfl (Pu.not rfl rfl) (O.m rfl (O.m rfl (O.splitN 145 rfl (fun c13 => ?_) (fun c13 => ?_))))
              ·exact absurd ⟨by rw [if_pos hT3, if_pos hT2], (hin2.1 hT3).1.trans hT9, (hin2.1 hT3).2.trans hT8⟩ c13
              ·refine O.gm rfl (O.gq rfl (Pu.neq rfl rfl rfl) (O.m rfl (O.m rfl (O.splitN 149 rfl (fun c14 => ?_) (fun c14 => ?_)))))
               ·exact absurd (if_pos hT3) c14
               ·refine O.gm rfl (O.gm rfl (O.gf rfl (Ef.callP call20 rfl rfl (fun w hw => likeInts_ok  o8 o5 _ _ _ _ w ((Ld.own 0 (by exact rfl)) w hw) ((Ld.own 5 (by exact rfl)) w hw) (by first | omega | (simp only [tops_len, conts_len, bl, List.length_append, List.length_cons, List.length_nil] at *; omega)) (by first | omega | (simp only [tops_len, conts_len, bl, List.length_append, List.length_cons, List.length_nil] at *; omega)) )) ?_))
                rintro _ _ ⟨rfl, rfl⟩
                refine O.gq rfl (Pu.not rfl rfl) (O.m rfl (O.m rfl (O.splitN 155 rfl (fun c15 => ?_) (fun c15 => ?_))))
                ·exact absurd (by rw [hpt2.1 hT3, hpt1.1 hT2, hT8, if_pos hT2]; exact (trd_pts hT2 _).symm) c15
                ·refine O.gq rfl (Pu.fieldAddr 1 rfl Tryz.underlying28 rfl sz24 rfl rfl) (O.gq rfl (Pu.load rfl pl24 rfl (Ld.blk 12 rfl rfl)) (O.gq rfl (Pu.len rfl Tryz.underlying24 rfl) (O.gq rfl (Pu.fieldAddr 2 rfl Tryz.underlying28 rfl sz24 rfl rfl) (O.gq rfl (Pu.load rfl pl24 rfl (Ld.blk 12 rfl rfl)) (O.gq rfl (Pu.len rfl Tryz.underlying24 rfl) (O.gq rfl (Pu.neq rfl rfl rfl) (O.m rfl (O.m rfl (O.splitN 164 rfl (fun c16 => ?_) (fun c16 => ?_))))))))))
                 ·refine O.g rfl (O.g rfl (O.g rfl (O.g rfl (O.g rfl (O.g rfl (O.g rfl (O.g rfl (O.g rfl (O.m rfl (O.nil (X.next ?_)))))))))))
                  exact V.condT rfl (V.seq (V.region (O.m rfl (O.nil (X.next (V.ret (X.thenRet (X.thenRet (X.ret1 rfl rfl (absurd (by first | assumption | rfl | exact ⟨rfl, rfl⟩ | exact ⟨rfl, by assumption⟩ | exact ⟨⟨rfl, by assumption⟩, rfl, by assumption⟩ | omega | (simp only [*]; done) | (rw [rfl])) c16))))))))))
                 ·refine O.gq rfl (Pu.fieldAddr 1 rfl Tryz.underlying28 rfl sz24 rfl rfl) (O.gq rfl (Pu.load rfl pl24 rfl (Ld.blk 12 rfl rfl)) (O.gq rfl (Pu.len rfl Tryz.underlying24 rfl) (O.gq rfl (Pu.gtr rfl rfl rfl) (O.gm rfl (O.splitD 169 rfl (fun c17 => ?_) (fun c17 => ?_))))))
                  ·have hT6 := trd_six hT2 (by omega)
                   have hT7 := congrArg List.length (hpt1.1 hT2)
                   refine O.gm rfl (O.gq rfl (Pu.len rfl Tryz.underlying41 rfl) (O.gq rfl (Pu.lss rfl rfl rfl) (O.gm rfl (O.m rfl (O.nil (X.next (V.condD rfl (fun c18 => ?_) (fun c18 => ?_))))))))
                   ·exact V.seq (V.region (O.m rfl (O.nil (X.next (V.ret (X.thenRet (X.thenRet (X.ret1 rfl rfl (absurd c18 (by first | omega | assumption))))))))))
                   ·exact V.skip (X.cut (Ent.nil _) (Ent.cons (t := 3) rfl (Ent.cons (t := 4) rfl (Ent.cons (t := 5) rfl (Ent.cons (t := 6) rfl (Ent.cons (t := 9) rfl (Ent.cons (t := 10) rfl (Ent.nil _))))))) (Sub.keep 4 rfl (Sub.keep 4 rfl (Sub.keep 4 rfl (Sub.keep 4 rfl (Sub.keep 4 rfl (Sub.keep 4 rfl (Sub.keep 4 rfl (Sub.keep 4 rfl (Sub.keep 4 rfl (Sub.keep 4 rfl (Sub.keep 4 rfl (Sub.keep 4 rfl (Sub.keep 4 rfl (Sub.keep 4 rfl (Sub.keep 4 rfl (Sub.keep 4 rfl (Sub.keep 4 rfl (Sub.keep 4 rfl (Sub.nil _))))))))))))))))))))
                  ·exact O.g rfl (O.g rfl (O.g rfl (O.gm rfl (O.m rfl (O.nil (X.next (V.condF rfl (V.skip (X.cut (Ent.nil _) (Ent.cons (t := 3) rfl (Ent.cons (t := 4) rfl (Ent.cons (t := 5) rfl (Ent.cons (t := 6) rfl (Ent.cons (t := 9) rfl (Ent.cons (t := 10) rfl (Ent.nil _))))))) (Sub.keep 4 rfl (Sub.keep 4 rfl (Sub.keep 4 rfl (Sub.keep 4 rfl (Sub.keep 4 rfl (Sub.keep 4 rfl (Sub.keep 4 rfl (Sub.keep 4 rfl (Sub.keep 4 rfl (Sub.keep 4 rfl (Sub.keep 4 rfl (Sub.keep 4 rfl (Sub.keep 4 rfl (Sub.keep 4 rfl (Sub.keep 4 rfl (Sub.keep 4 rfl (Sub.keep 4 rfl (Sub.keep 4 rfl (Sub.nil _))))))))))))))))))))))))))))
            ·exact V.skip (X.cut (Ent.nil _) (Ent.cons (t := 3) rfl (Ent.cons (t := 4) rfl (Ent.cons (t := 5) rfl (Ent.cons (t := 6) rfl (Ent.cons (t := 9) rfl (Ent.cons (t := 10) rfl (Ent.nil _))))))) (Sub.k (Sub.k (Sub.k (Sub.k (Sub.k (Sub.k (Sub.k (Sub.k (Sub.k (Sub.k (Sub.k (Sub.k (Sub.k (Sub.k (Sub.k (Sub.k (Sub.k (Sub.k (Sub.nil _))))))))))))))))))))
           ·refine X.next (V.seq (V.seq (V.region (O.m rfl (O.q rfl (Pu.eql rfl rfl rfl) (O.m rfl (O.splitD 177 rfl (fun c19 => ?_) (fun c19 => ?_))))))))
            ·refine O.gm rfl (O.gm rfl (O.gq rfl (Pu.eql rfl rfl rfl) (O.gq rfl (Pu.boolNeq Tryz.underlying4 rfl rfl rfl) (O.m rfl (O.nil (X.next (V.cond rfl (fun c20 => ?_) (fun c20 => ?_))))))))
             ·exact (dec_ne ⟨fun h => crC_0 h.1 h.2.1 h.2.2, fun h => crC_ok h⟩ c20).elim
             ·refine V.skip (X.next (V.seq (V.seq (V.region (O.m rfl (O.q rfl (Pu.neq rfl rfl rfl) (O.nil (X.next (V.condNot rfl (fun c21 => ?_) (fun c21 => ?_))))))))))
              ·exact V.seq (V.region (O.q rfl (Pu.fieldAddr 0 rfl Tryz.underlying26 rfl sz2 rfl rfl) (O.q rfl (Pu.load rfl pl2 rfl (Ld.blk 12 rfl rfl)) (O.q rfl (Pu.eql rfl rfl rfl) (O.m rfl (O.nil (X.next (V.ret (X.thenRet (X.ret1 rfl rfl (fun w hw => St.retP (by rw [decide_eq_true (if_neg c21)]) hw)))))))))))
              ·have hok := crC_ok c21
               have htd : TRD pu1 o1 i1 := hok.2.1
               have hrd : (if TRD pu1 o1 i1 then (0 : Int) else 1) = 0 := if_pos htd
               have hback := carry_back c21 hr2_1
               refine V.skip (X.next (V.seq (V.region (O.q rfl (Pu.loadAgg rfl ag28 sz28 rfl rfl (Ld.whole 14 rfl)) (O.f rfl (Ef.call1 call15 rfl rfl (fun w hw => implInverseTrade_ok  pu1 o1 i1 _ _ _ _ w ((Ld.trO 17 (by exact rfl)) w hw) ((Ld.trI 17 (by exact rfl)) w hw) (by omega) (by omega) )) ?_)))))
               rintro _ _ rfl
               refine O.exi (fun o9A => O.exi (fun o9c => O.exi (fun o9 => O.exi (fun i6A => O.exi (fun i6c => O.exi (fun i6 => O.sep (O.pur ?_)))))))
               rintro ⟨rfl, ho9_1⟩
               refine O.sep ?_
               have hin3 := ho9_1
               have hil3 := ho9_1.len
               refine O.m rfl (O.m rfl (O.m rfl (O.f rfl (Ef.alloc rfl zr28 rfl) ?_)))
               rintro _ _ ⟨b9, rfl, rfl⟩
               refine O.s rfl rfl (Ef.storeAll 0 rfl sz28 rfl rfl rfl rfl (by simp [Value.oneCell']) rfl) ?_
               rintro _ _ rfl
               refine O.m rfl (O.nil (X.next (V.seq (V.fact (fun w hw h => (Own.nilc (i := 2) hw (by exact rfl) h).2) (fun hnil2 => V.region (O.q rfl (Pu.loadAgg rfl ag26 sz26 rfl rfl (Ld.whole 15 rfl)) (O.q rfl (Pu.loadAgg rfl ag28 sz28 rfl rfl (Ld.whole 0 rfl)) (O.f rfl (Ef.call1 call7 rfl rfl (fun w hw => implCarry_ok  (if crC pv1 r1 pu1 o1 i1 = 0 then pv1 else 0) r2 (if TRD pu1 o1 i1 then pu1 else 0) o9 i6 _ _ _ _ _ _ w ((Ld.own 16 (by exact rfl)) w hw) ((Ld.own 1 (by exact rfl)) w hw) ((Ld.own 2 (by exact rfl)) w hw) (by first | omega | (simp only [tops_len, conts_len, bl, List.length_append, List.length_cons, List.length_nil] at *; omega)) (by omega) (by omega) hnil2)) ?_))))))))
               rintro _ _ rfl
               refine O.exi (fun r4A => O.exi (fun r4c => O.exi (fun r4 => O.sep (O.pur ?_))))
               rintro ⟨rfl, hr4_1⟩
               have hlz := hr4_1.len
               have hcz0 : crC (if crC pv1 r1 pu1 o1 i1 = 0 then pv1 else 0) r2 (if TRD pu1 o1 i1 then pu1 else 0) o9 i6 = 0 := by rw [if_pos c21, if_pos htd, (ho9_1.1 htd).1, (ho9_1.1 htd).2]; exact hback.1
               have hcz := hr4_1
               rw [if_pos c21, if_pos htd, (ho9_1.1 htd).1, (ho9_1.1 htd).2] at hcz
               have hbk := hback.2.2 _ hcz
               refine O.m rfl (O.m rfl (O.m rfl (O.f rfl (Ef.alloc rfl zr26 rfl) ?_)))
               rintro _ _ ⟨b10, rfl, rfl⟩
               refine O.s rfl rfl (Ef.storeAll 0 rfl sz26 rfl rfl rfl rfl (by simp [Value.oneCell']) rfl) ?_
               rintro _ _ rfl
               refine O.m rfl (O.nil (X.next (V.seq (V.region (O.m rfl (O.q rfl (Pu.eql rfl rfl rfl) (O.m rfl (O.splitD 201 rfl (fun c22 => ?_) (fun c22 => ?_)))))))))
               ·refine O.gm rfl (O.gq rfl (Pu.eql rfl rfl rfl) (O.m rfl (O.m rfl (O.splitD 205 rfl (fun c23 => ?_) (fun c23 => ?_)))))
                ·refine O.gq rfl (Pu.loadAgg rfl ag26 sz26 rfl rfl (Ld.whole 0 rfl)) (O.gq rfl (Pu.loadAgg rfl ag26 sz26 rfl rfl (Ld.whole 20 rfl)) (O.gf rfl (Ef.callP call9 rfl rfl (fun w hw => system9_ok  (if crC (if crC pv1 r1 pu1 o1 i1 = 0 then pv1 else 0) r2 (if TRD pu1 o1 i1 then pu1 else 0) o9 i6 = 0 then (if crC pv1 r1 pu1 o1 i1 = 0 then pv1 else 0) else 0) r4 pv1 r1 _ _ _ _ w ((Ld.own 1 (by exact rfl)) w hw) ((Ld.own 21 (by exact rfl)) w hw) (by first | omega | (simp only [tops_len, conts_len, bl, List.length_append, List.length_cons, List.length_nil] at *; omega)) (by first | omega | (simp only [tops_len, conts_len, bl, List.length_append, List.length_cons, List.length_nil] at *; omega)) )) ?_))
                 rintro _ _ ⟨rfl, rfl⟩
                 refine O.m rfl (O.m rfl (O.splitD 210 rfl (fun c24 => ?_) (fun c24 => ?_)))
                 ·refine O.gq rfl (Pu.fieldAddr 1 rfl Tryz.underlying26 rfl sz24 rfl rfl) (O.gq rfl (Pu.load rfl pl24 rfl (Ld.blk 17 rfl rfl)) (O.gq rfl (Pu.len rfl Tryz.underlying24 rfl) (O.gq rfl (Pu.fieldAddr 1 rfl Tryz.underlying26 rfl sz24 rfl rfl) (O.gq rfl (Pu.load rfl pl24 rfl (Ld.blk 20 rfl rfl)) (O.gq rfl (Pu.len rfl Tryz.underlying24 rfl) (O.gq rfl (Pu.eql rfl rfl rfl) (O.m rfl (O.m rfl (O.nil (X.next (V.ret ?_)))))))))))
                  exact X.ret1 rfl rfl (fun w hw => St.retP (by rw [decide_eq_true (by rw [hback.2.1])]) hw)
                 ·exact absurd ⟨by rw [if_pos hcz0, if_pos c21], hbk⟩ c24
                ·refine O.g rfl (O.g rfl (O.g rfl (O.m rfl (O.m rfl (O.g rfl (O.g rfl (O.g rfl (O.g rfl (O.g rfl (O.g rfl (O.g rfl ?_)))))))))))
                 exact O.m rfl (O.m rfl (O.nil (X.next (V.ret (X.ret1 rfl rfl (absurd (by first | assumption | rfl | exact ⟨rfl, rfl⟩ | exact ⟨rfl, by assumption⟩ | exact ⟨⟨rfl, by assumption⟩, rfl, by assumption⟩ | omega | (simp only [*]; done) | (rw [rfl])) c23))))))
               ·refine O.g rfl (O.g rfl (O.m rfl (O.m rfl (O.g rfl (O.g rfl (O.g rfl (O.m rfl (O.m rfl (O.g rfl (O.g rfl (O.g rfl ?_)))))))))))
                exact O.g rfl (O.g rfl (O.g rfl (O.g rfl (O.m rfl (O.m rfl (O.nil (X.next (V.ret (X.ret1 rfl rfl (absurd (by first | assumption | rfl | exact ⟨rfl, rfl⟩ | exact ⟨rfl, by assumption⟩ | exact ⟨⟨rfl, by assumption⟩, rfl, by assumption⟩ | omega | (simp only [*]; done) | (rw [rfl])) c22))))))))))
            ·refine O.g rfl (O.g rfl (O.g rfl (O.g rfl (O.m rfl (O.nil (X.next (V.condF rfl (V.skip (X.next (V.seq (V.seq ?_)))))))))))
             refine V.region (O.m rfl (O.q rfl (Pu.neq rfl rfl rfl) (O.nil (X.next (V.condNot rfl (fun c25 => ?_) (fun c25 => ?_))))))
             ·exact V.seq (V.region (O.q rfl (Pu.fieldAddr 0 rfl Tryz.underlying26 rfl sz2 rfl rfl) (O.q rfl (Pu.load rfl pl2 rfl (Ld.blk 12 rfl rfl)) (O.q rfl (Pu.eql rfl rfl rfl) (O.m rfl (O.nil (X.next (V.ret (X.thenRet (X.ret1 rfl rfl (fun w hw => St.retP (by rw [decide_eq_true (if_neg c25)]) hw)))))))))))
             ·have hok := crC_ok c25
              have htd : TRD pu1 o1 i1 := hok.2.1
              have hrd : (if TRD pu1 o1 i1 then (0 : Int) else 1) = 0 := if_pos htd
              have hback := carry_back c25 hr2_1
              refine V.skip (X.next (V.seq (V.region (O.q rfl (Pu.loadAgg rfl ag28 sz28 rfl rfl (Ld.whole 14 rfl)) (O.f rfl (Ef.call1 call15 rfl rfl (fun w hw => implInverseTrade_ok  pu1 o1 i1 _ _ _ _ w ((Ld.trO 17 (by exact rfl)) w hw) ((Ld.trI 17 (by exact rfl)) w hw) (by omega) (by omega) )) ?_)))))
              rintro _ _ rfl
              refine O.exi (fun o10A => O.exi (fun o10c => O.exi (fun o10 => O.exi (fun i7A => O.exi (fun i7c => O.exi (fun i7 => O.sep (O.pur ?_)))))))
              rintro ⟨rfl, ho10_1⟩
              refine O.sep ?_
              have hin4 := ho10_1
              have hil4 := ho10_1.len
              refine O.m rfl (O.m rfl (O.m rfl (O.f rfl (Ef.alloc rfl zr28 rfl) ?_)))
              rintro _ _ ⟨b11, rfl, rfl⟩
              refine O.s rfl rfl (Ef.storeAll 0 rfl sz28 rfl rfl rfl rfl (by simp [Value.oneCell']) rfl) ?_
              rintro _ _ rfl
              refine O.m rfl (O.nil (X.next (V.seq (V.fact (fun w hw h => (Own.nilc (i := 2) hw (by exact rfl) h).2) (fun hnil2 => V.region (O.q rfl (Pu.loadAgg rfl ag26 sz26 rfl rfl (Ld.whole 15 rfl)) (O.q rfl (Pu.loadAgg rfl ag28 sz28 rfl rfl (Ld.whole 0 rfl)) (O.f rfl (Ef.call1 call7 rfl rfl (fun w hw => implCarry_ok  (if crC pv1 r1 pu1 o1 i1 = 0 then pv1 else 0) r2 (if TRD pu1 o1 i1 then pu1 else 0) o10 i7 _ _ _ _ _ _ w ((Ld.own 16 (by exact rfl)) w hw) ((Ld.own 1 (by exact rfl)) w hw) ((Ld.own 2 (by exact rfl)) w hw) (by first | omega | (simp only [tops_len, conts_len, bl, List.length_append, List.length_cons, List.length_nil] at *; omega)) (by omega) (by omega) hnil2)) ?_))))))))
              rintro _ _ rfl
              refine O.exi (fun r5A => O.exi (fun r5c => O.exi (fun r5 => O.sep (O.pur ?_))))
              rintro ⟨rfl, hr5_1⟩
              have hlz := hr5_1.len
              have hcz0 : crC (if crC pv1 r1 pu1 o1 i1 = 0 then pv1 else 0) r2 (if TRD pu1 o1 i1 then pu1 else 0) o10 i7 = 0 := by rw [if_pos c25, if_pos htd, (ho10_1.1 htd).1, (ho10_1.1 htd).2]; exact hback.1
              have hcz := hr5_1
              rw [if_pos c25, if_pos htd, (ho10_1.1 htd).1, (ho10_1.1 htd).2] at hcz
              have hbk := hback.2.2 _ hcz
              refine O.m rfl (O.m rfl (O.m rfl (O.f rfl (Ef.alloc rfl zr26 rfl) ?_)))
              rintro _ _ ⟨b12, rfl, rfl⟩
              refine O.s rfl rfl (Ef.storeAll 0 rfl sz26 rfl rfl rfl rfl (by simp [Value.oneCell']) rfl) ?_
              rintro _ _ rfl
              refine O.m rfl (O.nil (X.next (V.seq (V.region (O.m rfl (O.q rfl (Pu.eql rfl rfl rfl) (O.m rfl (O.splitD 201 rfl (fun c26 => ?_) (fun c26 => ?_)))))))))
              ·refine O.gm rfl (O.gq rfl (Pu.eql rfl rfl rfl) (O.m rfl (O.m rfl (O.splitD 205 rfl (fun c27 => ?_) (fun c27 => ?_)))))
               ·refine O.gq rfl (Pu.loadAgg rfl ag26 sz26 rfl rfl (Ld.whole 0 rfl)) (O.gq rfl (Pu.loadAgg rfl ag26 sz26 rfl rfl (Ld.whole 20 rfl)) (O.gf rfl (Ef.callP call9 rfl rfl (fun w hw => system9_ok  (if crC (if crC pv1 r1 pu1 o1 i1 = 0 then pv1 else 0) r2 (if TRD pu1 o1 i1 then pu1 else 0) o10 i7 = 0 then (if crC pv1 r1 pu1 o1 i1 = 0 then pv1 else 0) else 0) r5 pv1 r1 _ _ _ _ w ((Ld.own 1 (by exact rfl)) w hw) ((Ld.own 21 (by exact rfl)) w hw) (by first | omega | (simp only [tops_len, conts_len, bl, List.length_append, List.length_cons, List.length_nil] at *; omega)) (by first | omega | (simp only [tops_len, conts_len, bl, List.length_append, List.length_cons, List.length_nil] at *; omega)) )) ?_))
                rintro _ _ ⟨rfl, rfl⟩
                refine O.m rfl (O.m rfl (O.splitD 210 rfl (fun c28 => ?_) (fun c28 => ?_)))
                ·refine O.gq rfl (Pu.fieldAddr 1 rfl Tryz.underlying26 rfl sz24 rfl rfl) (O.gq rfl (Pu.load rfl pl24 rfl (Ld.blk 17 rfl rfl)) (O.gq rfl (Pu.len rfl Tryz.underlying24 rfl) (O.gq rfl (Pu.fieldAddr 1 rfl Tryz.underlying26 rfl sz24 rfl rfl) (O.gq rfl (Pu.load rfl pl24 rfl (Ld.blk 20 rfl rfl)) (O.gq rfl (Pu.len rfl Tryz.underlying24 rfl) (O.gq rfl (Pu.eql rfl rfl rfl) (O.m rfl (O.m rfl (O.nil (X.next (V.ret ?_)))))))))))
                 exact X.ret1 rfl rfl (fun w hw => St.retP (by rw [decide_eq_true (by rw [hback.2.1])]) hw)
                ·exact absurd ⟨by rw [if_pos hcz0, if_pos c25], hbk⟩ c28
               ·refine O.g rfl (O.g rfl (O.g rfl (O.m rfl (O.m rfl (O.g rfl (O.g rfl (O.g rfl (O.g rfl (O.g rfl (O.g rfl (O.g rfl ?_)))))))))))
                exact O.m rfl (O.m rfl (O.nil (X.next (V.ret (X.ret1 rfl rfl (absurd (by first | assumption | rfl | exact ⟨rfl, rfl⟩ | exact ⟨rfl, by assumption⟩ | exact ⟨⟨rfl, by assumption⟩, rfl, by assumption⟩ | omega | (simp only [*]; done) | (rw [rfl])) c27))))))
              ·refine O.g rfl (O.g rfl (O.m rfl (O.m rfl (O.g rfl (O.g rfl (O.g rfl (O.m rfl (O.m rfl (O.g rfl (O.g rfl (O.g rfl ?_)))))))))))
               exact O.g rfl (O.g rfl (O.g rfl (O.g rfl (O.m rfl (O.m rfl (O.nil (X.next (V.ret (X.ret1 rfl rfl (absurd (by first | assumption | rfl | exact ⟨rfl, rfl⟩ | exact ⟨rfl, by assumption⟩ | exact ⟨⟨rfl, by assumption⟩, rfl, by assumption⟩ | omega | (simp only [*]; done) | (rw [rfl])) c26))))))))))
end Go.Proofs.YtoeldiaidjnibaaGreat
