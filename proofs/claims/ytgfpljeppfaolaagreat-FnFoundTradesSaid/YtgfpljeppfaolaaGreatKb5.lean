/-
  Contracts, part 5.
-/
import Derived.Test.YtgfpljeppfaolaaGreatKb4
set_option linter.unusedVariables false
set_option linter.unusedSimpArgs false
namespace Go.Proofs.YtgfpljeppfaolaaGreat
open Go Go.RowKit Go.Vc Go.Proofs
set_option maxRecDepth 100000 in
set_option maxHeartbeats 1000000 in
theorem l01DrawFull_ok (cA : Option Addr) (cc : Nat) (code : List UInt8) (s : Nat) (w0 : World) (H : List Assn) (hc : Rd U8C w0 cA code) (lc : code.length ≤ 1048576) : Does Tryz.prog 67 [.pointer (some ⟨s, 0, none⟩)] w0 (SrcK 133 cA cc code s :: H) (fun rv_ => [.exi fun (pv : Int) => .exi fun (rA : Option Addr) => .exi fun (rc : Nat) => .exi fun (r : List B3) => .sep (.pur (rv_ = .agg #[.int .i64 pv, .slice rA r.length rc] ∧ DrS 4100 pv r)) (.sep (Own 81 B3C rA rc r) (SrcK 133 cA cc code s))] ++ H) := by
 refine Does.enter Tryz.func67 rfl rfl [(0, .pointer (some ⟨s, 0, none⟩))] rfl ?_
 refine Vs ?_
 refine Vr ?_
 refine O.f rfl (Ef.alloc rfl zr26 rfl) ?_
 rintro _ _ ⟨b1, rfl, rfl⟩
 refine On ?_
 refine Xn ?_
 refine Vs ?_
 refine Vr ?_
 refine O.f rfl (Ef.call1 call143 rfl rfl (fun w hw => l01Names_ok   w   )) ?_
 rintro _ _ rfl
 refine O.exi (fun r1A => ?_)
 refine O.exi (fun r1c => ?_)
 refine O.exi (fun r1 => ?_)
 refine O.sep ?_
 refine O.pur ?_
 rintro ⟨rfl, hr1_1⟩
 have hnl : r1.length = 6 := by rw [hr1_1]; rfl
 refine O.m rfl ?_
 refine On ?_
 refine Xn ?_
 refine Vs ?_
 refine Vr ?_
 refine O.m rfl ?_
 refine O.m rfl ?_
 refine O.m rfl ?_
 refine O.f rfl (Ef.build I64 ([(3 : Int), (6 : Int)] : List Int) rfl ut49 inf2 rfl rfl rfl (by first | decide | (simp; done)) (by kernel_rfl)) ?_
 rintro _ _ ⟨A1, hA1, rfl, rfl⟩
 refine O.f rfl (Ef.call call145 rfl rfl (Does.pre (fun w hw => hw.sub (Sub.t [3,0,0,0] 0 rfl)) (l01Pick_ok _ _ _ s ([(3 : Int), (6 : Int)] : List Int) _ _ w0 _ (Ld.own 0 (by exact rfl)) (by first | omega | (simp only [tops_len, conts_len, bl, List.length_append, List.length_cons, List.length_nil] at *; omega)) (by first | assumption | omega | (try dsimp only at *; omega)) (by first | assumption | omega | (try dsimp only at *; omega)) (by first | (simp; done) | omega)))) ?_
 rintro _ _ rfl
 refine O.exi (fun r2 => ?_)
 refine O.sep ?_
 refine O.pur ?_
 rintro ⟨rfl, hr2_1⟩
 have hpk : r2 = 3 ∨ r2 = 6 := by simpa using hr2_1
 refine O.f rfl (Ef.call call68 rfl rfl (Does.pre (fun w hw => hw.sub (Sub.t [0,0,0,0] 0 rfl)) (l01Next_ok _ _ _ s r2 w0 _   (by first | assumption | omega | (try dsimp only at *; omega)) (by first | assumption | omega | (try dsimp only at *; omega))))) ?_
 rintro _ _ rfl
 refine O.exi (fun r3 => ?_)
 refine O.sep ?_
 refine O.pur ?_
 rintro ⟨rfl, hr3_1, hr3_2, hr3_3⟩
 refine O.q rfl (Pu.indexAddrS ((r3).toNat) rfl ut140 sz9 rfl rfl (by omega) (by omega) (fun w hw => Own.some hw (i := 2) (by exact rfl) (by omega))) ?_
 have e1 : (r3).toNat < r1.length := by omega
 refine O.q rfl (Pu.load rfl pl9 rfl (Ld.rd (Ld.own 2 (by exact rfl)) (k := (r3).toNat) e1 rfl rfl)) ?_
 refine O.f rfl (Ef.call1 call144 rfl rfl (fun w hw => l01NamedAny_ok  (r1[(r3).toNat]'e1) w   (by rw [← hr1_1]; exact List.getElem_mem _))) ?_
 rintro _ _ rfl
 refine O.exi (fun pv1 => ?_)
 refine O.exi (fun r4A => ?_)
 refine O.exi (fun r4c => ?_)
 refine O.exi (fun r4 => ?_)
 refine O.sep ?_
 refine O.pur ?_
 rintro ⟨rfl, hpv1_1⟩
 have hDn := hpv1_1
 have hvn := hDn.1
 have hln := hDn.2.2
 refine O.m rfl ?_
 refine O.m rfl ?_
 refine O.m rfl ?_
 refine O.f rfl (Ef.alloc rfl zr26 rfl) ?_
 rintro _ _ ⟨b2, rfl, rfl⟩
 refine O.s rfl rfl (Ef.storeAll 0 rfl sz26 rfl rfl rfl rfl (by simp [Value.oneCell']) rfl) ?_
 rintro _ _ rfl
 refine O.m rfl ?_
 refine On ?_
 refine Xn ?_
 refine Vs ?_
 refine V.drawS mo (by kernel_rfl) (Sub.t [0,0,1,1,1] 1 rfl) (fun hwf => ?_)
 refine D.q 0 rfl (Pu.loadAgg rfl ag26 sz26 rfl rfl (Ld.whole 0 rfl)) ?_
 refine D.m 1 rfl ?_
 refine D.q 2 rfl (Pu.fieldAddr 0 rfl ut26 rfl sz2 rfl rfl) ?_
 refine D.q 3 rfl (Pu.load rfl pl2 rfl (Ld.blk 0 rfl rfl)) ?_
 refine D.f hwf 4 rfl (Ef.call call84 rfl rfl (Does.pre (fun w hw => hw.sub (Sub.t [2,0,0,0,0,0] 0 rfl)) (l01DrawOrder_ok _ _ _ s pv1 w0 _   (by first | assumption | omega | (try dsimp only at *; omega)) (by first | assumption | omega | (try dsimp only at *; omega)) (by omega)))) ?_
 rintro _ _ rfl hs
 refine ⟨fun w hw => hw.tail.sub (Sub.t [0,0,0,0,0] 0 rfl), ?_⟩
 refine D.exi (fun r5A => ?_)
 refine D.exi (fun r5c => ?_)
 refine D.exi (fun r5 => ?_)
 refine D.sep ?_
 refine D.pur1 ?_
 rintro ⟨rfl, hr5_1⟩
 refine D.sep ?_
 have hol := hr5_1.1
 refine D.f hwf 5 rfl (Ef.call1 call83 rfl rfl (fun w hw => l01RenamedD_ok  pv1 r4 r5 _ _ _ _ w ((Ld.own 3 (by exact rfl)) w hw) ((Ld.own 0 (by exact rfl)) w hw) (by first | omega | (simp only [tops_len, conts_len, bl, List.length_append, List.length_cons, List.length_nil] at *; omega)) (by first | omega | (simp only [tops_len, conts_len, bl, List.length_append, List.length_cons, List.length_nil] at *; omega)) (by rw [hr5_1.1]; exact hDn.2.1) (by have := hDn.2.2; omega) (fun q hq => by have := hr5_1.2.2 q hq; have := hDn.1; omega))) ?_
 rintro _ _ rfl hs
 refine ⟨fun w hw => hs w hw.tail, ?_⟩
 refine D.exi (fun r6A => ?_)
 refine D.exi (fun r6c => ?_)
 refine D.exi (fun r6 => ?_)
 refine D.sep ?_
 refine D.pur1 ?_
 rintro ⟨rfl, hr6_1, hr6_2⟩
 have hDr := hDn.ren hr5_1 hr6_1
 refine D.effX (Hs' := []) hwf (e := 6) rfl rfl rfl rfl (Ef.storeAll 3 rfl sz26 rfl rfl rfl rfl (by simp [Value.oneCell']) rfl) rfl [] rfl (List.forall_mem_nil _) ?_
 rintro _ _ rfl
 refine ⟨fun w hw => hw.sub (Sub.nil _), ?_⟩
 refine D.done hwf rfl ?_
 refine Xn ?_
 refine Vs ?_
 refine Vs ?_
 refine Vr ?_
 refine O.m rfl ?_
 refine O.f rfl (Ef.call call68 rfl rfl (Does.pre (fun w hw => hw.sub (Sub.t [2,0,0,0,0,0,0,0] 0 rfl)) (l01Next_ok _ _ _ s (3 : Int) w0 _   (by first | assumption | omega | (try dsimp only at *; omega)) (by first | assumption | omega | (try dsimp only at *; omega))))) ?_
 rintro _ _ rfl
 refine O.exi (fun r7 => ?_)
 refine O.sep ?_
 refine O.pur ?_
 rintro ⟨rfl, hr7_1, hr7_2, hr7_3⟩
 refine O.m rfl ?_
 refine On ?_
 refine Xn ?_
 refine Vb ?_
 refine V.loop3 (β := Int × (Option Addr) × Nat × (List B3)) (fun x => [(6, .int .i64 (x.1 : Int))]) _ (fun x => [Blk b2 [.int .i64 pv1, .slice x.2.1 x.2.2.2.length x.2.2.1] 26, Own 81 B3C x.2.1 x.2.2.1 x.2.2.2]) _ (fun x => x.1 ≤ 2 ∧ DrS (4008 - 4 * x.1.toNat) pv1 x.2.2.2) (fun x => x.1.toNat) (r7, r6A, r6c, r6) (by (try dsimp only); exact ⟨by omega, hDr.mono (by omega)⟩) (Ent.cons rfl (Ent.nil _)) (Ent.cons (t := 0) rfl (Ent.cons (t := 2) rfl (Ent.cons (t := 4) rfl (Ent.nil _)))) (Sub.t [3,1,0,0,0,0,0,0] 0 rfl) ?_
 rintro ⟨k, xsA, xsc, xs⟩ ⟨hk, hDx⟩
 dsimp only at hk hDx ⊢
 refine Vs ?_
 refine Vs ?_
 refine Vr ?_
 refine O.m rfl ?_
 refine O.q rfl (Pu.gtr rfl rfl rfl) ?_
 refine On ?_
 refine Xn ?_
 refine V.condD rfl (fun c1 => ?_) (fun c1 => ?_)
 ·refine Vk ?_
  refine Xn ?_
  refine Vs ?_
  refine Vb ?_
  refine Vr ?_
  refine O.m rfl ?_
  refine O.q rfl (Pu.loadAgg rfl ag26 sz26 rfl rfl (Ld.whole 0 rfl)) ?_
  refine O.f rfl (Ef.call call85 rfl rfl (Does.pre (fun w hw => hw.sub (Sub.t [2,1,0,0,0,0,0,0] 0 rfl)) (l01Switched_ok _ _ _ (4008 - 4 * k.toNat) s pv1 xs _ _ w0 _   (by first | assumption | omega | (try dsimp only at *; omega)) (by first | assumption | omega | (try dsimp only at *; omega)) hDx (by omega)))) ?_
  rintro _ _ rfl
  refine O.exi (fun r8A => ?_)
  refine O.exi (fun r8c => ?_)
  refine O.exi (fun r8 => ?_)
  refine O.sep ?_
  refine O.pur ?_
  rintro ⟨rfl, hr8_1⟩
  refine O.sep ?_
  refine O.s rfl rfl (Ef.storeAll 2 rfl sz26 rfl rfl rfl rfl (by simp [Value.oneCell']) rfl) ?_
  rintro _ _ rfl
  refine On ?_
  refine Xb ?_
  refine Xn ?_
  refine Vr ?_
  refine O.m rfl ?_
  refine O.q rfl (Pu.sub64 rfl (by omega) rfl rfl rfl) ?_
  refine O.m rfl ?_
  refine On ?_
  exact X.back3 ((k - (1 : Int)), r8A, r8c, r8) (by (try dsimp only); exact ⟨by omega, hr8_1.mono (by omega)⟩) (by first | omega | (dsimp only; omega)) (Ent.cons rfl (Ent.nil _)) (Ent.cons (t := 0) rfl (Ent.cons (t := 2) rfl (Ent.cons (t := 4) rfl (Ent.nil _)))) (Sub.t [2,0,0,0,0,0,0,0] 0 rfl)
 ·refine Ve ?_
  refine Xe ?_
  refine Xe ?_
  refine Xh ?_
  refine Xn ?_
  refine Vs ?_
  refine Vr ?_
  refine O.q rfl (Pu.loadAgg rfl ag26 sz26 rfl rfl (Ld.whole 0 rfl)) ?_
  refine O.s rfl rfl (Ef.storeAll 7 rfl sz26 rfl rfl rfl rfl (by simp [Value.oneCell']) rfl) ?_
  rintro _ _ rfl
  refine On ?_
  refine Xn ?_
  refine Vt ?_
  refine X.retCell rfl ag26 sz26 rfl rfl (Ld.whole 7 rfl) ?_
  exact fun w hw => St.mkExi pv1 (St.mkExi xsA (St.mkExi xsc (St.mkExi xs (St.unsep (St.addPur ⟨rfl, hDx.mono (by omega)⟩ (St.unsep (hw.sub (Sub.t [1,1] 6 rfl))))))))
set_option maxRecDepth 100000 in
set_option maxHeartbeats 1000000 in
theorem l01Without_ok (v : Int) (bs : List B3) (i : Int) (A : Option Addr) (c : Nat) (w0 : World) (H : List Assn) (hi : 0 ≤ i ∧ i < bs.length) (lb : bs.length ≤ 100000) : Does Tryz.prog 173 [.agg #[.int .i64 v, .slice A bs.length c], .int .i64 i] w0 (Own 81 B3C A c bs :: H) (fun rv_ => [.exi fun (rA : Option Addr) => .exi fun (rc : Nat) => .exi fun (r : List B3) => .sep (.pur (rv_ = .agg #[.int .i64 v, .slice rA r.length rc] ∧ r = bs.take i.toNat ++ bs.drop (i.toNat + 1))) (Own 81 B3C rA rc r)] ++ H) := by
 refine Does.enter Tryz.func173 rfl rfl [(0, .agg #[.int .i64 v, .slice A bs.length c]), (1, .int .i64 i)] rfl (Za (O.f rfl (Ef.box rfl rfl rfl) ?_))
 rintro _ _ ⟨b1, rfl, rfl⟩
 refine O.f rfl (Ef.alloc rfl zr26 rfl) ?_
 rintro _ _ ⟨b2, rfl, rfl⟩
 refine Zf (Vs (V.fact (fun w hw => Own.some hw (i := 2) rfl (by omega)) (fun hAS => V.fact (fun w hw => Own.cap hw (i := 2) rfl) (fun hcap => ?_))))
 have htl : (bs.take i.toNat).length = i.toNat := by rw [List.length_take]; omega
 have hdl : (bs.drop (i + (1 : Int)).toNat).length = bs.length - (i.toNat + 1) := by rw [List.length_drop]; omega
 refine V.draw mo (by kernel_rfl) (fun hwf => D.q 0 rfl (Pu.fieldAddr 0 rfl ut26 rfl sz2 rfl rfl) (D.q 1 rfl (Pu.load rfl pl2 rfl (Ld.blk 1 rfl rfl)) (D.q 3 rfl (Pu.fieldAddr 1 rfl ut26 rfl sz24 rfl rfl) (D.q 4 rfl (Pu.load rfl pl24 rfl (Ld.blk 1 rfl rfl)) (D.m 5 rfl (D.q 6 rfl (Pu.sliceH ((i).toNat) rfl ut24 sz81 rfl rfl (by omega) (by omega)) (D.q 8 rfl (Pu.fieldAddr 1 rfl ut26 rfl sz24 rfl rfl) (D.q 9 rfl (Pu.load rfl pl24 rfl (Ld.blk 1 rfl rfl)) (D.m 10 rfl (D.q 11 rfl (Pu.add64 rfl (by omega) rfl rfl rfl) (D.q 12 rfl (Pu.sliceL (((i + (1 : Int))).toNat) rfl ut24 sz81 rfl rfl (by omega) (by omega)) ?_)))))))))))
 refine D.f hwf 2 rfl (Ef.build B3C ([] : List B3) rfl ut24 inf81 rfl rfl rfl (by first | decide | (simp; done)) (by kernel_rfl)) ?_
 rintro _ _ ⟨A1, hA1, rfl, rfl⟩ hs
 refine ⟨fun w hw => hw.sub (Sub.t [1,1,1] 1 rfl), (D.f hwf 7 rfl (Ef.append (xs := ([] : List B3)) (ys := (bs.take ((i).toNat))) 0 rfl ut24 inf81 rfl rfl rfl rfl rfl (by first | (simp only [List.length_take, List.length_drop]; done) | (simp only [List.length_take, List.length_drop]; omega)) hAS (fun w hw => ((Ld.own 3 (by exact rfl)) w hw).take ((i).toNat)) (by simp only [List.length_append, List.length_cons, List.length_nil] at *; omega) (by decide)) ?_)⟩
 rintro _ _ ⟨A2, k1, rfl, rfl, hA2⟩ hs
 replace hA2 := hA2 (.inl hA1)
 refine ⟨fun w hw => hw.sub (Sub.t [1,1,1] 1 rfl), (D.f hwf 13 rfl (Ef.append (xs := (([] : List B3) ++ (bs.take ((i).toNat)))) (ys := (bs.drop (((i + (1 : Int))).toNat))) 0 rfl ut24 inf81 rfl rfl rfl rfl rfl (by first | (simp only [List.length_take, List.length_drop]; done) | (simp only [List.length_take, List.length_drop]; omega)) (by split <;> simp [hAS]) (fun w hw => ((Ld.own 3 (by exact rfl)) w hw).drop rfl (Own.cap hw (i := 3) (by exact rfl))) (by simp only [List.length_append, List.length_cons, List.length_nil] at *; omega) (by decide)) ?_)⟩
 rintro _ _ ⟨A3, k2, rfl, rfl, hA3⟩ hs
 replace hA3 := hA3 (.inl hA2)
 refine ⟨fun w hw => hw.sub (Sub.t [1,1,1] 1 rfl), (D.q 14 rfl (Pu.buildS (cs := [.int .i64 v, .slice A3 (((([] : List B3) ++ (bs.take ((i).toNat))) ++ (bs.drop (((i + (1 : Int))).toNat))).length) k2]) rfl rfl ut26 zr26 (by kernel_rfl) rfl (by kernel_rfl)) (D.effX (Hs' := []) hwf (e := 15) rfl rfl rfl rfl (Ef.storeAll 1 rfl sz26 rfl rfl rfl rfl (by simp [Value.oneCell']) rfl) rfl [] rfl (List.forall_mem_nil _) ?_))⟩
 rintro _ _ rfl
 exact ⟨fun w hw => hw.sub (Sub.nil _), (D.done hwf rfl (Xn (Vt (X.retCell rfl ag26 sz26 rfl rfl (Ld.whole 1 rfl) (fun w hw => St.mkExi A3 (St.mkExi k2 (St.mkExi ((([] : List B3) ++ (bs.take ((i).toNat))) ++ (bs.drop (((i + (1 : Int))).toNat))) (St.unsep (St.addPur ⟨rfl, by rw [show (i + (1 : Int)).toNat = i.toNat + 1 by omega]; rfl⟩ (hw.sub (Sub.t [0] 3 rfl)))))))))))⟩
set_option maxRecDepth 100000 in
set_option maxHeartbeats 1000000 in
theorem l01Draw_ok (cA : Option Addr) (cc : Nat) (code : List UInt8) (s : Nat) (w0 : World) (H : List Assn) (hc : Rd U8C w0 cA code) (lc : code.length ≤ 1048576) : Does Tryz.prog 135 [.pointer (some ⟨s, 0, none⟩)] w0 (SrcK 133 cA cc code s :: H) (fun rv_ => [.exi fun (pv : Int) => .exi fun (rA : Option Addr) => .exi fun (rc : Nat) => .exi fun (r : List B3) => .sep (.pur (rv_ = .agg #[.int .i64 pv, .slice rA r.length rc] ∧ DrS 4100 pv r)) (.sep (Own 81 B3C rA rc r) (SrcK 133 cA cc code s))] ++ H) := by
 refine Does.enter Tryz.func135 rfl rfl [(0, .pointer (some ⟨s, 0, none⟩))] rfl (Za (O.f rfl (Ef.alloc rfl zr26 rfl) ?_))
 rintro _ _ ⟨b1, rfl, rfl⟩
 refine Zc (O.m rfl (O.f rfl (Ef.call call68 rfl rfl (Does.pre (fun w hw => hw.sub (Sub.t [1,0] 0 rfl)) (l01Next_ok _ _ _ s (4 : Int) w0 _   (by first | assumption | omega | (try dsimp only at *; omega)) (by first | assumption | omega | (try dsimp only at *; omega))))) ?_))
 rintro _ _ rfl
 refine O.exi (fun r1 => O.sep (O.pur ?_))
 rintro ⟨rfl, hr1_1, hr1_2, hr1_3⟩
 refine Zi (Za (O.q rfl (Pu.eql rfl rfl rfl) (O.m rfl (Zf (V.condD rfl (fun c1 => ?_) (fun c1 => ?_))))))
 ·refine Za (O.m rfl (O.f rfl (Ef.call call67 rfl rfl (Does.pre (fun w hw => hw.sub (Sub.t [0,0] 0 rfl)) (l01DrawFull_ok _ _ _ s w0 _   (by first | assumption | omega | (try dsimp only at *; omega)) (by first | assumption | omega | (try dsimp only at *; omega))))) ?_))
  rintro _ _ rfl
  refine O.exi (fun pv1 => O.exi (fun r2A => O.exi (fun r2c => O.exi (fun r2 => O.sep (O.pur ?_)))))
  rintro ⟨rfl, hpv1_1⟩
  refine O.sep (O.s rfl rfl (Ef.storeAll 2 rfl sz26 rfl rfl rfl rfl (by simp [Value.oneCell']) rfl) ?_)
  rintro _ _ rfl
  exact Ze (Xq (Xr (X.retCell rfl ag26 sz26 rfl rfl (Ld.whole 2 rfl) (fun w hw => St.mkExi pv1 (St.mkExi r2A (St.mkExi r2c (St.mkExi r2 (St.unsep (St.addPur ⟨rfl, (by first | exact hpv1_1 | exact hpv2_1 | exact DrS.mono hr3_1 (by decide) | exact DrS.mono hr2_1 (by decide))⟩ (St.unsep (hw.sub (Sub.t [0,0] 1 rfl))))))))))))
 ·refine Za (O.q rfl (Pu.eql rfl rfl rfl) (O.m rfl (Zf (V.condD rfl (fun c2 => ?_) (fun c2 => ?_)))))
  ·refine Za (O.m rfl (O.f rfl (Ef.call call67 rfl rfl (Does.pre (fun w hw => hw.sub (Sub.t [0,0] 0 rfl)) (l01DrawFull_ok _ _ _ s w0 _   (by first | assumption | omega | (try dsimp only at *; omega)) (by first | assumption | omega | (try dsimp only at *; omega))))) ?_))
   rintro _ _ rfl
   refine O.exi (fun pv2 => O.exi (fun r3A => O.exi (fun r3c => O.exi (fun r3 => O.sep (O.pur ?_)))))
   rintro ⟨rfl, hpv2_1⟩
   refine O.sep (O.f rfl (Ef.alloc rfl zr26 rfl) ?_)
   rintro _ _ ⟨b2, rfl, rfl⟩
   refine O.s rfl rfl (Ef.storeAll 0 rfl sz26 rfl rfl rfl rfl (by simp [Value.oneCell']) rfl) ?_
   rintro _ _ rfl
   refine Zc (O.m rfl (O.f rfl (Ef.call call68 rfl rfl (Does.pre (fun w hw => hw.sub (Sub.t [2,0,0,0] 0 rfl)) (l01Next_ok _ _ _ s (5 : Int) w0 _   (by first | assumption | omega | (try dsimp only at *; omega)) (by first | assumption | omega | (try dsimp only at *; omega))))) ?_))
   rintro _ _ rfl
   refine O.exi (fun r4 => O.sep (O.pur ?_))
   rintro ⟨rfl, hr4_1, hr4_2, hr4_3⟩
   refine O.m rfl (Zi (V.loop3 (β := Int × (Option Addr) × Nat × (List B3)) (fun x => [(4, .int .i64 (x.1 : Int))]) _ (fun x => [Blk b2 [.int .i64 pv2, .slice x.2.1 x.2.2.2.length x.2.2.1] 26, Own 81 B3C x.2.1 x.2.2.1 x.2.2.2]) _ (fun x => x.1 ≤ 4 ∧ DrS 4100 pv2 x.2.2.2) (fun x => x.1.toNat) (r4, r3A, r3c, r3) (by (try dsimp only); exact ⟨by omega, hpv2_1⟩) (Ent.cons rfl (Ent.nil _)) (Ent.cons (t := 0) rfl (Ent.cons (t := 2) rfl (Ent.cons (t := 3) rfl (Ent.nil _)))) (Sub.t [1,1,0,0] 0 rfl) ?_))
   rintro ⟨k, xsA, xsc, xs⟩ ⟨hk, hDx⟩
   dsimp only at hk hDx ⊢
   refine Zj (O.m rfl (O.q rfl (Pu.gtr rfl rfl rfl) (O.m rfl (O.splitD 19 rfl (fun c3 => ?_) (fun c3 => ?_)))))
   ·refine O.gq rfl (Pu.fieldAddr 1 rfl ut26 rfl sz24 rfl rfl) (O.gq rfl (Pu.load rfl pl24 rfl (Ld.blk 0 rfl rfl)) (O.gq rfl (Pu.len rfl ut24 rfl) (O.gq rfl (Pu.gtr rfl rfl rfl) (O.m rfl (Zf (V.condD rfl (fun c4 => ?_) (fun c4 => ?_)))))))
    ·refine Vk (Xn (Vs (Vb ?_)))
     have hlx := hDx.2.2
     refine V.drawS mo (by kernel_rfl) (Sub.t [0,2] 2 rfl) (fun hwf => D.q 0 rfl (Pu.loadAgg rfl ag26 sz26 rfl rfl (Ld.whole 0 rfl)) (D.m 1 rfl (D.q 2 rfl (Pu.fieldAddr 1 rfl ut26 rfl sz24 rfl rfl) (D.q 3 rfl (Pu.load rfl pl24 rfl (Ld.blk 0 rfl rfl)) (D.q 4 rfl (Pu.len rfl ut24 rfl) (D.f hwf 5 rfl (Ef.call call68 rfl rfl (Does.pre (fun w hw => hw.sub (Sub.t [2,0,0,0] 0 rfl)) (l01Next_ok _ _ _ s (↑xs.length : Int) w0 _   (by first | assumption | omega | (try dsimp only at *; omega)) (by first | assumption | omega | (try dsimp only at *; omega))))) ?_))))))
     rintro _ _ rfl hs
     refine ⟨fun w hw => hw.tail.sub (Sub.t [0,1] 1 rfl), (D.exi (fun r5 => D.sep (D.pur1 ?_)))⟩
     rintro ⟨rfl, hr5_1, hr5_2, hr5_3⟩
     refine D.f hwf 6 rfl (Ef.call call173 rfl rfl (Does.pre (fun w hw => hw.sub (Sub.t [2,0,0,0] 0 rfl)) (l01Without_ok  pv2 xs r5 _ _ w0 _   (by omega) (by omega)))) ?_
     rintro _ _ rfl hs
     refine ⟨fun w hw => hw.tail.sub (Sub.t [1,1] 1 rfl), (D.exi (fun r6A => D.exi (fun r6c => D.exi (fun r6 => D.sep (D.pur1 ?_)))))⟩
     rintro ⟨rfl, hr6_1⟩
     refine D.effX (Hs' := []) hwf (e := 7) rfl rfl rfl rfl (Ef.storeAll 2 rfl sz26 rfl rfl rfl rfl (by simp [Value.oneCell']) rfl) rfl [] rfl (List.forall_mem_nil _) ?_
     rintro _ _ rfl
     exact ⟨fun w hw => hw.sub (Sub.nil _), (D.done hwf rfl (Xb (Xn (Vr (O.m rfl (O.q rfl (Pu.sub64 rfl (by omega) rfl rfl rfl) (O.m rfl (On (X.back3 ((k - (1 : Int)), r6A, r6c, r6) (by (try dsimp only); exact ⟨by omega, hDx.cut hr6_1⟩) (by first | omega | (dsimp only; omega)) (Ent.cons rfl (Ent.nil _)) (Ent.cons (t := 0) rfl (Ent.cons (t := 2) rfl (Ent.cons (t := 3) rfl (Ent.nil _)))) (Sub.t [2,0,0,0] 0 rfl))))))))))⟩
    ·refine Zd (O.q rfl (Pu.loadAgg rfl ag26 sz26 rfl rfl (Ld.whole 0 rfl)) (O.s rfl rfl (Ef.storeAll 3 rfl sz26 rfl rfl rfl rfl (by simp [Value.oneCell']) rfl) ?_))
     rintro _ _ rfl
     exact Ze (Xq (Xr (X.retCell rfl ag26 sz26 rfl rfl (Ld.whole 3 rfl) (fun w hw => St.mkExi pv2 (St.mkExi xsA (St.mkExi xsc (St.mkExi xs (St.unsep (St.addPur ⟨rfl, hDx⟩ (St.unsep (hw.sub (Sub.t [1,1] 2 rfl))))))))))))
   ·refine O.g rfl (O.g rfl (O.g rfl (O.g rfl (O.m rfl (Zf (V.condF rfl (Ve (Xe (Xe (Xh ?_))))))))))
    refine Xn (Za (O.q rfl (Pu.loadAgg rfl ag26 sz26 rfl rfl (Ld.whole 0 rfl)) (O.s rfl rfl (Ef.storeAll 3 rfl sz26 rfl rfl rfl rfl (by simp [Value.oneCell']) rfl) ?_)))
    rintro _ _ rfl
    exact Ze (Xq (Xr (X.retCell rfl ag26 sz26 rfl rfl (Ld.whole 3 rfl) (fun w hw => St.mkExi pv2 (St.mkExi xsA (St.mkExi xsc (St.mkExi xs (St.unsep (St.addPur ⟨rfl, hDx⟩ (St.unsep (hw.sub (Sub.t [1,1] 2 rfl))))))))))))
  ·refine Vk (Xb (Xn (Za (O.m rfl (O.m rfl (O.f rfl (Ef.call call68 rfl rfl (Does.pre (fun w hw => hw.sub (Sub.t [0,0] 0 rfl)) (l01Next_ok _ _ _ s (13 : Int) w0 _   (by first | assumption | omega | (try dsimp only at *; omega)) (by first | assumption | omega | (try dsimp only at *; omega))))) ?_))))))
   rintro _ _ rfl
   refine O.exi (fun r7 => O.sep (O.pur ?_))
   rintro ⟨rfl, hr7_1, hr7_2, hr7_3⟩
   refine O.q rfl (Pu.add64 rfl (by omega) rfl rfl rfl) (O.f rfl (Ef.call call183 rfl rfl (Does.pre (fun w hw => hw.sub (Sub.t [0,0] 0 rfl)) (l01DrawOf_ok _ _ _ s ((3 : Int) + r7) w0 _   (by first | assumption | omega | (try dsimp only at *; omega)) (by first | assumption | omega | (try dsimp only at *; omega)) (by omega)))) ?_)
   rintro _ _ rfl
   refine O.exi (fun r8A => O.exi (fun r8c => O.exi (fun r8 => O.sep (O.pur ?_))))
   rintro ⟨rfl, hr8_1⟩
   refine O.sep (O.s rfl rfl (Ef.storeAll 2 rfl sz26 rfl rfl rfl rfl (by simp [Value.oneCell']) rfl) ?_)
   rintro _ _ rfl
   exact Ze (X.retCell rfl ag26 sz26 rfl rfl (Ld.whole 2 rfl) (fun w hw => St.mkExi ((3 : Int) + r7) (St.mkExi r8A (St.mkExi r8c (St.mkExi r8 (St.unsep (St.addPur ⟨rfl, (by first | exact hpv1_1 | exact hpv2_1 | exact DrS.mono hr3_1 (by decide) | exact DrS.mono hr8_1 (by decide))⟩ (St.unsep (hw.sub (Sub.t [0,0] 1 rfl))))))))))
set_option maxRecDepth 100000 in
set_option maxHeartbeats 1000000 in
theorem l01Bad_ok (cA : Option Addr) (cc : Nat) (code : List UInt8) (s : Nat) (v : Int) (bs : List B3) (A : Option Addr) (c : Nat) (w0 : World) (H : List Assn) (hc : Rd U8C w0 cA code) (lc : code.length ≤ 1048576) (hD : DrS 4100 v bs) : Does Tryz.prog 114 [.pointer (some ⟨s, 0, none⟩), .agg #[.int .i64 v, .slice A bs.length c]] w0 (SrcK 133 cA cc code s :: Own 81 B3C A c bs :: H) (fun rv_ => [.exi fun (pv : Int) => .exi fun (rA : Option Addr) => .exi fun (rc : Nat) => .exi fun (r : List B3) => .sep (.pur (rv_ = .agg #[.int .i64 pv, .slice rA r.length rc] ∧ (-1 ≤ pv ∧ pv ≤ 16) ∧ r.length ≤ 4200)) (.sep (Own 81 B3C rA rc r) (SrcK 133 cA cc code s))] ++ H) := by
 refine Does.enter Tryz.func114 rfl rfl [(0, .pointer (some ⟨s, 0, none⟩)), (1, .agg #[.int .i64 v, .slice A bs.length c])] rfl ?_
 have hv := hD.1
 have hl := hD.2.2
 refine Za (O.f rfl (Ef.box rfl rfl rfl) ?_)
 rintro _ _ ⟨b1, rfl, rfl⟩
 refine O.f rfl (Ef.alloc rfl zr26 rfl) ?_
 rintro _ _ ⟨b2, rfl, rfl⟩
 refine Zb (O.f rfl (Ef.build B3C ([] : List B3) rfl ut24 inf81 rfl rfl rfl (by first | decide | (simp; done)) (by kernel_rfl)) ?_)
 rintro _ _ ⟨A1, hA1, rfl, rfl⟩
 refine O.q rfl (Pu.fieldAddr 1 rfl ut26 rfl sz24 rfl rfl) (O.q rfl (Pu.load rfl pl24 rfl (Ld.blk 2 rfl rfl)) (O.f rfl (Ef.appendN (xs := ([] : List B3)) (ys := bs) 0 rfl ut24 inf81 rfl rfl rfl rfl rfl rfl (fun w hw h => Own.nilc hw (i := 4) (by exact rfl) h) (Ld.own 4 (by exact rfl)) (by simp only [List.length_append, List.length_cons, List.length_nil] at *; omega) (by decide)) ?_))
 rintro _ _ ⟨A2, k1, rfl, rfl, hA2⟩
 replace hA2 := hA2 (.inl hA1)
 refine O.m rfl (Zc (O.m rfl (O.f rfl (Ef.call call68 rfl rfl (Does.pre (fun w hw => hw.sub (Sub.t [3,0,0,0,0] 0 rfl)) (l01Next_ok _ _ _ s (50 : Int) w0 _   (by first | assumption | omega | (try dsimp only at *; omega)) (by first | assumption | omega | (try dsimp only at *; omega))))) ?_)))
 rintro _ _ rfl
 refine O.exi (fun r1 => O.sep (O.pur ?_))
 rintro ⟨rfl, hr1_1, hr1_2, hr1_3⟩
 refine Zi (Za (O.q rfl (Pu.eql rfl rfl rfl) (O.m rfl (Zf (V.condD rfl (fun c1 => ?_) (fun c1 => ?_))))))
 ·refine Za (O.m rfl (O.f rfl (Ef.build I64 ([(2 : Int), (16 : Int), (0 : Int), (-1 : Int)] : List Int) rfl ut49 inf2 rfl rfl rfl (by first | decide | (simp; done)) (by kernel_rfl)) ?_))
  rintro _ _ ⟨A3, hA3, rfl, rfl⟩
  refine O.f rfl (Ef.call call145 rfl rfl (Does.pre (fun w hw => hw.sub (Sub.t [1,0,0,0,0,0] 0 rfl)) (l01Pick_ok _ _ _ s ([(2 : Int), (16 : Int), (0 : Int), (-1 : Int)] : List Int) _ _ w0 _ (Ld.own 0 (by exact rfl)) (by first | omega | (simp only [tops_len, conts_len, bl, List.length_append, List.length_cons, List.length_nil] at *; omega)) (by first | assumption | omega | (try dsimp only at *; omega)) (by first | assumption | omega | (try dsimp only at *; omega)) (by first | (simp; done) | omega)))) ?_
  rintro _ _ rfl
  refine O.exi (fun r2 => O.sep (O.pur ?_))
  rintro ⟨rfl, hr2_1⟩
  have hpk : r2 = 2 ∨ r2 = 16 ∨ r2 = 0 ∨ r2 = -1 := by simpa using hr2_1
  refine O.m rfl (O.q rfl (Pu.buildS (cs := [.int .i64 r2, .slice A2 ((([] : List B3) ++ bs).length) k1]) rfl rfl ut26 zr26 (by kernel_rfl) rfl (by kernel_rfl)) (O.s rfl rfl (Ef.storeAll 3 rfl sz26 rfl rfl rfl rfl (by simp [Value.oneCell']) rfl) ?_))
  rintro _ _ rfl
  exact Ze (Xq (Xr (X.retCell rfl ag26 sz26 rfl rfl (Ld.whole 3 rfl) (fun w hw => St.mkExi r2 (St.mkExi A2 (St.mkExi k1 (St.mkExi (([] : List B3) ++ bs) (St.unsep (St.addPur ⟨(by first | rfl | (simp only [List.length_set])), by omega, by first | omega | (simp only [List.length_append, List.length_cons, List.length_nil, List.length_set]; omega)⟩ (St.unsep (hw.sub (Sub.t [2,0] 4 rfl))))))))))))
 ·refine Za (O.q rfl (Pu.eql rfl rfl rfl) (O.m rfl (Zf (V.condD rfl (fun c2 => ?_) (fun c2 => ?_)))))
  ·refine V.drawS mo (by kernel_rfl) (Sub.t [2,2,2] 2 rfl) (fun hwf => D.m 0 rfl (D.m 1 rfl (D.m 3 rfl (D.q 4 rfl (Pu.fieldAddr 0 rfl ut26 rfl sz2 rfl rfl) (D.q 5 rfl (Pu.load rfl pl2 rfl (Ld.blk 1 rfl rfl)) (D.m 8 rfl (D.q 9 rfl (Pu.fieldAddr 0 rfl ut26 rfl sz2 rfl rfl) (D.q 10 rfl (Pu.load rfl pl2 rfl (Ld.blk 1 rfl rfl)) (D.q 11 rfl (Pu.fieldAddr 0 rfl ut26 rfl sz2 rfl rfl) (D.q 12 rfl (Pu.load rfl pl2 rfl (Ld.blk 1 rfl rfl)) (D.q 13 rfl (Pu.sub64 rfl (by omega) rfl rfl rfl) (D.either3 hwf (e1 := 2) (e2 := 6) (e3 := 14) rfl ?_ ?_ ?_))))))))))))
   ·refine ⟨_, _, rfl, rfl, fun _ _ => wanted_none rfl _, Ef.call call68 rfl rfl (Does.pre (fun w hw => hw.sub (Sub.t [0,0,0,0,0] 0 rfl)) (l01Next_ok _ _ _ s (3 : Int) w0 _   (by first | assumption | omega | (try dsimp only at *; omega)) (by first | assumption | omega | (try dsimp only at *; omega)))), rfl, rfl, ?_⟩
    rintro _ _ rfl hs
    refine ⟨fun w hw => hw.tail.sub (Sub.t [1,1,1] 1 rfl), (D.exi (fun r3 => D.sep (D.pur1 ?_)))⟩
    rintro ⟨rfl, hr3_1, hr3_2, hr3_3⟩
    refine D.either hwf (e1 := 6) (e2 := 14) rfl ?_ ?_
    ·refine ⟨_, _, rfl, rfl, fun _ _ => wanted_none rfl _, Ef.build I64 ([(1 : Int), (2 : Int), v] : List Int) rfl ut49 inf2 rfl rfl rfl (by first | decide | (simp; done)) (by kernel_rfl), rfl, rfl, ?_⟩
     rintro _ _ ⟨A4, hA4, rfl, rfl⟩ hs
     refine ⟨fun w hw => hw.sub (Sub.t [3,3,3] 3 rfl), (D.either hwf (e1 := 7) (e2 := 14) rfl ?_ ?_)⟩
     ·refine ⟨_, _, rfl, rfl, fun _ _ => wanted_none rfl _, Ef.call call145 rfl rfl (Does.pre (fun w hw => hw.sub (Sub.t [1,0,0,0,0,0] 0 rfl)) (l01Pick_ok _ _ _ s ([(1 : Int), (2 : Int), v] : List Int) _ _ w0 _ (Ld.own 0 (by exact rfl)) (by first | omega | (simp only [tops_len, conts_len, bl, List.length_append, List.length_cons, List.length_nil] at *; omega)) (by first | assumption | omega | (try dsimp only at *; omega)) (by first | assumption | omega | (try dsimp only at *; omega)) (by first | (simp; done) | omega))), rfl, rfl, ?_⟩
      rintro _ _ rfl hs
      refine ⟨fun w hw => hw.tail.sub (Sub.t [2,2,2] 2 rfl), (D.exi (fun r4 => D.sep (D.pur1 ?_)))⟩
      rintro ⟨rfl, hr4_1⟩
      refine D.f hwf 14 rfl (Ef.build I64 ([(2 : Int), v, (v - (1 : Int))] : List Int) rfl ut49 inf2 rfl rfl rfl (by first | decide | (simp; done)) (by kernel_rfl)) ?_
      rintro _ _ ⟨A5, hA5, rfl, rfl⟩ hs
      refine ⟨fun w hw => hw.sub (Sub.t [4,4,4] 4 rfl), (D.f hwf 15 rfl (Ef.call call145 rfl rfl (Does.pre (fun w hw => hw.sub (Sub.t [1,0,0,0,0,0,0] 0 rfl)) (l01Pick_ok _ _ _ s ([(2 : Int), v, (v - (1 : Int))] : List Int) _ _ w0 _ (Ld.own 0 (by exact rfl)) (by first | omega | (simp only [tops_len, conts_len, bl, List.length_append, List.length_cons, List.length_nil] at *; omega)) (by first | assumption | omega | (try dsimp only at *; omega)) (by first | assumption | omega | (try dsimp only at *; omega)) (by first | (simp; done) | omega)))) ?_)⟩
      rintro _ _ rfl hs
      refine ⟨fun w hw => hw.tail.sub (Sub.t [3,3,3] 3 rfl), (D.exi (fun r5 => D.sep (D.pur1 ?_)))⟩
      rintro ⟨rfl, hr5_1⟩
      refine D.q 16 rfl (Pu.buildA (cs := [.int .i64 r3, .int .i64 r4, .int .i64 r5]) (v := B3.v (r3, r4, r5)) rfl rfl ut81 zr81 sz2 rfl (by kernel_rfl)) (D.f hwf 17 rfl (Ef.build B3C ([(r3, r4, r5)] : List B3) rfl ut24 inf81 rfl rfl rfl (by first | decide | (simp; done)) (by kernel_rfl)) ?_)
      rintro _ _ ⟨A6, hA6, rfl, rfl⟩ hs
      refine ⟨fun w hw => hw.sub (Sub.t [5,5,5] 5 rfl), (D.f hwf 18 rfl (Ef.append (xs := (([] : List B3) ++ bs)) (ys := ([(r3, r4, r5)] : List B3)) 4 rfl ut24 inf81 rfl rfl rfl rfl rfl rfl hA6 (Ld.own 0 (by exact rfl)) (by simp only [List.length_append, List.length_cons, List.length_nil] at *; omega) (by decide)) ?_)⟩
      rintro _ _ ⟨A7, k2, rfl, rfl, hA7⟩ hs
      replace hA7 := hA7 (.inr (by simp))
      refine ⟨fun w hw => hw.sub (Sub.t [5,5,5] 5 rfl), (D.last hwf (e := 19) rfl rfl rfl rfl rfl rfl (Pu.assign rfl rfl) (Xb (Xn (Za (O.q rfl (Pu.fieldAddr 0 rfl ut26 rfl sz2 rfl rfl) (O.q rfl (Pu.load rfl pl2 rfl (Ld.blk 6 rfl rfl)) (O.m rfl (O.q rfl (Pu.buildS (cs := [.int .i64 v, .slice A7 (((([] : List B3) ++ bs) ++ ([(r3, r4, r5)] : List B3)).length) k2]) rfl rfl ut26 zr26 (by kernel_rfl) rfl (by kernel_rfl)) (O.s rfl rfl (Ef.storeAll 5 rfl sz26 rfl rfl rfl rfl (by simp [Value.oneCell']) rfl) ?_)))))))))⟩
      rintro _ _ rfl
      exact Ze (X.retCell rfl ag26 sz26 rfl rfl (Ld.whole 5 rfl) (fun w hw => St.mkExi v (St.mkExi A7 (St.mkExi k2 (St.mkExi ((([] : List B3) ++ bs) ++ ([(r3, r4, r5)] : List B3)) (St.unsep (St.addPur ⟨(by first | rfl | (simp only [List.length_set])), by omega, by first | omega | (simp only [List.length_append, List.length_cons, List.length_nil, List.length_set]; omega)⟩ (St.unsep (hw.sub (Sub.t [4,1] 6 rfl))))))))))
     ·refine ⟨_, _, rfl, rfl, fun _ _ => wanted_none rfl _, Ef.build I64 ([(2 : Int), v, (v - (1 : Int))] : List Int) rfl ut49 inf2 rfl rfl rfl (by first | decide | (simp; done)) (by kernel_rfl), rfl, rfl, ?_⟩
      rintro _ _ ⟨A5, hA5, rfl, rfl⟩ hs
      refine ⟨fun w hw => hw.sub (Sub.t [4,4,4] 4 rfl), (D.f hwf 7 rfl (Ef.call call145 rfl rfl (Does.pre (fun w hw => hw.sub (Sub.t [2,0,0,0,0,0,0] 0 rfl)) (l01Pick_ok _ _ _ s ([(1 : Int), (2 : Int), v] : List Int) _ _ w0 _ (Ld.own 1 (by exact rfl)) (by first | omega | (simp only [tops_len, conts_len, bl, List.length_append, List.length_cons, List.length_nil] at *; omega)) (by first | assumption | omega | (try dsimp only at *; omega)) (by first | assumption | omega | (try dsimp only at *; omega)) (by first | (simp; done) | omega)))) ?_)⟩
      rintro _ _ rfl hs
      refine ⟨fun w hw => hw.tail.sub (Sub.t [3,3,3] 3 rfl), (D.exi (fun r4 => D.sep (D.pur1 ?_)))⟩
      rintro ⟨rfl, hr4_1⟩
      refine D.f hwf 15 rfl (Ef.call call145 rfl rfl (Does.pre (fun w hw => hw.sub (Sub.t [0,0,0,0,0,0,0] 0 rfl)) (l01Pick_ok _ _ _ s ([(2 : Int), v, (v - (1 : Int))] : List Int) _ _ w0 _ (Ld.own 0 (by exact rfl)) (by first | omega | (simp only [tops_len, conts_len, bl, List.length_append, List.length_cons, List.length_nil] at *; omega)) (by first | assumption | omega | (try dsimp only at *; omega)) (by first | assumption | omega | (try dsimp only at *; omega)) (by first | (simp; done) | omega)))) ?_
      rintro _ _ rfl hs
      refine ⟨fun w hw => hw.tail.sub (Sub.t [3,3,3] 3 rfl), (D.exi (fun r5 => D.sep (D.pur1 ?_)))⟩
      rintro ⟨rfl, hr5_1⟩
      refine D.q 16 rfl (Pu.buildA (cs := [.int .i64 r3, .int .i64 r4, .int .i64 r5]) (v := B3.v (r3, r4, r5)) rfl rfl ut81 zr81 sz2 rfl (by kernel_rfl)) (D.f hwf 17 rfl (Ef.build B3C ([(r3, r4, r5)] : List B3) rfl ut24 inf81 rfl rfl rfl (by first | decide | (simp; done)) (by kernel_rfl)) ?_)
      rintro _ _ ⟨A6, hA6, rfl, rfl⟩ hs
      refine ⟨fun w hw => hw.sub (Sub.t [5,5,5] 5 rfl), (D.f hwf 18 rfl (Ef.append (xs := (([] : List B3) ++ bs)) (ys := ([(r3, r4, r5)] : List B3)) 4 rfl ut24 inf81 rfl rfl rfl rfl rfl rfl hA6 (Ld.own 0 (by exact rfl)) (by simp only [List.length_append, List.length_cons, List.length_nil] at *; omega) (by decide)) ?_)⟩
      rintro _ _ ⟨A7, k2, rfl, rfl, hA7⟩ hs
      replace hA7 := hA7 (.inr (by simp))
      refine ⟨fun w hw => hw.sub (Sub.t [5,5,5] 5 rfl), (D.last hwf (e := 19) rfl rfl rfl rfl rfl rfl (Pu.assign rfl rfl) (Xb (Xn (Za (O.q rfl (Pu.fieldAddr 0 rfl ut26 rfl sz2 rfl rfl) (O.q rfl (Pu.load rfl pl2 rfl (Ld.blk 6 rfl rfl)) (O.m rfl (O.q rfl (Pu.buildS (cs := [.int .i64 v, .slice A7 (((([] : List B3) ++ bs) ++ ([(r3, r4, r5)] : List B3)).length) k2]) rfl rfl ut26 zr26 (by kernel_rfl) rfl (by kernel_rfl)) (O.s rfl rfl (Ef.storeAll 5 rfl sz26 rfl rfl rfl rfl (by simp [Value.oneCell']) rfl) ?_)))))))))⟩
      rintro _ _ rfl
      exact Ze (X.retCell rfl ag26 sz26 rfl rfl (Ld.whole 5 rfl) (fun w hw => St.mkExi v (St.mkExi A7 (St.mkExi k2 (St.mkExi ((([] : List B3) ++ bs) ++ ([(r3, r4, r5)] : List B3)) (St.unsep (St.addPur ⟨(by first | rfl | (simp only [List.length_set])), by omega, by first | omega | (simp only [List.length_append, List.length_cons, List.length_nil, List.length_set]; omega)⟩ (St.unsep (hw.sub (Sub.t [4,1] 6 rfl))))))))))
    ·refine ⟨_, _, rfl, rfl, fun _ _ => wanted_none rfl _, Ef.build I64 ([(2 : Int), v, (v - (1 : Int))] : List Int) rfl ut49 inf2 rfl rfl rfl (by first | decide | (simp; done)) (by kernel_rfl), rfl, rfl, ?_⟩
     rintro _ _ ⟨A4, hA4, rfl, rfl⟩ hs
     refine ⟨fun w hw => hw.sub (Sub.t [3,3,3] 3 rfl), (D.f hwf 6 rfl (Ef.build I64 ([(1 : Int), (2 : Int), v] : List Int) rfl ut49 inf2 rfl rfl rfl (by first | decide | (simp; done)) (by kernel_rfl)) ?_)⟩
     rintro _ _ ⟨A5, hA5, rfl, rfl⟩ hs
     refine ⟨fun w hw => hw.sub (Sub.t [4,4,4] 4 rfl), (D.f hwf 7 rfl (Ef.call call145 rfl rfl (Does.pre (fun w hw => hw.sub (Sub.t [2,0,0,0,0,0,0] 0 rfl)) (l01Pick_ok _ _ _ s ([(1 : Int), (2 : Int), v] : List Int) _ _ w0 _ (Ld.own 0 (by exact rfl)) (by first | omega | (simp only [tops_len, conts_len, bl, List.length_append, List.length_cons, List.length_nil] at *; omega)) (by first | assumption | omega | (try dsimp only at *; omega)) (by first | assumption | omega | (try dsimp only at *; omega)) (by first | (simp; done) | omega)))) ?_)⟩
     rintro _ _ rfl hs
     refine ⟨fun w hw => hw.tail.sub (Sub.t [3,3,3] 3 rfl), (D.exi (fun r4 => D.sep (D.pur1 ?_)))⟩
     rintro ⟨rfl, hr4_1⟩
     refine D.f hwf 15 rfl (Ef.call call145 rfl rfl (Does.pre (fun w hw => hw.sub (Sub.t [0,0,0,0,0,0,0] 0 rfl)) (l01Pick_ok _ _ _ s ([(2 : Int), v, (v - (1 : Int))] : List Int) _ _ w0 _ (Ld.own 1 (by exact rfl)) (by first | omega | (simp only [tops_len, conts_len, bl, List.length_append, List.length_cons, List.length_nil] at *; omega)) (by first | assumption | omega | (try dsimp only at *; omega)) (by first | assumption | omega | (try dsimp only at *; omega)) (by first | (simp; done) | omega)))) ?_
     rintro _ _ rfl hs
     refine ⟨fun w hw => hw.tail.sub (Sub.t [3,3,3] 3 rfl), (D.exi (fun r5 => D.sep (D.pur1 ?_)))⟩
     rintro ⟨rfl, hr5_1⟩
     refine D.q 16 rfl (Pu.buildA (cs := [.int .i64 r3, .int .i64 r4, .int .i64 r5]) (v := B3.v (r3, r4, r5)) rfl rfl ut81 zr81 sz2 rfl (by kernel_rfl)) (D.f hwf 17 rfl (Ef.build B3C ([(r3, r4, r5)] : List B3) rfl ut24 inf81 rfl rfl rfl (by first | decide | (simp; done)) (by kernel_rfl)) ?_)
     rintro _ _ ⟨A6, hA6, rfl, rfl⟩ hs
     refine ⟨fun w hw => hw.sub (Sub.t [5,5,5] 5 rfl), (D.f hwf 18 rfl (Ef.append (xs := (([] : List B3) ++ bs)) (ys := ([(r3, r4, r5)] : List B3)) 4 rfl ut24 inf81 rfl rfl rfl rfl rfl rfl hA6 (Ld.own 0 (by exact rfl)) (by simp only [List.length_append, List.length_cons, List.length_nil] at *; omega) (by decide)) ?_)⟩
     rintro _ _ ⟨A7, k2, rfl, rfl, hA7⟩ hs
     replace hA7 := hA7 (.inr (by simp))
     refine ⟨fun w hw => hw.sub (Sub.t [5,5,5] 5 rfl), (D.last hwf (e := 19) rfl rfl rfl rfl rfl rfl (Pu.assign rfl rfl) (Xb (Xn (Za (O.q rfl (Pu.fieldAddr 0 rfl ut26 rfl sz2 rfl rfl) (O.q rfl (Pu.load rfl pl2 rfl (Ld.blk 6 rfl rfl)) (O.m rfl (O.q rfl (Pu.buildS (cs := [.int .i64 v, .slice A7 (((([] : List B3) ++ bs) ++ ([(r3, r4, r5)] : List B3)).length) k2]) rfl rfl ut26 zr26 (by kernel_rfl) rfl (by kernel_rfl)) (O.s rfl rfl (Ef.storeAll 5 rfl sz26 rfl rfl rfl rfl (by simp [Value.oneCell']) rfl) ?_)))))))))⟩
     rintro _ _ rfl
     exact Ze (X.retCell rfl ag26 sz26 rfl rfl (Ld.whole 5 rfl) (fun w hw => St.mkExi v (St.mkExi A7 (St.mkExi k2 (St.mkExi ((([] : List B3) ++ bs) ++ ([(r3, r4, r5)] : List B3)) (St.unsep (St.addPur ⟨(by first | rfl | (simp only [List.length_set])), by omega, by first | omega | (simp only [List.length_append, List.length_cons, List.length_nil, List.length_set]; omega)⟩ (St.unsep (hw.sub (Sub.t [4,1] 6 rfl))))))))))
   ·refine ⟨_, _, rfl, rfl, fun _ _ => wanted_none rfl _, Ef.build I64 ([(1 : Int), (2 : Int), v] : List Int) rfl ut49 inf2 rfl rfl rfl (by first | decide | (simp; done)) (by kernel_rfl), rfl, rfl, ?_⟩
    rintro _ _ ⟨A4, hA4, rfl, rfl⟩ hs
    refine ⟨fun w hw => hw.sub (Sub.t [3,3,3] 3 rfl), (D.either hwf (e1 := 2) (e2 := 14) rfl ?_ ?_)⟩
    ·refine ⟨_, _, rfl, rfl, fun _ _ => wanted_none rfl _, Ef.call call68 rfl rfl (Does.pre (fun w hw => hw.sub (Sub.t [1,0,0,0,0,0] 0 rfl)) (l01Next_ok _ _ _ s (3 : Int) w0 _   (by first | assumption | omega | (try dsimp only at *; omega)) (by first | assumption | omega | (try dsimp only at *; omega)))), rfl, rfl, ?_⟩
     rintro _ _ rfl hs
     refine ⟨fun w hw => hw.tail.sub (Sub.t [2,2,2] 2 rfl), (D.exi (fun r3 => D.sep (D.pur1 ?_)))⟩
     rintro ⟨rfl, hr3_1, hr3_2, hr3_3⟩
     refine D.either hwf (e1 := 7) (e2 := 14) rfl ?_ ?_
     ·refine ⟨_, _, rfl, rfl, fun _ _ => wanted_none rfl _, Ef.call call145 rfl rfl (Does.pre (fun w hw => hw.sub (Sub.t [0,0,0,0,0,0] 0 rfl)) (l01Pick_ok _ _ _ s ([(1 : Int), (2 : Int), v] : List Int) _ _ w0 _ (Ld.own 0 (by exact rfl)) (by first | omega | (simp only [tops_len, conts_len, bl, List.length_append, List.length_cons, List.length_nil] at *; omega)) (by first | assumption | omega | (try dsimp only at *; omega)) (by first | assumption | omega | (try dsimp only at *; omega)) (by first | (simp; done) | omega))), rfl, rfl, ?_⟩
      rintro _ _ rfl hs
      refine ⟨fun w hw => hw.tail.sub (Sub.t [2,2,2] 2 rfl), (D.exi (fun r4 => D.sep (D.pur1 ?_)))⟩
      rintro ⟨rfl, hr4_1⟩
      refine D.f hwf 14 rfl (Ef.build I64 ([(2 : Int), v, (v - (1 : Int))] : List Int) rfl ut49 inf2 rfl rfl rfl (by first | decide | (simp; done)) (by kernel_rfl)) ?_
      rintro _ _ ⟨A5, hA5, rfl, rfl⟩ hs
      refine ⟨fun w hw => hw.sub (Sub.t [4,4,4] 4 rfl), (D.f hwf 15 rfl (Ef.call call145 rfl rfl (Does.pre (fun w hw => hw.sub (Sub.t [1,0,0,0,0,0,0] 0 rfl)) (l01Pick_ok _ _ _ s ([(2 : Int), v, (v - (1 : Int))] : List Int) _ _ w0 _ (Ld.own 0 (by exact rfl)) (by first | omega | (simp only [tops_len, conts_len, bl, List.length_append, List.length_cons, List.length_nil] at *; omega)) (by first | assumption | omega | (try dsimp only at *; omega)) (by first | assumption | omega | (try dsimp only at *; omega)) (by first | (simp; done) | omega)))) ?_)⟩
      rintro _ _ rfl hs
      refine ⟨fun w hw => hw.tail.sub (Sub.t [3,3,3] 3 rfl), (D.exi (fun r5 => D.sep (D.pur1 ?_)))⟩
      rintro ⟨rfl, hr5_1⟩
      refine D.q 16 rfl (Pu.buildA (cs := [.int .i64 r3, .int .i64 r4, .int .i64 r5]) (v := B3.v (r3, r4, r5)) rfl rfl ut81 zr81 sz2 rfl (by kernel_rfl)) (D.f hwf 17 rfl (Ef.build B3C ([(r3, r4, r5)] : List B3) rfl ut24 inf81 rfl rfl rfl (by first | decide | (simp; done)) (by kernel_rfl)) ?_)
      rintro _ _ ⟨A6, hA6, rfl, rfl⟩ hs
      refine ⟨fun w hw => hw.sub (Sub.t [5,5,5] 5 rfl), (D.f hwf 18 rfl (Ef.append (xs := (([] : List B3) ++ bs)) (ys := ([(r3, r4, r5)] : List B3)) 4 rfl ut24 inf81 rfl rfl rfl rfl rfl rfl hA6 (Ld.own 0 (by exact rfl)) (by simp only [List.length_append, List.length_cons, List.length_nil] at *; omega) (by decide)) ?_)⟩
      rintro _ _ ⟨A7, k2, rfl, rfl, hA7⟩ hs
      replace hA7 := hA7 (.inr (by simp))
      refine ⟨fun w hw => hw.sub (Sub.t [5,5,5] 5 rfl), (D.last hwf (e := 19) rfl rfl rfl rfl rfl rfl (Pu.assign rfl rfl) (Xb (Xn (Za (O.q rfl (Pu.fieldAddr 0 rfl ut26 rfl sz2 rfl rfl) (O.q rfl (Pu.load rfl pl2 rfl (Ld.blk 6 rfl rfl)) (O.m rfl (O.q rfl (Pu.buildS (cs := [.int .i64 v, .slice A7 (((([] : List B3) ++ bs) ++ ([(r3, r4, r5)] : List B3)).length) k2]) rfl rfl ut26 zr26 (by kernel_rfl) rfl (by kernel_rfl)) (O.s rfl rfl (Ef.storeAll 5 rfl sz26 rfl rfl rfl rfl (by simp [Value.oneCell']) rfl) ?_)))))))))⟩
      rintro _ _ rfl
      exact Ze (X.retCell rfl ag26 sz26 rfl rfl (Ld.whole 5 rfl) (fun w hw => St.mkExi v (St.mkExi A7 (St.mkExi k2 (St.mkExi ((([] : List B3) ++ bs) ++ ([(r3, r4, r5)] : List B3)) (St.unsep (St.addPur ⟨(by first | rfl | (simp only [List.length_set])), by omega, by first | omega | (simp only [List.length_append, List.length_cons, List.length_nil, List.length_set]; omega)⟩ (St.unsep (hw.sub (Sub.t [4,1] 6 rfl))))))))))
     ·refine ⟨_, _, rfl, rfl, fun _ _ => wanted_none rfl _, Ef.build I64 ([(2 : Int), v, (v - (1 : Int))] : List Int) rfl ut49 inf2 rfl rfl rfl (by first | decide | (simp; done)) (by kernel_rfl), rfl, rfl, ?_⟩
      rintro _ _ ⟨A5, hA5, rfl, rfl⟩ hs
      refine ⟨fun w hw => hw.sub (Sub.t [4,4,4] 4 rfl), (D.f hwf 7 rfl (Ef.call call145 rfl rfl (Does.pre (fun w hw => hw.sub (Sub.t [1,0,0,0,0,0,0] 0 rfl)) (l01Pick_ok _ _ _ s ([(1 : Int), (2 : Int), v] : List Int) _ _ w0 _ (Ld.own 1 (by exact rfl)) (by first | omega | (simp only [tops_len, conts_len, bl, List.length_append, List.length_cons, List.length_nil] at *; omega)) (by first | assumption | omega | (try dsimp only at *; omega)) (by first | assumption | omega | (try dsimp only at *; omega)) (by first | (simp; done) | omega)))) ?_)⟩
      rintro _ _ rfl hs
      refine ⟨fun w hw => hw.tail.sub (Sub.t [3,3,3] 3 rfl), (D.exi (fun r4 => D.sep (D.pur1 ?_)))⟩
      rintro ⟨rfl, hr4_1⟩
      refine D.f hwf 15 rfl (Ef.call call145 rfl rfl (Does.pre (fun w hw => hw.sub (Sub.t [0,0,0,0,0,0,0] 0 rfl)) (l01Pick_ok _ _ _ s ([(2 : Int), v, (v - (1 : Int))] : List Int) _ _ w0 _ (Ld.own 0 (by exact rfl)) (by first | omega | (simp only [tops_len, conts_len, bl, List.length_append, List.length_cons, List.length_nil] at *; omega)) (by first | assumption | omega | (try dsimp only at *; omega)) (by first | assumption | omega | (try dsimp only at *; omega)) (by first | (simp; done) | omega)))) ?_
      rintro _ _ rfl hs
      refine ⟨fun w hw => hw.tail.sub (Sub.t [3,3,3] 3 rfl), (D.exi (fun r5 => D.sep (D.pur1 ?_)))⟩
      rintro ⟨rfl, hr5_1⟩
      refine D.q 16 rfl (Pu.buildA (cs := [.int .i64 r3, .int .i64 r4, .int .i64 r5]) (v := B3.v (r3, r4, r5)) rfl rfl ut81 zr81 sz2 rfl (by kernel_rfl)) (D.f hwf 17 rfl (Ef.build B3C ([(r3, r4, r5)] : List B3) rfl ut24 inf81 rfl rfl rfl (by first | decide | (simp; done)) (by kernel_rfl)) ?_)
      rintro _ _ ⟨A6, hA6, rfl, rfl⟩ hs
      refine ⟨fun w hw => hw.sub (Sub.t [5,5,5] 5 rfl), (D.f hwf 18 rfl (Ef.append (xs := (([] : List B3) ++ bs)) (ys := ([(r3, r4, r5)] : List B3)) 4 rfl ut24 inf81 rfl rfl rfl rfl rfl rfl hA6 (Ld.own 0 (by exact rfl)) (by simp only [List.length_append, List.length_cons, List.length_nil] at *; omega) (by decide)) ?_)⟩
      rintro _ _ ⟨A7, k2, rfl, rfl, hA7⟩ hs
      replace hA7 := hA7 (.inr (by simp))
      refine ⟨fun w hw => hw.sub (Sub.t [5,5,5] 5 rfl), (D.last hwf (e := 19) rfl rfl rfl rfl rfl rfl (Pu.assign rfl rfl) (Xb (Xn (Za (O.q rfl (Pu.fieldAddr 0 rfl ut26 rfl sz2 rfl rfl) (O.q rfl (Pu.load rfl pl2 rfl (Ld.blk 6 rfl rfl)) (O.m rfl (O.q rfl (Pu.buildS (cs := [.int .i64 v, .slice A7 (((([] : List B3) ++ bs) ++ ([(r3, r4, r5)] : List B3)).length) k2]) rfl rfl ut26 zr26 (by kernel_rfl) rfl (by kernel_rfl)) (O.s rfl rfl (Ef.storeAll 5 rfl sz26 rfl rfl rfl rfl (by simp [Value.oneCell']) rfl) ?_)))))))))⟩
      rintro _ _ rfl
      exact Ze (X.retCell rfl ag26 sz26 rfl rfl (Ld.whole 5 rfl) (fun w hw => St.mkExi v (St.mkExi A7 (St.mkExi k2 (St.mkExi ((([] : List B3) ++ bs) ++ ([(r3, r4, r5)] : List B3)) (St.unsep (St.addPur ⟨(by first | rfl | (simp only [List.length_set])), by omega, by first | omega | (simp only [List.length_append, List.length_cons, List.length_nil, List.length_set]; omega)⟩ (St.unsep (hw.sub (Sub.t [4,1] 6 rfl))))))))))
    ·refine ⟨_, _, rfl, rfl, fun _ _ => wanted_none rfl _, Ef.build I64 ([(2 : Int), v, (v - (1 : Int))] : List Int) rfl ut49 inf2 rfl rfl rfl (by first | decide | (simp; done)) (by kernel_rfl), rfl, rfl, ?_⟩
     rintro _ _ ⟨A5, hA5, rfl, rfl⟩ hs
     refine ⟨fun w hw => hw.sub (Sub.t [4,4,4] 4 rfl), (D.f hwf 2 rfl (Ef.call call68 rfl rfl (Does.pre (fun w hw => hw.sub (Sub.t [2,0,0,0,0,0,0] 0 rfl)) (l01Next_ok _ _ _ s (3 : Int) w0 _   (by first | assumption | omega | (try dsimp only at *; omega)) (by first | assumption | omega | (try dsimp only at *; omega))))) ?_)⟩
     rintro _ _ rfl hs
     refine ⟨fun w hw => hw.tail.sub (Sub.t [3,3,3] 3 rfl), (D.exi (fun r3 => D.sep (D.pur1 ?_)))⟩
     rintro ⟨rfl, hr3_1, hr3_2, hr3_3⟩
     refine D.f hwf 7 rfl (Ef.call call145 rfl rfl (Does.pre (fun w hw => hw.sub (Sub.t [0,0,0,0,0,0,0] 0 rfl)) (l01Pick_ok _ _ _ s ([(1 : Int), (2 : Int), v] : List Int) _ _ w0 _ (Ld.own 1 (by exact rfl)) (by first | omega | (simp only [tops_len, conts_len, bl, List.length_append, List.length_cons, List.length_nil] at *; omega)) (by first | assumption | omega | (try dsimp only at *; omega)) (by first | assumption | omega | (try dsimp only at *; omega)) (by first | (simp; done) | omega)))) ?_
     rintro _ _ rfl hs
     refine ⟨fun w hw => hw.tail.sub (Sub.t [3,3,3] 3 rfl), (D.exi (fun r4 => D.sep (D.pur1 ?_)))⟩
     rintro ⟨rfl, hr4_1⟩
     refine D.f hwf 15 rfl (Ef.call call145 rfl rfl (Does.pre (fun w hw => hw.sub (Sub.t [0,0,0,0,0,0,0] 0 rfl)) (l01Pick_ok _ _ _ s ([(2 : Int), v, (v - (1 : Int))] : List Int) _ _ w0 _ (Ld.own 0 (by exact rfl)) (by first | omega | (simp only [tops_len, conts_len, bl, List.length_append, List.length_cons, List.length_nil] at *; omega)) (by first | assumption | omega | (try dsimp only at *; omega)) (by first | assumption | omega | (try dsimp only at *; omega)) (by first | (simp; done) | omega)))) ?_
     rintro _ _ rfl hs
     refine ⟨fun w hw => hw.tail.sub (Sub.t [3,3,3] 3 rfl), (D.exi (fun r5 => D.sep (D.pur1 ?_)))⟩
     rintro ⟨rfl, hr5_1⟩
     refine D.q 16 rfl (Pu.buildA (cs := [.int .i64 r3, .int .i64 r4, .int .i64 r5]) (v := B3.v (r3, r4, r5)) rfl rfl ut81 zr81 sz2 rfl (by kernel_rfl)) (D.f hwf 17 rfl (Ef.build B3C ([(r3, r4, r5)] : List B3) rfl ut24 inf81 rfl rfl rfl (by first | decide | (simp; done)) (by kernel_rfl)) ?_)
     rintro _ _ ⟨A6, hA6, rfl, rfl⟩ hs
     refine ⟨fun w hw => hw.sub (Sub.t [5,5,5] 5 rfl), (D.f hwf 18 rfl (Ef.append (xs := (([] : List B3) ++ bs)) (ys := ([(r3, r4, r5)] : List B3)) 4 rfl ut24 inf81 rfl rfl rfl rfl rfl rfl hA6 (Ld.own 0 (by exact rfl)) (by simp only [List.length_append, List.length_cons, List.length_nil] at *; omega) (by decide)) ?_)⟩
     rintro _ _ ⟨A7, k2, rfl, rfl, hA7⟩ hs
     replace hA7 := hA7 (.inr (by simp))
     refine ⟨fun w hw => hw.sub (Sub.t [5,5,5] 5 rfl), (D.last hwf (e := 19) rfl rfl rfl rfl rfl rfl (Pu.assign rfl rfl) (Xb (Xn (Za (O.q rfl (Pu.fieldAddr 0 rfl ut26 rfl sz2 rfl rfl) (O.q rfl (Pu.load rfl pl2 rfl (Ld.blk 6 rfl rfl)) (O.m rfl (O.q rfl (Pu.buildS (cs := [.int .i64 v, .slice A7 (((([] : List B3) ++ bs) ++ ([(r3, r4, r5)] : List B3)).length) k2]) rfl rfl ut26 zr26 (by kernel_rfl) rfl (by kernel_rfl)) (O.s rfl rfl (Ef.storeAll 5 rfl sz26 rfl rfl rfl rfl (by simp [Value.oneCell']) rfl) ?_)))))))))⟩
     rintro _ _ rfl
     exact Ze (X.retCell rfl ag26 sz26 rfl rfl (Ld.whole 5 rfl) (fun w hw => St.mkExi v (St.mkExi A7 (St.mkExi k2 (St.mkExi ((([] : List B3) ++ bs) ++ ([(r3, r4, r5)] : List B3)) (St.unsep (St.addPur ⟨(by first | rfl | (simp only [List.length_set])), by omega, by first | omega | (simp only [List.length_append, List.length_cons, List.length_nil, List.length_set]; omega)⟩ (St.unsep (hw.sub (Sub.t [4,1] 6 rfl))))))))))
   ·refine ⟨_, _, rfl, rfl, fun _ _ => wanted_none rfl _, Ef.build I64 ([(2 : Int), v, (v - (1 : Int))] : List Int) rfl ut49 inf2 rfl rfl rfl (by first | decide | (simp; done)) (by kernel_rfl), rfl, rfl, ?_⟩
    rintro _ _ ⟨A4, hA4, rfl, rfl⟩ hs
    refine ⟨fun w hw => hw.sub (Sub.t [3,3,3] 3 rfl), (D.either hwf (e1 := 2) (e2 := 6) rfl ?_ ?_)⟩
    ·refine ⟨_, _, rfl, rfl, fun _ _ => wanted_none rfl _, Ef.call call68 rfl rfl (Does.pre (fun w hw => hw.sub (Sub.t [1,0,0,0,0,0] 0 rfl)) (l01Next_ok _ _ _ s (3 : Int) w0 _   (by first | assumption | omega | (try dsimp only at *; omega)) (by first | assumption | omega | (try dsimp only at *; omega)))), rfl, rfl, ?_⟩
     rintro _ _ rfl hs
     refine ⟨fun w hw => hw.tail.sub (Sub.t [2,2,2] 2 rfl), (D.exi (fun r3 => D.sep (D.pur1 ?_)))⟩
     rintro ⟨rfl, hr3_1, hr3_2, hr3_3⟩
     refine D.f hwf 6 rfl (Ef.build I64 ([(1 : Int), (2 : Int), v] : List Int) rfl ut49 inf2 rfl rfl rfl (by first | decide | (simp; done)) (by kernel_rfl)) ?_
     rintro _ _ ⟨A5, hA5, rfl, rfl⟩ hs
     refine ⟨fun w hw => hw.sub (Sub.t [4,4,4] 4 rfl), (D.f hwf 7 rfl (Ef.call call145 rfl rfl (Does.pre (fun w hw => hw.sub (Sub.t [1,0,0,0,0,0,0] 0 rfl)) (l01Pick_ok _ _ _ s ([(1 : Int), (2 : Int), v] : List Int) _ _ w0 _ (Ld.own 0 (by exact rfl)) (by first | omega | (simp only [tops_len, conts_len, bl, List.length_append, List.length_cons, List.length_nil] at *; omega)) (by first | assumption | omega | (try dsimp only at *; omega)) (by first | assumption | omega | (try dsimp only at *; omega)) (by first | (simp; done) | omega)))) ?_)⟩
     rintro _ _ rfl hs
     refine ⟨fun w hw => hw.tail.sub (Sub.t [3,3,3] 3 rfl), (D.exi (fun r4 => D.sep (D.pur1 ?_)))⟩
     rintro ⟨rfl, hr4_1⟩
     refine D.f hwf 15 rfl (Ef.call call145 rfl rfl (Does.pre (fun w hw => hw.sub (Sub.t [0,0,0,0,0,0,0] 0 rfl)) (l01Pick_ok _ _ _ s ([(2 : Int), v, (v - (1 : Int))] : List Int) _ _ w0 _ (Ld.own 1 (by exact rfl)) (by first | omega | (simp only [tops_len, conts_len, bl, List.length_append, List.length_cons, List.length_nil] at *; omega)) (by first | assumption | omega | (try dsimp only at *; omega)) (by first | assumption | omega | (try dsimp only at *; omega)) (by first | (simp; done) | omega)))) ?_
     rintro _ _ rfl hs
     refine ⟨fun w hw => hw.tail.sub (Sub.t [3,3,3] 3 rfl), (D.exi (fun r5 => D.sep (D.pur1 ?_)))⟩
     rintro ⟨rfl, hr5_1⟩
     refine D.q 16 rfl (Pu.buildA (cs := [.int .i64 r3, .int .i64 r4, .int .i64 r5]) (v := B3.v (r3, r4, r5)) rfl rfl ut81 zr81 sz2 rfl (by kernel_rfl)) (D.f hwf 17 rfl (Ef.build B3C ([(r3, r4, r5)] : List B3) rfl ut24 inf81 rfl rfl rfl (by first | decide | (simp; done)) (by kernel_rfl)) ?_)
     rintro _ _ ⟨A6, hA6, rfl, rfl⟩ hs
     refine ⟨fun w hw => hw.sub (Sub.t [5,5,5] 5 rfl), (D.f hwf 18 rfl (Ef.append (xs := (([] : List B3) ++ bs)) (ys := ([(r3, r4, r5)] : List B3)) 4 rfl ut24 inf81 rfl rfl rfl rfl rfl rfl hA6 (Ld.own 0 (by exact rfl)) (by simp only [List.length_append, List.length_cons, List.length_nil] at *; omega) (by decide)) ?_)⟩
     rintro _ _ ⟨A7, k2, rfl, rfl, hA7⟩ hs
     replace hA7 := hA7 (.inr (by simp))
     refine ⟨fun w hw => hw.sub (Sub.t [5,5,5] 5 rfl), (D.last hwf (e := 19) rfl rfl rfl rfl rfl rfl (Pu.assign rfl rfl) (Xb (Xn (Za (O.q rfl (Pu.fieldAddr 0 rfl ut26 rfl sz2 rfl rfl) (O.q rfl (Pu.load rfl pl2 rfl (Ld.blk 6 rfl rfl)) (O.m rfl (O.q rfl (Pu.buildS (cs := [.int .i64 v, .slice A7 (((([] : List B3) ++ bs) ++ ([(r3, r4, r5)] : List B3)).length) k2]) rfl rfl ut26 zr26 (by kernel_rfl) rfl (by kernel_rfl)) (O.s rfl rfl (Ef.storeAll 5 rfl sz26 rfl rfl rfl rfl (by simp [Value.oneCell']) rfl) ?_)))))))))⟩
     rintro _ _ rfl
     exact Ze (X.retCell rfl ag26 sz26 rfl rfl (Ld.whole 5 rfl) (fun w hw => St.mkExi v (St.mkExi A7 (St.mkExi k2 (St.mkExi ((([] : List B3) ++ bs) ++ ([(r3, r4, r5)] : List B3)) (St.unsep (St.addPur ⟨(by first | rfl | (simp only [List.length_set])), by omega, by first | omega | (simp only [List.length_append, List.length_cons, List.length_nil, List.length_set]; omega)⟩ (St.unsep (hw.sub (Sub.t [4,1] 6 rfl))))))))))
    ·refine ⟨_, _, rfl, rfl, fun _ _ => wanted_none rfl _, Ef.build I64 ([(1 : Int), (2 : Int), v] : List Int) rfl ut49 inf2 rfl rfl rfl (by first | decide | (simp; done)) (by kernel_rfl), rfl, rfl, ?_⟩
     rintro _ _ ⟨A5, hA5, rfl, rfl⟩ hs
     refine ⟨fun w hw => hw.sub (Sub.t [4,4,4] 4 rfl), (D.f hwf 2 rfl (Ef.call call68 rfl rfl (Does.pre (fun w hw => hw.sub (Sub.t [2,0,0,0,0,0,0] 0 rfl)) (l01Next_ok _ _ _ s (3 : Int) w0 _   (by first | assumption | omega | (try dsimp only at *; omega)) (by first | assumption | omega | (try dsimp only at *; omega))))) ?_)⟩
     rintro _ _ rfl hs
     refine ⟨fun w hw => hw.tail.sub (Sub.t [3,3,3] 3 rfl), (D.exi (fun r3 => D.sep (D.pur1 ?_)))⟩
     rintro ⟨rfl, hr3_1, hr3_2, hr3_3⟩
     refine D.f hwf 7 rfl (Ef.call call145 rfl rfl (Does.pre (fun w hw => hw.sub (Sub.t [0,0,0,0,0,0,0] 0 rfl)) (l01Pick_ok _ _ _ s ([(1 : Int), (2 : Int), v] : List Int) _ _ w0 _ (Ld.own 0 (by exact rfl)) (by first | omega | (simp only [tops_len, conts_len, bl, List.length_append, List.length_cons, List.length_nil] at *; omega)) (by first | assumption | omega | (try dsimp only at *; omega)) (by first | assumption | omega | (try dsimp only at *; omega)) (by first | (simp; done) | omega)))) ?_
     rintro _ _ rfl hs
     refine ⟨fun w hw => hw.tail.sub (Sub.t [3,3,3] 3 rfl), (D.exi (fun r4 => D.sep (D.pur1 ?_)))⟩
     rintro ⟨rfl, hr4_1⟩
     refine D.f hwf 15 rfl (Ef.call call145 rfl rfl (Does.pre (fun w hw => hw.sub (Sub.t [0,0,0,0,0,0,0] 0 rfl)) (l01Pick_ok _ _ _ s ([(2 : Int), v, (v - (1 : Int))] : List Int) _ _ w0 _ (Ld.own 1 (by exact rfl)) (by first | omega | (simp only [tops_len, conts_len, bl, List.length_append, List.length_cons, List.length_nil] at *; omega)) (by first | assumption | omega | (try dsimp only at *; omega)) (by first | assumption | omega | (try dsimp only at *; omega)) (by first | (simp; done) | omega)))) ?_
     rintro _ _ rfl hs
     refine ⟨fun w hw => hw.tail.sub (Sub.t [3,3,3] 3 rfl), (D.exi (fun r5 => D.sep (D.pur1 ?_)))⟩
     rintro ⟨rfl, hr5_1⟩
     refine D.q 16 rfl (Pu.buildA (cs := [.int .i64 r3, .int .i64 r4, .int .i64 r5]) (v := B3.v (r3, r4, r5)) rfl rfl ut81 zr81 sz2 rfl (by kernel_rfl)) (D.f hwf 17 rfl (Ef.build B3C ([(r3, r4, r5)] : List B3) rfl ut24 inf81 rfl rfl rfl (by first | decide | (simp; done)) (by kernel_rfl)) ?_)
     rintro _ _ ⟨A6, hA6, rfl, rfl⟩ hs
     refine ⟨fun w hw => hw.sub (Sub.t [5,5,5] 5 rfl), (D.f hwf 18 rfl (Ef.append (xs := (([] : List B3) ++ bs)) (ys := ([(r3, r4, r5)] : List B3)) 4 rfl ut24 inf81 rfl rfl rfl rfl rfl rfl hA6 (Ld.own 0 (by exact rfl)) (by simp only [List.length_append, List.length_cons, List.length_nil] at *; omega) (by decide)) ?_)⟩
     rintro _ _ ⟨A7, k2, rfl, rfl, hA7⟩ hs
     replace hA7 := hA7 (.inr (by simp))
     refine ⟨fun w hw => hw.sub (Sub.t [5,5,5] 5 rfl), (D.last hwf (e := 19) rfl rfl rfl rfl rfl rfl (Pu.assign rfl rfl) (Xb (Xn (Za (O.q rfl (Pu.fieldAddr 0 rfl ut26 rfl sz2 rfl rfl) (O.q rfl (Pu.load rfl pl2 rfl (Ld.blk 6 rfl rfl)) (O.m rfl (O.q rfl (Pu.buildS (cs := [.int .i64 v, .slice A7 (((([] : List B3) ++ bs) ++ ([(r3, r4, r5)] : List B3)).length) k2]) rfl rfl ut26 zr26 (by kernel_rfl) rfl (by kernel_rfl)) (O.s rfl rfl (Ef.storeAll 5 rfl sz26 rfl rfl rfl rfl (by simp [Value.oneCell']) rfl) ?_)))))))))⟩
     rintro _ _ rfl
     exact Ze (X.retCell rfl ag26 sz26 rfl rfl (Ld.whole 5 rfl) (fun w hw => St.mkExi v (St.mkExi A7 (St.mkExi k2 (St.mkExi ((([] : List B3) ++ bs) ++ ([(r3, r4, r5)] : List B3)) (St.unsep (St.addPur ⟨(by first | rfl | (simp only [List.length_set])), by omega, by first | omega | (simp only [List.length_append, List.length_cons, List.length_nil, List.length_set]; omega)⟩ (St.unsep (hw.sub (Sub.t [4,1] 6 rfl))))))))))
  ·refine Za (O.q rfl (Pu.eql rfl rfl rfl) (O.m rfl (Zf (V.condD rfl (fun c3 => ?_) (fun c3 => ?_)))))
   ·refine Za (O.m rfl (O.q rfl (Pu.len rfl ut24 rfl) (O.q rfl (Pu.gtr rfl rfl rfl) (Zf (V.condD rfl (fun c4 => ?_) (fun c4 => ?_))))))
    ·refine Za (O.m rfl (O.q rfl (Pu.indexAddr (0) rfl ut24 sz81 rfl rfl (by omega) (by omega) hA2) ?_))
     have e1 : 0 < (([] : List B3) ++ bs).length := by omega
     refine O.q rfl (Pu.loadAgg' (v := B3.v ((([] : List B3) ++ bs)[0]'e1)) rfl rfl ag81 sz81 rfl rfl (Ld.rds (C := B3C) (Ld.own 1 (by exact rfl)) (k := 0) e1 rfl)) (O.f rfl (Ef.alloc rfl zr81 rfl) ?_)
     rintro _ _ ⟨b3, rfl, rfl⟩
     refine O.s rfl rfl (Ef.storeAll 0 rfl sz81 rfl rfl rfl rfl (by simp [Value.oneCell']) rfl) ?_
     rintro _ _ rfl
     refine Zb (O.m rfl (O.m rfl (O.q rfl (Pu.indexAddr (1) rfl ut24 sz81 rfl rfl (by omega) (by omega) hA2) ?_)))
     have e2 : 1 < (([] : List B3) ++ bs).length := by omega
     refine O.q rfl (Pu.loadAgg' (v := B3.v ((([] : List B3) ++ bs)[1]'e2)) rfl rfl ag81 sz81 rfl rfl (Ld.rds (C := B3C) (Ld.own 2 (by exact rfl)) (k := 1) e2 rfl)) (O.q rfl (Pu.indexAddr (0) rfl ut24 sz81 rfl rfl (by omega) (by omega) hA2) (O.s rfl rfl (Ef.storeOwn 2 (0) ((([] : List B3) ++ bs)[1]'e2) rfl sz81 rfl rfl rfl rfl (by first | omega | (rw [List.length_set]; omega)) rfl) ?_))
     rintro _ _ rfl
     refine Zf (Vr (O.m rfl (O.q rfl (Pu.loadAgg' (v := B3.v ((([] : List B3) ++ bs)[0]'e1)) rfl rfl ag81 sz81 rfl rfl (Ld.whole 0 rfl)) (O.q rfl (Pu.indexAddr (1) rfl ut24 sz81 rfl rfl (by omega) (by omega) hA2) (O.s rfl rfl (Ef.storeOwn 2 (1) ((([] : List B3) ++ bs)[0]'e1) rfl sz81 rfl rfl rfl rfl (by first | omega | (rw [List.length_set]; omega)) rfl) ?_)))))
     rintro _ _ rfl
     refine On (Xb (Xn (Za (O.q rfl (Pu.fieldAddr 0 rfl ut26 rfl sz2 rfl rfl) (O.q rfl (Pu.load rfl pl2 rfl (Ld.blk 4 rfl rfl)) (O.m rfl (O.q rfl (Pu.buildS (cs := [.int .i64 v, .slice A2 ((([] : List B3) ++ bs).length) k1]) rfl rfl ut26 zr26 (by kernel_rfl) rfl (by kernel_rfl)) (O.s rfl rfl (Ef.storeAll 3 rfl sz26 rfl rfl rfl rfl (by simp [Value.oneCell']) rfl) ?_))))))))
     rintro _ _ rfl
     exact Ze (X.retCell rfl ag26 sz26 rfl rfl (Ld.whole 3 rfl) (fun w hw => St.mkExi v (St.mkExi A2 (St.mkExi k1 (St.mkExi (((([] : List B3) ++ bs).set (0) ((([] : List B3) ++ bs)[1]'e2)).set (1) ((([] : List B3) ++ bs)[0]'e1)) (St.unsep (St.addPur ⟨(by first | rfl | (simp only [List.length_set])), by omega, by first | omega | (simp only [List.length_append, List.length_cons, List.length_nil, List.length_set]; omega)⟩ (St.unsep (hw.sub (Sub.t [2,1] 4 rfl))))))))))
    ·refine Vk (Xb (Xn (Za (O.q rfl (Pu.fieldAddr 0 rfl ut26 rfl sz2 rfl rfl) (O.q rfl (Pu.load rfl pl2 rfl (Ld.blk 3 rfl rfl)) (O.m rfl (O.q rfl (Pu.buildS (cs := [.int .i64 v, .slice A2 ((([] : List B3) ++ bs).length) k1]) rfl rfl ut26 zr26 (by kernel_rfl) rfl (by kernel_rfl)) (O.s rfl rfl (Ef.storeAll 2 rfl sz26 rfl rfl rfl rfl (by simp [Value.oneCell']) rfl) ?_))))))))
     rintro _ _ rfl
     exact Ze (X.retCell rfl ag26 sz26 rfl rfl (Ld.whole 2 rfl) (fun w hw => St.mkExi v (St.mkExi A2 (St.mkExi k1 (St.mkExi (([] : List B3) ++ bs) (St.unsep (St.addPur ⟨(by first | rfl | (simp only [List.length_set])), by omega, by first | omega | (simp only [List.length_append, List.length_cons, List.length_nil, List.length_set]; omega)⟩ (St.unsep (hw.sub (Sub.t [1,0] 3 rfl))))))))))
   ·refine Za (O.q rfl (Pu.loadAgg rfl ag26 sz26 rfl rfl (Ld.whole 3 rfl)) (O.s rfl rfl (Ef.storeAll 2 rfl sz26 rfl rfl rfl rfl (by simp [Value.oneCell']) rfl) ?_))
    rintro _ _ rfl
    exact Ze (Xq (Xr (X.retCell rfl ag26 sz26 rfl rfl (Ld.whole 2 rfl) (fun w hw => St.mkExi v (St.mkExi A (St.mkExi c (St.mkExi bs (St.unsep (St.addPur ⟨(by first | rfl | (simp only [List.length_set])), by omega, by first | omega | (simp only [List.length_append, List.length_cons, List.length_nil, List.length_set]; omega)⟩ (St.unsep (hw.sub (Sub.t [4,0] 3 rfl))))))))))))
set_option maxRecDepth 100000 in
set_option maxHeartbeats 1000000 in
theorem l01Spoil_ok (cA : Option Addr) (cc : Nat) (code : List UInt8) (s : Nat) (w0 : World) (H : List Assn) (hc : Rd U8C w0 cA code) (lc : code.length ≤ 1048576) : Does Tryz.prog 60 [.pointer (some ⟨s, 0, none⟩)] w0 (SrcK 133 cA cc code s :: H) (fun rv_ => [.exi fun (pv : Int) => .exi fun (rA : Option Addr) => .exi fun (rc : Nat) => .exi fun (r : List B3) => .sep (.pur (rv_ = .agg #[.int .i64 pv, .slice rA r.length rc] ∧ (-1 ≤ pv ∧ pv ≤ 16) ∧ r.length ≤ 4200)) (.sep (Own 81 B3C rA rc r) (SrcK 133 cA cc code s))] ++ H) := by
 refine Does.enter Tryz.func60 rfl rfl [(0, .pointer (some ⟨s, 0, none⟩))] rfl (Za (O.f rfl (Ef.alloc rfl zr26 rfl) ?_))
 rintro _ _ ⟨b1, rfl, rfl⟩
 refine Zb (O.m rfl (O.m rfl (O.f rfl (Ef.call call135 rfl rfl (Does.pre (fun w hw => hw.sub (Sub.t [1,0] 0 rfl)) (l01Draw_ok _ _ _ s w0 _   (by first | assumption | omega | (try dsimp only at *; omega)) (by first | assumption | omega | (try dsimp only at *; omega))))) ?_)))
 rintro _ _ rfl
 refine O.exi (fun pv1 => O.exi (fun r1A => O.exi (fun r1c => O.exi (fun r1 => O.sep (O.pur ?_)))))
 rintro ⟨rfl, hpv1_1⟩
 refine O.sep (O.f rfl (Ef.call call114 rfl rfl (Does.pre (fun w hw => hw.sub (Sub.t [1,0,0] 0 rfl)) (l01Bad_ok _ _ _ s pv1 r1 _ _ w0 _   (by first | assumption | omega | (try dsimp only at *; omega)) (by first | assumption | omega | (try dsimp only at *; omega)) (by first | assumption | omega | (try dsimp only at *; omega))))) ?_)
 rintro _ _ rfl
 refine O.exi (fun pv2 => O.exi (fun r2A => O.exi (fun r2c => O.exi (fun r2 => O.sep (O.pur ?_)))))
 rintro ⟨rfl, hpv2_1, hpv2_2⟩
 refine O.sep (O.s rfl rfl (Ef.storeAll 2 rfl sz26 rfl rfl rfl rfl (by simp [Value.oneCell']) rfl) ?_)
 rintro _ _ rfl
 exact Ze (X.retCell rfl ag26 sz26 rfl rfl (Ld.whole 2 rfl) (fun w hw => St.mkExi pv2 (St.mkExi r2A (St.mkExi r2c (St.mkExi r2 (St.unsep (St.addPur ⟨rfl, hpv2_1, hpv2_2⟩ (St.unsep (hw.sub (Sub.t [0,0] 1 rfl))))))))))
set_option maxRecDepth 100000 in
set_option maxHeartbeats 1000000 in
theorem big_ok (code : List UInt8) (codeA : Option Addr) (codec : Nat) (w : World) (hcode : Rd U8C w codeA code) (lcode : code.length ≤ 9223372036854775807) : Does Tryz.prog 6 [.slice codeA code.length codec] w [] (fun r => [.pur (r = .bool (decide (4096 < code.length)))]) := by
 refine Does.enter Tryz.func6 rfl rfl [(0, .slice codeA code.length codec)] rfl (Za (O.m rfl (Zb (O.m rfl (O.q rfl (Pu.len rfl ut22 rfl) (O.q rfl (Pu.gtr rfl rfl rfl) (O.m rfl ?_)))))))
 exact Ze (X.ret1 rfl rfl (fun w hw => St.retP (boolD (by omega)) hw))
set_option maxRecDepth 100000 in
set_option maxHeartbeats 1000000 in
theorem blocks9_ok (a : List B3) (b : List B3) (aA : Option Addr) (ac : Nat) (bA : Option Addr) (bc : Nat) (w : World) (ha : Rd B3C w aA a) (hb : Rd B3C w bA b) (la : a.length ≤ 9223372036854775807) (lb : b.length ≤ 9223372036854775807) : Does Tryz.prog 82 [.slice aA a.length ac, .slice bA b.length bc] w [] (fun r => [.pur (r = .bool (decide (a = b)))]) := by
 refine Does.enter Tryz.func82 rfl rfl [(0, .slice aA a.length ac), (1, .slice bA b.length bc)] rfl (Za (O.m rfl (Zc (O.m rfl (O.q rfl (Pu.len rfl ut24 rfl) (O.m rfl ?_))))))
 refine O.q rfl (Pu.len rfl ut24 rfl) (O.q rfl (Pu.neq rfl rfl rfl) (Zf (V.condNot rfl (fun c1 => ?_) (fun c1 => ?_))))
 ·exact Za (O.m rfl (Ze (Xr (X.ret1 rfl rfl (fun w hw => St.retP (boolF (fun h => c1 (by rw [h]))) hw)))))
 ·refine Vk (Xn (Zj (O.m rfl (Zi (V.loop2 (β := Nat) (fun i => [(5, .int .i64 (i : Int))]) _ (fun i => []) (fun i => i ≤ a.length ∧ ∀ j (h1 : j < a.length) (h2 : j < b.length), j < i → a[j] = b[j]) (fun i => a.length - i) 0 ⟨by omega, fun j _ _ h => by omega⟩ (Ent.cons rfl (Ent.nil _)) (Ent.cons (t := 0) rfl (Ent.cons (t := 1) rfl (Ent.nil _))) (Sub.nil _) ?_)))))
  rintro i ⟨hi, he⟩
  refine Zj (O.m rfl (O.m rfl (O.q rfl (Pu.len rfl ut24 rfl) (O.q rfl (Pu.lss rfl rfl rfl) (Zf (V.condD rfl (fun c2 => ?_) (fun c2 => ?_)))))))
  ·refine Vk (Xn (Vs (Vb (Vs (V.draw mo (by kernel_rfl) (fun hwf => D.m 0 rfl (D.m 1 rfl (D.q 2 rfl (Pu.indexAddr (i) rfl ut24 sz81 rfl rfl (by omega) (by omega) (ha.some (by omega))) ?_))))))))
   have e1 : i < a.length := by omega
   refine D.q 3 rfl (Pu.loadAgg' (v := B3.v (a[i]'e1)) rfl rfl ag81 sz81 rfl rfl (Ld.rds (Ld.old ha) (k := i) e1 rfl)) (D.m 4 rfl (D.m 5 rfl (D.q 6 rfl (Pu.indexAddr (i) rfl ut24 sz81 rfl rfl (by omega) (by omega) (hb.some (by omega))) ?_)))
   have e2 : i < b.length := by omega
   refine D.q 7 rfl (Pu.loadAgg' (v := B3.v (b[i]'e2)) rfl rfl ag81 sz81 rfl rfl (Ld.rds (Ld.old hb) (k := i) e2 rfl)) (D.q 8 rfl (Pu.neqB3 ut81 ut2 sz2 (by kernel_rfl) rfl rfl rfl) (D.done hwf rfl (Xn (V.condNot rfl (fun c3 => ?_) (fun c3 => ?_)))))
   ·exact Za (O.m rfl (Ze (Xq (Xr (Xr (Xq (Xr (X.ret1 rfl rfl (fun w hw => St.retP (boolF (fun h => c3 (by simp [h]))) hw)))))))))
   ·exact Zg (O.m rfl (O.q rfl (Pu.add64 (r := ((i + 1 : Nat) : Int)) rfl (by omega) rfl rfl rfl) (O.m rfl (On (X.back2 (i + 1) ⟨by omega, fun j h1 h2 hj => by by_cases e : j = i; (· subst e; exact c3); (· exact he j h1 h2 (by omega))⟩ (by first | omega | (dsimp only; omega)) (Ent.cons rfl (Ent.nil _)) (Ent.cons (t := 0) rfl (Ent.cons (t := 1) rfl (Ent.nil _))) (Sub.nil _))))))
  ·exact Zd (O.m rfl (Ze (X.ret1 rfl rfl (fun w hw => St.retP (boolT (List.ext_getElem (by omega) (fun j h1 h2 => he j h1 h2 (by omega)))) hw))))
set_option maxRecDepth 100000 in
set_option maxHeartbeats 1000000 in
theorem system9_ok (v : Int) (bs : List B3) (v2 : Int) (bs2 : List B3) (A : Option Addr) (c : Nat) (A2 : Option Addr) (c2 : Nat) (w : World) (hx : Rd B3C w A bs) (hx2 : Rd B3C w A2 bs2) (lx : bs.length ≤ 4611686018427387904) (lx2 : bs2.length ≤ 4611686018427387904) : Does Tryz.prog 20 [.agg #[.int .i64 v, .slice A bs.length c], .agg #[.int .i64 v2, .slice A2 bs2.length c2]] w [] (fun r => [.pur (r = .bool (decide (v = v2 ∧ bs = bs2)))]) := by
 refine Does.enter Tryz.func20 rfl rfl [(0, .agg #[.int .i64 v, .slice A bs.length c]), (1, .agg #[.int .i64 v2, .slice A2 bs2.length c2])] rfl (Za (O.f rfl (Ef.box rfl rfl rfl) ?_))
 rintro _ _ ⟨b1, rfl, rfl⟩
 refine O.f rfl (Ef.box rfl rfl rfl) ?_
 rintro _ _ ⟨b2, rfl, rfl⟩
 refine O.m rfl (Zb (O.q rfl (Pu.fieldAddr 0 rfl ut26 rfl sz2 rfl rfl) (O.q rfl (Pu.load rfl pl2 rfl (Ld.blk 1 rfl rfl)) (O.q rfl (Pu.fieldAddr 0 rfl ut26 rfl sz2 rfl rfl) (O.q rfl (Pu.load rfl pl2 rfl (Ld.blk 0 rfl rfl)) (O.q rfl (Pu.eql rfl rfl rfl) (O.m rfl (O.splitD 10 rfl (fun c1 => ?_) (fun c1 => ?_)))))))))
 ·refine O.gq rfl (Pu.fieldAddr 1 rfl ut26 rfl sz24 rfl rfl) (O.gq rfl (Pu.load rfl pl24 rfl (Ld.blk 1 rfl rfl)) (O.gq rfl (Pu.fieldAddr 1 rfl ut26 rfl sz24 rfl rfl) (O.gq rfl (Pu.load rfl pl24 rfl (Ld.blk 0 rfl rfl)) (O.gf rfl (Ef.callP call82 rfl rfl (fun w hw => blocks9_ok  bs bs2 _ _ _ _ w ((Ld.old hx) w hw) ((Ld.old hx2) w hw) (by first | omega | (simp only [tops_len, conts_len, bl, List.length_append, List.length_cons, List.length_nil] at *; omega)) (by first | omega | (simp only [tops_len, conts_len, bl, List.length_append, List.length_cons, List.length_nil] at *; omega)) )) ?_))))
  rintro _ _ ⟨rfl, rfl⟩
  exact O.m rfl (O.m rfl (Ze (X.ret1 rfl rfl (fun w hw => St.retP (boolD (by first | exact ⟨c1, c2⟩ | exact fun h => c1 h.1 | exact fun h => c2 h.2 | (constructor; (· exact fun h => ⟨c1, h⟩); (· exact fun h => h.2)) | simp_all)) hw))))
 ·exact O.g rfl (O.g rfl (O.g rfl (O.g rfl (O.g rfl (O.m rfl (O.m rfl (Ze (X.ret1 rfl rfl (fun w hw => St.retP (boolF (by first | exact ⟨c1, c2⟩ | exact fun h => c1 h.1 | exact fun h => c2 h.2 | (constructor; (· exact fun h => ⟨c1, h⟩); (· exact fun h => h.2)) | simp_all)) hw)))))))))
end Go.Proofs.YtgfpljeppfaolaaGreat
