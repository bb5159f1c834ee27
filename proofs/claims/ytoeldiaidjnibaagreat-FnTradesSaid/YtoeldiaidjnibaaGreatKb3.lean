/-
  Contracts, part 3.
-/
import Derived.Test.YtoeldiaidjnibaaGreatKb2
set_option linter.unusedVariables false
set_option linter.unusedSimpArgs false
namespace Go.Proofs.YtoeldiaidjnibaaGreat
open Go Go.RowKit Go.Vc Go.Proofs
theorem l04PairI_ok (a b : Int) (w : World) (ha : 0 ≤ a ∧ a < 16) (hb : 0 ≤ b ∧ b < 16) : Does Tryz.prog 150 [.int .i64 a, .int .i64 b] w [] (fun v => [.pur (v = .int .i64 ((prI a.toNat b.toNat : Nat) : Int))]) := by
 obtain ⟨x, rfl⟩ := Int.eq_ofNat_of_zero_le ha.1
 obtain ⟨y, rfl⟩ := Int.eq_ofNat_of_zero_le hb.1
 exact l04Pair_ok x y w (by omega) (by omega)
set_option maxRecDepth 100000 in
set_option maxHeartbeats 1000000 in
theorem l01Made_ok (v_ : Int) (blocks : List B3) (blocksA : Option Addr) (blocksc : Nat) (w : World) (hblocks : Rd B3C w blocksA blocks) (lblocks : blocks.length ≤ 1099511627776) (lb : blocks.length ≤ 1000000) : Does Tryz.prog 45 [.int .i64 v_, .slice blocksA blocks.length blocksc] w [] (fun rv_ => [.exi fun (rA : Option Addr) => .exi fun (rc : Nat) => .exi fun (r : List B3) => .sep (.pur (rv_ = .agg #[.int .i64 v_, .slice rA r.length rc] ∧ r.Perm blocks ∧ SrtB r)) (Own 69 B3C rA rc r)]) := by
 refine Does.enter Tryz.func45 rfl rfl [(0, .int .i64 v_), (1, .slice blocksA blocks.length blocksc)] rfl (V.seq (V.region (O.f rfl (Ef.alloc rfl zr26 rfl) ?_)))
 rintro _ _ ⟨b1, rfl, rfl⟩
 refine O.nil (X.next (V.seq (V.region (O.m rfl (O.m rfl (O.f rfl (Ef.call1 call90 rfl rfl (fun w hw => l01Sort_ok  blocks _ _ w ((Ld.old hblocks) w hw) (by first | omega | (simp only [tops_len, conts_len, bl, List.length_append, List.length_cons, List.length_nil] at *; omega)) (by first | assumption | omega | (try dsimp only at *; omega)))) ?_))))))
 rintro _ _ rfl
 refine O.exi (fun r1A => O.exi (fun r1c => O.exi (fun r1 => O.sep (O.pur ?_))))
 rintro ⟨rfl, hr1_1, hr1_2⟩
 refine O.q rfl (Pu.buildS (cs := [.int .i64 v_, .slice r1A r1.length r1c]) rfl rfl Tryz.underlying26 zr26 (by kernel_rfl) rfl (by kernel_rfl)) (O.s rfl rfl (Ef.storeAll 1 rfl sz26 rfl rfl rfl rfl (by simp [Value.oneCell']) rfl) ?_)
 rintro _ _ rfl
 exact O.nil (X.next (V.ret (X.retCell rfl ag26 sz26 rfl rfl (Ld.whole 1 rfl) (fun w hw => St.mkExi r1A (St.mkExi r1c (St.mkExi r1 (St.unsep (St.addPur ⟨rfl, hr1_1, hr1_2⟩ (hw.sub (Sub.k (Sub.nil _)))))))))))
def layB_ren : Go.Shelf.Ren := ⟨fun | 6 => 149 | 15 => 152 | 14 => 161 | 28 => 170 | 29 => 171 | 20 => 182 | 21 => 183 | 22 => 184 | 23 => 185 | 24 => 186 | 25 => 187 | 26 => 188 | 27 => 189 | 46 => 198 | 47 => 191 | 48 => 192 | 49 => 199 | 50 => 200 | 57 => 203 | n => n, fun | 22 => 24 | 24 => 69 | 25 => 164 | 3 => 3 | 39 => 129 | 0 => 0 | 53 => 190 | 55 => 116 | 4 => 4 | 46 => 183 | 45 => 182 | 50 => 187 | 5 => 5 | 9 => 9 | 66 => 205 | 70 => 209 | 76 => 215 | 77 => 216 | n => n, fun | n => n⟩
theorem layB : SlLaysF0.n6 Tryz.prog layB_ren where
  mixed := by kernel_rfl
  f6 := ⟨Tryz.f149.name, by decide, Tryz.func149.trans (congrArg some (by kernel_rfl))⟩
  f14 := ⟨Tryz.f161.name, by decide, Tryz.func161.trans (congrArg some (by kernel_rfl))⟩
  f15 := Tryz.func152.trans (congrArg some (by kernel_rfl))
  f20 := ⟨Tryz.f182.name, by decide, Tryz.func182.trans (congrArg some (by kernel_rfl))⟩
  f21 := ⟨Tryz.f183.name, by decide, Tryz.func183.trans (congrArg some (by kernel_rfl))⟩
  f22 := ⟨Tryz.f184.name, by decide, Tryz.func184.trans (congrArg some (by kernel_rfl))⟩
  f23 := ⟨Tryz.f185.name, by decide, Tryz.func185.trans (congrArg some (by kernel_rfl))⟩
  f24 := ⟨Tryz.f186.name, by decide, Tryz.func186.trans (congrArg some (by kernel_rfl))⟩
  f25 := ⟨Tryz.f187.name, by decide, Tryz.func187.trans (congrArg some (by kernel_rfl))⟩
  f26 := ⟨Tryz.f188.name, by decide, Tryz.func188.trans (congrArg some (by kernel_rfl))⟩
  f27 := ⟨Tryz.f189.name, by decide, Tryz.func189.trans (congrArg some (by kernel_rfl))⟩
  f28 := Tryz.func170.trans (congrArg some (by kernel_rfl))
  f29 := Tryz.func171.trans (congrArg some (by kernel_rfl))
  f46 := ⟨Tryz.f198.name, by decide, Tryz.func198.trans (congrArg some (by kernel_rfl))⟩
  f47 := Tryz.func191.trans (congrArg some (by kernel_rfl))
  f48 := Tryz.func192.trans (congrArg some (by kernel_rfl))
  f49 := ⟨Tryz.f199.name, by decide, Tryz.func199.trans (congrArg some (by kernel_rfl))⟩
  f50 := ⟨Tryz.f200.name, by decide, Tryz.func200.trans (congrArg some (by kernel_rfl))⟩
  f57 := ⟨Tryz.f203.name, by decide, Tryz.func203.trans (congrArg some (by kernel_rfl))⟩
  t0 := Tryz.underlying0
  a0 := Tryz.isAgg0
  z0 := Tryz.sizeOf0
  v0 := Tryz.zeroValue0
  t3 := Tryz.underlying3
  a3 := Tryz.isAgg3
  z3 := Tryz.sizeOf3
  v3 := Tryz.zeroValue3
  t4 := Tryz.underlying4
  a4 := Tryz.isAgg4
  z4 := Tryz.sizeOf4
  v4 := Tryz.zeroValue4
  t5 := Tryz.underlying5
  a5 := Tryz.isAgg5
  z5 := Tryz.sizeOf5
  v5 := Tryz.zeroValue5
  t9 := Tryz.underlying9
  a9 := Tryz.isAgg9
  z9 := Tryz.sizeOf9
  v9 := Tryz.zeroValue9
  t22 := Tryz.underlying24
  a22 := Tryz.isAgg24
  z22 := Tryz.sizeOf24
  v22 := Tryz.zeroValue24
  t25 := Tryz.underlying164
  a25 := Tryz.isAgg164
  z25 := Tryz.sizeOf164
  v25 := Tryz.zeroValue164
  t39 := Tryz.underlying129
  a39 := Tryz.isAgg129
  z39 := Tryz.sizeOf129
  v39 := Tryz.zeroValue129
  t45 := Tryz.underlying182
  a45 := Tryz.isAgg182
  z45 := Tryz.sizeOf182
  v45 := Tryz.zeroValue182
  t46 := Tryz.underlying183
  a46 := Tryz.isAgg183
  z46 := Tryz.sizeOf183
  v46 := Tryz.zeroValue183
  t50 := Tryz.underlying187
  a50 := Tryz.isAgg187
  z50 := Tryz.sizeOf187
  v50 := Tryz.zeroValue187
  t53 := Tryz.underlying190
  a53 := Tryz.isAgg190
  z53 := Tryz.sizeOf190
  v53 := Tryz.zeroValue190
  t55 := Tryz.underlying116
  a55 := Tryz.isAgg116
  z55 := Tryz.sizeOf116
  v55 := Tryz.zeroValue116
  t66 := Tryz.underlying205
  a66 := Tryz.isAgg205
  z66 := Tryz.sizeOf205
  v66 := Tryz.zeroValue205
  t70 := Tryz.underlying209
  a70 := Tryz.isAgg209
  z70 := Tryz.sizeOf209
  v70 := Tryz.zeroValue209
  t76 := Tryz.underlying215
  a76 := Tryz.isAgg215
  z76 := Tryz.sizeOf215
  v76 := Tryz.zeroValue215
  t77 := Tryz.underlying216
  a77 := Tryz.isAgg216
  z77 := Tryz.sizeOf216
  v77 := Tryz.zeroValue216
theorem sortB_ok (xs : List B3) (xsA : Option Addr) (xsc : Nat) (w0 : World) (H : List Assn) (lxs : xs.length ≤ 1099511627776) : Does Tryz.prog 149 [.slice xsA xs.length xsc, .func (.func 92) #[] #[]] w0 (Own 69 B3C xsA xsc xs :: H) (fun v => [.exi fun ys : List B3 => .sep (.pur (v = .tuple #[] ∧ ys.Perm xs ∧ SrtB ys)) (Own 69 B3C xsA xsc ys)] ++ H) :=
  (sortK_does (C := B3C) layB Tryz.isAgg69 Tryz.sizeOf69 (fun x y => cmpL (bl x) (bl y)) swoB call92 (fun zs W _ x y => compare_ok x y W) (by omega)).mono (fun v w hs => by
    obtain ⟨ys, hs⟩ := St.exi hs
    obtain ⟨⟨h1, h2, h3⟩, h4⟩ := hs.sep.pur
    exact St.mkExi ys (St.unsep (St.addPur ⟨h1, h2, srt_of h3⟩ h4)))
set_option maxRecDepth 100000 in
set_option maxHeartbeats 1000000 in
theorem sorted_ok (blocks : List B3) (blocksA : Option Addr) (blocksc : Nat) (w : World) (hblocks : Rd B3C w blocksA blocks) (lblocks : blocks.length ≤ 1099511627776) (lb : blocks.length ≤ 1000000) : Does Tryz.prog 117 [.slice blocksA blocks.length blocksc] w [] (fun rv_ => [.exi fun (rA : Option Addr) => .exi fun (rc : Nat) => .exi fun (r : List B3) => .sep (.pur (rv_ = .slice rA r.length rc ∧ r.Perm blocks ∧ SrtB r)) (Own 69 B3C rA rc r)]) := by
 refine Does.enter Tryz.func117 rfl rfl [(0, .slice blocksA blocks.length blocksc)] rfl (V.seq (V.region (O.m rfl (O.nil (X.next (V.seq (V.region (O.m rfl (O.f rfl (Ef.call1 call53 rfl rfl (fun w hw => cloneB_ok blocks _ _ w ((Ld.old hblocks) w hw) (by first | omega | (simp only [tops_len] at *; omega)))) ?_)))))))))
 rintro _ _ rfl
 refine O.exi (fun p1 => O.sep (O.pur ?_))
 rintro ⟨rfl, hp1⟩
 refine O.m rfl (O.nil (X.next (V.seq (V.region (O.m rfl (O.f rfl (Ef.call call149 rfl rfl (Does.pre (fun w hw => hw.sub (Sub.k (Sub.nil _))) (sortB_ok  (p1.2) _ _ w _   (by rw [hp1]; omega)))) ?_))))))
 rintro _ _ rfl
 refine O.exi (fun ys1 => O.sep (O.pur ?_))
 rintro ⟨rfl, hys1_1, hys1_2⟩
 exact O.nil (X.next (V.seq (V.region (O.m rfl (O.m rfl (O.nil (X.next (V.ret (X.ret1 rfl rfl (fun w hw => St.mkExi (p1.1.1) (St.mkExi (p1.1.2) (St.mkExi ys1 (St.unsep (St.addPur ⟨(by rw [hys1_1.length_eq]), hys1_1.trans (by rw [hp1]), hys1_2⟩ (hw.sub (Sub.k (Sub.nil _)))))))))))))))))
set_option maxRecDepth 100000 in
set_option maxHeartbeats 1000000 in
theorem system_ok (v_ : Int) (blocks : List B3) (blocksA : Option Addr) (blocksc : Nat) (w : World) (hblocks : Rd B3C w blocksA blocks) (lblocks : blocks.length ≤ 1099511627776) (lb : blocks.length ≤ 1000000) : Does Tryz.prog 82 [.int .i64 v_, .slice blocksA blocks.length blocksc] w [] (fun rv_ => [.exi fun (rA : Option Addr) => .exi fun (rc : Nat) => .exi fun (r : List B3) => .sep (.pur (rv_ = .agg #[.int .i64 v_, .slice rA r.length rc] ∧ r.Perm blocks ∧ SrtB r)) (Own 69 B3C rA rc r)]) := by
 refine Does.enter Tryz.func82 rfl rfl [(0, .int .i64 v_), (1, .slice blocksA blocks.length blocksc)] rfl (V.seq (V.region (O.f rfl (Ef.alloc rfl zr26 rfl) ?_)))
 rintro _ _ ⟨b1, rfl, rfl⟩
 refine O.nil (X.next (V.seq (V.region (O.m rfl (O.m rfl (O.f rfl (Ef.call1 call117 rfl rfl (fun w hw => sorted_ok  blocks _ _ w ((Ld.old hblocks) w hw) (by first | omega | (simp only [tops_len, conts_len, bl, List.length_append, List.length_cons, List.length_nil] at *; omega)) (by first | assumption | omega | (try dsimp only at *; omega)))) ?_))))))
 rintro _ _ rfl
 refine O.exi (fun r1A => O.exi (fun r1c => O.exi (fun r1 => O.sep (O.pur ?_))))
 rintro ⟨rfl, hr1_1, hr1_2⟩
 refine O.q rfl (Pu.buildS (cs := [.int .i64 v_, .slice r1A r1.length r1c]) rfl rfl Tryz.underlying26 zr26 (by kernel_rfl) rfl (by kernel_rfl)) (O.s rfl rfl (Ef.storeAll 1 rfl sz26 rfl rfl rfl rfl (by simp [Value.oneCell']) rfl) ?_)
 rintro _ _ rfl
 exact O.nil (X.next (V.ret (X.retCell rfl ag26 sz26 rfl rfl (Ld.whole 1 rfl) (fun w hw => St.mkExi r1A (St.mkExi r1c (St.mkExi r1 (St.unsep (St.addPur ⟨rfl, hr1_1, hr1_2⟩ (hw.sub (Sub.k (Sub.nil _)))))))))))
set_option maxRecDepth 100000 in
set_option maxHeartbeats 1000000 in
theorem pairs1_ok (p : Int × Int) (q : Int × Int) (w : World) : Does Tryz.prog 127 [P2v p, P2v q] w [] (fun r => [.pur (r = .int .i64 (cmpL [p.1, p.2] [q.1, q.2]))]) := by
 refine Does.enter Tryz.func127 rfl rfl [(0, P2v p), (1, P2v q)] rfl (V.seq (V.region (O.f rfl (Ef.box rfl rfl rfl) ?_)))
 rintro _ _ ⟨b1, rfl, rfl⟩
 refine O.f rfl (Ef.box rfl rfl rfl) ?_
 rintro _ _ ⟨b2, rfl, rfl⟩
 refine O.m rfl (O.nil (X.next (V.seq (V.ent (Ent.cons (t := 2) rfl (Ent.cons (t := 3) rfl (Ent.nil _))) (V.draw mo (by kernel_rfl) (fun hwf => D.q 0 rfl (Pu.slicePtr rfl Tryz.underlying113 sz2 rfl) (D.q 1 rfl (Pu.slicePtr rfl Tryz.underlying113 sz2 rfl) (D.f hwf 2 rfl (Ef.callP call62 rfl rfl (fun w hw => slicesCompare_ok ([p.1, p.2] : List Int) ([q.1, q.2] : List Int) _ _ _ _ w ((Ld.arr 1 rfl rfl) w hw) ((Ld.arr 0 rfl rfl) w hw) (by first | omega | (simp [bl]; done)) (by first | omega | (simp [bl]; done)))) ?_))))))))
 rintro _ _ ⟨rfl, rfl⟩ hs
 exact ⟨fun w hw => hw, (D.m 3 rfl (D.done hwf rfl (X.next (V.ret (X.ret1 rfl rfl (fun w hw => St.retP (iv (rfl)) hw))))))⟩
def layP_ren : Go.Shelf.Ren := ⟨fun | 6 => 126 | 15 => 152 | 14 => 151 | 28 => 170 | 29 => 171 | 20 => 162 | 21 => 163 | 22 => 164 | 23 => 165 | 24 => 166 | 25 => 167 | 26 => 168 | 27 => 169 | 46 => 190 | 47 => 191 | 48 => 192 | 49 => 193 | 50 => 194 | 57 => 201 | n => n, fun | 22 => 112 | 24 => 113 | 25 => 146 | 3 => 3 | 39 => 129 | 0 => 0 | 53 => 190 | 55 => 116 | 4 => 4 | 46 => 183 | 45 => 182 | 50 => 187 | 5 => 5 | 9 => 9 | 66 => 205 | 70 => 209 | 76 => 215 | 77 => 216 | n => n, fun | n => n⟩
theorem layP : SlLaysF0.n6 Tryz.prog layP_ren where
  mixed := by kernel_rfl
  f6 := ⟨Tryz.f126.name, by decide, Tryz.func126.trans (congrArg some (by kernel_rfl))⟩
  f14 := ⟨Tryz.f151.name, by decide, Tryz.func151.trans (congrArg some (by kernel_rfl))⟩
  f15 := Tryz.func152.trans (congrArg some (by kernel_rfl))
  f20 := ⟨Tryz.f162.name, by decide, Tryz.func162.trans (congrArg some (by kernel_rfl))⟩
  f21 := ⟨Tryz.f163.name, by decide, Tryz.func163.trans (congrArg some (by kernel_rfl))⟩
  f22 := ⟨Tryz.f164.name, by decide, Tryz.func164.trans (congrArg some (by kernel_rfl))⟩
  f23 := ⟨Tryz.f165.name, by decide, Tryz.func165.trans (congrArg some (by kernel_rfl))⟩
  f24 := ⟨Tryz.f166.name, by decide, Tryz.func166.trans (congrArg some (by kernel_rfl))⟩
  f25 := ⟨Tryz.f167.name, by decide, Tryz.func167.trans (congrArg some (by kernel_rfl))⟩
  f26 := ⟨Tryz.f168.name, by decide, Tryz.func168.trans (congrArg some (by kernel_rfl))⟩
  f27 := ⟨Tryz.f169.name, by decide, Tryz.func169.trans (congrArg some (by kernel_rfl))⟩
  f28 := Tryz.func170.trans (congrArg some (by kernel_rfl))
  f29 := Tryz.func171.trans (congrArg some (by kernel_rfl))
  f46 := ⟨Tryz.f190.name, by decide, Tryz.func190.trans (congrArg some (by kernel_rfl))⟩
  f47 := Tryz.func191.trans (congrArg some (by kernel_rfl))
  f48 := Tryz.func192.trans (congrArg some (by kernel_rfl))
  f49 := ⟨Tryz.f193.name, by decide, Tryz.func193.trans (congrArg some (by kernel_rfl))⟩
  f50 := ⟨Tryz.f194.name, by decide, Tryz.func194.trans (congrArg some (by kernel_rfl))⟩
  f57 := ⟨Tryz.f201.name, by decide, Tryz.func201.trans (congrArg some (by kernel_rfl))⟩
  t0 := Tryz.underlying0
  a0 := Tryz.isAgg0
  z0 := Tryz.sizeOf0
  v0 := Tryz.zeroValue0
  t3 := Tryz.underlying3
  a3 := Tryz.isAgg3
  z3 := Tryz.sizeOf3
  v3 := Tryz.zeroValue3
  t4 := Tryz.underlying4
  a4 := Tryz.isAgg4
  z4 := Tryz.sizeOf4
  v4 := Tryz.zeroValue4
  t5 := Tryz.underlying5
  a5 := Tryz.isAgg5
  z5 := Tryz.sizeOf5
  v5 := Tryz.zeroValue5
  t9 := Tryz.underlying9
  a9 := Tryz.isAgg9
  z9 := Tryz.sizeOf9
  v9 := Tryz.zeroValue9
  t22 := Tryz.underlying112
  a22 := Tryz.isAgg112
  z22 := Tryz.sizeOf112
  v22 := Tryz.zeroValue112
  t25 := Tryz.underlying146
  a25 := Tryz.isAgg146
  z25 := Tryz.sizeOf146
  v25 := Tryz.zeroValue146
  t39 := Tryz.underlying129
  a39 := Tryz.isAgg129
  z39 := Tryz.sizeOf129
  v39 := Tryz.zeroValue129
  t45 := Tryz.underlying182
  a45 := Tryz.isAgg182
  z45 := Tryz.sizeOf182
  v45 := Tryz.zeroValue182
  t46 := Tryz.underlying183
  a46 := Tryz.isAgg183
  z46 := Tryz.sizeOf183
  v46 := Tryz.zeroValue183
  t50 := Tryz.underlying187
  a50 := Tryz.isAgg187
  z50 := Tryz.sizeOf187
  v50 := Tryz.zeroValue187
  t53 := Tryz.underlying190
  a53 := Tryz.isAgg190
  z53 := Tryz.sizeOf190
  v53 := Tryz.zeroValue190
  t55 := Tryz.underlying116
  a55 := Tryz.isAgg116
  z55 := Tryz.sizeOf116
  v55 := Tryz.zeroValue116
  t66 := Tryz.underlying205
  a66 := Tryz.isAgg205
  z66 := Tryz.sizeOf205
  v66 := Tryz.zeroValue205
  t70 := Tryz.underlying209
  a70 := Tryz.isAgg209
  z70 := Tryz.sizeOf209
  v70 := Tryz.zeroValue209
  t76 := Tryz.underlying215
  a76 := Tryz.isAgg215
  z76 := Tryz.sizeOf215
  v76 := Tryz.zeroValue215
  t77 := Tryz.underlying216
  a77 := Tryz.isAgg216
  z77 := Tryz.sizeOf216
  v77 := Tryz.zeroValue216
theorem sortP_ok (xs : List (Int × Int)) (xsA : Option Addr) (xsc : Nat) (w0 : World) (H : List Assn) (lxs : xs.length ≤ 1099511627776) : Does Tryz.prog 126 [.slice xsA xs.length xsc, .func (.func 127) #[] #[]] w0 (Own 113 P2C xsA xsc xs :: H) (fun v => [.exi fun ys : List (Int × Int) => .sep (.pur (v = .tuple #[] ∧ ys.Perm xs ∧ SrtP ys)) (Own 113 P2C xsA xsc ys)] ++ H) :=
  (sortK_does (C := P2C) layP Tryz.isAgg113 Tryz.sizeOf113 (fun x y => cmpL [x.1, x.2] [y.1, y.2]) swoP call127 (fun zs W _ x y => pairs1_ok x y W) (by omega)).mono (fun v w hs => by
    obtain ⟨ys, hs⟩ := St.exi hs
    obtain ⟨⟨h1, h2, h3⟩, h4⟩ := hs.sep.pur
    exact St.mkExi ys (St.unsep (St.addPur ⟨h1, h2, srtP_of h3⟩ h4)))
set_option maxRecDepth 100000 in
set_option maxHeartbeats 1000000 in
theorem pairs_ok (blocks : List B3) (blocksA : Option Addr) (blocksc : Nat) (w : World) (hblocks : Rd B3C w blocksA blocks) (lblocks : blocks.length ≤ 1099511627776) (lb : blocks.length ≤ 1000000) : Does Tryz.prog 96 [.slice blocksA blocks.length blocksc] w [] (fun rv_ => [.exi fun (rA : Option Addr) => .exi fun (rc : Nat) => .exi fun (r : List (Int × Int)) => .sep (.pur (rv_ = .slice rA r.length rc ∧ r.Perm (prsB blocks) ∧ SrtP r)) (Own 113 P2C rA rc r)]) := by
 refine Does.enter Tryz.func96 rfl rfl [(0, .slice blocksA blocks.length blocksc)] rfl (V.seq (V.region (O.m rfl (O.nil (X.next (V.seq (V.region (O.m rfl (O.nil (X.next (V.seq ?_)))))))))))
 refine V.seq (V.region (O.m rfl (O.q rfl (Pu.len rfl Tryz.underlying24 rfl) (O.m rfl (O.nil (X.next (V.block (V.map (fun w hw => St.addNil (T := 113) (C := P2C) hw) (V.loop2 (β := (Option Addr) × Nat × (List (Int × Int)) × Nat) (fun x => [(3, .slice x.1 x.2.2.1.length x.2.1), (8, .int .i64 (x.2.2.2 : Int))]) _ (fun x => [Own 113 P2C x.1 x.2.1 x.2.2.1]) (fun x => x.2.2.2 ≤ blocks.length ∧ x.2.2.1 = prsB (blocks.take x.2.2.2)) (fun x => blocks.length - x.2.2.2) (none, 0, [], 0) (by (try dsimp only); exact ⟨by omega, rfl⟩) (Ent.cons rfl (Ent.cons rfl (Ent.nil _))) (Ent.cons (t := 6) rfl (Ent.cons (t := 7) rfl (Ent.nil _))) (Sub.k (Sub.nil _)) ?_)))))))))
 rintro ⟨outA, outc, out, i⟩ ⟨hi, ho⟩
 dsimp only at hi ho ⊢
 have hol : out.length = 3 * i := by rw [ho, prsB_len, List.length_take]; omega
 refine V.seq (V.region (O.q rfl (Pu.lss rfl rfl rfl) (O.nil (X.next (V.seq (V.condD rfl (fun c1 => ?_) (fun c1 => ?_)))))))
 ·refine V.skip (X.next (V.seq (V.block (V.seq (V.region (O.q rfl (Pu.indexAddr (i) rfl Tryz.underlying24 sz69 rfl rfl (by omega) (by omega) (hblocks.some (by omega))) ?_))))))
  have e1 : i < blocks.length := by omega
  refine O.q rfl (Pu.loadAgg' (v := B3.v (blocks[i]'e1)) rfl rfl ag69 sz69 rfl rfl (Ld.rds (Ld.old hblocks) (k := i) e1 rfl)) (O.f rfl (Ef.alloc rfl zr69 rfl) ?_)
  rintro _ _ ⟨b1, rfl, rfl⟩
  refine O.s rfl rfl (Ef.storeAll 0 rfl sz69 rfl rfl rfl rfl (by simp [Value.oneCell']) rfl) ?_
  rintro _ _ rfl
  refine O.nil (X.next (V.region (O.m rfl (O.q rfl (Pu.indexArr 0 0 rfl Tryz.underlying69 sz2 rfl rfl (by decide) (by decide) (by decide)) (O.q rfl (Pu.load rfl pl2 rfl (Ld.blk 0 rfl rfl)) (O.q rfl (Pu.indexArr 1 1 rfl Tryz.underlying69 sz2 rfl rfl (by decide) (by decide) (by decide)) (O.q rfl (Pu.load rfl pl2 rfl (Ld.blk 0 rfl rfl)) (O.q rfl (Pu.buildA (cs := [.int .i64 (blocks[i]'e1).1, .int .i64 (blocks[i]'e1).2.1]) (v := P2v (((blocks[i]'e1).1, (blocks[i]'e1).2.1) : Int × Int)) rfl rfl Tryz.underlying113 zr113 sz2 rfl (by kernel_rfl)) (O.q rfl (Pu.indexArr 0 0 rfl Tryz.underlying69 sz2 rfl rfl (by decide) (by decide) (by decide)) (O.q rfl (Pu.load rfl pl2 rfl (Ld.blk 0 rfl rfl)) (O.q rfl (Pu.indexArr 2 2 rfl Tryz.underlying69 sz2 rfl rfl (by decide) (by decide) (by decide)) ?_)))))))))))
  refine O.q rfl (Pu.load rfl pl2 rfl (Ld.blk 0 rfl rfl)) (O.q rfl (Pu.buildA (cs := [.int .i64 (blocks[i]'e1).1, .int .i64 (blocks[i]'e1).2.2]) (v := P2v (((blocks[i]'e1).1, (blocks[i]'e1).2.2) : Int × Int)) rfl rfl Tryz.underlying113 zr113 sz2 rfl (by kernel_rfl)) (O.q rfl (Pu.indexArr 1 1 rfl Tryz.underlying69 sz2 rfl rfl (by decide) (by decide) (by decide)) (O.q rfl (Pu.load rfl pl2 rfl (Ld.blk 0 rfl rfl)) (O.q rfl (Pu.indexArr 2 2 rfl Tryz.underlying69 sz2 rfl rfl (by decide) (by decide) (by decide)) (O.q rfl (Pu.load rfl pl2 rfl (Ld.blk 0 rfl rfl)) (O.q rfl (Pu.buildA (cs := [.int .i64 (blocks[i]'e1).2.1, .int .i64 (blocks[i]'e1).2.2]) (v := P2v (((blocks[i]'e1).2.1, (blocks[i]'e1).2.2) : Int × Int)) rfl rfl Tryz.underlying113 zr113 sz2 rfl (by kernel_rfl)) (O.f rfl (Ef.build P2C ([(((blocks[i]'e1).1, (blocks[i]'e1).2.1) : Int × Int), (((blocks[i]'e1).1, (blocks[i]'e1).2.2) : Int × Int), (((blocks[i]'e1).2.1, (blocks[i]'e1).2.2) : Int × Int)] : List (Int × Int)) rfl Tryz.underlying112 inf113 rfl rfl rfl (by first | decide | (simp; done)) (by kernel_rfl)) ?_)))))))
  rintro _ _ ⟨A1, hA1, rfl, rfl⟩
  refine O.f rfl (Ef.append (xs := out) (ys := ([(((blocks[i]'e1).1, (blocks[i]'e1).2.1) : Int × Int), (((blocks[i]'e1).1, (blocks[i]'e1).2.2) : Int × Int), (((blocks[i]'e1).2.1, (blocks[i]'e1).2.2) : Int × Int)] : List (Int × Int))) 2 rfl Tryz.underlying112 inf113 rfl rfl rfl rfl rfl rfl hA1 (Ld.own 0 (by exact rfl)) (by simp only [List.length_append, List.length_cons, List.length_nil] at *; omega) (by decide)) ?_
  rintro _ _ ⟨A2, k1, rfl, rfl, hA2⟩
  replace hA2 := hA2 (.inr (by simp))
  exact O.m rfl (O.nil (X.blockNormal (X.next (V.region (O.q rfl (Pu.add64 (r := ((i + 1 : Nat) : Int)) rfl (by omega) rfl rfl rfl) (O.m rfl (O.nil (X.back2 (A2, k1, (out ++ ([(((blocks[i]'e1).1, (blocks[i]'e1).2.1) : Int × Int), (((blocks[i]'e1).1, (blocks[i]'e1).2.2) : Int × Int), (((blocks[i]'e1).2.1, (blocks[i]'e1).2.2) : Int × Int)] : List (Int × Int))), i + 1) (by (try dsimp only); exact ⟨by omega, by rw [take_snoc e1, prsB_snoc, ho]⟩) (by first | omega | (dsimp only; omega)) (Ent.cons rfl (Ent.cons rfl (Ent.nil _))) (Ent.cons (t := 6) rfl (Ent.cons (t := 7) rfl (Ent.nil _))) (Sub.keep 2 rfl (Sub.nil _))))))))))
 ·refine V.exit (X.thenExit (X.thenExit (X.blockHit (X.next (V.seq (V.region (O.m rfl (O.f rfl (Ef.call call126 rfl rfl (Does.pre (fun w hw => hw.sub (Sub.k (Sub.nil _))) (sortP_ok  out _ _ w _   (by first | assumption | omega | (try dsimp only at *; omega))))) ?_))))))))
  rintro _ _ rfl
  refine O.exi (fun ys1 => O.sep (O.pur ?_))
  rintro ⟨rfl, hys1_1, hys1_2⟩
  exact O.nil (X.next (V.seq (V.region (O.m rfl (O.m rfl (O.nil (X.next (V.ret (X.ret1 rfl rfl (fun w hw => St.mkExi outA (St.mkExi outc (St.mkExi ys1 (St.unsep (St.addPur ⟨(by rw [hys1_1.length_eq]), by rw [ho, List.take_of_length_le (by omega)] at hys1_1; exact hys1_1, hys1_2⟩ (hw.sub (Sub.k (Sub.nil _)))))))))))))))))
set_option maxRecDepth 100000 in
set_option maxHeartbeats 1000000 in
theorem equalP_ok (s1 : List (Int × Int)) (s2 : List (Int × Int)) (s1A : Option Addr) (s1c : Nat) (s2A : Option Addr) (s2c : Nat) (w : World) (hs1 : Rd P2C w s1A s1) (hs2 : Rd P2C w s2A s2) (ls1 : s1.length ≤ 1099511627776) (ls2 : s2.length ≤ 1099511627776) : Does Tryz.prog 95 [.slice s1A s1.length s1c, .slice s2A s2.length s2c] w [] (fun r => [.pur (r = .bool (decide (s1 = s2)))]) := by
 refine Does.enter Tryz.func95 rfl rfl [(0, .slice s1A s1.length s1c), (1, .slice s2A s2.length s2c)] rfl (V.seq (V.region (O.m rfl (O.nil (X.next (V.seq (V.seq (V.region (O.m rfl (O.q rfl (Pu.len rfl Tryz.underlying112 rfl) (O.m rfl ?_)))))))))))
 refine O.q rfl (Pu.len rfl Tryz.underlying112 rfl) (O.q rfl (Pu.neq rfl rfl rfl) (O.nil (X.next (V.condNot rfl (fun c1 => ?_) (fun c1 => ?_)))))
 ·exact V.seq (V.region (O.m rfl (O.nil (X.next (V.ret (X.thenRet (X.ret1 rfl rfl (fun w hw => St.retP (boolF (fun h => c1 (by rw [h]))) hw))))))))
 ·refine V.skip (X.next (V.seq (V.seq (V.region (O.m rfl (O.q rfl (Pu.len rfl Tryz.underlying112 rfl) (O.m rfl (O.nil (X.next (V.block (V.loop2 (β := Nat) (fun i => [(13, .int .i64 (i : Int))]) _ (fun i => []) (fun i => i ≤ s1.length ∧ s1.take i = s2.take i) (fun i => s1.length - i) 0 ⟨by omega, rfl⟩ (Ent.cons rfl (Ent.nil _)) (Ent.cons (t := 0) rfl (Ent.cons (t := 1) rfl (Ent.cons (t := 12) rfl (Ent.nil _)))) (Sub.nil _) ?_)))))))))))
  rintro i ⟨hi, he⟩
  refine V.seq (V.region (O.q rfl (Pu.lss rfl rfl rfl) (O.nil (X.next (V.seq (V.condD rfl (fun c2 => ?_) (fun c2 => ?_)))))))
  ·refine V.skip (X.next (V.seq (V.block (V.seq (V.region (O.m rfl (O.m rfl (O.nil (X.next (V.seq (V.draw mo (by kernel_rfl) (fun hwf => ?_))))))))))))
   refine D.m 0 rfl (D.m 1 rfl (D.q 2 rfl (Pu.indexAddr (i) rfl Tryz.underlying112 sz113 rfl rfl (by omega) (by omega) (hs1.some (by omega))) ?_))
   have e1 : i < s1.length := by omega
   refine D.q 3 rfl (Pu.loadAgg' (v := P2v (s1[i]'e1)) rfl rfl ag113 sz113 rfl rfl (Ld.rds (C := P2C) (Ld.old hs1) (k := i) e1 rfl)) (D.m 4 rfl (D.m 5 rfl (D.q 6 rfl (Pu.indexAddr (i) rfl Tryz.underlying112 sz113 rfl rfl (by omega) (by omega) (hs2.some (by omega))) ?_)))
   have e2 : i < s2.length := by omega
   refine D.q 7 rfl (Pu.loadAgg' (v := P2v (s2[i]'e2)) rfl rfl ag113 sz113 rfl rfl (Ld.rds (C := P2C) (Ld.old hs2) (k := i) e2 rfl)) (D.q 8 rfl (Pu.neqP2 Tryz.underlying113 Tryz.underlying2 sz2 (by kernel_rfl) rfl rfl rfl) (D.done hwf rfl (X.next (V.condNot rfl (fun c3 => ?_) (fun c3 => ?_)))))
   ·exact V.seq (V.region (O.m rfl (O.nil (X.next (V.ret (X.blockRet (X.thenRet (X.thenRet (X.blockRet (X.thenRet (X.ret1 rfl rfl (fun w hw => St.retP (boolF (fun h => c3 (by subst h; rfl))) hw))))))))))))
   ·exact V.skip (X.blockNormal (X.next (V.region (O.q rfl (Pu.add64 (r := ((i + 1 : Nat) : Int)) rfl (by omega) rfl rfl rfl) (O.m rfl (O.nil (X.back2 (i + 1) ⟨by omega, by rw [take_snoc (by omega), take_snoc (by omega), he]; simp_all⟩ (by first | omega | (dsimp only; omega)) (Ent.cons rfl (Ent.nil _)) (Ent.cons (t := 0) rfl (Ent.cons (t := 1) rfl (Ent.cons (t := 12) rfl (Ent.nil _)))) (Sub.nil _))))))))
  ·exact V.exit (X.thenExit (X.thenExit (X.blockHit (X.next (V.seq (V.region (O.m rfl (O.nil (X.next (V.ret (X.ret1 rfl rfl (fun w hw => St.retP (boolT (by rw [List.take_of_length_le (by omega), List.take_of_length_le (by omega)] at he; exact he)) hw))))))))))))
set_option maxRecDepth 100000 in
set_option maxHeartbeats 1000000 in
theorem haveSamePairs_ok (xs : List B3) (ys : List B3) (xsA : Option Addr) (xsc : Nat) (ysA : Option Addr) (ysc : Nat) (w : World) (hxs : Rd B3C w xsA xs) (hys : Rd B3C w ysA ys) (lxs : xs.length ≤ 1099511627776) (lys : ys.length ≤ 1099511627776) (la : xs.length ≤ 1000000) (lb : ys.length ≤ 1000000) : Does Tryz.prog 50 [.slice xsA xs.length xsc, .slice ysA ys.length ysc] w [] (fun r => [.pur (r = .bool (decide ((prsB xs).Perm (prsB ys))))]) := by
 refine Does.enter Tryz.func50 rfl rfl [(0, .slice xsA xs.length xsc), (1, .slice ysA ys.length ysc)] rfl (V.seq (V.region (O.m rfl (O.nil (X.next (V.seq (V.region (O.m rfl (O.f rfl (Ef.call1 call96 rfl rfl (fun w hw => pairs_ok  xs _ _ w ((Ld.old hxs) w hw) (by first | omega | (simp only [tops_len, conts_len, bl, List.length_append, List.length_cons, List.length_nil] at *; omega)) (by first | assumption | omega | (try dsimp only at *; omega)))) ?_)))))))))
 rintro _ _ rfl
 refine O.exi (fun r1A => O.exi (fun r1c => O.exi (fun r1 => O.sep (O.pur ?_))))
 rintro ⟨rfl, hr1_1, hr1_2⟩
 have hlr1 := hr1_1.length_eq
 rw [prsB_len] at hlr1
 refine O.m rfl (O.f rfl (Ef.call1 call96 rfl rfl (fun w hw => pairs_ok  ys _ _ w ((Ld.old hys) w hw) (by first | omega | (simp only [tops_len, conts_len, bl, List.length_append, List.length_cons, List.length_nil] at *; omega)) (by first | assumption | omega | (try dsimp only at *; omega)))) ?_)
 rintro _ _ rfl
 refine O.exi (fun r2A => O.exi (fun r2c => O.exi (fun r2 => O.sep (O.pur ?_))))
 rintro ⟨rfl, hr2_1, hr2_2⟩
 have hlr2 := hr2_1.length_eq
 rw [prsB_len] at hlr2
 refine O.f rfl (Ef.callP call95 rfl rfl (fun w hw => equalP_ok  r1 r2 _ _ _ _ w ((Ld.own 1 (by exact rfl)) w hw) ((Ld.own 0 (by exact rfl)) w hw) (by first | omega | (simp only [tops_len, conts_len, bl, List.length_append, List.length_cons, List.length_nil] at *; omega)) (by first | omega | (simp only [tops_len, conts_len, bl, List.length_append, List.length_cons, List.length_nil] at *; omega)) )) ?_
 rintro _ _ ⟨rfl, rfl⟩
 exact O.m rfl (O.nil (X.next (V.ret (X.ret1 rfl rfl (fun w hw => St.retP (boolD (⟨fun e => hr1_1.symm.trans (by rw [e]; exact hr2_1), fun hp => srtP_unique hr1_2 hr2_2 (hr1_1.trans (hp.trans hr2_1.symm))⟩)) hw)))))
set_option maxRecDepth 100000 in
set_option maxHeartbeats 1000000 in
theorem implCommon_ok (xs : List B3) (ys : List B3) (xsA : Option Addr) (xsc : Nat) (ysA : Option Addr) (ysc : Nat) (w : World) (hxs : Rd B3C w xsA xs) (hys : Rd B3C w ysA ys) (lxs : xs.length ≤ 1099511627776) (lys : ys.length ≤ 1099511627776) : Does Tryz.prog 49 [.slice xsA xs.length xsc, .slice ysA ys.length ysc] w [] (fun rv_ => [.exi fun (rA : Option Addr) => .exi fun (rc : Nat) => .exi fun (r : List B3) => .sep (.pur (rv_ = .slice rA r.length rc ∧ r = (xs.filter fun b => decide (b ∈ ys)))) (Own 69 B3C rA rc r)]) := by
 refine Does.enter Tryz.func49 rfl rfl [(0, .slice xsA xs.length xsc), (1, .slice ysA ys.length ysc)] rfl (V.seq (V.region (O.m rfl (O.nil (X.next (V.seq (V.region (O.m rfl (O.nil (X.next (V.seq ?_)))))))))))
 refine V.seq (V.region (O.m rfl (O.q rfl (Pu.len rfl Tryz.underlying24 rfl) (O.m rfl (O.nil (X.next (V.block (V.map (fun w hw => St.addNil (T := 69) (C := B3C) hw) (V.loop2 (β := (Option Addr) × Nat × (List B3) × Nat) (fun x => [(5, .slice x.1 x.2.2.1.length x.2.1), (10, .int .i64 (x.2.2.2 : Int))]) _ (fun x => [Own 69 B3C x.1 x.2.1 x.2.2.1]) (fun x => x.2.2.2 ≤ xs.length ∧ x.2.2.1 = ((xs.take x.2.2.2).filter fun b => decide (b ∈ ys))) (fun x => xs.length - x.2.2.2) (none, 0, [], 0) (by (try dsimp only); exact ⟨by omega, rfl⟩) (Ent.cons rfl (Ent.cons rfl (Ent.nil _))) (Ent.cons (t := 1) rfl (Ent.cons (t := 8) rfl (Ent.cons (t := 9) rfl (Ent.nil _)))) (Sub.k (Sub.nil _)) ?_)))))))))
 rintro ⟨outA, outc, out, i⟩ ⟨hi, ho⟩
 dsimp only at hi ho ⊢
 have hol : out.length ≤ xs.length := by rw [ho]; exact Nat.le_trans (List.length_filter_le _ _) (by rw [List.length_take]; omega)
 refine V.seq (V.region (O.q rfl (Pu.lss rfl rfl rfl) (O.nil (X.next (V.seq (V.condD rfl (fun c1 => ?_) (fun c1 => ?_)))))))
 ·refine V.skip (X.next (V.seq (V.block (V.seq (V.region (O.q rfl (Pu.indexAddr (i) rfl Tryz.underlying24 sz69 rfl rfl (by omega) (by omega) (hxs.some (by omega))) ?_))))))
  have e1 : i < xs.length := by omega
  refine O.q rfl (Pu.loadAgg' (v := B3.v (xs[i]'e1)) rfl rfl ag69 sz69 rfl rfl (Ld.rds (Ld.old hxs) (k := i) e1 rfl)) (O.f rfl (Ef.alloc rfl zr69 rfl) ?_)
  rintro _ _ ⟨b1, rfl, rfl⟩
  refine O.s rfl rfl (Ef.storeAll 0 rfl sz69 rfl rfl rfl rfl (by simp [Value.oneCell']) rfl) ?_
  rintro _ _ rfl
  refine O.nil (X.next (V.seq (V.region (O.m rfl (O.q rfl (Pu.loadAgg' (v := B3.v (xs[i]'e1)) rfl rfl ag69 sz69 rfl rfl (Ld.whole 0 rfl)) (O.f rfl (Ef.callP call94 rfl rfl (fun w hw => containsBl_ok  ys (xs[i]'e1) _ _ w ((Ld.old hys) w hw) (by first | omega | (simp only [tops_len, conts_len, bl, List.length_append, List.length_cons, List.length_nil] at *; omega)) )) ?_))))))
  rintro _ _ ⟨rfl, rfl⟩
  refine O.nil (X.next (V.condD rfl (fun c2 => ?_) (fun c2 => ?_)))
  ·refine V.region (O.m rfl (O.q rfl (Pu.loadAgg' (v := B3.v (xs[i]'e1)) rfl rfl ag69 sz69 rfl rfl (Ld.whole 0 rfl)) (O.f rfl (Ef.build B3C ([(xs[i]'e1)] : List B3) rfl Tryz.underlying24 inf69 rfl rfl rfl (by first | decide | (simp; done)) (by kernel_rfl)) ?_)))
   rintro _ _ ⟨A1, hA1, rfl, rfl⟩
   refine O.f rfl (Ef.append (xs := out) (ys := ([(xs[i]'e1)] : List B3)) 2 rfl Tryz.underlying24 inf69 rfl rfl rfl rfl rfl rfl hA1 (Ld.own 0 (by exact rfl)) (by simp only [List.length_append, List.length_cons, List.length_nil] at *; omega) (by decide)) ?_
   rintro _ _ ⟨A2, k1, rfl, rfl, hA2⟩
   replace hA2 := hA2 (.inr (by simp))
   exact O.m rfl (O.nil (X.blockNormal (X.next (V.region (O.q rfl (Pu.add64 (r := ((i + 1 : Nat) : Int)) rfl (by omega) rfl rfl rfl) (O.m rfl (O.nil (X.back2 (A2, k1, (out ++ ([(xs[i]'e1)] : List B3)), i + 1) (by (try dsimp only); exact ⟨by omega, by rw [take_snoc (by omega), List.filter_append, ho]; simp [c2]⟩) (by first | omega | (dsimp only; omega)) (Ent.cons rfl (Ent.cons rfl (Ent.nil _))) (Ent.cons (t := 1) rfl (Ent.cons (t := 8) rfl (Ent.cons (t := 9) rfl (Ent.nil _)))) (Sub.keep 2 rfl (Sub.nil _))))))))))
  ·exact V.skip (X.blockNormal (X.next (V.region (O.q rfl (Pu.add64 (r := ((i + 1 : Nat) : Int)) rfl (by omega) rfl rfl rfl) (O.m rfl (O.nil (X.back2 (outA, outc, out, i + 1) (by (try dsimp only); exact ⟨by omega, by rw [take_snoc (by omega), List.filter_append, ho]; simp [c2]⟩) (by first | omega | (dsimp only; omega)) (Ent.cons rfl (Ent.cons rfl (Ent.nil _))) (Ent.cons (t := 1) rfl (Ent.cons (t := 8) rfl (Ent.cons (t := 9) rfl (Ent.nil _)))) (Sub.keep 1 rfl (Sub.nil _)))))))))
 ·refine V.exit (X.thenExit (X.thenExit (X.blockHit (X.next (V.seq (V.region (O.m rfl (O.m rfl (O.nil (X.next (V.ret ?_)))))))))))
  exact X.ret1 rfl rfl (fun w hw => St.mkExi outA (St.mkExi outc (St.mkExi out (St.unsep (St.addPur ⟨rfl, by rw [ho, List.take_of_length_le (by omega)]⟩ (hw.sub (Sub.k (Sub.nil _))))))))
set_option maxRecDepth 100000 in
set_option maxHeartbeats 1000000 in
theorem isTrade_ok (v : Int) (os ns : List B3) (A1 A2 : Option Addr) (k1 k2 : Nat) (w : World) (ho : Rd B3C w A1 os) (hnt : Rd B3C w A2 ns) (lo : os.length ≤ 4611686018427387904) (ln : ns.length ≤ 4611686018427387904) : Does Tryz.prog 10 [.agg #[.int .i64 v, .slice A1 os.length k1, .slice A2 ns.length k2]] w [] (fun r => [.pur (r = .bool (decide (TRD v os ns)))]) := by
 refine Does.enter Tryz.func10 rfl rfl [(0, .agg #[.int .i64 v, .slice A1 os.length k1, .slice A2 ns.length k2])] rfl (V.seq (V.region (O.f rfl (Ef.box rfl rfl rfl) ?_)))
 rintro _ _ ⟨b1, rfl, rfl⟩
 refine O.m rfl (O.nil (X.next (V.seq (V.region (O.q rfl (Pu.fieldAddr 0 rfl Tryz.underlying28 rfl sz2 rfl rfl) (O.q rfl (Pu.load rfl pl2 rfl (Ld.blk 0 rfl rfl)) (O.q rfl (Pu.fieldAddr 1 rfl Tryz.underlying28 rfl sz24 rfl rfl) (O.q rfl (Pu.load rfl pl24 rfl (Ld.blk 0 rfl rfl)) (O.f rfl (Ef.callP call48 rfl rfl (fun w hw => areBlocks_ok _ os _ _ w ((Ld.old ho) w hw) (by omega))) ?_)))))))))
 rintro _ _ ⟨rfl, rfl⟩
 refine O.m rfl (O.splitD 8 rfl (fun c1 => ?_) (fun c1 => ?_))
 ·have hfo := c1.few
  refine O.gq rfl (Pu.fieldAddr 0 rfl Tryz.underlying28 rfl sz2 rfl rfl) (O.gq rfl (Pu.load rfl pl2 rfl (Ld.blk 0 rfl rfl)) (O.gq rfl (Pu.fieldAddr 2 rfl Tryz.underlying28 rfl sz24 rfl rfl) (O.gq rfl (Pu.load rfl pl24 rfl (Ld.blk 0 rfl rfl)) (O.gf rfl (Ef.callP call48 rfl rfl (fun w hw => areBlocks_ok _ ns _ _ w ((Ld.old hnt) w hw) (by omega))) ?_))))
  rintro _ _ ⟨rfl, rfl⟩
  refine O.m rfl (O.m rfl (O.splitD 15 rfl (fun c2 => ?_) (fun c2 => ?_)))
  ·have hfn := c2.few
   refine O.gq rfl (Pu.fieldAddr 1 rfl Tryz.underlying28 rfl sz24 rfl rfl) (O.gq rfl (Pu.load rfl pl24 rfl (Ld.blk 0 rfl rfl)) (O.gq rfl (Pu.fieldAddr 2 rfl Tryz.underlying28 rfl sz24 rfl rfl) (O.gq rfl (Pu.load rfl pl24 rfl (Ld.blk 0 rfl rfl)) (O.gf rfl (Ef.call1 call49 rfl rfl (fun w hw => implCommon_ok  os ns _ _ _ _ w ((Ld.old ho) w hw) ((Ld.old hnt) w hw) (by omega) (by omega) )) ?_))))
   rintro _ _ rfl
   refine O.exi (fun r1A => O.exi (fun r1c => O.exi (fun r1 => O.sep (O.pur ?_))))
   rintro ⟨rfl, hr1_1⟩
   have hap : r1.length = 0 ↔ ∀ b ∈ os, b ∉ ns := by rw [hr1_1]; exact apart_I
   refine O.gq rfl (Pu.len rfl Tryz.underlying24 rfl) (O.gq rfl (Pu.eql rfl rfl rfl) (O.m rfl (O.m rfl (O.splitD 24 rfl (fun c3 => ?_) (fun c3 => ?_)))))
   ·refine O.gq rfl (Pu.fieldAddr 1 rfl Tryz.underlying28 rfl sz24 rfl rfl) (O.gq rfl (Pu.load rfl pl24 rfl (Ld.blk 1 rfl rfl)) (O.gq rfl (Pu.fieldAddr 2 rfl Tryz.underlying28 rfl sz24 rfl rfl) (O.gq rfl (Pu.load rfl pl24 rfl (Ld.blk 1 rfl rfl)) (O.gf rfl (Ef.callP call50 rfl rfl (fun w hw => haveSamePairs_ok  os ns _ _ _ _ w ((Ld.old ho) w hw) ((Ld.old hnt) w hw) (by first | omega | (simp only [tops_len, conts_len, bl, List.length_append, List.length_cons, List.length_nil] at *; omega)) (by first | omega | (simp only [tops_len, conts_len, bl, List.length_append, List.length_cons, List.length_nil] at *; omega)) (by first | assumption | omega | (try dsimp only at *; omega)) (by first | assumption | omega | (try dsimp only at *; omega)))) ?_))))
    rintro _ _ ⟨rfl, rfl⟩
    exact O.m rfl (O.m rfl (O.nil (X.next (V.ret (X.ret1 rfl rfl (fun w hw => St.retP (boolD (⟨fun h => ⟨c1, c2, hap.1 (by omega), h⟩, fun h => h.2.2.2⟩)) hw))))))
   ·exact O.g rfl (O.g rfl (O.g rfl (O.g rfl (O.g rfl (O.m rfl (O.m rfl (O.nil (X.next (V.ret (X.ret1 rfl rfl (fun w hw => St.retP (boolF (fun h => c3 (by have := hap.2 h.2.2.1; omega))) hw)))))))))))
  ·refine O.g rfl (O.g rfl (O.g rfl (O.g rfl (O.g rfl (O.g rfl (O.g rfl (O.m rfl (O.m rfl (O.g rfl (O.g rfl (O.g rfl ?_)))))))))))
   exact O.g rfl (O.g rfl (O.m rfl (O.m rfl (O.nil (X.next (V.ret (X.ret1 rfl rfl (fun w hw => St.retP (boolF (fun h => c2 h.2.1)) hw))))))))
 ·refine O.g rfl (O.g rfl (O.g rfl (O.g rfl (O.g rfl (O.m rfl (O.m rfl (O.g rfl (O.g rfl (O.g rfl (O.g rfl (O.g rfl ?_)))))))))))
  refine O.g rfl (O.g rfl (O.m rfl (O.m rfl (O.g rfl (O.g rfl (O.g rfl (O.g rfl (O.g rfl (O.m rfl (O.m rfl (O.nil ?_)))))))))))
  exact X.next (V.ret (X.ret1 rfl rfl (fun w hw => St.retP (boolF (fun h => c1 h.1)) hw)))
set_option maxRecDepth 100000 in
set_option maxHeartbeats 1000000 in
theorem pointsOf1_ok (b : B3) (p : Int) (b_0 : Nat) (w : World) (hb_0 : RdB w b_0 [.int .i64 p]) : Does Tryz.prog 56 [B3.v b, .pointer (some ⟨b_0, 0, none⟩)] w [] (fun r => [.pur (r = .bool (decide (has b p)))]) := by
 refine Does.enter Tryz.func56 rfl rfl [(0, B3.v b), (1, .pointer (some ⟨b_0, 0, none⟩))] rfl (V.seq (V.region (O.f rfl (Ef.box rfl rfl rfl) ?_)))
 rintro _ _ ⟨b1, rfl, rfl⟩
 refine O.m rfl (O.nil (X.next (V.seq (V.region (O.q rfl (Pu.loadAgg' (v := B3.v b) rfl rfl ag69 sz69 rfl rfl (Ld.whole 0 rfl)) (O.q rfl (Pu.load rfl pl2 rfl (Ld.rdb hb_0 rfl)) (O.f rfl (Ef.callP call57 rfl rfl (fun w hw => has_ok b _ w)) ?_)))))))
 rintro _ _ ⟨rfl, rfl⟩
 exact O.m rfl (O.nil (X.next (V.ret (X.ret1 rfl rfl (fun w hw => St.retP (boolD (Iff.rfl)) hw)))))
set_option maxRecDepth 100000 in
set_option maxHeartbeats 1000000 in
theorem implPointsOfTrade_ok (v : Int) (os ns : List B3) (A1 A2 : Option Addr) (k1 k2 : Nat) (w : World) (ho : Rd B3C w A1 os) (hnt : Rd B3C w A2 ns) (lo : os.length ≤ 4611686018427387904) (ln : ns.length ≤ 4611686018427387904) : Does Tryz.prog 18 [.agg #[.int .i64 v, .slice A1 os.length k1, .slice A2 ns.length k2]] w [] (fun r => [.exi fun (oA : Option Addr) => .exi fun (oc : Nat) => .exi fun (o : List Int) => .sep (.pur (r = .tuple #[.slice oA o.length oc, .int .i64 (if TRD v os ns then 0 else 1)] ∧ PTR v os ns o)) (Own 2 I64 oA oc o)]) := by
 refine Does.enter Tryz.func18 rfl rfl [(0, .agg #[.int .i64 v, .slice A1 os.length k1, .slice A2 ns.length k2])] rfl (V.seq (V.region (O.f rfl (Ef.box rfl rfl rfl) ?_)))
 rintro _ _ ⟨b1, rfl, rfl⟩
 refine O.m rfl (O.m rfl (O.nil (X.next (V.seq (V.seq (V.region (O.q rfl (Pu.loadAgg rfl ag28 sz28 rfl rfl (Ld.whole 0 rfl)) (O.f rfl (Ef.callP call10 rfl rfl (fun w hw => isTrade_ok  v os ns _ _ _ _ w ((Ld.old ho) w hw) ((Ld.old hnt) w hw) (by omega) (by omega) )) ?_))))))))
 rintro _ _ ⟨rfl, rfl⟩
 refine O.q rfl (Pu.not rfl rfl) (O.nil (X.next (V.condNot rfl (fun c1 => ?_) (fun c1 => ?_))))
 ·exact V.seq (V.region (O.m rfl (O.m rfl (O.nil (X.next (V.ret (X.thenRet (X.ret2 rfl rfl rfl (fun w hw => St.mkExi none (St.mkExi 0 (St.mkExi [] (St.unsep (St.addPur ⟨(by rw [if_neg c1]; rfl), (by exact ⟨fun h => absurd h c1, fun _ => rfl⟩)⟩ (St.addNil (T := 2) (C := I64) (hw.sub (Sub.nil _))))))))))))))))
 ·have hlo := c1.1.lo
  have hhi := c1.1.hi
  have hfo := c1.1.few
  refine V.skip (X.next (V.seq (V.region (O.m rfl (O.nil (X.next (V.seq (V.seq (V.region (O.q rfl (Pu.fieldAddr 0 rfl Tryz.underlying28 rfl sz2 rfl rfl) (O.q rfl (Pu.load rfl pl2 rfl (Ld.blk 0 rfl rfl)) ?_)))))))))))
  refine O.m rfl (O.nil (X.next (V.block (V.map (fun w hw => St.addNil (T := 2) (C := I64) hw) (V.loop3 (β := (Option Addr) × Nat × (List Int) × Nat) (fun x => [(4, .slice x.1 x.2.2.1.length x.2.1), (11, .int .i64 (x.2.2.2 : Int))]) _ (fun x => [Own 2 I64 x.1 x.2.1 x.2.2.1]) _ (fun x => x.2.2.2 ≤ v.toNat ∧ x.2.2.1 = ptsB os x.2.2.2) (fun x => v.toNat - x.2.2.2) (none, 0, [], 0) (by (try dsimp only); exact ⟨by omega, rfl⟩) (Ent.cons rfl (Ent.cons rfl (Ent.nil _))) (Ent.cons (t := 1) rfl (Ent.cons (t := 10) rfl (Ent.nil _))) (Sub.k (Sub.k (Sub.nil _))) ?_)))))
  rintro ⟨outA, outc, out, p⟩ ⟨hp, ho_⟩
  dsimp only at hp ho_ ⊢
  have hol : out.length ≤ p := by rw [ho_]; exact ptsB_len
  refine V.seq (V.region (O.q rfl (Pu.lss rfl rfl rfl) (O.nil (X.next (V.seq (V.condD rfl (fun c2 => ?_) (fun c2 => ?_)))))))
  ·refine V.skip (X.next (V.seq (V.block (V.seq (V.region (O.m rfl (O.f rfl (Ef.alloc rfl zr2 rfl) ?_)))))))
   rintro _ _ ⟨b2, rfl, rfl⟩
   refine O.s rfl rfl (Ef.store1 (cs' := [_]) 0 rfl sz2 rfl rfl rfl rfl rfl (ltb rfl) rfl) ?_
   rintro _ _ rfl
   refine O.nil (X.next (V.seq (V.region (O.q rfl (Pu.fieldAddr 1 rfl Tryz.underlying28 rfl sz24 rfl rfl) (O.q rfl (Pu.load rfl pl24 rfl (Ld.blk 2 rfl rfl)) (O.q rfl (Pu.makeFunc rfl rfl) (O.f rfl (Ef.callP call55 rfl rfl (fun w hw => containsFuncB_ok (fun b => has b (p : Int)) 56 _ os _ _ w call56 ((Ld.old ho) w hw) (by omega) (fun k hk w' hb => pointsOf1_ok _ (p : Int) _ w' ((Blk.rdb hw (i := 0) rfl).below hb)))) ?_)))))))
   rintro _ _ ⟨rfl, rfl⟩
   refine O.nil (X.next (V.condD rfl (fun c3 => ?_) (fun c3 => ?_)))
   ·refine V.region (O.m rfl (O.q rfl (Pu.load rfl pl2 rfl (Ld.blk 0 rfl rfl)) (O.f rfl (Ef.build I64 ([(↑p : Int)] : List Int) rfl Tryz.underlying41 inf2 rfl rfl rfl (by first | decide | (simp; done)) (by kernel_rfl)) ?_)))
    rintro _ _ ⟨A1, hA1, rfl, rfl⟩
    refine O.f rfl (Ef.append (xs := out) (ys := ([(↑p : Int)] : List Int)) 2 rfl Tryz.underlying41 inf2 rfl rfl rfl rfl rfl rfl hA1 (Ld.own 0 (by exact rfl)) (by simp only [List.length_append, List.length_cons, List.length_nil] at *; omega) (by decide)) ?_
    rintro _ _ ⟨A2, k1, rfl, rfl, hA2⟩
    replace hA2 := hA2 (.inr (by simp))
    exact O.m rfl (O.nil (X.blockNormal (X.next (V.region (O.q rfl (Pu.add64 (r := ((p + 1 : Nat) : Int)) rfl (by omega) rfl rfl rfl) (O.m rfl (O.nil (X.back3 (A2, k1, (out ++ ([(↑p : Int)] : List Int)), p + 1) (by (try dsimp only); exact ⟨by omega, by rw [ptsB_yes c3, ho_]⟩) (by first | omega | (dsimp only; omega)) (Ent.cons rfl (Ent.cons rfl (Ent.nil _))) (Ent.cons (t := 1) rfl (Ent.cons (t := 10) rfl (Ent.nil _))) (Sub.keep 2 rfl (Sub.keep 2 rfl (Sub.nil _)))))))))))
   ·exact V.skip (X.blockNormal (X.next (V.region (O.q rfl (Pu.add64 (r := ((p + 1 : Nat) : Int)) rfl (by omega) rfl rfl rfl) (O.m rfl (O.nil (X.back3 (outA, outc, out, p + 1) (by (try dsimp only); exact ⟨by omega, by rw [ptsB_no c3, ho_]⟩) (by first | omega | (dsimp only; omega)) (Ent.cons rfl (Ent.cons rfl (Ent.nil _))) (Ent.cons (t := 1) rfl (Ent.cons (t := 10) rfl (Ent.nil _))) (Sub.keep 1 rfl (Sub.keep 1 rfl (Sub.nil _))))))))))
  ·refine V.exit (X.thenExit (X.thenExit (X.blockHit (X.next (V.seq (V.region (O.m rfl (O.m rfl (O.m rfl (O.nil (X.next ?_)))))))))))
   exact V.ret (X.ret2 rfl rfl rfl (fun w hw => St.mkExi outA (St.mkExi outc (St.mkExi out (St.unsep (St.addPur ⟨(by rw [if_pos c1]), (by exact ⟨fun _ => by rw [ho_, show p = v.toNat by omega], fun h => absurd c1 h⟩)⟩ (hw.sub (Sub.k (Sub.nil _)))))))))
set_option maxRecDepth 100000 in
set_option maxHeartbeats 1000000 in
theorem l01From_ok (code : List UInt8) (codeA : Option Addr) (codec : Nat) (w : World) (hcode : Rd U8C w codeA code) (lcode : code.length ≤ 1099511627776) (lc : code.length ≤ 1048576) : Does Tryz.prog 52 [.slice codeA code.length codec] w [] (fun r => [.exi fun (s : Nat) => .sep (.pur (r = .pointer (some ⟨s, 0, none⟩))) (SrcK 118 codeA codec code s)]) := by
 refine Does.enter Tryz.func52 rfl rfl [(0, .slice codeA code.length codec)] rfl (V.seq (V.region (O.m rfl (O.nil (X.next (V.seq (V.region (O.m rfl (O.m rfl (O.q rfl (Pu.len rfl Tryz.underlying22 rfl) (O.q rfl (Pu.convU' code.length (by omega) ⟨_, Tryz.underlying3⟩ Tryz.underlying116 (by omega) rfl rfl) ?_)))))))))))
 refine O.q rfl (Pu.addU (m := 13551) (n := code.length) rfl rfl rfl) (O.q rfl (Pu.buildS (cs := [.slice codeA code.length codec, .int .i64 (0 : Int), .int .u64 (↑(((13551 + code.length) % 18446744073709551616)) : Int)]) rfl rfl Tryz.underlying118 zr118 (by kernel_rfl) rfl (by kernel_rfl)) (O.f rfl (Ef.box rfl rfl rfl) ?_))
 rintro _ _ ⟨b1, rfl, rfl⟩
 refine O.m rfl (O.nil (X.next (V.seq (V.seq (V.map (fun w hw => SrcK.mk (a := 0) (h := ((13551 + code.length) % 18446744073709551616)) ⟨by omega, by omega⟩ hw) (V.region (O.m rfl (O.nil (X.next (V.block (V.loop3 (β := Nat) (fun i => [(4, .int .i64 (i : Int))]) _ (fun i => []) _ (fun i => i ≤ code.length) (fun i => code.length - i) 0 (by omega) (Ent.cons rfl (Ent.nil _)) (Ent.cons (t := 0) rfl (Ent.cons (t := 3) rfl (Ent.nil _))) (Sub.k (Sub.nil _)) ?_)))))))))))
 rintro i hi
 refine V.seq (V.seq (V.region (O.m rfl (O.m rfl (O.q rfl (Pu.len rfl Tryz.underlying22 rfl) (O.q rfl (Pu.lss rfl rfl rfl) (O.m rfl (O.splitD 16 rfl (fun c1 => ?_) (fun c1 => ?_)))))))))
 ·refine O.gm rfl (O.gq rfl (Pu.lss rfl rfl rfl) (O.m rfl (O.nil (X.next (V.condD rfl (fun c2 => ?_) (fun c2 => ?_))))))
  ·refine V.skip (X.next (V.seq (V.block (V.srcK (fun at1 word1 hat1 hword1 => V.draw mo (by kernel_rfl) (fun hwf => D.m 0 rfl (D.m 1 rfl (D.m 2 rfl (D.q 3 rfl (Pu.fieldAddr 2 rfl Tryz.underlying118 rfl sz116 rfl rfl) (D.q 4 rfl (Pu.load rfl pl116 rfl (Ld.blk 0 rfl rfl)) (D.q 5 rfl (Pu.mulU (m := word1) (n := 1099511628211) rfl rfl rfl) ?_)))))))))))
   refine D.m 6 rfl (D.m 7 rfl (D.q 8 rfl (Pu.indexAddr (i) rfl Tryz.underlying22 sz5 rfl rfl (by omega) (by omega) (hcode.some (by omega))) ?_))
   have e1 : i < code.length := by omega
   have hu1 := UInt8.toNat_lt (code[i]'e1)
   refine D.q 9 rfl (Pu.load rfl pl5 rfl (Ld.rd (Ld.old hcode) (k := i) e1 rfl rfl)) (D.q 10 rfl (Pu.convU' ((code[i]'e1).toNat) (by omega) ⟨_, Tryz.underlying5⟩ Tryz.underlying116 (by omega) rfl rfl) (D.q 11 rfl (Pu.addU (m := (word1 * 1099511628211 % 18446744073709551616)) (n := (code[i]'e1).toNat) rfl rfl rfl) (D.q 12 rfl (Pu.addU (m := (((word1 * 1099511628211 % 18446744073709551616) + (code[i]'e1).toNat) % 18446744073709551616)) (n := 179) rfl rfl rfl) (D.m 13 rfl (D.q 14 rfl (Pu.fieldAddr 2 rfl Tryz.underlying118 rfl sz116 rfl rfl) (D.effX (Hs' := []) hwf (e := 15) rfl rfl rfl rfl (Ef.store1 (cs' := [_, _, _]) 0 rfl sz116 rfl rfl rfl rfl rfl (ltb rfl) rfl) rfl [13] rfl (List.forall_mem_cons.2 ⟨⟨35, _, rfl, rfl, Det.of rfl rfl rfl (Pu.nilCheck rfl rfl)⟩, List.forall_mem_nil _⟩) ?_))))))
   rintro _ _ rfl
   exact ⟨fun w hw => hw.sub (Sub.nil _), (D.done hwf rfl (X.blockNormal (X.next (V.map (fun w hw => SrcK.mk (a := at1) (h := (((((word1 * 1099511628211 % 18446744073709551616) + (code[i]'e1).toNat) % 18446744073709551616) + 179) % 18446744073709551616)) ⟨by omega, by omega⟩ hw) (V.region (O.m rfl (O.q rfl (Pu.add64 (r := ((i + 1 : Nat) : Int)) rfl (by omega) rfl rfl rfl) (O.m rfl (O.nil (X.back3 (i + 1) (by omega) (by first | omega | (dsimp only; omega)) (Ent.cons rfl (Ent.nil _)) (Ent.cons (t := 0) rfl (Ent.cons (t := 3) rfl (Ent.nil _))) (Sub.k (Sub.nil _))))))))))))⟩
  ·refine V.exit (X.thenExit (X.thenExit (X.blockHit (X.next (V.seq (V.region (O.m rfl (O.m rfl (O.nil (X.next (V.ret ?_)))))))))))
   exact X.ret1 rfl rfl (fun w hw => St.mkExi b1 (St.unsep (St.addPur rfl (hw.sub (Sub.k (Sub.nil _))))))
 ·refine O.g rfl (O.g rfl (O.m rfl (O.nil (X.next (V.condF rfl (V.exit (X.thenExit (X.thenExit (X.blockHit (X.next (V.seq ?_)))))))))))
  exact V.region (O.m rfl (O.m rfl (O.nil (X.next (V.ret (X.ret1 rfl rfl (fun w hw => St.mkExi b1 (St.unsep (St.addPur rfl (hw.sub (Sub.k (Sub.nil _))))))))))))
set_option maxRecDepth 100000 in
set_option maxHeartbeats 1000000 in
theorem l01Next_ok (cA : Option Addr) (cc : Nat) (code : List UInt8) (s : Nat) (n : Int) (w0 : World) (H : List Assn) (hc : Rd U8C w0 cA code) (lc : code.length ≤ 1048576) : Does Tryz.prog 68 [.pointer (some ⟨s, 0, none⟩), .int .i64 n] w0 (SrcK 118 cA cc code s :: H) (fun rv_ => [.exi fun (r : Int) => .sep (.pur (rv_ = .int .i64 r ∧ 0 ≤ r ∧ (n < 1 → r = 0) ∧ (1 ≤ n → r < n))) (SrcK 118 cA cc code s)] ++ H) := by
 refine Does.enter Tryz.func68 rfl rfl [(0, .pointer (some ⟨s, 0, none⟩)), (1, .int .i64 n)] rfl (V.seq (V.region (O.m rfl (O.nil (X.next (V.seq (V.seq (V.region (O.m rfl (O.q rfl (Pu.lss rfl rfl rfl) (O.nil ?_)))))))))))
 refine X.next (V.condD rfl (fun c1 => ?_) (fun c1 => ?_))
 ·exact V.seq (V.region (O.m rfl (O.nil (X.next (V.ret (X.thenRet (X.ret1 rfl rfl (fun w hw => St.mkExi (0 : Int) (St.unsep (St.addPur ⟨rfl, by omega, by omega, by omega⟩ (hw.sub (Sub.k (Sub.refl _)))))))))))))
 ·refine V.skip (X.next (V.seq (V.srcK (fun at1 word1 hat1 hword1 => V.region (O.m rfl (O.m rfl (O.m rfl (O.q rfl (Pu.fieldAddr 2 rfl Tryz.underlying118 rfl sz116 rfl rfl) (O.q rfl (Pu.load rfl pl116 rfl (Ld.blk 0 rfl rfl)) (O.q rfl (Pu.mulU (m := word1) (n := 6364136223846793005) rfl rfl rfl) (O.q rfl (Pu.addU (m := (word1 * 6364136223846793005 % 18446744073709551616)) (n := 1442695040888963407) rfl rfl rfl) ?_)))))))))))
  refine O.m rfl (O.q rfl (Pu.fieldAddr 2 rfl Tryz.underlying118 rfl sz116 rfl rfl) (O.s rfl rfl (Ef.store1 (cs' := [_, _, _]) 0 rfl sz116 rfl rfl rfl rfl rfl (ltb rfl) rfl) ?_))
  rintro _ _ rfl
  refine O.nil (X.next (V.seq (V.region (O.m rfl (O.m rfl (O.q rfl (Pu.fieldAddr 2 rfl Tryz.underlying118 rfl sz116 rfl rfl) (O.q rfl (Pu.load rfl pl116 rfl (Ld.blk 0 rfl rfl)) (O.q rfl (Pu.shr (m := (((word1 * 6364136223846793005 % 18446744073709551616) + 1442695040888963407) % 18446744073709551616)) (p := 33) K64.u (by omega) rfl rfl rfl) ?_))))))))
  have hle1 := and_le_r (m := ((((word1 * 6364136223846793005 % 18446744073709551616) + 1442695040888963407) % 18446744073709551616) >>> 33)) (n := 16777215)
  refine O.q rfl (Pu.andU (m := ((((word1 * 6364136223846793005 % 18446744073709551616) + 1442695040888963407) % 18446744073709551616) >>> 33)) (n := 16777215) (Nat.lt_of_le_of_lt (Nat.shiftRight_le _ _) (by omega)) (by decide) rfl rfl rfl) (O.q rfl (Pu.conv64 ⟨_, Tryz.underlying116⟩ Tryz.underlying2 (by omega) rfl rfl) (O.m rfl (O.nil (X.next (V.seq (V.seq (V.draw mo (by kernel_rfl) (fun hwf => D.m 0 rfl (D.m 1 rfl (D.q 2 rfl (Pu.fieldAddr 1 rfl Tryz.underlying118 rfl sz3 rfl rfl) (D.q 3 rfl (Pu.load rfl pl3 rfl (Ld.blk 0 rfl rfl)) ?_)))))))))))
  refine D.m 4 rfl (D.m 5 rfl (D.q 6 rfl (Pu.fieldAddr 0 rfl Tryz.underlying118 rfl sz22 rfl rfl) (D.q 7 rfl (Pu.load rfl pl22 rfl (Ld.blk 0 rfl rfl)) (D.q 8 rfl (Pu.len rfl Tryz.underlying22 rfl) (D.q 9 rfl (Pu.lss rfl rfl rfl) (D.done hwf rfl (X.next (V.condD rfl (fun c2 => ?_) (fun c2 => ?_)))))))))
  ·refine V.seq (V.draw mo (by kernel_rfl) (fun hwf => D.m 0 rfl (D.m 1 rfl (D.m 2 rfl (D.q 3 rfl (Pu.fieldAddr 0 rfl Tryz.underlying118 rfl sz22 rfl rfl) (D.q 4 rfl (Pu.load rfl pl22 rfl (Ld.blk 0 rfl rfl)) (D.m 5 rfl (D.m 6 rfl (D.q 7 rfl (Pu.fieldAddr 1 rfl Tryz.underlying118 rfl sz3 rfl rfl) (D.q 8 rfl (Pu.load rfl pl3 rfl (Ld.blk 0 rfl rfl)) (D.q 9 rfl (Pu.indexAddr (at1) rfl Tryz.underlying22 sz5 rfl rfl (by omega) (by omega) (hc.some (by omega))) ?_)))))))))))
   have e1 : at1 < code.length := by omega
   have hu1 := UInt8.toNat_lt (code[at1]'e1)
   refine D.q 10 rfl (Pu.load rfl pl5 rfl (Ld.rd (Ld.old hc) (k := at1) e1 rfl rfl)) (D.q 11 rfl (Pu.conv64 ⟨_, Tryz.underlying5⟩ Tryz.underlying2 (by omega) rfl rfl) (D.q 12 rfl (Pu.add64 (r := (((((((word1 * 6364136223846793005 % 18446744073709551616) + 1442695040888963407) % 18446744073709551616) >>> 33) &&& 16777215) + (code[at1]'e1).toNat : Nat) : Int)) (by omega) (by omega) rfl rfl rfl) (D.last hwf (e := 13) rfl rfl rfl rfl rfl rfl (Pu.assign rfl rfl) (X.next (V.region (O.m rfl (O.m rfl (O.m rfl (O.q rfl (Pu.fieldAddr 1 rfl Tryz.underlying118 rfl sz3 rfl rfl) (O.q rfl (Pu.load rfl pl3 rfl (Ld.blk 0 rfl rfl)) (O.q rfl (Pu.add64 (r := ((at1 + 1 : Nat) : Int)) rfl (by omega) rfl rfl rfl) ?_)))))))))))
   refine O.m rfl (O.q rfl (Pu.fieldAddr 1 rfl Tryz.underlying118 rfl sz3 rfl rfl) (O.s rfl rfl (Ef.store1 (cs' := [_, _, _]) 0 rfl sz3 rfl rfl rfl rfl rfl (ltb rfl) rfl) ?_))
   rintro _ _ rfl
   refine O.nil (X.next (V.seq (V.map (fun w hw => SrcK.mk (a := at1 + 1) (h := (((word1 * 6364136223846793005 % 18446744073709551616) + 1442695040888963407) % 18446744073709551616)) ⟨by omega, by omega⟩ hw) (V.region (O.m rfl (O.m rfl (O.q rfl (Pu.rem64 (by omega) (by omega) rfl rfl rfl) (O.m rfl (O.nil (X.next (V.ret ?_)))))))))))
   exact X.ret1 rfl rfl (fun w hw => St.mkExi ((↑((((((word1 * 6364136223846793005 % 18446744073709551616) + 1442695040888963407) % 18446744073709551616) >>> 33) &&& 16777215) + (code[at1]'e1).toNat) : Int) % n) (St.unsep (St.addPur ⟨rfl, Int.emod_nonneg _ (by omega), fun h => by omega, fun h => Int.emod_lt_of_pos _ (by omega)⟩ (hw.sub (Sub.k (Sub.refl _))))))
  ·refine V.skip (X.next (V.seq (V.map (fun w hw => SrcK.mk (a := at1) (h := (((word1 * 6364136223846793005 % 18446744073709551616) + 1442695040888963407) % 18446744073709551616)) ⟨by omega, by omega⟩ hw) (V.region (O.m rfl (O.m rfl (O.q rfl (Pu.rem64 (by omega) (by omega) rfl rfl rfl) (O.m rfl (O.nil (X.next (V.ret ?_)))))))))))
   exact X.ret1 rfl rfl (fun w hw => St.mkExi ((↑((((((word1 * 6364136223846793005 % 18446744073709551616) + 1442695040888963407) % 18446744073709551616) >>> 33) &&& 16777215)) : Int) % n) (St.unsep (St.addPur ⟨rfl, Int.emod_nonneg _ (by omega), fun h => by omega, fun h => Int.emod_lt_of_pos _ (by omega)⟩ (hw.sub (Sub.k (Sub.refl _))))))
set_option maxRecDepth 100000 in
set_option maxHeartbeats 1000000 in
theorem l01Pick_ok (cA : Option Addr) (cc : Nat) (code : List UInt8) (s : Nat) (list : List Int) (listA : Option Addr) (listc : Nat) (w0 : World) (H : List Assn) (hlist : ∀ w, St w0 H w → Rd I64 w listA list) (llist : list.length ≤ 1099511627776) (hc : Rd U8C w0 cA code) (lc : code.length ≤ 1048576) (hl : 0 < list.length) : Does Tryz.prog 98 [.pointer (some ⟨s, 0, none⟩), .slice listA list.length listc] w0 (SrcK 118 cA cc code s :: H) (fun rv_ => [.exi fun (r : Int) => .sep (.pur (rv_ = .int .i64 r ∧ r ∈ list)) (SrcK 118 cA cc code s)] ++ H) := by
 refine Does.enter Tryz.func98 rfl rfl [(0, .pointer (some ⟨s, 0, none⟩)), (1, .slice listA list.length listc)] rfl (V.seq (V.region (O.m rfl (O.nil (X.next (V.seq (V.region (O.m rfl (O.m rfl (O.m rfl (O.q rfl (Pu.len rfl Tryz.underlying41 rfl) ?_)))))))))))
 refine O.f rfl (Ef.call call68 rfl rfl (Does.pre (fun w hw => hw.sub (Sub.k (Sub.refl _))) (l01Next_ok _ _ _ s (↑list.length : Int) w0 _   (by first | assumption | omega | (try dsimp only at *; omega)) (by first | assumption | omega | (try dsimp only at *; omega))))) ?_
 rintro _ _ rfl
 refine O.exi (fun r1 => O.sep (O.pur ?_))
 rintro ⟨rfl, hr1_1, hr1_2, hr1_3⟩
 refine O.q rfl (Pu.indexAddrS ((r1).toNat) rfl Tryz.underlying41 sz2 rfl rfl (by omega) (by omega) (fun w hw => ((fun w hw => hlist w (hw.sub (Sub.drop (Sub.refl _)))) w hw).some (by omega))) ?_
 have e1 : (r1).toNat < list.length := by omega
 exact O.q rfl (Pu.load rfl pl2 rfl (Ld.rd (fun w hw => hlist w (hw.sub (Sub.drop (Sub.refl _)))) (k := (r1).toNat) e1 rfl rfl)) (O.m rfl (O.nil (X.next (V.ret (X.ret1 rfl rfl (fun w hw => St.mkExi (list[(r1).toNat]'e1) (St.unsep (St.addPur ⟨rfl, List.getElem_mem _⟩ (hw.sub (Sub.k (Sub.refl _)))))))))))
set_option maxRecDepth 100000 in
set_option maxHeartbeats 1000000 in
theorem l01Names_ok (w : World) : Does Tryz.prog 153 [] w [] (fun rv_ => [.exi fun (rA : Option Addr) => .exi fun (rc : Nat) => .exi fun (r : List ByteArray) => .sep (.pur (rv_ = .slice rA r.length rc ∧ r = nmL)) (Own 9 StrC rA rc r)]) := by
 refine Does.enter Tryz.func153 rfl rfl [] rfl (V.seq (V.region (O.m rfl (O.nil (X.next (V.seq (V.region (O.f rfl (Ef.build StrC ([(ByteArray.mk #[115, 105, 110, 103, 108, 101]), (ByteArray.mk #[102, 97, 110, 111]), (ByteArray.mk #[97, 102, 102, 105, 110, 101]), (ByteArray.mk #[99, 121, 99, 108, 105, 99, 49, 51]), (ByteArray.mk #[99, 121, 99, 108, 105, 99, 49, 53]), (ByteArray.mk #[112, 114, 111, 106, 101, 99, 116, 105, 118, 101, 49, 53])] : List ByteArray) rfl Tryz.underlying171 inf9 rfl rfl rfl (by first | decide | (simp; done)) (by kernel_rfl)) ?_))))))))
 rintro _ _ ⟨A1, hA1, rfl, rfl⟩
 exact O.m rfl (O.nil (X.next (V.ret (X.ret1 rfl rfl (fun w hw => St.mkExi A1 (St.mkExi 6 (St.mkExi ([(ByteArray.mk #[115, 105, 110, 103, 108, 101]), (ByteArray.mk #[102, 97, 110, 111]), (ByteArray.mk #[97, 102, 102, 105, 110, 101]), (ByteArray.mk #[99, 121, 99, 108, 105, 99, 49, 51]), (ByteArray.mk #[99, 121, 99, 108, 105, 99, 49, 53]), (ByteArray.mk #[112, 114, 111, 106, 101, 99, 116, 105, 118, 101, 49, 53])] : List ByteArray) (St.unsep (St.addPur ⟨rfl, rfl⟩ (hw.sub (Sub.k (Sub.nil _))))))))))))
set_option maxRecDepth 100000 in
set_option maxHeartbeats 1000000 in
theorem l01BlockD_ok (a : Int) (b : Int) (c_ : Int) (w : World) (ha : (-1000000 ≤ a ∧ a ≤ 1000000)) (hb : (-1000000 ≤ b ∧ b ≤ 1000000)) (hc : (-1000000 ≤ c_ ∧ c_ ≤ 1000000)) : Does Tryz.prog 112 [.int .i64 a, .int .i64 b, .int .i64 c_] w [] (fun r => [.pur (r = B3.v (bk3 a b c_))]) := by
 refine Does.enter Tryz.func112 rfl rfl [(0, .int .i64 a), (1, .int .i64 b), (2, .int .i64 c_)] rfl (V.seq (V.region (O.f rfl (Ef.alloc rfl zr69 rfl) ?_)))
 rintro _ _ ⟨b1, rfl, rfl⟩
 refine O.nil (X.next (V.seq (V.region (O.m rfl (O.m rfl (O.m rfl (O.q rfl (Pu.min3 (r := (min (min a b) c_)) (by omega) rfl rfl rfl rfl) (O.m rfl (O.m rfl (O.m rfl (O.q rfl (Pu.max3 (r := (max (max a b) c_)) (by omega) rfl rfl rfl rfl) ?_)))))))))))
 refine O.m rfl (O.m rfl (O.nil (X.next (V.seq (V.region (O.m rfl (O.m rfl (O.m rfl (O.q rfl (Pu.add64 rfl (by omega) rfl rfl rfl) (O.m rfl (O.q rfl (Pu.add64 rfl (by omega) rfl rfl rfl) ?_)))))))))))
 refine O.m rfl (O.q rfl (Pu.sub64 rfl (by omega) rfl rfl rfl) (O.m rfl (O.q rfl (Pu.sub64 rfl (by omega) rfl rfl rfl) (O.m rfl (O.q rfl (Pu.buildA (cs := [.int .i64 (min (min a b) c_), .int .i64 ((((a + b) + c_) - (min (min a b) c_)) - (max (max a b) c_)), .int .i64 (max (max a b) c_)]) (v := B3.v ((min (min a b) c_), ((((a + b) + c_) - (min (min a b) c_)) - (max (max a b) c_)), (max (max a b) c_))) rfl rfl Tryz.underlying69 zr69 sz2 rfl (by kernel_rfl)) (O.s rfl rfl (Ef.storeAll 0 rfl sz69 rfl rfl rfl rfl (by simp [Value.oneCell']) rfl) ?_))))))
 rintro _ _ rfl
 exact O.nil (X.next (V.ret (X.retCell rfl ag69 sz69 rfl rfl (Ld.whole 0 rfl) (fun w hw => St.retP (rfl) hw))))
set_option maxRecDepth 100000 in
set_option maxHeartbeats 1000000 in
theorem l01RenamedD_ok (v : Int) (bs : List B3) (p : List Int) (A : Option Addr) (c : Nat) (pA : Option Addr) (pc : Nat) (w : World) (hx : Rd B3C w A bs) (hp : Rd I64 w pA p) (lx : bs.length ≤ 4611686018427387904) (lp : p.length ≤ 1099511627776) (hb : ∀ b ∈ bs, good (p.length : Int) b) (lb : bs.length ≤ 100000) (hq : ∀ q ∈ p, 0 ≤ q ∧ q < 16) : Does Tryz.prog 75 [.agg #[.int .i64 v, .slice A bs.length c], .slice pA p.length pc] w [] (fun rv_ => [.exi fun (rA : Option Addr) => .exi fun (rc : Nat) => .exi fun (r : List B3) => .sep (.pur (rv_ = .agg #[.int .i64 v, .slice rA r.length rc] ∧ r.Perm (bs.map (renB p)) ∧ SrtB r)) (Own 69 B3C rA rc r)]) := by
 refine Does.enter Tryz.func75 rfl rfl [(0, .agg #[.int .i64 v, .slice A bs.length c]), (1, .slice pA p.length pc)] rfl (V.seq (V.region (O.f rfl (Ef.box rfl rfl rfl) ?_)))
 rintro _ _ ⟨b1, rfl, rfl⟩
 refine O.f rfl (Ef.alloc rfl zr26 rfl) ?_
 rintro _ _ ⟨b2, rfl, rfl⟩
 refine O.nil (X.next (V.seq (V.region (O.f rfl (Ef.build B3C ([] : List B3) rfl Tryz.underlying24 inf69 rfl rfl rfl (by first | decide | (simp; done)) (by kernel_rfl)) ?_))))
 rintro _ _ ⟨A1, hA1, rfl, rfl⟩
 refine O.m rfl (O.nil (X.next (V.seq (V.seq (V.region (O.m rfl (O.nil (X.next (V.block (V.loop3 (β := (Option Addr) × Nat × (List B3) × Nat) (fun x => [(5, .slice x.1 x.2.2.1.length x.2.1), (6, .int .i64 (x.2.2.2 : Int))]) _ (fun x => [Own 69 B3C x.1 x.2.1 x.2.2.1]) _ (fun x => x.2.2.2 ≤ bs.length ∧ x.2.2.1 = (bs.take x.2.2.2).map (renB p)) (fun x => bs.length - x.2.2.2) (A1, 0, ([] : List B3), 0) (by (try dsimp only); exact ⟨by omega, rfl⟩) (Ent.cons rfl (Ent.cons rfl (Ent.nil _))) (Ent.cons (t := 1) rfl (Ent.cons (t := 2) rfl (Ent.cons (t := 4) rfl (Ent.nil _)))) (Sub.k (Sub.k (Sub.k (Sub.nil _)))) ?_))))))))))
 rintro ⟨blocksA, blocksc, blocks, i⟩ ⟨hi, ho⟩
 dsimp only at hi ho ⊢
 have hol : blocks.length ≤ bs.length := by rw [ho, List.length_map, List.length_take]; omega
 refine V.seq (V.seq (V.region (O.m rfl (O.q rfl (Pu.fieldAddr 1 rfl Tryz.underlying26 rfl sz24 rfl rfl) (O.q rfl (Pu.load rfl pl24 rfl (Ld.blk 2 rfl rfl)) (O.q rfl (Pu.len rfl Tryz.underlying24 rfl) (O.q rfl (Pu.lss rfl rfl rfl) (O.nil (X.next (V.condD rfl (fun c1 => ?_) (fun c1 => ?_)))))))))))
 ·refine V.skip (X.next (V.seq (V.block (V.seq ?_))))
  have ei : i < bs.length := by omega
  have hg := hb (bs[i]'ei) (List.getElem_mem ei)
  unfold good at hg
  have hq1 := hq (p[(bs[i]'ei).1.toNat]'(by omega)) (List.getElem_mem _)
  have hq2 := hq (p[(bs[i]'ei).2.1.toNat]'(by omega)) (List.getElem_mem _)
  have hq3 := hq (p[(bs[i]'ei).2.2.toNat]'(by omega)) (List.getElem_mem _)
  refine V.region (O.q rfl (Pu.fieldAddr 1 rfl Tryz.underlying26 rfl sz24 rfl rfl) (O.q rfl (Pu.load rfl pl24 rfl (Ld.blk 2 rfl rfl)) (O.m rfl (O.q rfl (Pu.indexAddr (i) rfl Tryz.underlying24 sz69 rfl rfl (by omega) (by omega) (hx.some (by omega))) (O.q rfl (Pu.loadAgg' (v := B3.v (bs[i]'ei)) rfl rfl ag69 sz69 rfl rfl (Ld.rds (Ld.old hx) (k := i) ei rfl)) (O.f rfl (Ef.alloc rfl zr69 rfl) ?_))))))
  rintro _ _ ⟨b3, rfl, rfl⟩
  refine O.s rfl rfl (Ef.storeAll 0 rfl sz69 rfl rfl rfl rfl (by simp [Value.oneCell']) rfl) ?_
  rintro _ _ rfl
  refine O.nil (X.next (V.drawS mo (by kernel_rfl) (Sub.k (Sub.keep 1 rfl (Sub.keep 1 rfl (Sub.nil _)))) (fun hwf => D.m 0 rfl (D.m 1 rfl (D.q 2 rfl (Pu.indexArr 0 0 rfl Tryz.underlying69 sz2 rfl rfl (by decide) (by decide) (by decide)) (D.q 3 rfl (Pu.load rfl pl2 rfl (Ld.blk 0 rfl rfl)) (D.q 4 rfl (Pu.indexAddr (((bs[i]'ei).1).toNat) rfl Tryz.underlying41 sz2 rfl rfl (by omega) (by omega) (hp.some (by omega))) ?_)))))))
  have e1 : ((bs[i]'ei).1).toNat < p.length := by omega
  refine D.q 5 rfl (Pu.load rfl pl2 rfl (Ld.rd (Ld.old hp) (k := ((bs[i]'ei).1).toNat) e1 rfl rfl)) (D.m 6 rfl (D.q 7 rfl (Pu.indexArr 1 1 rfl Tryz.underlying69 sz2 rfl rfl (by decide) (by decide) (by decide)) (D.q 8 rfl (Pu.load rfl pl2 rfl (Ld.blk 0 rfl rfl)) (D.q 9 rfl (Pu.indexAddr (((bs[i]'ei).2.1).toNat) rfl Tryz.underlying41 sz2 rfl rfl (by omega) (by omega) (hp.some (by omega))) ?_))))
  have e2 : ((bs[i]'ei).2.1).toNat < p.length := by omega
  refine D.q 10 rfl (Pu.load rfl pl2 rfl (Ld.rd (Ld.old hp) (k := ((bs[i]'ei).2.1).toNat) e2 rfl rfl)) (D.m 11 rfl (D.q 12 rfl (Pu.indexArr 2 2 rfl Tryz.underlying69 sz2 rfl rfl (by decide) (by decide) (by decide)) (D.q 13 rfl (Pu.load rfl pl2 rfl (Ld.blk 0 rfl rfl)) (D.q 14 rfl (Pu.indexAddr (((bs[i]'ei).2.2).toNat) rfl Tryz.underlying41 sz2 rfl rfl (by omega) (by omega) (hp.some (by omega))) ?_))))
  have e3 : ((bs[i]'ei).2.2).toNat < p.length := by omega
  refine D.q 15 rfl (Pu.load rfl pl2 rfl (Ld.rd (Ld.old hp) (k := ((bs[i]'ei).2.2).toNat) e3 rfl rfl)) (D.f hwf 16 rfl (Ef.callP call112 rfl rfl (fun w hw => l01BlockD_ok  (p[((bs[i]'ei).1).toNat]'e1) (p[((bs[i]'ei).2.1).toNat]'e2) (p[((bs[i]'ei).2.2).toNat]'e3) w   (by first | assumption | omega | (try dsimp only at *; omega)) (by first | assumption | omega | (try dsimp only at *; omega)) (by first | assumption | omega | (try dsimp only at *; omega)))) ?_)
  rintro _ _ ⟨rfl, rfl⟩ hs
  refine ⟨fun w hw => hw.sub (Sub.k (Sub.keep 1 rfl (Sub.keep 1 rfl (Sub.nil _)))), (D.f hwf 17 rfl (Ef.build B3C ([(bk3 (p[((bs[i]'ei).1).toNat]'e1) (p[((bs[i]'ei).2.1).toNat]'e2) (p[((bs[i]'ei).2.2).toNat]'e3))] : List B3) rfl Tryz.underlying24 inf69 rfl rfl rfl (by first | decide | (simp; done)) (by kernel_rfl)) ?_)⟩
  rintro _ _ ⟨A2, hA2, rfl, rfl⟩ hs
  refine ⟨fun w hw => hw.sub (Sub.keep 1 rfl (Sub.keep 2 rfl (Sub.keep 2 rfl (Sub.nil _)))), (D.f hwf 18 rfl (Ef.append (xs := blocks) (ys := ([(bk3 (p[((bs[i]'ei).1).toNat]'e1) (p[((bs[i]'ei).2.1).toNat]'e2) (p[((bs[i]'ei).2.2).toNat]'e3))] : List B3)) 2 rfl Tryz.underlying24 inf69 rfl rfl rfl rfl rfl rfl hA2 (Ld.own 0 (by exact rfl)) (by simp only [List.length_append, List.length_cons, List.length_nil] at *; omega) (by decide)) ?_)⟩
  rintro _ _ ⟨A3, k1, rfl, rfl, hA3⟩ hs
  replace hA3 := hA3 (.inr (by simp))
  exact ⟨fun w hw => hw.sub (Sub.keep 1 rfl (Sub.keep 2 rfl (Sub.keep 2 rfl (Sub.nil _)))), (D.last hwf (e := 19) rfl rfl rfl rfl rfl rfl (Pu.assign rfl rfl) (X.blockNormal (X.next (V.region (O.m rfl (O.q rfl (Pu.add64 (r := ((i + 1 : Nat) : Int)) rfl (by omega) rfl rfl rfl) (O.m rfl (O.nil (X.back3 (A3, k1, (blocks ++ ([(bk3 (p[((bs[i]'ei).1).toNat]'e1) (p[((bs[i]'ei).2.1).toNat]'e2) (p[((bs[i]'ei).2.2).toNat]'e3))] : List B3)), i + 1) (by (try dsimp only); exact ⟨by omega, by rw [take_snoc ei, List.map_append, ho]; simp only [List.map_cons, List.map_nil, renB]; rw [getD_at (by omega), getD_at (by omega), getD_at (by omega)]⟩) (by first | omega | (dsimp only; omega)) (Ent.cons rfl (Ent.cons rfl (Ent.nil _))) (Ent.cons (t := 1) rfl (Ent.cons (t := 2) rfl (Ent.cons (t := 4) rfl (Ent.nil _)))) (Sub.keep 2 rfl (Sub.keep 2 rfl (Sub.keep 2 rfl (Sub.nil _)))))))))))))⟩
 ·refine V.exit (X.thenExit (X.thenExit (X.blockHit (X.next (V.seq (V.region (O.q rfl (Pu.fieldAddr 0 rfl Tryz.underlying26 rfl sz2 rfl rfl) (O.q rfl (Pu.load rfl pl2 rfl (Ld.blk 2 rfl rfl)) (O.m rfl (O.f rfl (Ef.call1 call45 rfl rfl (fun w hw => l01Made_ok  v blocks _ _ w ((Ld.own 0 (by exact rfl)) w hw) (by first | omega | (simp only [tops_len, conts_len, bl, List.length_append, List.length_cons, List.length_nil] at *; omega)) (by first | assumption | omega | (try dsimp only at *; omega)))) ?_))))))))))
  rintro _ _ rfl
  refine O.exi (fun r1A => O.exi (fun r1c => O.exi (fun r1 => O.sep (O.pur ?_))))
  rintro ⟨rfl, hr1_1, hr1_2⟩
  refine O.s rfl rfl (Ef.storeAll 2 rfl sz26 rfl rfl rfl rfl (by simp [Value.oneCell']) rfl) ?_
  rintro _ _ rfl
  exact O.nil (X.next (V.ret (X.retCell rfl ag26 sz26 rfl rfl (Ld.whole 2 rfl) (fun w hw => St.mkExi r1A (St.mkExi r1c (St.mkExi r1 (St.unsep (St.addPur ⟨rfl, by rw [ho, List.take_of_length_le (by omega)] at hr1_1; exact hr1_1, hr1_2⟩ (hw.sub (Sub.k (Sub.nil _)))))))))))
set_option maxRecDepth 100000 in
set_option maxHeartbeats 1000000 in
theorem l01Turned_ok (blocks : List B3) (v_ : Int) (a : Int) (b : Int) (c_ : Int) (blocksA : Option Addr) (blocksc : Nat) (w0 : World) (H : List Assn) (hv : 0 < v_ ∧ v_ ≤ 15) (ha : (0 ≤ a ∧ a ≤ 1000)) (hb : (0 ≤ b ∧ b ≤ 1000)) (hc : (0 ≤ c_ ∧ c_ ≤ 1000)) (lb : blocks.length ≤ 1000) : Does Tryz.prog 111 [.slice blocksA blocks.length blocksc, .int .i64 v_, .int .i64 a, .int .i64 b, .int .i64 c_] w0 (Own 69 B3C blocksA blocksc blocks :: H) (fun rv_ => [.exi fun (rA : Option Addr) => .exi fun (rc : Nat) => .exi fun (r : List B3) => .sep (.pur (rv_ = .slice rA r.length rc ∧ r = rowT v_ blocks (a, b, c_) v_.toNat)) (Own 69 B3C rA rc r)] ++ H) := by
 refine Does.enter Tryz.func111 rfl rfl [(0, .slice blocksA blocks.length blocksc), (1, .int .i64 v_), (2, .int .i64 a), (3, .int .i64 b), (4, .int .i64 c_)] rfl (V.seq (V.region (O.m rfl (O.nil (X.next (V.seq (V.seq (V.region (O.m rfl (O.nil (X.next ?_)))))))))))
 refine V.block (V.loop3 (β := (Option Addr) × Nat × (List B3) × Nat) (fun x => [(0, .slice x.1 x.2.2.1.length x.2.1), (11, .int .i64 (x.2.2.2 : Int))]) _ (fun x => [Own 69 B3C x.1 x.2.1 x.2.2.1]) _ (fun x => x.2.2.2 ≤ v_.toNat ∧ x.2.2.1 = rowT v_ blocks (a, b, c_) x.2.2.2) (fun x => v_.toNat - x.2.2.2) (blocksA, blocksc, blocks, 0) (by (try dsimp only); exact ⟨by omega, rfl⟩) (Ent.cons rfl (Ent.cons rfl (Ent.nil _))) (Ent.cons (t := 1) rfl (Ent.cons (t := 2) rfl (Ent.cons (t := 3) rfl (Ent.cons (t := 4) rfl (Ent.nil _))))) (Sub.k (Sub.refl _)) ?_)
 rintro ⟨zA, zc, z, i⟩ ⟨hi, hz⟩
 dsimp only at hi hz ⊢
 have hzl : z.length ≤ blocks.length + i := by rw [hz]; exact rowT_len i
 refine V.seq (V.seq (V.region (O.m rfl (O.m rfl (O.q rfl (Pu.lss rfl rfl rfl) (O.nil (X.next (V.condD rfl (fun c1 => ?_) (fun c1 => ?_)))))))))
 ·refine V.skip (X.next (V.seq (V.block (V.seq (V.draw mo (by kernel_rfl) (fun hwf => D.m 0 rfl (D.m 1 rfl (D.q 2 rfl (Pu.add64 rfl (by omega) rfl rfl rfl) (D.m 3 rfl (D.q 4 rfl (Pu.rem64 (by omega) (by omega) rfl rfl rfl) (D.m 5 rfl ?_)))))))))))
  refine D.m 6 rfl (D.q 7 rfl (Pu.add64 rfl (by omega) rfl rfl rfl) (D.m 8 rfl (D.q 9 rfl (Pu.rem64 (by omega) (by omega) rfl rfl rfl) (D.m 10 rfl (D.m 11 rfl (D.q 12 rfl (Pu.add64 rfl (by omega) rfl rfl rfl) (D.m 13 rfl (D.q 14 rfl (Pu.rem64 (by omega) (by omega) rfl rfl rfl) (D.either hwf (e1 := 15) (e2 := 16) rfl ?_ ?_)))))))))
  ·refine ⟨_, _, rfl, rfl, fun _ _ => wanted_none rfl _, Ef.callP call112 rfl rfl (fun w hw => l01BlockD_ok  ((a + (↑i : Int)) % v_) ((b + (↑i : Int)) % v_) ((c_ + (↑i : Int)) % v_) w   (by have h1 := Int.emod_nonneg (a + (i : Int)) (show v_ ≠ 0 by omega); have h2 := Int.emod_lt_of_pos (a + (i : Int)) (show 0 < v_ by omega); omega) (by have h1 := Int.emod_nonneg (b + (i : Int)) (show v_ ≠ 0 by omega); have h2 := Int.emod_lt_of_pos (b + (i : Int)) (show 0 < v_ by omega); omega) (by have h1 := Int.emod_nonneg (c_ + (i : Int)) (show v_ ≠ 0 by omega); have h2 := Int.emod_lt_of_pos (c_ + (i : Int)) (show 0 < v_ by omega); omega)), rfl, rfl, ?_⟩
   rintro _ _ ⟨rfl, rfl⟩ hs
   refine ⟨fun w hw => hw, (D.f hwf 16 rfl (Ef.alloc rfl zr69 rfl) ?_)⟩
   rintro _ _ ⟨b1, rfl, rfl⟩ hs
   refine ⟨fun w hw => hw.sub (Sub.keep 1 rfl (Sub.drop (Sub.refl _))), (D.f hwf 17 rfl (Ef.storeAll 0 rfl sz69 rfl rfl rfl rfl (by simp [Value.oneCell']) rfl) ?_)⟩
   rintro _ _ rfl hs
   refine ⟨fun w hw => hw.sub (Sub.keep 1 rfl (Sub.drop (Sub.refl _))), (D.m 18 rfl (D.done hwf rfl (X.next (V.seq (V.seq (V.region (O.m rfl (O.nil (X.next (V.block (V.loop3 (β := Bool × Nat) (fun x => [(13, .bool x.1), (14, .int .i64 (x.2 : Int))]) _ (fun x => []) _ (fun x => x.2 ≤ z.length ∧ x.1 = decide (bkT v_ (a, b, c_) i ∈ z.take x.2)) (fun x => z.length - x.2) (false, 0) (by (try dsimp only); exact ⟨by omega, by simp⟩) (Ent.cons rfl (Ent.cons rfl (Ent.nil _))) (Ent.cons (t := 0) rfl (Ent.cons (t := 1) rfl (Ent.cons (t := 2) rfl (Ent.cons (t := 3) rfl (Ent.cons (t := 4) rfl (Ent.cons (t := 11) rfl (Ent.cons (t := 12) rfl (Ent.nil _)))))))) (Sub.k (Sub.k (Sub.refl _))) ?_)))))))))))⟩
   rintro ⟨known, k⟩ ⟨hk, hk2⟩
   dsimp only at hk hk2 ⊢
   refine V.seq (V.seq (V.region (O.m rfl (O.m rfl (O.q rfl (Pu.len rfl Tryz.underlying24 rfl) (O.q rfl (Pu.lss rfl rfl rfl) (O.nil (X.next (V.condD rfl (fun c2 => ?_) (fun c2 => ?_))))))))))
   ·refine V.skip (X.next (V.seq (V.block (V.draw mo (by kernel_rfl) (fun hwf => D.m 0 rfl (D.m 1 rfl (D.splitB 43 rfl (fun c3 => ?_) (fun c3 => ?_))))))))
    ·subst c3
     refine D.g 2 rfl (D.g 3 rfl (D.g 4 rfl (D.g 5 rfl (D.g 6 rfl (D.g 7 rfl (D.m 8 rfl (D.last hwf (e := 9) rfl rfl rfl rfl rfl rfl (Pu.assign rfl rfl) (X.blockNormal (X.next (V.region (O.m rfl ?_)))))))))))
     exact O.q rfl (Pu.add64 (r := ((k + 1 : Nat) : Int)) rfl (by omega) rfl rfl rfl) (O.m rfl (O.nil (X.back3 (true, k + 1) (by (try dsimp only); exact ⟨by omega, by rw [take_snoc (by omega)]; have h := hk2.symm; rw [decide_eq_true_eq] at h; exact (decide_eq_true (List.mem_append.2 (.inl h))).symm⟩) (by first | omega | (dsimp only; omega)) (Ent.cons rfl (Ent.cons rfl (Ent.nil _))) (Ent.cons (t := 0) rfl (Ent.cons (t := 1) rfl (Ent.cons (t := 2) rfl (Ent.cons (t := 3) rfl (Ent.cons (t := 4) rfl (Ent.cons (t := 11) rfl (Ent.cons (t := 12) rfl (Ent.nil _)))))))) (Sub.k (Sub.k (Sub.refl _))))))
    ·subst c3
     refine D.gm 2 rfl (D.gm 3 rfl (D.gq 4 rfl (Pu.indexAddrS (k) rfl Tryz.underlying24 sz69 rfl rfl (by omega) (by omega) (fun w hw => Own.some hw (i := 1) (by exact rfl) (by omega))) ?_))
     have e1 : k < z.length := by omega
     exact D.gq 5 rfl (Pu.loadAgg' (v := B3.v (z[k]'e1)) rfl rfl ag69 sz69 rfl rfl (Ld.rds (C := B3C) (Ld.own 1 (by exact rfl)) (k := k) e1 rfl)) (D.gq 6 rfl (Pu.loadAgg' (v := B3.v (bk3 ((a + (↑i : Int)) % v_) ((b + (↑i : Int)) % v_) ((c_ + (↑i : Int)) % v_))) rfl rfl ag69 sz69 rfl rfl (Ld.whole 0 rfl)) (D.gq 7 rfl (Pu.eqlB3 Tryz.underlying69 Tryz.underlying2 sz2 (by kernel_rfl) rfl rfl rfl) (D.m 8 rfl (D.last hwf (e := 9) rfl rfl rfl rfl rfl rfl (Pu.assign rfl rfl) (X.blockNormal (X.next (V.region (O.m rfl (O.q rfl (Pu.add64 (r := ((k + 1 : Nat) : Int)) rfl (by omega) rfl rfl rfl) (O.m rfl (O.nil (X.back3 ((decide ((z[k]'e1) = (bk3 ((a + (↑i : Int)) % v_) ((b + (↑i : Int)) % v_) ((c_ + (↑i : Int)) % v_)))), k + 1) (by (try dsimp only); exact ⟨by omega, by rw [take_snoc (by omega)]; have h := hk2.symm; rw [decide_eq_false_iff_not] at h; apply decide_eq_decide.2; rw [List.mem_append, List.mem_singleton]; exact ⟨fun e => .inr e.symm, fun e => e.elim (fun e => absurd e h) Eq.symm⟩⟩) (by first | omega | (dsimp only; omega)) (Ent.cons rfl (Ent.cons rfl (Ent.nil _))) (Ent.cons (t := 0) rfl (Ent.cons (t := 1) rfl (Ent.cons (t := 2) rfl (Ent.cons (t := 3) rfl (Ent.cons (t := 4) rfl (Ent.cons (t := 11) rfl (Ent.cons (t := 12) rfl (Ent.nil _)))))))) (Sub.k (Sub.k (Sub.refl _)))))))))))))))
   ·refine V.exit (X.thenExit (X.thenExit (X.blockHit (X.next (V.seq (V.region (O.m rfl (O.q rfl (Pu.not rfl rfl) (O.nil (X.next (V.cond rfl (fun c4 => ?_) (fun c4 => ?_))))))))))))
    ·have hnk : ¬ bkT v_ (a, b, c_) i ∈ z := by rw [List.take_of_length_le (by omega)] at hk2; intro h; rw [decide_eq_true h] at hk2; simp_all
     refine V.region (O.m rfl (O.q rfl (Pu.loadAgg' (v := B3.v (bk3 ((a + (↑i : Int)) % v_) ((b + (↑i : Int)) % v_) ((c_ + (↑i : Int)) % v_))) rfl rfl ag69 sz69 rfl rfl (Ld.whole 0 rfl)) (O.f rfl (Ef.build B3C ([(bk3 ((a + (↑i : Int)) % v_) ((b + (↑i : Int)) % v_) ((c_ + (↑i : Int)) % v_))] : List B3) rfl Tryz.underlying24 inf69 rfl rfl rfl (by first | decide | (simp; done)) (by kernel_rfl)) ?_)))
     rintro _ _ ⟨A1, hA1, rfl, rfl⟩
     refine O.f rfl (Ef.append (xs := z) (ys := ([(bk3 ((a + (↑i : Int)) % v_) ((b + (↑i : Int)) % v_) ((c_ + (↑i : Int)) % v_))] : List B3)) 2 rfl Tryz.underlying24 inf69 rfl rfl rfl rfl rfl rfl hA1 (Ld.own 0 (by exact rfl)) (by simp only [List.length_append, List.length_cons, List.length_nil] at *; omega) (by decide)) ?_
     rintro _ _ ⟨A2, k1, rfl, rfl, hA2⟩
     replace hA2 := hA2 (.inr (by simp))
     exact O.m rfl (O.nil (X.blockNormal (X.next (V.region (O.m rfl (O.q rfl (Pu.add64 (r := ((i + 1 : Nat) : Int)) rfl (by omega) rfl rfl rfl) (O.m rfl (O.nil (X.back3 (A2, k1, (z ++ ([(bk3 ((a + (↑i : Int)) % v_) ((b + (↑i : Int)) % v_) ((c_ + (↑i : Int)) % v_))] : List B3)), i + 1) (by (try dsimp only); exact ⟨by omega, by rw [hz]; exact (rowT_no (by rw [← hz]; exact hnk)).symm⟩) (by first | omega | (dsimp only; omega)) (Ent.cons rfl (Ent.cons rfl (Ent.nil _))) (Ent.cons (t := 1) rfl (Ent.cons (t := 2) rfl (Ent.cons (t := 3) rfl (Ent.cons (t := 4) rfl (Ent.nil _))))) (Sub.keep 2 rfl (Sub.drop (Sub.drop (Sub.refl _)))))))))))))
    ·have hkn : bkT v_ (a, b, c_) i ∈ z := by rw [List.take_of_length_le (by omega)] at hk2; apply Decidable.byContradiction; intro h; rw [decide_eq_false h] at hk2; simp_all
     exact V.skip (X.blockNormal (X.next (V.region (O.m rfl (O.q rfl (Pu.add64 (r := ((i + 1 : Nat) : Int)) rfl (by omega) rfl rfl rfl) (O.m rfl (O.nil (X.back3 (zA, zc, z, i + 1) (by (try dsimp only); exact ⟨by omega, by rw [hz]; exact (rowT_yes (by rw [← hz]; exact hkn)).symm⟩) (by first | omega | (dsimp only; omega)) (Ent.cons rfl (Ent.cons rfl (Ent.nil _))) (Ent.cons (t := 1) rfl (Ent.cons (t := 2) rfl (Ent.cons (t := 3) rfl (Ent.cons (t := 4) rfl (Ent.nil _))))) (Sub.keep 1 rfl (Sub.drop (Sub.refl _)))))))))))
  ·refine ⟨_, _, rfl, rfl, fun _ _ => wanted_none rfl _, Ef.alloc rfl zr69 rfl, rfl, rfl, ?_⟩
   rintro _ _ ⟨b1, rfl, rfl⟩ hs
   refine ⟨fun w hw => hw.sub (Sub.keep 1 rfl (Sub.drop (Sub.refl _))), (D.f hwf 15 rfl (Ef.callP call112 rfl rfl (fun w hw => l01BlockD_ok  ((a + (↑i : Int)) % v_) ((b + (↑i : Int)) % v_) ((c_ + (↑i : Int)) % v_) w   (by have h1 := Int.emod_nonneg (a + (i : Int)) (show v_ ≠ 0 by omega); have h2 := Int.emod_lt_of_pos (a + (i : Int)) (show 0 < v_ by omega); omega) (by have h1 := Int.emod_nonneg (b + (i : Int)) (show v_ ≠ 0 by omega); have h2 := Int.emod_lt_of_pos (b + (i : Int)) (show 0 < v_ by omega); omega) (by have h1 := Int.emod_nonneg (c_ + (i : Int)) (show v_ ≠ 0 by omega); have h2 := Int.emod_lt_of_pos (c_ + (i : Int)) (show 0 < v_ by omega); omega))) ?_)⟩
   rintro _ _ ⟨rfl, rfl⟩ hs
   refine ⟨fun w hw => hw.sub (Sub.keep 1 rfl (Sub.drop (Sub.refl _))), (D.f hwf 17 rfl (Ef.storeAll 0 rfl sz69 rfl rfl rfl rfl (by simp [Value.oneCell']) rfl) ?_)⟩
   rintro _ _ rfl hs
   refine ⟨fun w hw => hw.sub (Sub.keep 1 rfl (Sub.drop (Sub.refl _))), (D.m 18 rfl (D.done hwf rfl (X.next (V.seq (V.seq (V.region (O.m rfl (O.nil (X.next (V.block (V.loop3 (β := Bool × Nat) (fun x => [(13, .bool x.1), (14, .int .i64 (x.2 : Int))]) _ (fun x => []) _ (fun x => x.2 ≤ z.length ∧ x.1 = decide (bkT v_ (a, b, c_) i ∈ z.take x.2)) (fun x => z.length - x.2) (false, 0) (by (try dsimp only); exact ⟨by omega, by simp⟩) (Ent.cons rfl (Ent.cons rfl (Ent.nil _))) (Ent.cons (t := 0) rfl (Ent.cons (t := 1) rfl (Ent.cons (t := 2) rfl (Ent.cons (t := 3) rfl (Ent.cons (t := 4) rfl (Ent.cons (t := 11) rfl (Ent.cons (t := 12) rfl (Ent.nil _)))))))) (Sub.k (Sub.k (Sub.refl _))) ?_)))))))))))⟩
   rintro ⟨known, k⟩ ⟨hk, hk2⟩
   dsimp only at hk hk2 ⊢
   refine V.seq (V.seq (V.region (O.m rfl (O.m rfl (O.q rfl (Pu.len rfl Tryz.underlying24 rfl) (O.q rfl (Pu.lss rfl rfl rfl) (O.nil (X.next (V.condD rfl (fun c2 => ?_) (fun c2 => ?_))))))))))
   ·refine V.skip (X.next (V.seq (V.block (V.draw mo (by kernel_rfl) (fun hwf => D.m 0 rfl (D.m 1 rfl (D.splitB 43 rfl (fun c3 => ?_) (fun c3 => ?_))))))))
    ·subst c3
     refine D.g 2 rfl (D.g 3 rfl (D.g 4 rfl (D.g 5 rfl (D.g 6 rfl (D.g 7 rfl (D.m 8 rfl (D.last hwf (e := 9) rfl rfl rfl rfl rfl rfl (Pu.assign rfl rfl) (X.blockNormal (X.next (V.region (O.m rfl ?_)))))))))))
     exact O.q rfl (Pu.add64 (r := ((k + 1 : Nat) : Int)) rfl (by omega) rfl rfl rfl) (O.m rfl (O.nil (X.back3 (true, k + 1) (by (try dsimp only); exact ⟨by omega, by rw [take_snoc (by omega)]; have h := hk2.symm; rw [decide_eq_true_eq] at h; exact (decide_eq_true (List.mem_append.2 (.inl h))).symm⟩) (by first | omega | (dsimp only; omega)) (Ent.cons rfl (Ent.cons rfl (Ent.nil _))) (Ent.cons (t := 0) rfl (Ent.cons (t := 1) rfl (Ent.cons (t := 2) rfl (Ent.cons (t := 3) rfl (Ent.cons (t := 4) rfl (Ent.cons (t := 11) rfl (Ent.cons (t := 12) rfl (Ent.nil _)))))))) (Sub.k (Sub.k (Sub.refl _))))))
    ·subst c3
     refine D.gm 2 rfl (D.gm 3 rfl (D.gq 4 rfl (Pu.indexAddrS (k) rfl Tryz.underlying24 sz69 rfl rfl (by omega) (by omega) (fun w hw => Own.some hw (i := 1) (by exact rfl) (by omega))) ?_))
     have e1 : k < z.length := by omega
     exact D.gq 5 rfl (Pu.loadAgg' (v := B3.v (z[k]'e1)) rfl rfl ag69 sz69 rfl rfl (Ld.rds (C := B3C) (Ld.own 1 (by exact rfl)) (k := k) e1 rfl)) (D.gq 6 rfl (Pu.loadAgg' (v := B3.v (bk3 ((a + (↑i : Int)) % v_) ((b + (↑i : Int)) % v_) ((c_ + (↑i : Int)) % v_))) rfl rfl ag69 sz69 rfl rfl (Ld.whole 0 rfl)) (D.gq 7 rfl (Pu.eqlB3 Tryz.underlying69 Tryz.underlying2 sz2 (by kernel_rfl) rfl rfl rfl) (D.m 8 rfl (D.last hwf (e := 9) rfl rfl rfl rfl rfl rfl (Pu.assign rfl rfl) (X.blockNormal (X.next (V.region (O.m rfl (O.q rfl (Pu.add64 (r := ((k + 1 : Nat) : Int)) rfl (by omega) rfl rfl rfl) (O.m rfl (O.nil (X.back3 ((decide ((z[k]'e1) = (bk3 ((a + (↑i : Int)) % v_) ((b + (↑i : Int)) % v_) ((c_ + (↑i : Int)) % v_)))), k + 1) (by (try dsimp only); exact ⟨by omega, by rw [take_snoc (by omega)]; have h := hk2.symm; rw [decide_eq_false_iff_not] at h; apply decide_eq_decide.2; rw [List.mem_append, List.mem_singleton]; exact ⟨fun e => .inr e.symm, fun e => e.elim (fun e => absurd e h) Eq.symm⟩⟩) (by first | omega | (dsimp only; omega)) (Ent.cons rfl (Ent.cons rfl (Ent.nil _))) (Ent.cons (t := 0) rfl (Ent.cons (t := 1) rfl (Ent.cons (t := 2) rfl (Ent.cons (t := 3) rfl (Ent.cons (t := 4) rfl (Ent.cons (t := 11) rfl (Ent.cons (t := 12) rfl (Ent.nil _)))))))) (Sub.k (Sub.k (Sub.refl _)))))))))))))))
   ·refine V.exit (X.thenExit (X.thenExit (X.blockHit (X.next (V.seq (V.region (O.m rfl (O.q rfl (Pu.not rfl rfl) (O.nil (X.next (V.cond rfl (fun c4 => ?_) (fun c4 => ?_))))))))))))
    ·have hnk : ¬ bkT v_ (a, b, c_) i ∈ z := by rw [List.take_of_length_le (by omega)] at hk2; intro h; rw [decide_eq_true h] at hk2; simp_all
     refine V.region (O.m rfl (O.q rfl (Pu.loadAgg' (v := B3.v (bk3 ((a + (↑i : Int)) % v_) ((b + (↑i : Int)) % v_) ((c_ + (↑i : Int)) % v_))) rfl rfl ag69 sz69 rfl rfl (Ld.whole 0 rfl)) (O.f rfl (Ef.build B3C ([(bk3 ((a + (↑i : Int)) % v_) ((b + (↑i : Int)) % v_) ((c_ + (↑i : Int)) % v_))] : List B3) rfl Tryz.underlying24 inf69 rfl rfl rfl (by first | decide | (simp; done)) (by kernel_rfl)) ?_)))
     rintro _ _ ⟨A1, hA1, rfl, rfl⟩
     refine O.f rfl (Ef.append (xs := z) (ys := ([(bk3 ((a + (↑i : Int)) % v_) ((b + (↑i : Int)) % v_) ((c_ + (↑i : Int)) % v_))] : List B3)) 2 rfl Tryz.underlying24 inf69 rfl rfl rfl rfl rfl rfl hA1 (Ld.own 0 (by exact rfl)) (by simp only [List.length_append, List.length_cons, List.length_nil] at *; omega) (by decide)) ?_
     rintro _ _ ⟨A2, k1, rfl, rfl, hA2⟩
     replace hA2 := hA2 (.inr (by simp))
     exact O.m rfl (O.nil (X.blockNormal (X.next (V.region (O.m rfl (O.q rfl (Pu.add64 (r := ((i + 1 : Nat) : Int)) rfl (by omega) rfl rfl rfl) (O.m rfl (O.nil (X.back3 (A2, k1, (z ++ ([(bk3 ((a + (↑i : Int)) % v_) ((b + (↑i : Int)) % v_) ((c_ + (↑i : Int)) % v_))] : List B3)), i + 1) (by (try dsimp only); exact ⟨by omega, by rw [hz]; exact (rowT_no (by rw [← hz]; exact hnk)).symm⟩) (by first | omega | (dsimp only; omega)) (Ent.cons rfl (Ent.cons rfl (Ent.nil _))) (Ent.cons (t := 1) rfl (Ent.cons (t := 2) rfl (Ent.cons (t := 3) rfl (Ent.cons (t := 4) rfl (Ent.nil _))))) (Sub.keep 2 rfl (Sub.drop (Sub.drop (Sub.refl _)))))))))))))
    ·have hkn : bkT v_ (a, b, c_) i ∈ z := by rw [List.take_of_length_le (by omega)] at hk2; apply Decidable.byContradiction; intro h; rw [decide_eq_false h] at hk2; simp_all
     exact V.skip (X.blockNormal (X.next (V.region (O.m rfl (O.q rfl (Pu.add64 (r := ((i + 1 : Nat) : Int)) rfl (by omega) rfl rfl rfl) (O.m rfl (O.nil (X.back3 (zA, zc, z, i + 1) (by (try dsimp only); exact ⟨by omega, by rw [hz]; exact (rowT_yes (by rw [← hz]; exact hkn)).symm⟩) (by first | omega | (dsimp only; omega)) (Ent.cons rfl (Ent.cons rfl (Ent.nil _))) (Ent.cons (t := 1) rfl (Ent.cons (t := 2) rfl (Ent.cons (t := 3) rfl (Ent.cons (t := 4) rfl (Ent.nil _))))) (Sub.keep 1 rfl (Sub.drop (Sub.refl _)))))))))))
 ·refine V.exit (X.thenExit (X.thenExit (X.blockHit (X.next (V.seq (V.region (O.m rfl (O.m rfl (O.nil (X.next (V.ret ?_)))))))))))
  exact X.ret1 rfl rfl (fun w hw => St.mkExi zA (St.mkExi zc (St.mkExi z (St.unsep (St.addPur ⟨rfl, by rw [hz, show i = v_.toNat by omega]⟩ (hw.sub (Sub.k (Sub.refl _))))))))
set_option maxRecDepth 100000 in
set_option maxHeartbeats 1000000 in
theorem l01NamedD0_ok (w : World) : Does Tryz.prog 74 [.string (ByteArray.mk #[115, 105, 110, 103, 108, 101])] w [] (fun rv_ => [.exi fun (rA : Option Addr) => .exi fun (rc : Nat) => .exi fun (r : List B3) => .sep (.pur (rv_ = .tuple #[.agg #[.int .i64 3, .slice rA r.length rc], .bool true] ∧ DrS 4000 3 r)) (Own 69 B3C rA rc r)]) := by
 refine Does.enter Tryz.func74 rfl rfl [(0, .string (ByteArray.mk #[115, 105, 110, 103, 108, 101]))] rfl (V.seq (V.region (O.f rfl (Ef.alloc rfl zr26 rfl) ?_)))
 rintro _ _ ⟨b1, rfl, rfl⟩
 refine O.m rfl (O.nil (X.next (V.seq (V.region (O.f rfl (Ef.build B3C ([] : List B3) rfl Tryz.underlying24 inf69 rfl rfl rfl (by first | decide | (simp; done)) (by kernel_rfl)) ?_)))))
 rintro _ _ ⟨A1, hA1, rfl, rfl⟩
 refine O.m rfl (O.nil (X.next (V.seq (V.seq (V.region (O.m rfl (O.nil (X.next (V.block (V.seq (V.region ?_)))))))))))
 refine O.q rfl (Pu.eqlStr (b := true) (by kernel_rfl) rfl rfl rfl) (O.m rfl (O.nil (X.next (V.condT rfl (V.seq (V.region (O.q rfl (Pu.buildA (cs := [.int .i64 (0 : Int), .int .i64 (1 : Int), .int .i64 (2 : Int)]) (v := B3.v ((0 : Int), (1 : Int), (2 : Int))) rfl rfl Tryz.underlying69 zr69 sz2 rfl (by kernel_rfl)) (O.f rfl (Ef.build B3C ([((0 : Int), (1 : Int), (2 : Int))] : List B3) rfl Tryz.underlying24 inf69 rfl rfl rfl (by first | decide | (simp; done)) (by kernel_rfl)) ?_))))))))
 rintro _ _ ⟨A2, hA2, rfl, rfl⟩
 refine O.f rfl (Ef.call1 call45 rfl rfl (fun w hw => l01Made_ok  (3 : Int) ([((0 : Int), (1 : Int), (2 : Int))] : List B3) _ _ w ((Ld.own 0 (by exact rfl)) w hw) (by simp) (by simp))) ?_
 rintro _ _ rfl
 refine O.exi (fun r1A => O.exi (fun r1c => O.exi (fun r1 => O.sep (O.pur ?_))))
 rintro ⟨rfl, hr1_1, hr1_2⟩
 refine O.s rfl rfl (Ef.storeAll 3 rfl sz26 rfl rfl rfl rfl (by simp [Value.oneCell']) rfl) ?_
 rintro _ _ rfl
 exact O.m rfl (O.nil (X.next (V.ret (X.blockRet (X.thenRet (X.retCell2 rfl ag26 sz26 rfl rfl rfl (Ld.whole 3 rfl) (fun w hw => St.mkExi r1A (St.mkExi r1c (St.mkExi r1 (St.unsep (St.addPur ⟨rfl, DrS.perm ⟨by decide, by decide, by decide⟩ hr1_1⟩ (hw.sub (Sub.k (Sub.nil _))))))))))))))
set_option maxRecDepth 100000 in
set_option maxHeartbeats 1000000 in
theorem l01NamedD1_ok (w : World) : Does Tryz.prog 74 [.string (ByteArray.mk #[102, 97, 110, 111])] w [] (fun rv_ => [.exi fun (rA : Option Addr) => .exi fun (rc : Nat) => .exi fun (r : List B3) => .sep (.pur (rv_ = .tuple #[.agg #[.int .i64 7, .slice rA r.length rc], .bool true] ∧ DrS 4000 7 r)) (Own 69 B3C rA rc r)]) := by
 refine Does.enter Tryz.func74 rfl rfl [(0, .string (ByteArray.mk #[102, 97, 110, 111]))] rfl (V.seq (V.region (O.f rfl (Ef.alloc rfl zr26 rfl) ?_)))
 rintro _ _ ⟨b1, rfl, rfl⟩
 refine O.m rfl (O.nil (X.next (V.seq (V.region (O.f rfl (Ef.build B3C ([] : List B3) rfl Tryz.underlying24 inf69 rfl rfl rfl (by first | decide | (simp; done)) (by kernel_rfl)) ?_)))))
 rintro _ _ ⟨A1, hA1, rfl, rfl⟩
 refine O.m rfl (O.nil (X.next (V.seq (V.seq (V.region (O.m rfl (O.nil (X.next (V.block (V.seq (V.region ?_)))))))))))
 refine O.q rfl (Pu.eqlStr (b := false) (by kernel_rfl) rfl rfl rfl) (O.m rfl (O.nil (X.next (V.condF rfl (V.seq (V.region (O.q rfl (Pu.eqlStr (b := true) (by kernel_rfl) rfl rfl rfl) (O.m rfl (O.nil (X.next (V.condT rfl ?_)))))))))))
 refine V.seq (V.region (O.m rfl (O.f rfl (Ef.call call111 rfl rfl (Does.pre (fun w hw => hw.sub (Sub.k (Sub.k (Sub.nil _)))) (l01Turned_ok  ([] : List B3) (7 : Int) (0 : Int) (1 : Int) (3 : Int) _ _ w _   (by decide) (by decide) (by decide) (by decide) (by first | (simp; done) | (rw [hr1_1]; decide +kernel) | (rw [hr2_1, hr1_1]; decide +kernel))))) ?_)))
 rintro _ _ rfl
 refine O.exi (fun r1A => O.exi (fun r1c => O.exi (fun r1 => O.sep (O.pur ?_))))
 rintro ⟨rfl, hr1_1⟩
 refine O.f rfl (Ef.call1 call45 rfl rfl (fun w hw => l01Made_ok  (7 : Int) r1 _ _ w ((Ld.own 0 (by exact rfl)) w hw) (by rw [hr1_1]; decide +kernel) (by rw [hr1_1]; decide +kernel))) ?_
 rintro _ _ rfl
 refine O.exi (fun r2A => O.exi (fun r2c => O.exi (fun r2 => O.sep (O.pur ?_))))
 rintro ⟨rfl, hr2_1, hr2_2⟩
 refine O.s rfl rfl (Ef.storeAll 2 rfl sz26 rfl rfl rfl rfl (by simp [Value.oneCell']) rfl) ?_
 rintro _ _ rfl
 exact O.m rfl (O.nil (X.next (V.ret (X.blockRet (X.thenRet (X.retCell2 rfl ag26 sz26 rfl rfl rfl (Ld.whole 2 rfl) (fun w hw => St.mkExi r2A (St.mkExi r2c (St.mkExi r2 (St.unsep (St.addPur ⟨rfl, DrS.perm (bs := r1) (by rw [hr1_1]; exact ⟨by decide, by decide +kernel, by decide +kernel⟩) hr2_1⟩ (hw.sub (Sub.k (Sub.nil _))))))))))))))
set_option maxRecDepth 100000 in
set_option maxHeartbeats 1000000 in
theorem l01NamedD2_ok (w : World) : Does Tryz.prog 74 [.string (ByteArray.mk #[97, 102, 102, 105, 110, 101])] w [] (fun rv_ => [.exi fun (rA : Option Addr) => .exi fun (rc : Nat) => .exi fun (r : List B3) => .sep (.pur (rv_ = .tuple #[.agg #[.int .i64 9, .slice rA r.length rc], .bool true] ∧ DrS 4000 9 r)) (Own 69 B3C rA rc r)]) := by
 refine Does.enter Tryz.func74 rfl rfl [(0, .string (ByteArray.mk #[97, 102, 102, 105, 110, 101]))] rfl (V.seq (V.region (O.f rfl (Ef.alloc rfl zr26 rfl) ?_)))
 rintro _ _ ⟨b1, rfl, rfl⟩
 refine O.m rfl (O.nil (X.next (V.seq (V.region (O.f rfl (Ef.build B3C ([] : List B3) rfl Tryz.underlying24 inf69 rfl rfl rfl (by first | decide | (simp; done)) (by kernel_rfl)) ?_)))))
 rintro _ _ ⟨A1, hA1, rfl, rfl⟩
 refine O.m rfl (O.nil (X.next (V.seq (V.seq (V.region (O.m rfl (O.nil (X.next (V.block (V.seq (V.region ?_)))))))))))
 refine O.q rfl (Pu.eqlStr (b := false) (by kernel_rfl) rfl rfl rfl) (O.m rfl (O.nil (X.next (V.condF rfl (V.seq (V.region (O.q rfl (Pu.eqlStr (b := false) (by kernel_rfl) rfl rfl rfl) (O.m rfl (O.nil (X.next (V.condF rfl ?_)))))))))))
 refine V.seq (V.region (O.q rfl (Pu.eqlStr (b := false) (by kernel_rfl) rfl rfl rfl) (O.m rfl (O.nil (X.next (V.condF rfl (V.seq (V.region (O.q rfl (Pu.eqlStr (b := false) (by kernel_rfl) rfl rfl rfl) (O.m rfl (O.nil ?_)))))))))))
 refine X.next (V.condF rfl (V.seq (V.seq (V.region (O.q rfl (Pu.eqlStr (b := true) (by kernel_rfl) rfl rfl rfl) (O.m rfl (O.nil (X.next (V.condT rfl (V.skip (X.next ?_)))))))))))
 refine V.condT rfl (V.seq (V.region (O.m rfl (O.nil (X.next (V.seq (V.seq (V.region (O.m rfl (O.q rfl (Pu.eqlStr (b := false) (by kernel_rfl) rfl rfl rfl) (O.nil ?_)))))))))))
 refine X.next (V.condF rfl (V.skip (X.next (V.seq (V.seq (V.region (O.m rfl (O.nil (X.next (V.block (V.loop3 (β := (Option Addr) × Nat × (List B3) × Nat) (fun x => [(4, .slice x.1 x.2.2.1.length x.2.1), (6, .int .i64 (x.2.2.2 : Int))]) _ (fun x => [Own 69 B3C x.1 x.2.1 x.2.2.1]) _ (fun x => x.2.2.2 ≤ 9 ∧ (∀ d ∈ x.2.2.1, good 9 d) ∧ x.2.2.1.length ≤ 225 * x.2.2.2) (fun x => 9 - x.2.2.2) (A1, 0, ([] : List B3), 0) (by (try dsimp only); exact ⟨by omega, by simp, by simp⟩) (Ent.cons rfl (Ent.cons rfl (Ent.nil _))) (Ent.cons (t := 2) rfl (Ent.cons (t := 5) rfl (Ent.nil _))) (Sub.k (Sub.k (Sub.nil _))) ?_)))))))))))
 rintro ⟨z0A, z0c, z0, a⟩ ⟨ha, hg0, hl0⟩
 dsimp only at ha hg0 hl0 ⊢
 refine V.seq (V.seq (V.region (O.m rfl (O.m rfl (O.q rfl (Pu.lss rfl rfl rfl) (O.nil (X.next (V.condD rfl (fun c1 => ?_) (fun c1 => ?_)))))))))
 ·refine V.skip (X.next (V.seq (V.block (V.seq (V.region (O.m rfl (O.q rfl (Pu.add64 (r := ((a + 1 : Nat) : Int)) rfl (by omega) rfl rfl rfl) (O.m rfl (O.nil (X.next (V.block ?_)))))))))))
  refine V.loop3 (β := (Option Addr) × Nat × (List B3) × Nat) (fun x => [(4, .slice x.1 x.2.2.1.length x.2.1), (7, .int .i64 (x.2.2.2 : Int))]) _ (fun x => [Own 69 B3C x.1 x.2.1 x.2.2.1]) _ (fun x => a < x.2.2.2 ∧ x.2.2.2 ≤ 9 ∧ (∀ d ∈ x.2.2.1, good 9 d) ∧ x.2.2.1.length ≤ 225 * a + 15 * x.2.2.2) (fun x => 9 - x.2.2.2) (z0A, z0c, z0, a + 1) (by (try dsimp only); exact ⟨by omega, by omega, hg0, by omega⟩) (Ent.cons rfl (Ent.cons rfl (Ent.nil _))) (Ent.cons (t := 2) rfl (Ent.cons (t := 5) rfl (Ent.cons (t := 6) rfl (Ent.nil _)))) (Sub.k (Sub.k (Sub.nil _))) ?_
  rintro ⟨z1A, z1c, z1, b⟩ ⟨hab, hb, hg1, hl1⟩
  dsimp only at hab hb hg1 hl1 ⊢
  refine V.seq (V.seq (V.region (O.m rfl (O.m rfl (O.q rfl (Pu.lss rfl rfl rfl) (O.nil (X.next (V.condD rfl (fun c2 => ?_) (fun c2 => ?_)))))))))
  ·refine V.skip (X.next (V.seq (V.block (V.seq (V.region (O.m rfl (O.q rfl (Pu.add64 (r := ((b + 1 : Nat) : Int)) rfl (by omega) rfl rfl rfl) (O.m rfl (O.nil (X.next (V.block ?_)))))))))))
   refine V.loop3 (β := (Option Addr) × Nat × (List B3) × Nat) (fun x => [(4, .slice x.1 x.2.2.1.length x.2.1), (8, .int .i64 (x.2.2.2 : Int))]) _ (fun x => [Own 69 B3C x.1 x.2.1 x.2.2.1]) _ (fun x => b < x.2.2.2 ∧ x.2.2.2 ≤ 9 ∧ (∀ d ∈ x.2.2.1, good 9 d) ∧ x.2.2.1.length ≤ 225 * a + 15 * b + x.2.2.2) (fun x => 9 - x.2.2.2) (z1A, z1c, z1, b + 1) (by (try dsimp only); exact ⟨by omega, by omega, hg1, by omega⟩) (Ent.cons rfl (Ent.cons rfl (Ent.nil _))) (Ent.cons (t := 2) rfl (Ent.cons (t := 5) rfl (Ent.cons (t := 6) rfl (Ent.cons (t := 7) rfl (Ent.nil _))))) (Sub.k (Sub.k (Sub.nil _))) ?_
   rintro ⟨z2A, z2c, z2, e⟩ ⟨hbe, he, hg2, hl2⟩
   dsimp only at hbe he hg2 hl2 ⊢
   refine V.seq (V.seq (V.region (O.m rfl (O.m rfl (O.q rfl (Pu.lss rfl rfl rfl) (O.nil (X.next (V.condD rfl (fun c3 => ?_) (fun c3 => ?_)))))))))
   ·refine V.skip (X.next (V.seq (V.block (V.seq (V.region (O.m rfl (O.q rfl (Pu.isT (by decide) (Pu.eql rfl rfl rfl)) (O.m rfl (O.gm rfl (O.gq rfl (Pu.quo64 (by omega) (by omega) (by omega) rfl rfl rfl) (O.gm rfl ?_)))))))))))
    refine O.gq rfl (Pu.quo64 (by omega) (by omega) (by omega) rfl rfl rfl) (O.gq rfl (Pu.add64 rfl (by omega) rfl rfl rfl) (O.gm rfl (O.gq rfl (Pu.quo64 (by omega) (by omega) (by omega) rfl rfl rfl) (O.gq rfl (Pu.add64 rfl (by omega) rfl rfl rfl) (O.gq rfl (Pu.rem64 (by omega) (by omega) rfl rfl rfl) (O.gq rfl (Pu.eql rfl rfl rfl) (O.m rfl (O.m rfl (O.splitD 72 rfl (fun c4 => ?_) (fun c4 => ?_))))))))))
    ·refine O.gm rfl (O.gq rfl (Pu.rem64 (by omega) (by omega) rfl rfl rfl) (O.gm rfl (O.gq rfl (Pu.rem64 (by omega) (by omega) rfl rfl rfl) (O.gq rfl (Pu.add64 rfl (by omega) rfl rfl rfl) (O.gm rfl (O.gq rfl (Pu.rem64 (by omega) (by omega) rfl rfl rfl) (O.gq rfl (Pu.add64 rfl (by omega) rfl rfl rfl) (O.gq rfl (Pu.rem64 (by omega) (by omega) rfl rfl rfl) (O.gq rfl (Pu.eql rfl rfl rfl) (O.m rfl (O.m rfl (O.splitD 84 rfl (fun c5 => ?_) (fun c5 => ?_)))))))))))))
     ·refine O.g rfl (O.g rfl (O.g rfl (O.g rfl (O.g rfl (O.g rfl (O.g rfl (O.g rfl (O.g rfl (O.g rfl (O.g rfl (O.g rfl ?_)))))))))))
      refine O.g rfl (O.m rfl (O.nil (X.next (V.condT rfl (V.region (O.m rfl (O.m rfl (O.m rfl (O.m rfl (O.q rfl (Pu.buildA (cs := [.int .i64 (↑a : Int), .int .i64 (↑b : Int), .int .i64 (↑e : Int)]) (v := B3.v ((↑a : Int), (↑b : Int), (↑e : Int))) rfl rfl Tryz.underlying69 zr69 sz2 rfl (by kernel_rfl)) (O.f rfl (Ef.build B3C ([((↑a : Int), (↑b : Int), (↑e : Int))] : List B3) rfl Tryz.underlying24 inf69 rfl rfl rfl (by first | decide | (simp; done)) (by kernel_rfl)) ?_)))))))))))
      rintro _ _ ⟨A2, hA2, rfl, rfl⟩
      refine O.f rfl (Ef.append (xs := z2) (ys := ([((↑a : Int), (↑b : Int), (↑e : Int))] : List B3)) 1 rfl Tryz.underlying24 inf69 rfl rfl rfl rfl rfl rfl hA2 (Ld.own 0 (by exact rfl)) (by simp only [List.length_append, List.length_cons, List.length_nil] at *; omega) (by decide)) ?_
      rintro _ _ ⟨A3, k1, rfl, rfl, hA3⟩
      replace hA3 := hA3 (.inr (by simp))
      exact O.m rfl (O.nil (X.blockNormal (X.next (V.region (O.m rfl (O.q rfl (Pu.add64 (r := ((e + 1 : Nat) : Int)) rfl (by omega) rfl rfl rfl) (O.m rfl (O.nil (X.back3 (A3, k1, (z2 ++ ([((↑a : Int), (↑b : Int), (↑e : Int))] : List B3)), e + 1) (by (try dsimp only); exact ⟨by omega, by omega, (by first | exact hg2 | exact good_snoc hg2 (by unfold good; simp only; omega)), (by first | omega | (simp only [List.length_append, List.length_singleton]; omega))⟩) (by first | omega | (dsimp only; omega)) (Ent.cons rfl (Ent.cons rfl (Ent.nil _))) (Ent.cons (t := 2) rfl (Ent.cons (t := 5) rfl (Ent.cons (t := 6) rfl (Ent.cons (t := 7) rfl (Ent.nil _))))) (Sub.keep 1 rfl (Sub.keep 1 rfl (Sub.nil _))))))))))))
     ·refine O.gm rfl (O.gq rfl (Pu.isF (by decide) (Pu.eql rfl rfl rfl)) (O.gm rfl (O.g rfl (O.g rfl (O.g rfl (O.g rfl (O.g rfl (O.g rfl (O.g rfl (O.g rfl (O.g rfl ?_)))))))))))
      refine O.gm rfl (O.m rfl (O.nil (X.next (V.condF rfl (V.skip (X.blockNormal (X.next (V.region (O.m rfl (O.q rfl (Pu.add64 (r := ((e + 1 : Nat) : Int)) rfl (by omega) rfl rfl rfl) (O.m rfl ?_)))))))))))
      exact O.nil (X.back3 (z2A, z2c, z2, e + 1) (by (try dsimp only); exact ⟨by omega, by omega, (by first | exact hg2 | exact good_snoc hg2 (by unfold good; simp only; omega)), (by first | omega | (simp only [List.length_append, List.length_singleton]; omega))⟩) (by first | omega | (dsimp only; omega)) (Ent.cons rfl (Ent.cons rfl (Ent.nil _))) (Ent.cons (t := 2) rfl (Ent.cons (t := 5) rfl (Ent.cons (t := 6) rfl (Ent.cons (t := 7) rfl (Ent.nil _))))) (Sub.k (Sub.k (Sub.nil _))))
    ·refine O.g rfl (O.g rfl (O.g rfl (O.g rfl (O.g rfl (O.g rfl (O.g rfl (O.g rfl (O.g rfl (O.g rfl (O.m rfl (O.m rfl ?_)))))))))))
     refine O.gm rfl (O.gq rfl (Pu.isF (by decide) (Pu.eql rfl rfl rfl)) (O.gm rfl (O.g rfl (O.g rfl (O.g rfl (O.g rfl (O.g rfl (O.g rfl (O.g rfl (O.g rfl (O.g rfl ?_)))))))))))
     refine O.gm rfl (O.m rfl (O.nil (X.next (V.condF rfl (V.skip (X.blockNormal (X.next (V.region (O.m rfl (O.q rfl (Pu.add64 (r := ((e + 1 : Nat) : Int)) rfl (by omega) rfl rfl rfl) (O.m rfl ?_)))))))))))
     exact O.nil (X.back3 (z2A, z2c, z2, e + 1) (by (try dsimp only); exact ⟨by omega, by omega, (by first | exact hg2 | exact good_snoc hg2 (by unfold good; simp only; omega)), (by first | omega | (simp only [List.length_append, List.length_singleton]; omega))⟩) (by first | omega | (dsimp only; omega)) (Ent.cons rfl (Ent.cons rfl (Ent.nil _))) (Ent.cons (t := 2) rfl (Ent.cons (t := 5) rfl (Ent.cons (t := 6) rfl (Ent.cons (t := 7) rfl (Ent.nil _))))) (Sub.k (Sub.k (Sub.nil _))))
   ·exact V.exit (X.thenExit (X.thenExit (X.blockHit (X.blockNormal (X.next (V.region (O.m rfl (O.q rfl (Pu.add64 (r := ((b + 1 : Nat) : Int)) rfl (by omega) rfl rfl rfl) (O.m rfl (O.nil (X.back3 (z2A, z2c, z2, b + 1) (by (try dsimp only); exact ⟨by omega, by omega, hg2, by omega⟩) (by first | omega | (dsimp only; omega)) (Ent.cons rfl (Ent.cons rfl (Ent.nil _))) (Ent.cons (t := 2) rfl (Ent.cons (t := 5) rfl (Ent.cons (t := 6) rfl (Ent.nil _)))) (Sub.k (Sub.k (Sub.nil _))))))))))))))
  ·exact V.exit (X.thenExit (X.thenExit (X.blockHit (X.blockNormal (X.next (V.region (O.m rfl (O.q rfl (Pu.add64 (r := ((a + 1 : Nat) : Int)) rfl (by omega) rfl rfl rfl) (O.m rfl (O.nil (X.back3 (z1A, z1c, z1, a + 1) (by (try dsimp only); exact ⟨by omega, hg1, by omega⟩) (by first | omega | (dsimp only; omega)) (Ent.cons rfl (Ent.cons rfl (Ent.nil _))) (Ent.cons (t := 2) rfl (Ent.cons (t := 5) rfl (Ent.nil _))) (Sub.k (Sub.k (Sub.nil _))))))))))))))
 ·refine V.exit (X.thenExit (X.thenExit (X.blockHit (X.next (V.seq (V.region (O.m rfl (O.m rfl (O.f rfl (Ef.call1 call45 rfl rfl (fun w hw => l01Made_ok  (9 : Int) z0 _ _ w ((Ld.own 0 (by exact rfl)) w hw) (by first | omega | (simp only [tops_len, conts_len, bl, List.length_append, List.length_cons, List.length_nil] at *; omega)) (by first | assumption | omega | (try dsimp only at *; omega)))) ?_)))))))))
  rintro _ _ rfl
  refine O.exi (fun r1A => O.exi (fun r1c => O.exi (fun r1 => O.sep (O.pur ?_))))
  rintro ⟨rfl, hr1_1, hr1_2⟩
  refine O.s rfl rfl (Ef.storeAll 2 rfl sz26 rfl rfl rfl rfl (by simp [Value.oneCell']) rfl) ?_
  rintro _ _ rfl
  exact O.m rfl (O.nil (X.next (V.ret (X.blockRet (X.thenRet (X.retCell2 rfl ag26 sz26 rfl rfl rfl (Ld.whole 2 rfl) (fun w hw => St.mkExi r1A (St.mkExi r1c (St.mkExi r1 (St.unsep (St.addPur ⟨rfl, DrS.perm ⟨by decide, hg0, by omega⟩ hr1_1⟩ (hw.sub (Sub.k (Sub.nil _))))))))))))))
set_option maxRecDepth 100000 in
set_option maxHeartbeats 1000000 in
theorem l01NamedD3_ok (w : World) : Does Tryz.prog 74 [.string (ByteArray.mk #[99, 121, 99, 108, 105, 99, 49, 51])] w [] (fun rv_ => [.exi fun (rA : Option Addr) => .exi fun (rc : Nat) => .exi fun (r : List B3) => .sep (.pur (rv_ = .tuple #[.agg #[.int .i64 13, .slice rA r.length rc], .bool true] ∧ DrS 4000 13 r)) (Own 69 B3C rA rc r)]) := by
 refine Does.enter Tryz.func74 rfl rfl [(0, .string (ByteArray.mk #[99, 121, 99, 108, 105, 99, 49, 51]))] rfl (V.seq (V.region (O.f rfl (Ef.alloc rfl zr26 rfl) ?_)))
 rintro _ _ ⟨b1, rfl, rfl⟩
 refine O.m rfl (O.nil (X.next (V.seq (V.region (O.f rfl (Ef.build B3C ([] : List B3) rfl Tryz.underlying24 inf69 rfl rfl rfl (by first | decide | (simp; done)) (by kernel_rfl)) ?_)))))
 rintro _ _ ⟨A1, hA1, rfl, rfl⟩
 refine O.m rfl (O.nil (X.next (V.seq (V.seq (V.region (O.m rfl (O.nil (X.next (V.block (V.seq (V.region ?_)))))))))))
 refine O.q rfl (Pu.eqlStr (b := false) (by kernel_rfl) rfl rfl rfl) (O.m rfl (O.nil (X.next (V.condF rfl (V.seq (V.region (O.q rfl (Pu.eqlStr (b := false) (by kernel_rfl) rfl rfl rfl) (O.m rfl (O.nil (X.next (V.condF rfl ?_)))))))))))
 refine V.seq (V.region (O.q rfl (Pu.eqlStr (b := true) (by kernel_rfl) rfl rfl rfl) (O.m rfl (O.nil (X.next (V.condT rfl (V.seq (V.region (O.m rfl (O.f rfl (Ef.call call111 rfl rfl (Does.pre (fun w hw => hw.sub (Sub.k (Sub.k (Sub.nil _)))) (l01Turned_ok  ([] : List B3) (13 : Int) (0 : Int) (1 : Int) (4 : Int) _ _ w _   (by decide) (by decide) (by decide) (by decide) (by first | (simp; done) | (rw [hr1_1]; decide +kernel) | (rw [hr2_1, hr1_1]; decide +kernel))))) ?_))))))))))
 rintro _ _ rfl
 refine O.exi (fun r1A => O.exi (fun r1c => O.exi (fun r1 => O.sep (O.pur ?_))))
 rintro ⟨rfl, hr1_1⟩
 refine O.f rfl (Ef.call call111 rfl rfl (Does.pre (fun w hw => hw.sub (Sub.k (Sub.k (Sub.nil _)))) (l01Turned_ok  r1 (13 : Int) (0 : Int) (2 : Int) (7 : Int) _ _ w _   (by decide) (by decide) (by decide) (by decide) (by first | (simp; done) | (rw [hr1_1]; decide +kernel) | (rw [hr2_1, hr1_1]; decide +kernel))))) ?_
 rintro _ _ rfl
 refine O.exi (fun r2A => O.exi (fun r2c => O.exi (fun r2 => O.sep (O.pur ?_))))
 rintro ⟨rfl, hr2_1⟩
 refine O.f rfl (Ef.call1 call45 rfl rfl (fun w hw => l01Made_ok  (13 : Int) r2 _ _ w ((Ld.own 0 (by exact rfl)) w hw) (by rw [hr2_1, hr1_1]; decide +kernel) (by rw [hr2_1, hr1_1]; decide +kernel))) ?_
 rintro _ _ rfl
 refine O.exi (fun r3A => O.exi (fun r3c => O.exi (fun r3 => O.sep (O.pur ?_))))
 rintro ⟨rfl, hr3_1, hr3_2⟩
 refine O.s rfl rfl (Ef.storeAll 2 rfl sz26 rfl rfl rfl rfl (by simp [Value.oneCell']) rfl) ?_
 rintro _ _ rfl
 exact O.m rfl (O.nil (X.next (V.ret (X.blockRet (X.thenRet (X.retCell2 rfl ag26 sz26 rfl rfl rfl (Ld.whole 2 rfl) (fun w hw => St.mkExi r3A (St.mkExi r3c (St.mkExi r3 (St.unsep (St.addPur ⟨rfl, DrS.perm (bs := r2) (by rw [hr2_1, hr1_1]; exact ⟨by decide, by decide +kernel, by decide +kernel⟩) hr3_1⟩ (hw.sub (Sub.k (Sub.nil _))))))))))))))
set_option maxRecDepth 100000 in
set_option maxHeartbeats 1000000 in
theorem l01NamedD4_ok (w : World) : Does Tryz.prog 74 [.string (ByteArray.mk #[99, 121, 99, 108, 105, 99, 49, 53])] w [] (fun rv_ => [.exi fun (rA : Option Addr) => .exi fun (rc : Nat) => .exi fun (r : List B3) => .sep (.pur (rv_ = .tuple #[.agg #[.int .i64 15, .slice rA r.length rc], .bool true] ∧ DrS 4000 15 r)) (Own 69 B3C rA rc r)]) := by
 refine Does.enter Tryz.func74 rfl rfl [(0, .string (ByteArray.mk #[99, 121, 99, 108, 105, 99, 49, 53]))] rfl (V.seq (V.region (O.f rfl (Ef.alloc rfl zr26 rfl) ?_)))
 rintro _ _ ⟨b1, rfl, rfl⟩
 refine O.m rfl (O.nil (X.next (V.seq (V.region (O.f rfl (Ef.build B3C ([] : List B3) rfl Tryz.underlying24 inf69 rfl rfl rfl (by first | decide | (simp; done)) (by kernel_rfl)) ?_)))))
 rintro _ _ ⟨A1, hA1, rfl, rfl⟩
 refine O.m rfl (O.nil (X.next (V.seq (V.seq (V.region (O.m rfl (O.nil (X.next (V.block (V.seq (V.region ?_)))))))))))
 refine O.q rfl (Pu.eqlStr (b := false) (by kernel_rfl) rfl rfl rfl) (O.m rfl (O.nil (X.next (V.condF rfl (V.seq (V.region (O.q rfl (Pu.eqlStr (b := false) (by kernel_rfl) rfl rfl rfl) (O.m rfl (O.nil (X.next (V.condF rfl ?_)))))))))))
 refine V.seq (V.region (O.q rfl (Pu.eqlStr (b := false) (by kernel_rfl) rfl rfl rfl) (O.m rfl (O.nil (X.next (V.condF rfl (V.seq (V.region (O.q rfl (Pu.eqlStr (b := true) (by kernel_rfl) rfl rfl rfl) (O.m rfl (O.nil ?_)))))))))))
 refine X.next (V.condT rfl (V.seq (V.region (O.m rfl (O.f rfl (Ef.call call111 rfl rfl (Does.pre (fun w hw => hw.sub (Sub.k (Sub.k (Sub.nil _)))) (l01Turned_ok  ([] : List B3) (15 : Int) (0 : Int) (1 : Int) (4 : Int) _ _ w _   (by decide) (by decide) (by decide) (by decide) (by first | (simp; done) | (rw [hr1_1]; decide +kernel) | (rw [hr2_1, hr1_1]; decide +kernel))))) ?_)))))
 rintro _ _ rfl
 refine O.exi (fun r1A => O.exi (fun r1c => O.exi (fun r1 => O.sep (O.pur ?_))))
 rintro ⟨rfl, hr1_1⟩
 refine O.f rfl (Ef.call call111 rfl rfl (Does.pre (fun w hw => hw.sub (Sub.k (Sub.k (Sub.nil _)))) (l01Turned_ok  r1 (15 : Int) (0 : Int) (2 : Int) (8 : Int) _ _ w _   (by decide) (by decide) (by decide) (by decide) (by first | (simp; done) | (rw [hr1_1]; decide +kernel) | (rw [hr2_1, hr1_1]; decide +kernel))))) ?_
 rintro _ _ rfl
 refine O.exi (fun r2A => O.exi (fun r2c => O.exi (fun r2 => O.sep (O.pur ?_))))
 rintro ⟨rfl, hr2_1⟩
 refine O.f rfl (Ef.call call111 rfl rfl (Does.pre (fun w hw => hw.sub (Sub.k (Sub.k (Sub.nil _)))) (l01Turned_ok  r2 (15 : Int) (0 : Int) (5 : Int) (10 : Int) _ _ w _   (by decide) (by decide) (by decide) (by decide) (by first | (simp; done) | (rw [hr1_1]; decide +kernel) | (rw [hr2_1, hr1_1]; decide +kernel))))) ?_
 rintro _ _ rfl
 refine O.exi (fun r3A => O.exi (fun r3c => O.exi (fun r3 => O.sep (O.pur ?_))))
 rintro ⟨rfl, hr3_1⟩
 refine O.f rfl (Ef.call1 call45 rfl rfl (fun w hw => l01Made_ok  (15 : Int) r3 _ _ w ((Ld.own 0 (by exact rfl)) w hw) (by rw [hr3_1, hr2_1, hr1_1]; decide +kernel) (by rw [hr3_1, hr2_1, hr1_1]; decide +kernel))) ?_
 rintro _ _ rfl
 refine O.exi (fun r4A => O.exi (fun r4c => O.exi (fun r4 => O.sep (O.pur ?_))))
 rintro ⟨rfl, hr4_1, hr4_2⟩
 refine O.s rfl rfl (Ef.storeAll 2 rfl sz26 rfl rfl rfl rfl (by simp [Value.oneCell']) rfl) ?_
 rintro _ _ rfl
 exact O.m rfl (O.nil (X.next (V.ret (X.blockRet (X.thenRet (X.retCell2 rfl ag26 sz26 rfl rfl rfl (Ld.whole 2 rfl) (fun w hw => St.mkExi r4A (St.mkExi r4c (St.mkExi r4 (St.unsep (St.addPur ⟨rfl, DrS.perm (bs := r3) (by rw [hr3_1, hr2_1, hr1_1]; exact ⟨by decide, by decide +kernel, by decide +kernel⟩) hr4_1⟩ (hw.sub (Sub.k (Sub.nil _))))))))))))))
end Go.Proofs.YtoeldiaidjnibaaGreat
