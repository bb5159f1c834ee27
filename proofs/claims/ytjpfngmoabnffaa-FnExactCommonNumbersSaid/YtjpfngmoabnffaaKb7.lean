/-
  Contracts, part 7.
-/
import Derived.Test.YtjpfngmoabnffaaKb6
set_option linter.unusedVariables false
set_option linter.unusedSimpArgs false
namespace Go.Proofs.Ytjpfngmoabnffaa
open Go Go.RowKit Go.Vc Go.Proofs
set_option maxRecDepth 100000 in
theorem markBlockX_ok (xs : List B3) (m : Int) (A : Option Addr) (c : Nat) (w0 : World) (H : List Assn) (hm : 0 ≤ m ∧ m ≤ 1152921504606846976) (lx : xs.length ≤ 1099511627776) : Does Try.prog 78 [.slice A xs.length c, .int .i64 m] w0 (Own 75 B3C A c xs :: H) (fun v => .pur (v = .int .i64 (m + 3 * xs.length)) :: Own 75 B3C A c (marksB m xs.length) :: H) := by
  refine Does.enter Try.func78 rfl rfl [(0, .slice A xs.length c), (1, .int .i64 m)] rfl ?_
  refine V.seq ?_
  refine V.region ?_
  refine O.p rfl rfl rfl (Pu.assign rfl rfl) ?_
  refine O.nil ?_
  refine X.next ?_
  refine V.seq ?_
  refine V.seq ?_
  refine V.region ?_
  refine O.p rfl rfl rfl (Pu.assign rfl rfl) ?_
  refine O.nil ?_
  refine X.next ?_
  refine V.block ?_
  refine V.loop3 (β := Nat) (fun k => [(5, .int .i64 (k : Int)), (1, .int .i64 (m + 3 * (k : Int)))]) _ (fun k => [Own 75 B3C A c (markBAt xs m k)]) _ (fun k => k ≤ xs.length) (fun k => xs.length - k) 0 (by omega) (Ent.cons rfl (Ent.cons' rfl (iv (by omega)) (Ent.nil _))) (Ent.cons (t := 0) rfl (Ent.cons (t := 4) rfl (Ent.nil _))) (Sub.cons 0 rfl (fun w F h => by rw [markBAt_zero]; exact h) (Sub.refl _)) ?_
  rintro k hk
  refine V.seq ?_
  refine V.seq ?_
  refine V.region ?_
  refine O.p rfl rfl rfl (Pu.move rfl rfl) ?_
  refine O.p rfl rfl rfl (Pu.move rfl rfl) ?_
  refine O.p rfl rfl rfl (Pu.len rfl Try.underlying28 rfl) ?_
  refine O.p rfl rfl rfl (Pu.lss rfl rfl rfl) ?_
  refine O.nil ?_
  refine X.next ?_
  refine V.condD rfl (fun c1 => ?_) (fun c1 => ?_)
  · skip
    refine V.skip ?_
    refine X.next ?_
    refine V.seq ?_
    refine V.block ?_
    refine V.seq ?_
    refine V.region ?_
    refine O.p rfl rfl rfl (Pu.assign rfl rfl) ?_
    refine O.nil ?_
    refine X.next ?_
    refine V.block ?_
    refine V.unroll 3 ?_
    refine V.seq ?_
    refine V.seq ?_
    refine V.region ?_
    refine O.p rfl rfl rfl (Pu.move rfl rfl) ?_
    refine O.p rfl rfl rfl (Pu.isT (by decide) (Pu.lss rfl rfl rfl)) ?_
    refine O.nil ?_
    refine X.next ?_
    refine V.condT rfl ?_
    refine V.skip ?_
    refine X.next ?_
    refine V.seq ?_
    refine V.block ?_
    refine V.seq ?_
    refine V.region ?_
    refine O.p rfl rfl rfl (Pu.move rfl rfl) ?_
    refine O.p rfl rfl rfl (Pu.move rfl rfl) ?_
    refine O.p rfl rfl rfl (Pu.move rfl rfl) ?_
    refine O.p rfl rfl rfl (Pu.move rfl rfl) ?_
    refine O.p rfl rfl rfl (Pu.indexAddrS (k) rfl Try.underlying28 sz75 rfl rfl (by omega) (by omega) (fun w hw => Own.some hw (i := 0) (by exact rfl) (by (try simp only [List.length_set]); rw [markBAt_len hk]; omega))) ?_
    refine O.p rfl rfl rfl (Pu.indexArr' (0) rfl Try.underlying75 sz2 rfl rfl (by omega) (by omega) rfl (fun w hw => by have := Own.some hw (i := 0) (by exact rfl) (by (try simp only [List.length_set]); rw [markBAt_len hk]; omega); simpa using this)) ?_
    refine O.s rfl rfl (Ef.storeOwnAt 0 (k) (0) (((m + 3 * (↑k : Int)), ((markBAt xs m k)[k]'(by (try simp only [List.length_set]); rw [markBAt_len hk]; omega)).2.1, ((markBAt xs m k)[k]'(by (try simp only [List.length_set]); rw [markBAt_len hk]; omega)).2.2) : B3) rfl sz2 rfl rfl rfl rfl (by (try simp only [List.length_set]); rw [markBAt_len hk]; omega) (by decide) rfl rfl (by rfl)) ?_
    rintro _ _ rfl
    refine O.nil ?_
    refine X.next ?_
    refine V.region ?_
    refine O.p rfl rfl rfl (Pu.move rfl rfl) ?_
    refine O.p rfl rfl rfl (Pu.add64 rfl (by omega) rfl rfl rfl) ?_
    refine O.p rfl rfl rfl (Pu.assign rfl rfl) ?_
    refine O.nil ?_
    refine X.blockNormal ?_
    refine X.next ?_
    refine V.region ?_
    refine O.p rfl rfl rfl (Pu.move rfl rfl) ?_
    refine O.p rfl rfl rfl (Pu.add64 (r := 1) (by decide) (by decide) rfl rfl rfl) ?_
    refine O.p rfl rfl rfl (Pu.assign rfl rfl) ?_
    refine O.nil ?_
    refine X.again 2 ?_
    refine V.seq ?_
    refine V.seq ?_
    refine V.region ?_
    refine O.p rfl rfl rfl (Pu.move rfl rfl) ?_
    refine O.p rfl rfl rfl (Pu.isT (by decide) (Pu.lss rfl rfl rfl)) ?_
    refine O.nil ?_
    refine X.next ?_
    refine V.condT rfl ?_
    refine V.skip ?_
    refine X.next ?_
    refine V.seq ?_
    refine V.block ?_
    refine V.seq ?_
    refine V.region ?_
    refine O.p rfl rfl rfl (Pu.move rfl rfl) ?_
    refine O.p rfl rfl rfl (Pu.move rfl rfl) ?_
    refine O.p rfl rfl rfl (Pu.move rfl rfl) ?_
    refine O.p rfl rfl rfl (Pu.move rfl rfl) ?_
    refine O.p rfl rfl rfl (Pu.indexAddrS (k) rfl Try.underlying28 sz75 rfl rfl (by omega) (by omega) (fun w hw => Own.some hw (i := 0) (by exact rfl) (by (try simp only [List.length_set]); rw [markBAt_len hk]; omega))) ?_
    refine O.p rfl rfl rfl (Pu.indexArr' (1) rfl Try.underlying75 sz2 rfl rfl (by omega) (by omega) rfl (fun w hw => by have := Own.some hw (i := 0) (by exact rfl) (by (try simp only [List.length_set]); rw [markBAt_len hk]; omega); simpa using this)) ?_
    refine O.s rfl rfl (Ef.storeOwnAt 0 (k) (1) (((((markBAt xs m k).set k (((m + 3 * (↑k : Int)), ((markBAt xs m k)[k]'(by (try simp only [List.length_set]); rw [markBAt_len hk]; omega)).2.1, ((markBAt xs m k)[k]'(by (try simp only [List.length_set]); rw [markBAt_len hk]; omega)).2.2) : B3))[k]'(by (try simp only [List.length_set]); rw [markBAt_len hk]; omega)).1, ((m + 3 * (↑k : Int)) + (1 : Int)), (((markBAt xs m k).set k (((m + 3 * (↑k : Int)), ((markBAt xs m k)[k]'(by (try simp only [List.length_set]); rw [markBAt_len hk]; omega)).2.1, ((markBAt xs m k)[k]'(by (try simp only [List.length_set]); rw [markBAt_len hk]; omega)).2.2) : B3))[k]'(by (try simp only [List.length_set]); rw [markBAt_len hk]; omega)).2.2) : B3) rfl sz2 rfl rfl rfl rfl (by (try simp only [List.length_set]); rw [markBAt_len hk]; omega) (by decide) rfl rfl (by rfl)) ?_
    rintro _ _ rfl
    refine O.nil ?_
    refine X.next ?_
    refine V.region ?_
    refine O.p rfl rfl rfl (Pu.move rfl rfl) ?_
    refine O.p rfl rfl rfl (Pu.add64 rfl (by omega) rfl rfl rfl) ?_
    refine O.p rfl rfl rfl (Pu.assign rfl rfl) ?_
    refine O.nil ?_
    refine X.blockNormal ?_
    refine X.next ?_
    refine V.region ?_
    refine O.p rfl rfl rfl (Pu.move rfl rfl) ?_
    refine O.p rfl rfl rfl (Pu.add64 (r := 2) (by decide) (by decide) rfl rfl rfl) ?_
    refine O.p rfl rfl rfl (Pu.assign rfl rfl) ?_
    refine O.nil ?_
    refine X.again 1 ?_
    refine V.seq ?_
    refine V.seq ?_
    refine V.region ?_
    refine O.p rfl rfl rfl (Pu.move rfl rfl) ?_
    refine O.p rfl rfl rfl (Pu.isT (by decide) (Pu.lss rfl rfl rfl)) ?_
    refine O.nil ?_
    refine X.next ?_
    refine V.condT rfl ?_
    refine V.skip ?_
    refine X.next ?_
    refine V.seq ?_
    refine V.block ?_
    refine V.seq ?_
    refine V.region ?_
    refine O.p rfl rfl rfl (Pu.move rfl rfl) ?_
    refine O.p rfl rfl rfl (Pu.move rfl rfl) ?_
    refine O.p rfl rfl rfl (Pu.move rfl rfl) ?_
    refine O.p rfl rfl rfl (Pu.move rfl rfl) ?_
    refine O.p rfl rfl rfl (Pu.indexAddrS (k) rfl Try.underlying28 sz75 rfl rfl (by omega) (by omega) (fun w hw => Own.some hw (i := 0) (by exact rfl) (by (try simp only [List.length_set]); rw [markBAt_len hk]; omega))) ?_
    refine O.p rfl rfl rfl (Pu.indexArr' (2) rfl Try.underlying75 sz2 rfl rfl (by omega) (by omega) rfl (fun w hw => by have := Own.some hw (i := 0) (by exact rfl) (by (try simp only [List.length_set]); rw [markBAt_len hk]; omega); simpa using this)) ?_
    refine O.s rfl rfl (Ef.storeOwnAt 0 (k) (2) ((((((markBAt xs m k).set k (((m + 3 * (↑k : Int)), ((markBAt xs m k)[k]'(by (try simp only [List.length_set]); rw [markBAt_len hk]; omega)).2.1, ((markBAt xs m k)[k]'(by (try simp only [List.length_set]); rw [markBAt_len hk]; omega)).2.2) : B3)).set k (((((markBAt xs m k).set k (((m + 3 * (↑k : Int)), ((markBAt xs m k)[k]'(by (try simp only [List.length_set]); rw [markBAt_len hk]; omega)).2.1, ((markBAt xs m k)[k]'(by (try simp only [List.length_set]); rw [markBAt_len hk]; omega)).2.2) : B3))[k]'(by (try simp only [List.length_set]); rw [markBAt_len hk]; omega)).1, ((m + 3 * (↑k : Int)) + (1 : Int)), (((markBAt xs m k).set k (((m + 3 * (↑k : Int)), ((markBAt xs m k)[k]'(by (try simp only [List.length_set]); rw [markBAt_len hk]; omega)).2.1, ((markBAt xs m k)[k]'(by (try simp only [List.length_set]); rw [markBAt_len hk]; omega)).2.2) : B3))[k]'(by (try simp only [List.length_set]); rw [markBAt_len hk]; omega)).2.2) : B3))[k]'(by (try simp only [List.length_set]); rw [markBAt_len hk]; omega)).1, ((((markBAt xs m k).set k (((m + 3 * (↑k : Int)), ((markBAt xs m k)[k]'(by (try simp only [List.length_set]); rw [markBAt_len hk]; omega)).2.1, ((markBAt xs m k)[k]'(by (try simp only [List.length_set]); rw [markBAt_len hk]; omega)).2.2) : B3)).set k (((((markBAt xs m k).set k (((m + 3 * (↑k : Int)), ((markBAt xs m k)[k]'(by (try simp only [List.length_set]); rw [markBAt_len hk]; omega)).2.1, ((markBAt xs m k)[k]'(by (try simp only [List.length_set]); rw [markBAt_len hk]; omega)).2.2) : B3))[k]'(by (try simp only [List.length_set]); rw [markBAt_len hk]; omega)).1, ((m + 3 * (↑k : Int)) + (1 : Int)), (((markBAt xs m k).set k (((m + 3 * (↑k : Int)), ((markBAt xs m k)[k]'(by (try simp only [List.length_set]); rw [markBAt_len hk]; omega)).2.1, ((markBAt xs m k)[k]'(by (try simp only [List.length_set]); rw [markBAt_len hk]; omega)).2.2) : B3))[k]'(by (try simp only [List.length_set]); rw [markBAt_len hk]; omega)).2.2) : B3))[k]'(by (try simp only [List.length_set]); rw [markBAt_len hk]; omega)).2.1, (((m + 3 * (↑k : Int)) + (1 : Int)) + (1 : Int))) : B3) rfl sz2 rfl rfl rfl rfl (by (try simp only [List.length_set]); rw [markBAt_len hk]; omega) (by decide) rfl rfl (by rfl)) ?_
    rintro _ _ rfl
    refine O.nil ?_
    refine X.next ?_
    refine V.region ?_
    refine O.p rfl rfl rfl (Pu.move rfl rfl) ?_
    refine O.p rfl rfl rfl (Pu.add64 rfl (by omega) rfl rfl rfl) ?_
    refine O.p rfl rfl rfl (Pu.assign rfl rfl) ?_
    refine O.nil ?_
    refine X.blockNormal ?_
    refine X.next ?_
    refine V.region ?_
    refine O.p rfl rfl rfl (Pu.move rfl rfl) ?_
    refine O.p rfl rfl rfl (Pu.add64 (r := 3) (by decide) (by decide) rfl rfl rfl) ?_
    refine O.p rfl rfl rfl (Pu.assign rfl rfl) ?_
    refine O.nil ?_
    refine X.again 0 ?_
    refine V.seq ?_
    refine V.seq ?_
    refine V.region ?_
    refine O.p rfl rfl rfl (Pu.move rfl rfl) ?_
    refine O.p rfl rfl rfl (Pu.isF (by decide) (Pu.lss rfl rfl rfl)) ?_
    refine O.nil ?_
    refine X.next ?_
    refine V.condF rfl ?_
    refine V.exit ?_
    refine X.thenExit ?_
    refine X.thenExit ?_
    refine X.blockHit ?_
    refine X.blockNormal ?_
    refine X.next ?_
    refine V.region ?_
    refine O.p rfl rfl rfl (Pu.move rfl rfl) ?_
    refine O.p rfl rfl rfl (Pu.add64 (r := ((k + 1 : Nat) : Int)) rfl (by omega) rfl rfl rfl) ?_
    refine O.p rfl rfl rfl (Pu.assign rfl rfl) ?_
    refine O.nil ?_
    exact X.back3 (k + 1) (by omega) (by omega) (Ent.cons rfl (Ent.cons' rfl (iv (by omega)) (Ent.nil _))) (Ent.cons (t := 0) rfl (Ent.cons (t := 4) rfl (Ent.nil _))) (Sub.cons 0 rfl (fun w F h => by have e : ((((markBAt xs m k).set k (((m + 3 * (↑k : Int)), ((markBAt xs m k)[k]'(by (try simp only [List.length_set]); rw [markBAt_len hk]; omega)).2.1, ((markBAt xs m k)[k]'(by (try simp only [List.length_set]); rw [markBAt_len hk]; omega)).2.2) : B3)).set k (((((markBAt xs m k).set k (((m + 3 * (↑k : Int)), ((markBAt xs m k)[k]'(by (try simp only [List.length_set]); rw [markBAt_len hk]; omega)).2.1, ((markBAt xs m k)[k]'(by (try simp only [List.length_set]); rw [markBAt_len hk]; omega)).2.2) : B3))[k]'(by (try simp only [List.length_set]); rw [markBAt_len hk]; omega)).1, ((m + 3 * (↑k : Int)) + (1 : Int)), (((markBAt xs m k).set k (((m + 3 * (↑k : Int)), ((markBAt xs m k)[k]'(by (try simp only [List.length_set]); rw [markBAt_len hk]; omega)).2.1, ((markBAt xs m k)[k]'(by (try simp only [List.length_set]); rw [markBAt_len hk]; omega)).2.2) : B3))[k]'(by (try simp only [List.length_set]); rw [markBAt_len hk]; omega)).2.2) : B3)).set k ((((((markBAt xs m k).set k (((m + 3 * (↑k : Int)), ((markBAt xs m k)[k]'(by (try simp only [List.length_set]); rw [markBAt_len hk]; omega)).2.1, ((markBAt xs m k)[k]'(by (try simp only [List.length_set]); rw [markBAt_len hk]; omega)).2.2) : B3)).set k (((((markBAt xs m k).set k (((m + 3 * (↑k : Int)), ((markBAt xs m k)[k]'(by (try simp only [List.length_set]); rw [markBAt_len hk]; omega)).2.1, ((markBAt xs m k)[k]'(by (try simp only [List.length_set]); rw [markBAt_len hk]; omega)).2.2) : B3))[k]'(by (try simp only [List.length_set]); rw [markBAt_len hk]; omega)).1, ((m + 3 * (↑k : Int)) + (1 : Int)), (((markBAt xs m k).set k (((m + 3 * (↑k : Int)), ((markBAt xs m k)[k]'(by (try simp only [List.length_set]); rw [markBAt_len hk]; omega)).2.1, ((markBAt xs m k)[k]'(by (try simp only [List.length_set]); rw [markBAt_len hk]; omega)).2.2) : B3))[k]'(by (try simp only [List.length_set]); rw [markBAt_len hk]; omega)).2.2) : B3))[k]'(by (try simp only [List.length_set]); rw [markBAt_len hk]; omega)).1, ((((markBAt xs m k).set k (((m + 3 * (↑k : Int)), ((markBAt xs m k)[k]'(by (try simp only [List.length_set]); rw [markBAt_len hk]; omega)).2.1, ((markBAt xs m k)[k]'(by (try simp only [List.length_set]); rw [markBAt_len hk]; omega)).2.2) : B3)).set k (((((markBAt xs m k).set k (((m + 3 * (↑k : Int)), ((markBAt xs m k)[k]'(by (try simp only [List.length_set]); rw [markBAt_len hk]; omega)).2.1, ((markBAt xs m k)[k]'(by (try simp only [List.length_set]); rw [markBAt_len hk]; omega)).2.2) : B3))[k]'(by (try simp only [List.length_set]); rw [markBAt_len hk]; omega)).1, ((m + 3 * (↑k : Int)) + (1 : Int)), (((markBAt xs m k).set k (((m + 3 * (↑k : Int)), ((markBAt xs m k)[k]'(by (try simp only [List.length_set]); rw [markBAt_len hk]; omega)).2.1, ((markBAt xs m k)[k]'(by (try simp only [List.length_set]); rw [markBAt_len hk]; omega)).2.2) : B3))[k]'(by (try simp only [List.length_set]); rw [markBAt_len hk]; omega)).2.2) : B3))[k]'(by (try simp only [List.length_set]); rw [markBAt_len hk]; omega)).2.1, (((m + 3 * (↑k : Int)) + (1 : Int)) + (1 : Int))) : B3)) = markBAt xs m (k + 1) := (by rw [← markBAt_set (m := m) (k := k) (by omega)]; simp only [List.set_set, List.getElem_set_self]; congr 1; refine Prod.ext ?_ (Prod.ext ?_ ?_) <;> dsimp only <;> omega); exact e ▸ h) (Sub.refl _))
  · skip
    refine V.exit ?_
    refine X.thenExit ?_
    refine X.thenExit ?_
    refine X.blockHit ?_
    refine X.next ?_
    refine V.seq ?_
    refine V.region ?_
    refine O.p rfl rfl rfl (Pu.move rfl rfl) ?_
    refine O.p rfl rfl rfl (Pu.assign rfl rfl) ?_
    refine O.nil ?_
    refine X.next ?_
    refine V.ret ?_
    refine X.ret1 rfl rfl ?_
    exact fun w hw => St.addPur (iv (by omega)) (hw.sub (Sub.cons 0 rfl (fun w F h => by rw [markBAt_all (by omega)] at h; exact h) (Sub.refl _)))
set_option maxRecDepth 100000 in
theorem markSystemX_ok (p : Int) (xs : List B3) (m : Int) (A : Option Addr) (c : Nat) (w0 : World) (H : List Assn) (hm : 0 ≤ m ∧ m ≤ 1152921504606846976) (lx : xs.length ≤ 1099511627776) : Does Try.prog 25 [.agg #[.int .i64 p, .slice A xs.length c], .int .i64 m] w0 (Own 75 B3C A c xs :: H) (fun v => .pur (v = .int .i64 (m + 3 * xs.length)) :: Own 75 B3C A c (marksB m xs.length) :: H) := by
  refine Does.enter Try.func25 rfl rfl [(0, .agg #[.int .i64 p, .slice A xs.length c]), (1, .int .i64 m)] rfl ?_
  refine V.seq ?_
  refine V.region ?_
  refine O.e rfl rfl rfl (Ef.box rfl rfl rfl) ?_
  rintro _ _ ⟨b1, rfl, rfl⟩
  refine O.p rfl rfl rfl (Pu.assign rfl rfl) ?_
  refine O.nil ?_
  refine X.next ?_
  refine V.seq ?_
  refine V.region ?_
  refine O.p rfl rfl rfl (Pu.fieldAddr 1 rfl Try.underlying30 rfl sz28 rfl rfl) ?_
  refine O.p rfl rfl rfl (Pu.load rfl pl28 rfl (Ld.blk 0 rfl rfl)) ?_
  refine O.p rfl rfl rfl (Pu.move rfl rfl) ?_
  refine O.e rfl rfl rfl (Ef.callM 1 call78 rfl rfl rfl (fun H _ => markBlockX_ok _ _ _ _ _ H (by omega) (by omega))) ?_
  rintro _ _ ⟨rfl, rfl⟩
  refine O.p rfl rfl rfl (Pu.assign rfl rfl) ?_
  refine O.nil ?_
  refine X.next ?_
  refine V.seq ?_
  refine V.region ?_
  refine O.p rfl rfl rfl (Pu.move rfl rfl) ?_
  refine O.p rfl rfl rfl (Pu.assign rfl rfl) ?_
  refine O.nil ?_
  refine X.next ?_
  refine V.ret ?_
  refine X.ret1 rfl rfl ?_
  exact fun w hw => St.addPur rfl (hw.sub (Sub.keep 1 rfl (Sub.drop (Sub.refl _))))
set_option maxRecDepth 100000 in
set_option maxHeartbeats 1000000 in
theorem implCommonNumbers_ok (v : Int) (bs : List B3) (A : Option Addr) (c : Nat) (w : World) (hx : Rd B3C w A bs) (lx : bs.length ≤ 4611686018427387904) : Does Try.prog 32 [.agg #[.int .i64 v, .slice A bs.length c]] w [] (fun r => [.exi fun (oA : Option Addr) => .exi fun (oc : Nat) => .exi fun (o : List Int) => .sep (.pur (r = .tuple #[.slice oA o.length oc, .int .i64 ((cmR v bs).2)] ∧ o = (cmR v bs).1)) (Own 2 I64 oA oc o)]) := by
  refine Does.enter Try.func32 rfl rfl [(0, .agg #[.int .i64 v, .slice A bs.length c])] rfl ?_
  refine V.seq ?_
  refine V.region ?_
  refine O.e rfl rfl rfl (Ef.box rfl rfl rfl) ?_
  rintro _ _ ⟨b1, rfl, rfl⟩
  refine O.p rfl rfl rfl (Pu.assign rfl rfl) ?_
  refine O.p rfl rfl rfl (Pu.assign rfl rfl) ?_
  refine O.nil ?_
  refine X.next ?_
  refine V.seq ?_
  refine V.seq ?_
  refine V.region ?_
  refine O.p rfl rfl rfl (Pu.loadAgg rfl ag30 sz30 rfl rfl (Ld.whole 0 rfl)) ?_
  refine O.e rfl rfl rfl (Ef.callP call64 rfl rfl (fun w hw => fewCode_ok  v bs _ _ w ((Ld.old hx) w hw) (by first | omega | (simp only [tops_len, conts_len, bl, List.length_append, List.length_cons, List.length_nil] at *; omega)) )) ?_
  rintro _ _ ⟨rfl, rfl⟩
  refine O.p rfl rfl rfl (Pu.assign rfl rfl) ?_
  refine O.nil ?_
  refine X.next ?_
  refine V.seq ?_
  refine V.region ?_
  refine O.p rfl rfl rfl (Pu.move rfl rfl) ?_
  refine O.p rfl rfl rfl (Pu.neq rfl rfl rfl) ?_
  refine O.nil ?_
  refine X.next ?_
  refine V.condNot rfl (fun c1 => ?_) (fun c1 => ?_)
  · skip
    refine V.seq ?_
    refine V.region ?_
    refine O.p rfl rfl rfl (Pu.move rfl rfl) ?_
    refine O.p rfl rfl rfl (Pu.assign rfl rfl) ?_
    refine O.p rfl rfl rfl (Pu.assign rfl rfl) ?_
    refine O.nil ?_
    refine X.next ?_
    refine V.ret ?_
    refine X.thenRet ?_
    refine X.ret2 rfl rfl rfl ?_
    exact fun w hw => St.mkExi none (St.mkExi 0 (St.mkExi [] (St.unsep (St.addPur ⟨(by rw [cmR_no rfl c1]; try rfl), (by rw [cmR_no rfl c1])⟩ (St.addNil (T := 2) (C := I64) (hw.sub (Sub.nil _)))))))
  · skip
    have hS : STS v bs := by apply Decidable.byContradiction; intro h; rw [if_neg h] at c1; exact absurd c1 (by decide)
    rw [if_pos hS] at c1
    have hF : Few v bs := by apply Decidable.byContradiction; intro h; rw [if_neg h] at c1; exact absurd c1 (by decide)
    clear c1
    have hfl := few_len hF.1
    have hflt := few_lt hF.1
    have hfw := hS.few
    have hlb := few_left hF
    refine V.skip ?_
    refine X.next ?_
    refine V.seq ?_
    refine V.region ?_
    refine O.p rfl rfl rfl (Pu.fieldAddr 1 rfl Try.underlying30 rfl sz28 rfl rfl) ?_
    refine O.p rfl rfl rfl (Pu.load rfl pl28 rfl (Ld.blk 0 rfl rfl)) ?_
    refine O.p rfl rfl rfl (Pu.len rfl Try.underlying28 rfl) ?_
    refine O.p rfl rfl rfl (Pu.add64 (r := ((bs.length + 1 : Nat) : Int)) rfl (by omega) rfl rfl rfl) ?_
    refine O.e rfl rfl rfl (Ef.make I64 (0 : Int) rfl Try.underlying43 inf2 rfl rfl rfl rfl (by omega) (by omega)) ?_
    rintro _ _ ⟨A1, hA1, rfl, rfl⟩
    refine O.p rfl rfl rfl (Pu.assign rfl rfl) ?_
    refine O.nil ?_
    refine X.next ?_
    refine V.seq ?_
    refine V.seq ?_
    refine V.region ?_
    refine O.p rfl rfl rfl (Pu.fieldAddr 0 rfl Try.underlying30 rfl sz2 rfl rfl) ?_
    refine O.p rfl rfl rfl (Pu.load rfl pl2 rfl (Ld.blk 1 rfl rfl)) ?_
    refine O.e rfl rfl rfl (Ef.call1 call66 rfl rfl (fun w hw => systemsOfI_ok 40 v w   hfl.2.2.2 hfl.2.2.1 hfl.2.1 hfl.1 (by decide))) ?_
    rintro _ _ rfl
    refine O.exi (fun r1A => ?_)
    refine O.exi (fun r1c => ?_)
    refine O.exi (fun r1 => ?_)
    refine O.sep ?_
    refine O.pur ?_
    rintro ⟨rfl, hr1_1⟩
    refine O.sep ?_
    refine O.fact (RowsA.len 1 rfl) (fun hn_r1 => ?_)
    have htl_r1 := tops_len r1
    have hclr1 := conts_len r1
    have hcl2 := hclr1
    rw [hr1_1] at hcl2
    have hrow : ∀ k (hk : k < r1.length), (r1[k]).2 ∈ compM 40 v.toNat 0 := fun k hk => by rw [← hr1_1]; exact List.mem_map_of_mem (List.getElem_mem hk)
    have hcm : ∀ k (hk : k < r1.length), (r1[k]).2.length = bs.length := fun k hk => by have h1 := comp_count 40 _ 0 _ hfl.2.2.1 (hrow k hk); omega
    have hcs : ∀ k (hk : k < r1.length), (r1[k]).2.Pairwise B3.lt := fun k hk => comp_sorted 40 _ 0 _ hfl.2.2.1 (hrow k hk)
    refine O.p rfl rfl rfl (Pu.len rfl Try.underlying70 rfl) ?_
    refine O.p rfl rfl rfl (Pu.move rfl rfl) ?_
    refine O.nil ?_
    refine X.next ?_
    refine V.block ?_
    refine V.loop3 (β := Nat × (List Int)) (fun x => [(22, .int .i64 (x.1 : Int))]) _ (fun x => [Own 2 I64 A1 (bs.length + 1) x.2]) _ (fun x => x.1 ≤ r1.length ∧ x.2 = (cntC bs (conts r1) (bs.length + 1) x.1)) (fun x => r1.length - x.1) (0, (List.replicate (bs.length + 1) (0 : Int))) (by (try dsimp only); exact ⟨by omega, cntC_start.symm⟩) (Ent.cons rfl (Ent.nil _)) (Ent.cons (t := 1) rfl (Ent.cons (t := 5) rfl (Ent.cons (t := 20) rfl (Ent.cons (t := 21) rfl (Ent.nil _))))) (Sub.keep 2 rfl (Sub.keep 0 rfl (Sub.keep 0 rfl (Sub.keep 0 rfl (Sub.nil _))))) ?_
    rintro ⟨i, o⟩ ⟨hi, ho⟩
    dsimp only at hi ho ⊢
    subst ho
    have hln := cntC_len (bs := bs) (ls := conts r1) (n := bs.length + 1) (i := i)
    refine V.seq ?_
    refine V.region ?_
    refine O.p rfl rfl rfl (Pu.lss rfl rfl rfl) ?_
    refine O.nil ?_
    refine X.next ?_
    refine V.seq ?_
    refine V.condD rfl (fun c2 => ?_) (fun c2 => ?_)
    · skip
      refine V.skip ?_
      refine X.next ?_
      refine V.seq ?_
      refine V.block ?_
      refine V.seq ?_
      refine V.region ?_
      refine O.p rfl rfl rfl (Pu.indexAddrS (i) rfl Try.underlying70 sz30 rfl rfl (by omega) (by omega) (fun w hw => Own.some hw (i := 1) (by exact rfl) (by omega))) ?_
      have e1 : i < r1.length := by have := tops_len r1; omega
      refine O.p rfl rfl rfl (Pu.loadAgg' (v := .agg #[.int .i64 v, .slice (r1[i]'e1).1.A (r1[i]'e1).2.length (r1[i]'e1).1.c]) rfl rfl ag30 sz30 rfl rfl (Ld.rowY (Ld.own 1 (by exact rfl)) hn_r1 e1 rfl)) ?_
      refine O.e rfl rfl rfl (Ef.alloc rfl zr30 rfl) ?_
      rintro _ _ ⟨b2, rfl, rfl⟩
      refine O.s rfl rfl (Ef.storeAll 0 rfl sz30 rfl rfl rfl rfl (by simp [Value.oneCell']) rfl) ?_
      rintro _ _ rfl
      refine O.nil ?_
      refine X.next ?_
      refine V.region ?_
      refine O.p rfl rfl rfl (Pu.move rfl rfl) ?_
      refine O.p rfl rfl rfl (Pu.fieldAddr 1 rfl Try.underlying30 rfl sz28 rfl rfl) ?_
      refine O.p rfl rfl rfl (Pu.load rfl pl28 rfl (Ld.blk 4 rfl rfl)) ?_
      refine O.p rfl rfl rfl (Pu.fieldAddr 1 rfl Try.underlying30 rfl sz28 rfl rfl) ?_
      refine O.p rfl rfl rfl (Pu.load rfl pl28 rfl (Ld.blk 0 rfl rfl)) ?_
      refine O.e rfl rfl rfl (Ef.call1 call79 rfl rfl (fun w hw => implCommon_ok  bs ((r1[i]'e1).2) _ _ _ _ w ((Ld.old hx) w hw) ((Ld.rows 3 (by exact rfl) e1) w hw) (by first | omega | (simp only [tops_len, conts_len, bl, List.length_append, List.length_cons, List.length_nil] at *; omega)) (by have := hcm i e1; omega) )) ?_
      rintro _ _ rfl
      refine O.exi (fun r2A => ?_)
      refine O.exi (fun r2c => ?_)
      refine O.exi (fun r2 => ?_)
      refine O.sep ?_
      refine O.pur ?_
      rintro ⟨rfl, hr2_1⟩
      have hq2 : r2.length = (bs.filter fun b => decide (b ∈ (r1[i]'e1).2)).length := by rw [hr2_1]
      have hq3 := cmn_le (bs := bs) (q := (r1[i]'e1).2)
      have hcb := cntC_bd (bs := bs) (ls := conts r1) (n := bs.length + 1) (i := i) (q := r2.length) (by rw [cntC_len]; omega)
      refine O.p rfl rfl rfl (Pu.len rfl Try.underlying28 rfl) ?_
      refine O.p rfl rfl rfl (Pu.indexAddrS (r2.length) rfl Try.underlying43 sz2 rfl rfl (by omega) (by omega) (fun w hw => Own.some hw (i := 2) (by exact rfl) (by rw [cntC_len]; omega))) ?_
      have e2 : r2.length < (cntC bs (conts r1) (bs.length + 1) i).length := by omega
      refine O.p rfl rfl rfl (Pu.load rfl pl2 rfl (Ld.rd (Ld.own 2 (by exact rfl)) (k := r2.length) e2 rfl rfl)) ?_
      refine O.p rfl rfl rfl (Pu.add64 rfl (by omega) rfl rfl rfl) ?_
      refine O.p rfl rfl rfl (Pu.indexAddrS (r2.length) rfl Try.underlying43 sz2 rfl rfl (by omega) (by omega) (fun w hw => Own.some hw (i := 2) (by exact rfl) (by rw [cntC_len]; omega))) ?_
      refine O.s rfl rfl (Ef.storeOwn 2 (r2.length) (((cntC bs (conts r1) (bs.length + 1) i)[r2.length]'e2) + (1 : Int)) rfl sz2 rfl rfl rfl rfl (by rw [cntC_len]; omega) rfl) ?_
      rintro _ _ rfl
      refine O.nil ?_
      refine X.blockNormal ?_
      refine X.next ?_
      refine V.region ?_
      refine O.p rfl rfl rfl (Pu.add64 (r := ((i + 1 : Nat) : Int)) rfl (by omega) rfl rfl rfl) ?_
      refine O.p rfl rfl rfl (Pu.move rfl rfl) ?_
      refine O.nil ?_
      exact X.back3 (i + 1, ((cntC bs (conts r1) (bs.length + 1) i).set (r2.length) (((cntC bs (conts r1) (bs.length + 1) i)[r2.length]'e2) + (1 : Int)))) (by (try dsimp only); exact ⟨by omega, cntC_step (by rw [conts_len]; exact e1) (by rw [conts_get]; exact hq2.symm) (by rw [cntC_len]; omega)⟩) (by first | omega | (dsimp only; omega)) (Ent.cons rfl (Ent.nil _)) (Ent.cons (t := 1) rfl (Ent.cons (t := 5) rfl (Ent.cons (t := 20) rfl (Ent.cons (t := 21) rfl (Ent.nil _))))) (Sub.keep 2 rfl (Sub.keep 2 rfl (Sub.keep 2 rfl (Sub.keep 2 rfl (Sub.nil _)))))
    · skip
      refine V.exit ?_
      refine X.thenExit ?_
      refine X.thenExit ?_
      refine X.blockHit ?_
      refine X.next ?_
      refine V.seq ?_
      refine V.region ?_
      refine O.p rfl rfl rfl (Pu.move rfl rfl) ?_
      refine O.p rfl rfl rfl (Pu.assign rfl rfl) ?_
      refine O.p rfl rfl rfl (Pu.assign rfl rfl) ?_
      refine O.nil ?_
      refine X.next ?_
      refine V.ret ?_
      refine X.ret2 rfl rfl rfl ?_
      exact fun w hw => St.mkExi A1 (St.mkExi (bs.length + 1) (St.mkExi (cntC bs (conts r1) (bs.length + 1) i) (St.unsep (St.addPur ⟨(by rw [cmR_0 hS hF]; simp [cntC_len]), (by rw [cmR_0 hS hF]; show _ = cntC bs (allN v) (bs.length + 1) (allN v).length; rw [show allN v = conts r1 from hr1_1.symm, conts_len, show i = r1.length by omega])⟩ (hw.sub (Sub.keep 0 rfl (Sub.nil _)))))))
set_option maxRecDepth 100000 in
set_option maxHeartbeats 1000000 in
theorem specCommonNumbers_ok (v : Int) (bs : List B3) (A : Option Addr) (c : Nat) (w : World) (hx : Rd B3C w A bs) (lx : bs.length ≤ 4611686018427387904) : Does Try.prog 31 [.agg #[.int .i64 v, .slice A bs.length c]] w [] (fun r => [.exi fun (oA : Option Addr) => .exi fun (oc : Nat) => .exi fun (o : List Int) => .sep (.pur (r = .tuple #[.slice oA o.length oc, .int .i64 ((cmR v bs).2)] ∧ o = (cmR v bs).1)) (Own 2 I64 oA oc o)]) := by
  refine Does.enter Try.func31 rfl rfl [(0, .agg #[.int .i64 v, .slice A bs.length c])] rfl ?_
  refine V.seq ?_
  refine V.region ?_
  refine O.e rfl rfl rfl (Ef.box rfl rfl rfl) ?_
  rintro _ _ ⟨b1, rfl, rfl⟩
  refine O.p rfl rfl rfl (Pu.assign rfl rfl) ?_
  refine O.p rfl rfl rfl (Pu.assign rfl rfl) ?_
  refine O.nil ?_
  refine X.next ?_
  refine V.seq ?_
  refine V.seq ?_
  refine V.region ?_
  refine O.p rfl rfl rfl (Pu.loadAgg rfl ag30 sz30 rfl rfl (Ld.whole 0 rfl)) ?_
  refine O.e rfl rfl rfl (Ef.callP call61 rfl rfl (fun w hw => l10Code_ok  v bs _ _ w ((Ld.old hx) w hw) (by first | omega | (simp only [tops_len, conts_len, bl, List.length_append, List.length_cons, List.length_nil] at *; omega)) )) ?_
  rintro _ _ ⟨rfl, rfl⟩
  refine O.p rfl rfl rfl (Pu.assign rfl rfl) ?_
  refine O.nil ?_
  refine X.next ?_
  refine V.seq ?_
  refine V.region ?_
  refine O.p rfl rfl rfl (Pu.move rfl rfl) ?_
  refine O.p rfl rfl rfl (Pu.neq rfl rfl rfl) ?_
  refine O.nil ?_
  refine X.next ?_
  refine V.condNot rfl (fun c1 => ?_) (fun c1 => ?_)
  · skip
    refine V.seq ?_
    refine V.region ?_
    refine O.p rfl rfl rfl (Pu.move rfl rfl) ?_
    refine O.p rfl rfl rfl (Pu.assign rfl rfl) ?_
    refine O.p rfl rfl rfl (Pu.assign rfl rfl) ?_
    refine O.nil ?_
    refine X.next ?_
    refine V.ret ?_
    refine X.thenRet ?_
    refine X.ret2 rfl rfl rfl ?_
    exact fun w hw => St.mkExi none (St.mkExi 0 (St.mkExi [] (St.unsep (St.addPur ⟨(by rw [cmR_no rfl c1]; try rfl), (by rw [cmR_no rfl c1])⟩ (St.addNil (T := 2) (C := I64) (hw.sub (Sub.nil _)))))))
  · skip
    have hS : STS v bs := by apply Decidable.byContradiction; intro h; rw [if_neg h] at c1; exact absurd c1 (by decide)
    rw [if_pos hS] at c1
    have hF : Few v bs := by apply Decidable.byContradiction; intro h; rw [if_neg h] at c1; exact absurd c1 (by decide)
    clear c1
    have hfl := few_len hF.1
    have hflt := few_lt hF.1
    have hfw := hS.few
    have hlb := few_left hF
    refine V.skip ?_
    refine X.next ?_
    refine V.seq ?_
    refine V.cutE (β := (Option Addr) × Nat × (List (Sl × List B3)) × (Option Addr) × Nat × (List Int)) (fun x => [(5, .slice x.1 (tops x.2.2.1).length x.2.1), (6, .slice x.2.2.2.1 (bs.length + 1) x.2.2.2.2.1)]) _ (fun x => [Own 30 (SyC v) x.1 x.2.1 (tops x.2.2.1), RowsA 75 B3C x.2.2.1, Own 2 I64 x.2.2.2.1 x.2.2.2.2.1 x.2.2.2.2.2]) _ (fun x => conts x.2.2.1 = compM 40 v.toNat 0 ∧ x.2.2.2.2.2 = List.replicate (bs.length + 1) 0 ∧ x.2.2.2.1.isSome = true) (Ent.cons (t := 1) rfl (Ent.nil _)) (Sub.keep 0 rfl (Sub.nil _)) ?_ ?_
    · skip
      refine V.draw mo (by kernel_rfl) (fun hwf => ?_)
      refine D.p 0 rfl rfl rfl rfl rfl rfl (Pu.fieldAddr 0 rfl Try.underlying30 rfl sz2 rfl rfl) ?_
      refine D.p 1 rfl rfl rfl rfl rfl rfl (Pu.load rfl pl2 rfl (Ld.blk 0 rfl rfl)) ?_
      refine D.p 3 rfl rfl rfl rfl rfl rfl (Pu.fieldAddr 1 rfl Try.underlying30 rfl sz28 rfl rfl) ?_
      refine D.p 4 rfl rfl rfl rfl rfl rfl (Pu.load rfl pl28 rfl (Ld.blk 0 rfl rfl)) ?_
      refine D.p 5 rfl rfl rfl rfl rfl rfl (Pu.len rfl Try.underlying28 rfl) ?_
      refine D.p 6 rfl rfl rfl rfl rfl rfl (Pu.add64 (r := ((bs.length + 1 : Nat) : Int)) rfl (by omega) rfl rfl rfl) ?_
      refine D.either hwf (e1 := 2) (e2 := 7) rfl ?_ ?_
      · skip
        refine ⟨_, _, rfl, rfl, fun _ _ => wanted_none rfl _, Ef.call1 call62 rfl rfl (fun w hw => l10AllI_ok 40 v w   hfl.2.2.2 hfl.2.2.1 hfl.2.1 hflt (by decide)), rfl, rfl, ?_⟩
        rintro _ _ rfl hs
        refine ⟨fun w hw => hs w hw.tail, ?_⟩
        refine D.exi (fun r1A => ?_)
        refine D.exi (fun r1c => ?_)
        refine D.exi (fun r1 => ?_)
        refine D.sep ?_
        refine D.pur1 ?_
        rintro ⟨rfl, hr1_1⟩
        refine D.sep ?_
        refine D.pur (RowsA.len 1 rfl) (fun hn_r1 => ?_)
        have htl_r1 := tops_len r1
        refine D.p 8 rfl rfl rfl rfl rfl rfl (Pu.assign rfl rfl) ?_
        refine D.eff hwf (e := 7) rfl rfl rfl rfl (Ef.make I64 (0 : Int) rfl Try.underlying43 inf2 rfl rfl rfl rfl (by omega) (by omega)) rfl rfl rfl ?_
        rintro _ _ ⟨A1, hA1, rfl, rfl⟩ hs
        refine ⟨fun w hw => hw.sub (Sub.keep 3 rfl (Sub.nil _)), ?_⟩
        refine D.p 9 rfl rfl rfl rfl rfl rfl (Pu.assign rfl rfl) ?_
        refine D.done hwf rfl ?_
        exact X.cutE (r1A, r1c, r1, A1, bs.length + 1, (List.replicate (bs.length + 1) (0 : Int))) (by (try dsimp only); exact ⟨hr1_1, rfl, hA1⟩) (Ent.cons' rfl (by first | rfl | (simp only [tops_append]; done) | (simp only [tops_append]; rfl)) (Ent.cons rfl (Ent.nil _))) (Ent.cons (t := 1) rfl (Ent.nil _)) (Sub.keep 1 rfl (Sub.keep 1 rfl (Sub.keep 0 rfl (Sub.keep 0 rfl (Sub.nil _)))))
      · skip
        refine ⟨_, _, rfl, rfl, fun _ _ => wanted_none rfl _, Ef.make I64 (0 : Int) rfl Try.underlying43 inf2 rfl rfl rfl rfl (by omega) (by omega), rfl, rfl, ?_⟩
        rintro _ _ ⟨A1, hA1, rfl, rfl⟩ hs
        refine ⟨fun w hw => hw.sub (Sub.keep 1 rfl (Sub.nil _)), ?_⟩
        refine D.eff hwf (e := 2) rfl rfl rfl rfl (Ef.call1 call62 rfl rfl (fun w hw => l10AllI_ok 40 v w   hfl.2.2.2 hfl.2.2.1 hfl.2.1 hflt (by decide))) rfl rfl rfl ?_
        rintro _ _ rfl hs
        refine ⟨fun w hw => hs w hw.tail, ?_⟩
        refine D.exi (fun r1A => ?_)
        refine D.exi (fun r1c => ?_)
        refine D.exi (fun r1 => ?_)
        refine D.sep ?_
        refine D.pur1 ?_
        rintro ⟨rfl, hr1_1⟩
        refine D.sep ?_
        refine D.pur (RowsA.len 1 rfl) (fun hn_r1 => ?_)
        have htl_r1 := tops_len r1
        refine D.p 8 rfl rfl rfl rfl rfl rfl (Pu.assign rfl rfl) ?_
        refine D.p 9 rfl rfl rfl rfl rfl rfl (Pu.assign rfl rfl) ?_
        refine D.done hwf rfl ?_
        exact X.cutE (r1A, r1c, r1, A1, bs.length + 1, (List.replicate (bs.length + 1) (0 : Int))) (by (try dsimp only); exact ⟨hr1_1, rfl, hA1⟩) (Ent.cons' rfl (by first | rfl | (simp only [tops_append]; done) | (simp only [tops_append]; rfl)) (Ent.cons rfl (Ent.nil _))) (Ent.cons (t := 1) rfl (Ent.nil _)) (Sub.keep 0 rfl (Sub.keep 0 rfl (Sub.keep 0 rfl (Sub.keep 0 rfl (Sub.nil _)))))
    · skip
      rintro ⟨r1A, r1c, r1, out0A, out0c, out0⟩ ⟨hr1_1, ho0, hs0⟩
      dsimp only at hr1_1 ho0 hs0 ⊢
      refine X.fact (RowsA.len 1 rfl) (fun hn_r1 => ?_)
      have htl_r1 := tops_len r1
      have hclr1 := conts_len r1
      have hcl2 := hclr1
      rw [hr1_1] at hcl2
      have hrow : ∀ k (hk : k < r1.length), (r1[k]).2 ∈ compM 40 v.toNat 0 := fun k hk => by rw [← hr1_1]; exact List.mem_map_of_mem (List.getElem_mem hk)
      have hcm : ∀ k (hk : k < r1.length), (r1[k]).2.length = bs.length := fun k hk => by have h1 := comp_count 40 _ 0 _ hfl.2.2.1 (hrow k hk); omega
      have hcs : ∀ k (hk : k < r1.length), (r1[k]).2.Pairwise B3.lt := fun k hk => comp_sorted 40 _ 0 _ hfl.2.2.1 (hrow k hk)
      refine X.next ?_
      refine V.seq ?_
      refine V.seq ?_
      refine V.region ?_
      refine O.p rfl rfl rfl (Pu.assign rfl rfl) ?_
      refine O.nil ?_
      refine X.next ?_
      refine V.block ?_
      refine V.loop3 (β := Nat × (List Int)) (fun x => [(7, .int .i64 (x.1 : Int))]) _ (fun x => [Own 2 I64 out0A out0c x.2]) _ (fun x => x.1 ≤ r1.length ∧ x.2 = (cntC bs (conts r1) (bs.length + 1) x.1)) (fun x => r1.length - x.1) (0, out0) (by (try dsimp only); exact ⟨by omega, by rw [ho0]; exact cntC_start.symm⟩) (Ent.cons rfl (Ent.nil _)) (Ent.cons (t := 1) rfl (Ent.cons (t := 5) rfl (Ent.cons (t := 6) rfl (Ent.nil _)))) (Sub.keep 2 rfl (Sub.keep 0 rfl (Sub.keep 0 rfl (Sub.keep 0 rfl (Sub.nil _))))) ?_
      rintro ⟨i, o⟩ ⟨hi, ho⟩
      dsimp only at hi ho ⊢
      subst ho
      have hln := cntC_len (bs := bs) (ls := conts r1) (n := bs.length + 1) (i := i)
      refine V.seq ?_
      refine V.seq ?_
      refine V.region ?_
      refine O.p rfl rfl rfl (Pu.move rfl rfl) ?_
      refine O.p rfl rfl rfl (Pu.move rfl rfl) ?_
      refine O.p rfl rfl rfl (Pu.len rfl Try.underlying70 rfl) ?_
      refine O.p rfl rfl rfl (Pu.lss rfl rfl rfl) ?_
      refine O.nil ?_
      refine X.next ?_
      refine V.condD rfl (fun c2 => ?_) (fun c2 => ?_)
      · skip
        refine V.skip ?_
        refine X.next ?_
        refine V.seq ?_
        refine V.block ?_
        have ei : i < r1.length := by omega
        have hci := hcm i ei
        have hq2 : ((r1[i]'ei).2.filter fun b => decide (b ∈ bs)).length = (bs.filter fun b => decide (b ∈ (r1[i]'ei).2)).length := cmn_comm (sts_lt hS) (hcs i ei)
        have hq3 := cmn_le (bs := bs) (q := (r1[i]'ei).2)
        have hcb := cntC_bd (bs := bs) (ls := conts r1) (n := bs.length + 1) (i := i) (q := ((r1[i]'ei).2.filter fun b => decide (b ∈ bs)).length) (by rw [cntC_len]; omega)
        refine V.draw mo (by kernel_rfl) (fun hwf => ?_)
        refine D.p 0 rfl rfl rfl rfl rfl rfl (Pu.move rfl rfl) ?_
        refine D.p 1 rfl rfl rfl rfl rfl rfl (Pu.move rfl rfl) ?_
        refine D.p 2 rfl rfl rfl rfl rfl rfl (Pu.move rfl rfl) ?_
        refine D.p 3 rfl rfl rfl rfl rfl rfl (Pu.indexAddrS (i) rfl Try.underlying70 sz30 rfl rfl (by omega) (by omega) (fun w hw => Own.some hw (i := 1) (by exact rfl) (by omega))) ?_
        refine D.p 4 rfl rfl rfl rfl rfl rfl (Pu.loadAgg' (v := .agg #[.int .i64 v, .slice (r1[i]'ei).1.A (r1[i]'ei).2.length (r1[i]'ei).1.c]) rfl rfl ag30 sz30 rfl rfl (Ld.rowY (Ld.own 1 (by exact rfl)) hn_r1 ei rfl)) ?_
        refine D.p 5 rfl rfl rfl rfl rfl rfl (Pu.loadAgg rfl ag30 sz30 rfl rfl (Ld.whole 3 rfl)) ?_
        refine D.eff hwf (e := 6) rfl rfl rfl rfl (Ef.callP call63 rfl rfl (fun w hw => l10Common_ok  v ((r1[i]'ei).2) v bs _ _ _ _ w ((Ld.rows 2 (by exact rfl) ei) w hw) ((Ld.old hx) w hw) (by omega) (by omega) (by omega) (by omega))) rfl rfl rfl ?_
        rintro _ _ ⟨rfl, rfl⟩ hs
        refine ⟨fun w hw => hw, ?_⟩
        refine D.p 7 rfl rfl rfl rfl rfl rfl (Pu.indexAddrS (((((r1[i]'ei).2).filter fun b => decide (b ∈ bs)).length)) rfl Try.underlying43 sz2 rfl rfl (by omega) (by omega) (fun w hw => Own.some hw (i := 0) (by exact rfl) (by rw [cntC_len]; omega))) ?_
        have e1 : ((((r1[i]'ei).2).filter fun b => decide (b ∈ bs)).length) < (cntC bs (conts r1) (bs.length + 1) i).length := by omega
        refine D.p 8 rfl rfl rfl rfl rfl rfl (Pu.load rfl pl2 rfl (Ld.rd (Ld.own 0 (by exact rfl)) (k := ((((r1[i]'ei).2).filter fun b => decide (b ∈ bs)).length)) e1 rfl rfl)) ?_
        refine D.p 9 rfl rfl rfl rfl rfl rfl (Pu.add64 rfl (by omega) rfl rfl rfl) ?_
        refine D.p 10 rfl rfl rfl rfl rfl rfl (Pu.indexAddrS (((((r1[i]'ei).2).filter fun b => decide (b ∈ bs)).length)) rfl Try.underlying43 sz2 rfl rfl (by omega) (by omega) (fun w hw => Own.some hw (i := 0) (by exact rfl) (by rw [cntC_len]; omega))) ?_
        refine D.effX (Hs' := []) hwf (e := 11) rfl rfl rfl rfl (Ef.storeOwn 0 (((((r1[i]'ei).2).filter fun b => decide (b ∈ bs)).length)) (((cntC bs (conts r1) (bs.length + 1) i)[((((r1[i]'ei).2).filter fun b => decide (b ∈ bs)).length)]'e1) + (1 : Int)) rfl sz2 rfl rfl rfl rfl (by rw [cntC_len]; omega) rfl) rfl [] rfl (List.forall_mem_nil _) ?_
        rintro _ _ rfl
        refine ⟨fun w hw => hw.sub (Sub.nil _), ?_⟩
        refine D.done hwf rfl ?_
        refine X.blockNormal ?_
        refine X.next ?_
        refine V.region ?_
        refine O.p rfl rfl rfl (Pu.move rfl rfl) ?_
        refine O.p rfl rfl rfl (Pu.add64 (r := ((i + 1 : Nat) : Int)) rfl (by omega) rfl rfl rfl) ?_
        refine O.p rfl rfl rfl (Pu.assign rfl rfl) ?_
        refine O.nil ?_
        exact X.back3 (i + 1, ((cntC bs (conts r1) (bs.length + 1) i).set (((((r1[i]'ei).2).filter fun b => decide (b ∈ bs)).length)) (((cntC bs (conts r1) (bs.length + 1) i)[((((r1[i]'ei).2).filter fun b => decide (b ∈ bs)).length)]'e1) + (1 : Int)))) (by (try dsimp only); exact ⟨by omega, cntC_step (by rw [conts_len]; exact ei) (by rw [conts_get]; exact hq2.symm) (by rw [cntC_len]; omega)⟩) (by first | omega | (dsimp only; omega)) (Ent.cons rfl (Ent.nil _)) (Ent.cons (t := 1) rfl (Ent.cons (t := 5) rfl (Ent.cons (t := 6) rfl (Ent.nil _)))) (Sub.keep 0 rfl (Sub.keep 0 rfl (Sub.keep 0 rfl (Sub.keep 0 rfl (Sub.nil _)))))
      · skip
        refine V.exit ?_
        refine X.thenExit ?_
        refine X.thenExit ?_
        refine X.blockHit ?_
        refine X.next ?_
        refine V.seq ?_
        refine V.region ?_
        refine O.p rfl rfl rfl (Pu.move rfl rfl) ?_
        refine O.p rfl rfl rfl (Pu.assign rfl rfl) ?_
        refine O.p rfl rfl rfl (Pu.assign rfl rfl) ?_
        refine O.nil ?_
        refine X.next ?_
        refine V.ret ?_
        refine X.ret2 rfl rfl rfl ?_
        exact fun w hw => St.mkExi out0A (St.mkExi out0c (St.mkExi (cntC bs (conts r1) (bs.length + 1) i) (St.unsep (St.addPur ⟨(by rw [cmR_0 hS hF]; simp [cntC_len]), (by rw [cmR_0 hS hF]; show _ = cntC bs (allN v) (bs.length + 1) (allN v).length; rw [show allN v = conts r1 from hr1_1.symm, conts_len, show i = r1.length by omega])⟩ (hw.sub (Sub.keep 0 rfl (Sub.nil _)))))))
set_option maxRecDepth 100000 in
set_option maxHeartbeats 1000000 in
theorem FnExactCommonNumbers_ok (v : Int) (bs : List B3) (A : Option Addr) (c : Nat) (w : World) (hx : Rd B3C w A bs) (lx : bs.length ≤ 9223372036854775807) : Does Try.prog 7 [.agg #[.int .i64 v, .slice A bs.length c]] w [] (fun r => [.pur (r = .bool true)]) := by
  refine Does.enter Try.func7 rfl rfl [(0, .agg #[.int .i64 v, .slice A bs.length c])] rfl ?_
  refine V.seq ?_
  refine V.region ?_
  refine O.e rfl rfl rfl (Ef.box rfl rfl rfl) ?_
  rintro _ _ ⟨b1, rfl, rfl⟩
  refine O.p rfl rfl rfl (Pu.assign rfl rfl) ?_
  refine O.nil ?_
  refine X.next ?_
  refine V.seq ?_
  refine V.region ?_
  refine O.p rfl rfl rfl (Pu.assign rfl rfl) ?_
  refine O.nil ?_
  refine X.next ?_
  refine V.seq ?_
  refine V.region ?_
  refine O.p rfl rfl rfl (Pu.loadAgg rfl ag24 sz24 rfl rfl (Ld.whole 0 rfl)) ?_
  refine O.p rfl rfl rfl (Pu.move rfl rfl) ?_
  refine O.e rfl rfl rfl (Ef.callP call15 rfl rfl (fun w hw => szSystem_ok _ _ bs _ _ w (by first | omega | (unfold roomLeft at *; split at * <;> omega)) (by omega))) ?_
  rintro _ _ ⟨rfl, rfl⟩
  refine O.p rfl rfl rfl (Pu.assign rfl rfl) ?_
  refine O.nil ?_
  refine X.next ?_
  refine V.seq ?_
  refine V.seq ?_
  refine V.region ?_
  refine O.p rfl rfl rfl (Pu.move rfl rfl) ?_
  refine O.p rfl rfl rfl (Pu.lss rfl rfl rfl) ?_
  refine O.nil ?_
  refine X.next ?_
  refine V.condD rfl (fun c1 => ?_) (fun c1 => ?_)
  · skip
    refine V.seq ?_
    refine V.region ?_
    refine O.p rfl rfl rfl (Pu.assign rfl rfl) ?_
    refine O.nil ?_
    refine X.next ?_
    refine V.ret ?_
    refine X.thenRet ?_
    refine X.ret1 rfl rfl ?_
    exact fun w hw => St.retP rfl hw
  · skip
    have hk : bs.length ≤ 1048576 := by unfold roomLeft at c1; split at c1 <;> omega
    refine V.skip ?_
    refine X.next ?_
    refine V.seq ?_
    refine V.region ?_
    refine O.p rfl rfl rfl (Pu.loadAgg rfl ag24 sz24 rfl rfl (Ld.whole 0 rfl)) ?_
    refine O.e rfl rfl rfl (Ef.call1 call17 rfl rfl (fun w hw => toSystem_ok _ bs _ _ w ((Ld.old hx) w hw) (by omega))) ?_
    rintro _ _ rfl
    refine O.exi (fun A1 => ?_)
    refine O.sep ?_
    refine O.pur ?_
    rintro ⟨hA1, rfl⟩
    refine O.e rfl rfl rfl (Ef.call1 call31 rfl rfl (fun w hw => specCommonNumbers_ok  v bs _ _ w ((Ld.own 0 (by exact rfl)) w hw) (by first | omega | (simp only [tops_len, conts_len, bl, List.length_append, List.length_cons, List.length_nil] at *; omega)) )) ?_
    rintro _ _ rfl
    refine O.exi (fun o1A => ?_)
    refine O.exi (fun o1c => ?_)
    refine O.exi (fun o1 => ?_)
    refine O.sep ?_
    refine O.pur ?_
    rintro ⟨rfl, ho1_1⟩
    refine O.p rfl rfl rfl (Pu.move rfl rfl) ?_
    refine O.p rfl rfl rfl (Pu.extract rfl rfl rfl) ?_
    refine O.p rfl rfl rfl (Pu.extract rfl rfl rfl) ?_
    refine O.p rfl rfl rfl (Pu.assign rfl rfl) ?_
    refine O.p rfl rfl rfl (Pu.assign rfl rfl) ?_
    refine O.nil ?_
    refine X.next ?_
    refine V.seq ?_
    refine V.region ?_
    refine O.p rfl rfl rfl (Pu.loadAgg rfl ag24 sz24 rfl rfl (Ld.whole 2 rfl)) ?_
    refine O.e rfl rfl rfl (Ef.call1 call17 rfl rfl (fun w hw => toSystem_ok _ bs _ _ w ((Ld.old hx) w hw) (by omega))) ?_
    rintro _ _ rfl
    refine O.exi (fun A2 => ?_)
    refine O.sep ?_
    refine O.pur ?_
    rintro ⟨hA2, rfl⟩
    refine O.e rfl rfl rfl (Ef.alloc rfl zr30 rfl) ?_
    rintro _ _ ⟨b2, rfl, rfl⟩
    refine O.s rfl rfl (Ef.storeAll 0 rfl sz30 rfl rfl rfl rfl (by simp [Value.oneCell']) rfl) ?_
    rintro _ _ rfl
    refine O.nil ?_
    refine X.next ?_
    refine V.seq ?_
    refine V.region ?_
    refine O.p rfl rfl rfl (Pu.loadAgg rfl ag30 sz30 rfl rfl (Ld.whole 0 rfl)) ?_
    refine O.e rfl rfl rfl (Ef.call1 call32 rfl rfl (fun w hw => implCommonNumbers_ok  v bs _ _ w ((Ld.own 1 (by exact rfl)) w hw) (by first | omega | (simp only [tops_len, conts_len, bl, List.length_append, List.length_cons, List.length_nil] at *; omega)) )) ?_
    rintro _ _ rfl
    refine O.exi (fun o2A => ?_)
    refine O.exi (fun o2c => ?_)
    refine O.exi (fun o2 => ?_)
    refine O.sep ?_
    refine O.pur ?_
    rintro ⟨rfl, ho2_1⟩
    have heq := ho2_1.trans ho1_1.symm
    have hal := cmR_len (v := v) (bs := bs)
    have hlo1 := congrArg List.length ho1_1
    have hlo2 := congrArg List.length ho2_1
    refine O.p rfl rfl rfl (Pu.move rfl rfl) ?_
    refine O.p rfl rfl rfl (Pu.extract rfl rfl rfl) ?_
    refine O.p rfl rfl rfl (Pu.extract rfl rfl rfl) ?_
    refine O.p rfl rfl rfl (Pu.assign rfl rfl) ?_
    refine O.p rfl rfl rfl (Pu.assign rfl rfl) ?_
    refine O.nil ?_
    refine X.next ?_
    refine V.seq ?_
    refine V.seq ?_
    refine V.region ?_
    refine O.p rfl rfl rfl (Pu.move rfl rfl) ?_
    refine O.p rfl rfl rfl (Pu.move rfl rfl) ?_
    refine O.e rfl rfl rfl (Ef.callP call33 rfl rfl (fun w hw => eqInt64S_ok o2 o1 _ _ _ _ w ((Ld.own 0 (by exact rfl)) w hw) ((Ld.own 3 (by exact rfl)) w hw) (by omega) (by omega))) ?_
    rintro _ _ ⟨rfl, rfl⟩
    refine O.p rfl rfl rfl (Pu.not rfl rfl) ?_
    refine O.p rfl rfl rfl (Pu.move rfl rfl) ?_
    refine O.splitN 36 rfl (fun c2 => ?_) (fun c2 => ?_)
    · skip
      refine O.gs rfl rfl rfl rfl rfl rfl ?_
      refine O.gs rfl rfl rfl rfl rfl rfl ?_
      refine O.gs rfl rfl rfl rfl rfl rfl ?_
      refine O.p rfl rfl rfl (Pu.pickT rfl rfl rfl) ?_
      refine O.nil ?_
      refine X.next ?_
      refine V.condT rfl ?_
      refine V.seq ?_
      refine V.region ?_
      refine O.p rfl rfl rfl (Pu.assign rfl rfl) ?_
      refine O.nil ?_
      refine X.next ?_
      refine V.ret ?_
      refine X.thenRet ?_
      refine X.ret1 rfl rfl ?_
      exact absurd (by first | assumption | rfl | exact ⟨rfl, rfl⟩ | exact ⟨rfl, by assumption⟩ | omega | (simp only [*]; done) | (rw [rfl])) c2
    · skip
      refine O.gp rfl rfl rfl rfl rfl (Pu.move rfl rfl) ?_
      refine O.gp rfl rfl rfl rfl rfl (Pu.move rfl rfl) ?_
      refine O.gp rfl rfl rfl rfl rfl (Pu.neq rfl rfl rfl) ?_
      refine O.p rfl rfl rfl (Pu.pickF rfl rfl rfl) ?_
      refine O.nil ?_
      refine X.next ?_
      refine V.condNot rfl (fun c3 => ?_) (fun c3 => ?_)
      · skip
        refine V.seq ?_
        refine V.region ?_
        refine O.p rfl rfl rfl (Pu.assign rfl rfl) ?_
        refine O.nil ?_
        refine X.next ?_
        refine V.ret ?_
        refine X.thenRet ?_
        refine X.ret1 rfl rfl ?_
        exact absurd (by first | assumption | rfl | exact ⟨rfl, rfl⟩ | exact ⟨rfl, by assumption⟩ | omega | (simp only [*]; done) | (rw [rfl])) c3
      · skip
        refine V.skip ?_
        refine X.next ?_
        refine V.seq ?_
        refine V.seq ?_
        refine V.draw mo (by kernel_rfl) (fun hwf => ?_)
        refine D.p 0 rfl rfl rfl rfl rfl rfl (Pu.loadAgg rfl ag30 sz30 rfl rfl (Ld.whole 1 rfl)) ?_
        refine D.p 1 rfl rfl rfl rfl rfl rfl (Pu.loadAgg rfl ag24 sz24 rfl rfl (Ld.whole 5 rfl)) ?_
        refine D.eff hwf (e := 2) rfl rfl rfl rfl (Ef.call1 call17 rfl rfl (fun w hw => toSystem_ok _ bs _ _ w ((Ld.old hx) w hw) (by omega))) rfl rfl rfl ?_
        rintro _ _ rfl hs
        refine ⟨fun w hw => hs w hw.tail, ?_⟩
        refine D.exi (fun A3 => ?_)
        refine D.sep ?_
        refine D.pur1 ?_
        rintro ⟨hA3, rfl⟩
        refine D.eff hwf (e := 3) rfl rfl rfl rfl (Ef.callP call19 rfl rfl (fun w hw => eqSystem_ok _ _ bs bs _ _ _ _ w ((Ld.own 3 (by exact rfl)) w hw) ((Ld.own 0 (by exact rfl)) w hw) (by omega) (by omega))) rfl rfl rfl ?_
        rintro _ _ ⟨rfl, rfl⟩ hs
        refine ⟨fun w hw => hw.sub (Sub.keep 1 rfl (Sub.keep 1 rfl (Sub.keep 1 rfl (Sub.keep 1 rfl (Sub.keep 1 rfl (Sub.keep 1 rfl (Sub.nil _))))))), ?_⟩
        refine D.p 4 rfl rfl rfl rfl rfl rfl (Pu.not rfl rfl) ?_
        refine D.done hwf rfl ?_
        refine X.next ?_
        refine V.condNot rfl (fun c4 => ?_) (fun c4 => ?_)
        · skip
          refine V.seq ?_
          refine V.region ?_
          refine O.p rfl rfl rfl (Pu.assign rfl rfl) ?_
          refine O.nil ?_
          refine X.next ?_
          refine V.ret ?_
          refine X.thenRet ?_
          refine X.ret1 rfl rfl ?_
          exact absurd (by first | assumption | rfl | exact ⟨rfl, rfl⟩ | exact ⟨rfl, by assumption⟩ | omega | (simp only [*]; done) | (rw [rfl])) c4
        · skip
          refine V.skip ?_
          refine X.next ?_
          refine V.seq ?_
          refine V.region ?_
          refine O.p rfl rfl rfl (Pu.assign rfl rfl) ?_
          refine O.nil ?_
          refine X.next ?_
          refine V.seq ?_
          refine V.region ?_
          refine O.p rfl rfl rfl (Pu.loadAgg rfl ag30 sz30 rfl rfl (Ld.whole 2 rfl)) ?_
          refine O.p rfl rfl rfl (Pu.move rfl rfl) ?_
          refine O.e rfl rfl rfl (Ef.callM 3 call25 rfl rfl rfl (fun H _ => markSystemX_ok _ _ _ _ _ _ H (by omega) (by omega))) ?_
          rintro _ _ ⟨rfl, rfl⟩
          refine O.p rfl rfl rfl (Pu.assign rfl rfl) ?_
          refine O.nil ?_
          refine X.next ?_
          refine V.seq ?_
          refine V.seq ?_
          refine V.region ?_
          refine O.p rfl rfl rfl (Pu.move rfl rfl) ?_
          refine O.p rfl rfl rfl (Pu.lss rfl rfl rfl) ?_
          refine O.p rfl rfl rfl (Pu.move rfl rfl) ?_
          refine O.splitD 51 rfl (fun c5 => ?_) (fun c5 => ?_)
          · skip
            refine O.gs rfl rfl rfl rfl rfl rfl ?_
            refine O.gs rfl rfl rfl rfl rfl rfl ?_
            refine O.gs rfl rfl rfl rfl rfl rfl ?_
            refine O.gs rfl rfl rfl rfl rfl rfl ?_
            refine O.p rfl rfl rfl (Pu.pickT rfl rfl rfl) ?_
            refine O.p rfl rfl rfl (Pu.move rfl rfl) ?_
            refine O.gs rfl rfl rfl rfl rfl rfl ?_
            refine O.gs rfl rfl rfl rfl rfl rfl ?_
            refine O.gs rfl rfl rfl rfl rfl rfl ?_
            refine O.p rfl rfl rfl (Pu.pickT rfl rfl rfl) ?_
            refine O.nil ?_
            refine X.next ?_
            refine V.condT rfl ?_
            refine V.seq ?_
            refine V.region ?_
            refine O.p rfl rfl rfl (Pu.assign rfl rfl) ?_
            refine O.nil ?_
            refine X.next ?_
            refine V.ret ?_
            refine X.thenRet ?_
            refine X.ret1 rfl rfl ?_
            exact absurd c5 (by first | omega | assumption)
          · skip
            refine O.gp rfl rfl rfl rfl rfl (Pu.move rfl rfl) ?_
            refine O.gp rfl rfl rfl rfl rfl (Pu.move rfl rfl) ?_
            refine O.ge rfl rfl rfl rfl rfl (Ef.callP call33 rfl rfl (fun w hw => eqInt64S_ok o2 o1 _ _ _ _ w ((Ld.own 1 (by exact rfl)) w hw) ((Ld.own 4 (by exact rfl)) w hw) (by omega) (by omega))) ?_
            rintro _ _ ⟨rfl, rfl⟩
            refine O.gp rfl rfl rfl rfl rfl (Pu.not rfl rfl) ?_
            refine O.p rfl rfl rfl (Pu.pickF rfl rfl rfl) ?_
            refine O.p rfl rfl rfl (Pu.move rfl rfl) ?_
            refine O.splitN 57 rfl (fun c6 => ?_) (fun c6 => ?_)
            · skip
              refine O.gs rfl rfl rfl rfl rfl rfl ?_
              refine O.gs rfl rfl rfl rfl rfl rfl ?_
              refine O.gs rfl rfl rfl rfl rfl rfl ?_
              refine O.p rfl rfl rfl (Pu.pickT rfl rfl rfl) ?_
              refine O.nil ?_
              refine X.next ?_
              refine V.condT rfl ?_
              refine V.seq ?_
              refine V.region ?_
              refine O.p rfl rfl rfl (Pu.assign rfl rfl) ?_
              refine O.nil ?_
              refine X.next ?_
              refine V.ret ?_
              refine X.thenRet ?_
              refine X.ret1 rfl rfl ?_
              exact absurd (by first | assumption | rfl | exact ⟨rfl, rfl⟩ | exact ⟨rfl, by assumption⟩ | omega | (simp only [*]; done) | (rw [rfl])) c6
            · skip
              refine O.gp rfl rfl rfl rfl rfl (Pu.move rfl rfl) ?_
              refine O.gp rfl rfl rfl rfl rfl (Pu.move rfl rfl) ?_
              refine O.gp rfl rfl rfl rfl rfl (Pu.neq rfl rfl rfl) ?_
              refine O.p rfl rfl rfl (Pu.pickF rfl rfl rfl) ?_
              refine O.nil ?_
              refine X.next ?_
              refine V.condNot rfl (fun c7 => ?_) (fun c7 => ?_)
              · skip
                refine V.seq ?_
                refine V.region ?_
                refine O.p rfl rfl rfl (Pu.assign rfl rfl) ?_
                refine O.nil ?_
                refine X.next ?_
                refine V.ret ?_
                refine X.thenRet ?_
                refine X.ret1 rfl rfl ?_
                exact absurd (by first | assumption | rfl | exact ⟨rfl, rfl⟩ | exact ⟨rfl, by assumption⟩ | omega | (simp only [*]; done) | (rw [rfl])) c7
              · skip
                refine V.skip ?_
                refine X.next ?_
                refine V.seq ?_
                refine V.region ?_
                refine O.p rfl rfl rfl (Pu.assign rfl rfl) ?_
                refine O.nil ?_
                refine X.next ?_
                refine V.seq ?_
                refine V.region ?_
                refine O.p rfl rfl rfl (Pu.move rfl rfl) ?_
                refine O.p rfl rfl rfl (Pu.move rfl rfl) ?_
                refine O.e rfl rfl rfl (Ef.callM 1 call34 rfl rfl rfl (fun H _ => markInt64S_ok _ _ _ _ _ H (by omega))) ?_
                rintro _ _ ⟨rfl, rfl⟩
                refine O.p rfl rfl rfl (Pu.assign rfl rfl) ?_
                refine O.nil ?_
                refine X.next ?_
                refine V.seq ?_
                refine V.region ?_
                refine O.p rfl rfl rfl (Pu.assign rfl rfl) ?_
                refine O.nil ?_
                refine X.next ?_
                refine V.seq ?_
                refine V.region ?_
                refine O.p rfl rfl rfl (Pu.move rfl rfl) ?_
                refine O.p rfl rfl rfl (Pu.move rfl rfl) ?_
                refine O.e rfl rfl rfl (Ef.callP call35 rfl rfl (fun w hw => heldM_ok o2.length _ _ _ w ((Ld.own 1 (by exact rfl)) w hw) (by omega))) ?_
                rintro _ _ ⟨rfl, rfl⟩
                refine O.p rfl rfl rfl (Pu.assign rfl rfl) ?_
                refine O.nil ?_
                refine X.next ?_
                refine V.seq ?_
                refine V.seq ?_
                refine V.region ?_
                refine O.p rfl rfl rfl (Pu.move rfl rfl) ?_
                refine O.p rfl rfl rfl (Pu.lss rfl rfl rfl) ?_
                refine O.nil ?_
                refine X.next ?_
                refine V.condD rfl (fun c8 => ?_) (fun c8 => ?_)
                · skip
                  refine V.seq ?_
                  refine V.region ?_
                  refine O.p rfl rfl rfl (Pu.assign rfl rfl) ?_
                  refine O.nil ?_
                  refine X.next ?_
                  refine V.ret ?_
                  refine X.thenRet ?_
                  refine X.ret1 rfl rfl ?_
                  exact absurd c8 (by first | omega | assumption)
                · skip
                  refine V.skip ?_
                  refine X.next ?_
                  refine V.seq ?_
                  refine V.seq ?_
                  refine V.region ?_
                  refine O.p rfl rfl rfl (Pu.move rfl rfl) ?_
                  refine O.p rfl rfl rfl (Pu.move rfl rfl) ?_
                  refine O.p rfl rfl rfl (Pu.neq rfl rfl rfl) ?_
                  refine O.nil ?_
                  refine X.next ?_
                  refine V.condNot rfl (fun c9 => ?_) (fun c9 => ?_)
                  · skip
                    refine V.seq ?_
                    refine V.region ?_
                    refine O.p rfl rfl rfl (Pu.assign rfl rfl) ?_
                    refine O.nil ?_
                    refine X.next ?_
                    refine V.ret ?_
                    refine X.thenRet ?_
                    refine X.ret1 rfl rfl ?_
                    exact absurd (by first | assumption | rfl | exact ⟨rfl, rfl⟩ | exact ⟨rfl, by assumption⟩ | omega | (simp only [*]; done) | (rw [rfl])) c9
                  · skip
                    refine V.skip ?_
                    refine X.next ?_
                    refine V.seq ?_
                    refine V.region ?_
                    refine O.p rfl rfl rfl (Pu.loadAgg rfl ag24 sz24 rfl rfl (Ld.whole 6 rfl)) ?_
                    refine O.e rfl rfl rfl (Ef.call1 call17 rfl rfl (fun w hw => toSystem_ok _ bs _ _ w ((Ld.old hx) w hw) (by omega))) ?_
                    rintro _ _ rfl
                    refine O.exi (fun A4 => ?_)
                    refine O.sep ?_
                    refine O.pur ?_
                    rintro ⟨hA4, rfl⟩
                    refine O.e rfl rfl rfl (Ef.call1 call32 rfl rfl (fun w hw => implCommonNumbers_ok  v bs _ _ w ((Ld.own 0 (by exact rfl)) w hw) (by first | omega | (simp only [tops_len, conts_len, bl, List.length_append, List.length_cons, List.length_nil] at *; omega)) )) ?_
                    rintro _ _ rfl
                    refine O.exi (fun o3A => ?_)
                    refine O.exi (fun o3c => ?_)
                    refine O.exi (fun o3 => ?_)
                    refine O.sep ?_
                    refine O.pur ?_
                    rintro ⟨rfl, ho3_1⟩
                    have heq := ho3_1.trans ho1_1.symm
                    have hal := cmR_len (v := v) (bs := bs)
                    have hlo1 := congrArg List.length ho1_1
                    have hlo3 := congrArg List.length ho3_1
                    refine O.p rfl rfl rfl (Pu.move rfl rfl) ?_
                    refine O.p rfl rfl rfl (Pu.extract rfl rfl rfl) ?_
                    refine O.p rfl rfl rfl (Pu.extract rfl rfl rfl) ?_
                    refine O.p rfl rfl rfl (Pu.assign rfl rfl) ?_
                    refine O.p rfl rfl rfl (Pu.assign rfl rfl) ?_
                    refine O.nil ?_
                    refine X.next ?_
                    refine V.seq ?_
                    refine V.seq ?_
                    refine V.region ?_
                    refine O.p rfl rfl rfl (Pu.move rfl rfl) ?_
                    refine O.p rfl rfl rfl (Pu.move rfl rfl) ?_
                    refine O.e rfl rfl rfl (Ef.callP call33 rfl rfl (fun w hw => eqInt64S_ok o3 o1 _ _ _ _ w ((Ld.own 0 (by exact rfl)) w hw) ((Ld.own 6 (by exact rfl)) w hw) (by omega) (by omega))) ?_
                    rintro _ _ ⟨rfl, rfl⟩
                    refine O.p rfl rfl rfl (Pu.not rfl rfl) ?_
                    refine O.p rfl rfl rfl (Pu.move rfl rfl) ?_
                    refine O.splitN 83 rfl (fun c10 => ?_) (fun c10 => ?_)
                    · skip
                      refine O.gs rfl rfl rfl rfl rfl rfl ?_
                      refine O.gs rfl rfl rfl rfl rfl rfl ?_
                      refine O.gs rfl rfl rfl rfl rfl rfl ?_
                      refine O.p rfl rfl rfl (Pu.pickT rfl rfl rfl) ?_
                      refine O.nil ?_
                      refine X.next ?_
                      refine V.condT rfl ?_
                      refine V.seq ?_
                      refine V.region ?_
                      refine O.p rfl rfl rfl (Pu.assign rfl rfl) ?_
                      refine O.nil ?_
                      refine X.next ?_
                      refine V.ret ?_
                      refine X.thenRet ?_
                      refine X.ret1 rfl rfl ?_
                      exact absurd (by first | assumption | rfl | exact ⟨rfl, rfl⟩ | exact ⟨rfl, by assumption⟩ | omega | (simp only [*]; done) | (rw [rfl])) c10
                    · skip
                      refine O.gp rfl rfl rfl rfl rfl (Pu.move rfl rfl) ?_
                      refine O.gp rfl rfl rfl rfl rfl (Pu.move rfl rfl) ?_
                      refine O.gp rfl rfl rfl rfl rfl (Pu.neq rfl rfl rfl) ?_
                      refine O.p rfl rfl rfl (Pu.pickF rfl rfl rfl) ?_
                      refine O.nil ?_
                      refine X.next ?_
                      refine V.condNot rfl (fun c11 => ?_) (fun c11 => ?_)
                      · skip
                        refine V.seq ?_
                        refine V.region ?_
                        refine O.p rfl rfl rfl (Pu.assign rfl rfl) ?_
                        refine O.nil ?_
                        refine X.next ?_
                        refine V.ret ?_
                        refine X.thenRet ?_
                        refine X.ret1 rfl rfl ?_
                        exact absurd (by first | assumption | rfl | exact ⟨rfl, rfl⟩ | exact ⟨rfl, by assumption⟩ | omega | (simp only [*]; done) | (rw [rfl])) c11
                      · skip
                        refine V.skip ?_
                        refine X.next ?_
                        refine V.seq ?_
                        refine V.region ?_
                        refine O.p rfl rfl rfl (Pu.assign rfl rfl) ?_
                        refine O.nil ?_
                        refine X.next ?_
                        refine V.seq ?_
                        refine V.region ?_
                        refine O.p rfl rfl rfl (Pu.move rfl rfl) ?_
                        refine O.p rfl rfl rfl (Pu.move rfl rfl) ?_
                        refine O.e rfl rfl rfl (Ef.callP call35 rfl rfl (fun w hw => heldM_ok o2.length _ _ _ w ((Ld.own 3 (by exact rfl)) w hw) (by omega))) ?_
                        rintro _ _ ⟨rfl, rfl⟩
                        refine O.p rfl rfl rfl (Pu.assign rfl rfl) ?_
                        refine O.nil ?_
                        refine X.next ?_
                        refine V.seq ?_
                        refine V.seq ?_
                        refine V.region ?_
                        refine O.p rfl rfl rfl (Pu.move rfl rfl) ?_
                        refine O.p rfl rfl rfl (Pu.lss rfl rfl rfl) ?_
                        refine O.nil ?_
                        refine X.next ?_
                        refine V.condD rfl (fun c12 => ?_) (fun c12 => ?_)
                        · skip
                          refine V.seq ?_
                          refine V.region ?_
                          refine O.p rfl rfl rfl (Pu.assign rfl rfl) ?_
                          refine O.nil ?_
                          refine X.next ?_
                          refine V.ret ?_
                          refine X.thenRet ?_
                          refine X.ret1 rfl rfl ?_
                          exact absurd c12 (by first | omega | assumption)
                        · skip
                          refine V.skip ?_
                          refine X.next ?_
                          refine V.seq ?_
                          refine V.seq ?_
                          refine V.region ?_
                          refine O.p rfl rfl rfl (Pu.move rfl rfl) ?_
                          refine O.p rfl rfl rfl (Pu.move rfl rfl) ?_
                          refine O.p rfl rfl rfl (Pu.neq rfl rfl rfl) ?_
                          refine O.nil ?_
                          refine X.next ?_
                          refine V.condNot rfl (fun c13 => ?_) (fun c13 => ?_)
                          · skip
                            refine V.seq ?_
                            refine V.region ?_
                            refine O.p rfl rfl rfl (Pu.assign rfl rfl) ?_
                            refine O.nil ?_
                            refine X.next ?_
                            refine V.ret ?_
                            refine X.thenRet ?_
                            refine X.ret1 rfl rfl ?_
                            exact absurd (by first | assumption | rfl | exact ⟨rfl, rfl⟩ | exact ⟨rfl, by assumption⟩ | omega | (simp only [*]; done) | (rw [rfl])) c13
                          · skip
                            refine V.skip ?_
                            refine X.next ?_
                            refine V.seq ?_
                            refine V.region ?_
                            refine O.p rfl rfl rfl (Pu.assign rfl rfl) ?_
                            refine O.nil ?_
                            refine X.next ?_
                            refine V.ret ?_
                            refine X.ret1 rfl rfl ?_
                            exact fun w hw => St.retP rfl hw
end Go.Proofs.Ytjpfngmoabnffaa
