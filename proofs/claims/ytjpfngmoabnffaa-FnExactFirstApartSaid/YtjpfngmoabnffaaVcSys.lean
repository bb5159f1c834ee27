/-
  The calculus, part 16: lists of systems with one number of points.
-/
import Derived.Test.YtjpfngmoabnffaaVcComp
set_option linter.unusedVariables false
set_option linter.unusedSimpArgs false
namespace Go.Vc
open Go Go.RowKit
/-- A system with v points: the number and the slice of its blocks. -/
def SyC (v : Int) : Cod Sl := ⟨2, fun s => [.int .i64 v, s.v], by decide, fun _ => rfl, fun _ u hu => by simp at hu; rcases hu with rfl | rfl <;> rfl⟩
section
variable {P : Program} {N : Nat} {w0 w : World} {Q : Exit → Act → World → Prop} {σ : Sig} {H H' : List Assn} {ops : Array Oper} {rest : List Oper} {T : TypeId} {v : Int}
theorem Ld.rowY {A : Option Addr} {ps : List (Sl × List B3)} (hr : ∀ w, St w0 H w → Rd (SyC v) w A (tops ps)) (hn : LenOk ps) {k s : Nat} (hk : k < ps.length) (hs : s = 2) :
    ∀ w, St w0 H w → ∃ q, A.map (·.add (k * s)) = some q ∧ ∀ m u, ([.int .i64 v, .slice (ps[k]).1.A (ps[k]).2.length (ps[k]).1.c] : List Value)[m]? = some u → w.cell? (q.add m) = some u := by
  have hk' : k < (tops ps).length := by rw [tops_len]; exact hk
  intro w hw
  obtain ⟨q, h1, h2⟩ := Ld.rds (C := SyC v) hr hk' (s := s) hs w hw
  refine ⟨q, h1, fun m u hm => h2 m u ?_⟩
  have e : (tops ps)[k] = (ps[k]).1 := List.getElem_map ..
  rw [e]
  have h3 := (hn _ (List.getElem_mem hk)).1
  simp only [SyC, Sl.v, h3]
  exact hm
/-- A list of systems that is read. -/
structure RdY (v : Int) (w : World) (A : Option Addr) (ps : List (Sl × List B3)) : Prop where
  top : Rd (SyC v) w A (tops ps)
  len : LenOk ps
  row : ∀ k (hk : k < ps.length), Rd B3C w (ps[k]).1.A (ps[k]).2
theorem Ld.yy {T2 c : Nat} {A : Option Addr} {ps : List (Sl × List B3)} {H2 : List Assn} (i j : Nat) (hp : pull i H = some (Own T2 (SyC v) A c (tops ps), H')) (hq : pull j H = some (RowsA T B3C ps, H2)) : ∀ w, St w0 H w → RdY v w A ps :=
  fun w hw => ⟨Own.rd hw hp, RowsA.len j hq w hw, fun k hk => Ld.rows j hq hk w hw⟩
theorem RdY.st {A : Option Addr} {ps : List (Sl × List B3)} (h : RdY v w0 A ps) (hw : St w0 H w) : RdY v w A ps := ⟨h.top.st hw, h.len, fun k hk => (h.row k hk).st hw⟩
theorem RdY.below {A : Option Addr} {ps : List (Sl × List B3)} (h : RdY v w0 A ps) (hb : Bel w0.heap.size w0 w) : RdY v w A ps := ⟨h.top.below hb, h.len, fun k hk => (h.row k hk).below hb⟩
/-- A box with a list of systems, and a box with their number of points: what has come so far, l. -/
def SysE (sT bT lT iT : TypeId) (v : Int) (b0 b1 : Nat) (l : List (List B3)) : Assn :=
  .exi fun q : (Option Addr × Nat) × List (Sl × List B3) => .sep (.pur (conts q.2 = l)) (.sep (Blk b0 [.slice q.1.1 (tops q.2).length q.1.2] lT) (.sep (Blk b1 [.int .i64 v] iT) (.sep (Own sT (SyC v) q.1.1 q.1.2 (tops q.2)) (RowsA bT B3C q.2))))
variable {sT bT lT iT : TypeId} {b0 b1 : Nat} {l : List (List B3)}
theorem SysE.elim (hw : St w0 (SysE sT bT lT iT v b0 b1 l :: H) w) : ∃ A k ps, conts ps = l ∧ St w0 (Blk b0 [.slice A (tops ps).length k] lT :: Blk b1 [.int .i64 v] iT :: Own sT (SyC v) A k (tops ps) :: RowsA bT B3C ps :: H) w := by
  obtain ⟨q, hw⟩ := hw.exi
  have h1 := hw.sep.pur
  refine ⟨q.1.1, q.1.2, q.2, h1.1, ?_⟩
  have h2 := h1.2.sep
  have h3 := (h2.perm (List.Perm.swap _ _ _)).sep
  have h5 := (h3.perm (List.Perm.swap _ _ _)).sep
  exact (h5.sub (Sub.keep 3 rfl (Sub.keep 2 rfl (Sub.keep 0 rfl (Sub.keep 0 rfl (Sub.refl _))))))
theorem V.sysE {c : Code} (h : ∀ A k ps, conts ps = l → V P N w0 c Q σ (Blk b0 [.slice A (tops ps).length k] lT :: Blk b1 [.int .i64 v] iT :: Own sT (SyC v) A k (tops ps) :: RowsA bT B3C ps :: H)) : V P N w0 c Q σ (SysE sT bT lT iT v b0 b1 l :: H) := by
  intro w hw
  obtain ⟨A, k, ps, h1, h2⟩ := SysE.elim hw
  exact h A k ps h1 w h2
theorem O.sysE (h : ∀ A k ps, conts ps = l → O P N w0 ops Q rest σ (Blk b0 [.slice A (tops ps).length k] lT :: Blk b1 [.int .i64 v] iT :: Own sT (SyC v) A k (tops ps) :: RowsA bT B3C ps :: H)) : O P N w0 ops Q rest σ (SysE sT bT lT iT v b0 b1 l :: H) := by
  intro w hw
  obtain ⟨A, k, ps, h1, h2⟩ := SysE.elim hw
  exact h A k ps h1 w h2
theorem SysE.mk {A : Option Addr} {k : Nat} {ps : List (Sl × List B3)} (hl : conts ps = l) (hw : St w0 (Blk b0 [.slice A (tops ps).length k] lT :: Blk b1 [.int .i64 v] iT :: Own sT (SyC v) A k (tops ps) :: RowsA bT B3C ps :: H) w) : St w0 (SysE sT bT lT iT v b0 b1 l :: H) w := by
  refine St.mkExi ((A, k), ps) (St.unsep (St.addPur hl ?_))
  have h1 : St w0 (Own sT (SyC v) A k (tops ps) :: RowsA bT B3C ps :: Blk b1 [.int .i64 v] iT :: Blk b0 [.slice A (tops ps).length k] lT :: H) w := hw.sub (Sub.keep 2 rfl (Sub.keep 2 rfl (Sub.keep 1 rfl (Sub.keep 0 rfl (Sub.refl _)))))
  have h2 := (St.unsep h1).perm (List.Perm.swap _ _ _)
  have h3 := (St.unsep h2).perm (List.Perm.swap _ _ _)
  exact St.unsep h3
end
end Go.Vc
