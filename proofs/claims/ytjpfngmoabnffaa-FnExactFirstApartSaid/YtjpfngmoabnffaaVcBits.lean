/-
  The calculus, part 7: bits of natural numbers.
-/
import Derived.Test.YtjpfngmoabnffaaVcOps
set_option linter.unusedVariables false
set_option linter.unusedSimpArgs false
namespace Go.Vc
open Go Go.RowKit

theorem wrap_i64 {n : Nat} (h : n < 9223372036854775808) : IntKind.i64.wrap (n : Int) = n := IntWalk.i64_in _ ⟨by omega, by omega⟩
theorem wrap_u64 {n : Nat} (h : n < 18446744073709551616) : IntKind.u64.wrap (n : Int) = n := by
  simp only [IntKind.wrap, IntKind.bits, IntKind.signed]
  have : (n : Int) % 2 ^ 64 = n := Int.emod_eq_of_lt (by omega) (by omega)
  first
  | (simp; omega)
  | (rw [this]; simp)
  | (simp [this])
/-- The kinds of 64 bits, and the numbers that fit both. -/
inductive K64 : IntKind → Prop where
  | i : K64 .i64
  | u : K64 .u64
theorem K64.wrap {k : IntKind} (hk : K64 k) {n : Nat} (h : n < 9223372036854775808) : k.wrap (n : Int) = n := by
  cases hk
  · exact wrap_i64 h
  · exact wrap_u64 (by omega)
theorem K64.bits {k : IntKind} (hk : K64 k) : k.bits = 64 := by cases hk <;> rfl
theorem ofInt_nat {n w : Nat} (h : n < 2 ^ w) : (BitVec.ofInt w (n : Int)).toNat = n := by
  rw [BitVec.toNat_ofInt]
  have : (n : Int) % ((2 ^ w : Nat) : Int) = n := Int.emod_eq_of_lt (by omega) (by omega)
  rw [this]; rfl
theorem and_lt {m n : Nat} (h : m < 9223372036854775808) : m &&& n < 9223372036854775808 := Nat.lt_of_le_of_lt Nat.and_le_left h
theorem and_lt' {m n : Nat} (h : n < 9223372036854775808) : m &&& n < 9223372036854775808 := Nat.lt_of_le_of_lt Nat.and_le_right h
theorem or_lt {m n : Nat} (h : m < 9223372036854775808) (h' : n < 9223372036854775808) : m ||| n < 9223372036854775808 := Nat.or_lt_two_pow (n := 63) h h'

variable {P : Program} {w0 w : World} {H : List Assn} {σ : Sig} {o : Oper} {T T2 : TypeId} {x y : Operand} {k k' : IntKind} {m n : Nat}

theorem Pu.and (hk : K64 k) (hm : m < 9223372036854775808) (hn : n < 9223372036854775808) (ho : o.op = .binOp .and T x y T2) (hx : ev σ x = some (.int k (m : Int))) (hy : ev σ y = some (.int k (n : Int))) : Pu P w0 o σ H (.int k ((m &&& n : Nat) : Int)) :=
  Pu.bin ho hx hy fun w => by
    have h1 : (BitVec.ofInt k.bits (m : Int) &&& BitVec.ofInt k.bits (n : Int)).toNat = m &&& n := by
      rw [BitVec.toNat_and, ofInt_nat (by rw [hk.bits]; omega), ofInt_nat (by rw [hk.bits]; omega)]
    simp only [Go.binOp, Op.intBits, h1, hk.wrap (and_lt hm), ne_eq, not_true, if_false]
    rfl
theorem Pu.or (hk : K64 k) (hm : m < 9223372036854775808) (hn : n < 9223372036854775808) (ho : o.op = .binOp .or T x y T2) (hx : ev σ x = some (.int k (m : Int))) (hy : ev σ y = some (.int k (n : Int))) : Pu P w0 o σ H (.int k ((m ||| n : Nat) : Int)) :=
  Pu.bin ho hx hy fun w => by
    have h1 : (BitVec.ofInt k.bits (m : Int) ||| BitVec.ofInt k.bits (n : Int)).toNat = m ||| n := by
      rw [BitVec.toNat_or, ofInt_nat (by rw [hk.bits]; omega), ofInt_nat (by rw [hk.bits]; omega)]
    simp only [Go.binOp, Op.intBits, h1, hk.wrap (or_lt hm hn), ne_eq, not_true, if_false]
    rfl
/-- m &^ n: the bits of m that n has not. -/
def andNot (m n : Nat) : Nat := m &&& (2 ^ 64 - 1 - n)
theorem Pu.andNot (hk : K64 k) (hm : m < 9223372036854775808) (hn : n < 9223372036854775808) (ho : o.op = .binOp .andNot T x y T2) (hx : ev σ x = some (.int k (m : Int))) (hy : ev σ y = some (.int k (n : Int))) : Pu P w0 o σ H (.int k ((andNot m n : Nat) : Int)) :=
  Pu.bin ho hx hy fun w => by
    have h1 : (BitVec.ofInt k.bits (m : Int) &&& ~~~ BitVec.ofInt k.bits (n : Int)).toNat = Vc.andNot m n := by
      rw [BitVec.toNat_and, BitVec.toNat_not, ofInt_nat (by rw [hk.bits]; omega), ofInt_nat (by rw [hk.bits]; omega), hk.bits]
      rfl
    have h2 : Vc.andNot m n < 9223372036854775808 := and_lt hm
    simp only [Go.binOp, Op.intBits, h1, hk.wrap h2, ne_eq, not_true, if_false]
    rfl
theorem Pu.shl {p : Nat} {yk : IntKind} (hk : K64 k) (hp : p ≤ 62) (hm : m * 2 ^ p < 9223372036854775808) (ho : o.op = .binOp .shl T x y T2) (hx : ev σ x = some (.int k (m : Int))) (hy : ev σ y = some (.int yk (p : Int))) : Pu P w0 o σ H (.int k ((m * 2 ^ p : Nat) : Int)) := by
  intro w hw a ha
  have h1 := ha x (by simp [ho, Op.operands]) _ hx
  have h2 := ha y (by simp [ho, Op.operands]) _ hy
  have he : (eqGuard .shl T x y (.int k (m : Int)) (.int yk (p : Int))).run P w = .ok () w := by
    unfold eqGuard
    simp
  have h3 : min p k.bits = p := by rw [hk.bits]; omega
  have h4 : k.wrap ((m : Int) * 2 ^ p) = ((m * 2 ^ p : Nat) : Int) := by
    rw [← hk.wrap hm]; congr 1
  have h5 : ¬ ((p : Int) < 0) := by omega
  simp [execOp, ho, h1, h2, he, Go.binOp, Op.shift, h3, h4, h5]
theorem Pu.shl1 {p : Nat} {yk : IntKind} (hk : K64 k) (hp : p ≤ 62) (ho : o.op = .binOp .shl T x y T2) (hx : ev σ x = some (.int k 1)) (hy : ev σ y = some (.int yk (p : Int))) : Pu P w0 o σ H (.int k ((2 ^ p : Nat) : Int)) := by
  have := Pu.shl (P := P) (w0 := w0) (H := H) (m := 1) hk hp (by have : 2 ^ p ≤ 2 ^ 62 := Nat.pow_le_pow_right (by decide) hp; omega) ho hx hy
  rwa [Nat.one_mul] at this
theorem Pu.shr {p : Nat} {yk : IntKind} (hk : K64 k) (hp : p ≤ 62) (ho : o.op = .binOp .shr T x y T2) (hx : ev σ x = some (.int k (m : Int))) (hy : ev σ y = some (.int yk (p : Int))) : Pu P w0 o σ H (.int k ((m >>> p : Nat) : Int)) := by
  intro w hw a ha
  have h1 := ha x (by simp [ho, Op.operands]) _ hx
  have h2 := ha y (by simp [ho, Op.operands]) _ hy
  have he : (eqGuard .shr T x y (.int k (m : Int)) (.int yk (p : Int))).run P w = .ok () w := by
    unfold eqGuard
    simp
  have h3 : min p k.bits = p := by rw [hk.bits]; omega
  have h4 : (m : Int).fdiv (2 ^ p) = ((m >>> p : Nat) : Int) := by
    rw [Nat.shiftRight_eq_div_pow, Int.fdiv_eq_ediv_of_nonneg _ (Int.pow_nonneg (by decide))]
    push_cast
    rfl
  have h5 : ¬ ((p : Int) < 0) := by omega
  simp [execOp, ho, h1, h2, he, Go.binOp, Op.shift, h3, h4, h5]
theorem Pu.convU {s t : TypeId} {kk : IntKind} (hs : ∃ d, P.underlying s = some d) (ht : P.underlying t = some (.int .u64)) (hb : n < 18446744073709551616) (ho : o.op = .convert s t x) (hx : ev σ x = some (.int kk (n : Int))) : Pu P w0 o σ H (.int .u64 (n : Int)) := by
  have := Pu.convert (P := P) (w0 := w0) (H := H) hs ht ho hx
  rwa [wrap_u64 hb] at this
theorem Pu.convU' {s t : TypeId} {kk : IntKind} {i : Int} (n : Nat) (hi : i = (n : Int)) (hs : ∃ d, P.underlying s = some d) (ht : P.underlying t = some (.int .u64)) (hb : n < 18446744073709551616) (ho : o.op = .convert s t x) (hx : ev σ x = some (.int kk i)) : Pu P w0 o σ H (.int .u64 (n : Int)) := by
  subst hi
  exact Pu.convU hs ht hb ho hx
theorem pow_lt62 {p : Nat} (h : p ≤ 62) : 2 ^ p < 9223372036854775808 := by
  have : 2 ^ p ≤ 2 ^ 62 := Nat.pow_le_pow_right (by decide) h
  omega
theorem shr_lt {m p : Nat} (h : m < 9223372036854775808) : m >>> p < 9223372036854775808 := by
  rw [Nat.shiftRight_eq_div_pow]
  exact Nat.lt_of_le_of_lt (Nat.div_le_self _ _) h
theorem Pu.quoN {a b : Int} (q : Nat) (hq : a / b = (q : Int)) (h0 : 0 ≤ a) (hm : a ≤ 9223372036854775807) (hn : 0 < b) (ho : o.op = .binOp .quo T x y T2) (hx : ev σ x = some (.int .i64 a)) (hy : ev σ y = some (.int .i64 b)) : Pu P w0 o σ H (.int .i64 (q : Int)) := by
  rw [← hq]
  exact Pu.quo64 h0 hm hn ho hx hy
theorem Pu.addN (hk : K64 k) (hr : m + n < 9223372036854775808) (ho : o.op = .binOp .add T x y T2) (hx : ev σ x = some (.int k (m : Int))) (hy : ev σ y = some (.int k (n : Int))) : Pu P w0 o σ H (.int k ((m + n : Nat) : Int)) := by
  have := Pu.add (P := P) (w0 := w0) (H := H) ho hx hy
  rwa [show (m : Int) + (n : Int) = ((m + n : Nat) : Int) by omega, hk.wrap hr] at this
theorem Pu.subN {r : Nat} (hk : K64 k) (hr : m = r + n) (hb : m < 9223372036854775808) (ho : o.op = .binOp .sub T x y T2) (hx : ev σ x = some (.int k (m : Int))) (hy : ev σ y = some (.int k (n : Int))) : Pu P w0 o σ H (.int k (r : Int)) := by
  have := Pu.subW (P := P) (w0 := w0) (H := H) ho hx hy
  rwa [show (m : Int) - (n : Int) = (r : Int) by omega, hk.wrap (by omega)] at this
/-- The same number in another spelling. -/
theorem Pu.nat {a b : Nat} (e : a = b) (h : Pu P w0 o σ H (.int k (a : Int))) : Pu P w0 o σ H (.int k (b : Int)) := e ▸ h
theorem Pu.shl1' {p : Nat} {i : Int} {yk : IntKind} (hi : i = (p : Int)) (hk : K64 k) (hp : p ≤ 62) (ho : o.op = .binOp .shl T x y T2) (hx : ev σ x = some (.int k 1)) (hy : ev σ y = some (.int yk i)) : Pu P w0 o σ H (.int k ((2 ^ p : Nat) : Int)) := by
  subst hi
  exact Pu.shl1 hk hp ho hx hy
end Go.Vc
