/-
  The calculus and plain words, part 9.
-/
import Derived.Test.YthlmfgmmbfbhhaaGreatKa8
set_option linter.unusedVariables false
set_option linter.unusedSimpArgs false
/-
  Plain words: what the kernel counts among the systems of nine points.
-/
namespace Go.Vc
def cntL (X : Nat) : List Nat → Nat → Nat
  | [], a => a
  | s :: l, a => cntL X l (cond (Nat.beq (Nat.land s X) 0) (Nat.succ a) a)
theorem cntL_eq {X : Nat} : ∀ (l : List Nat) (a : Nat), cntL X l a = a + (l.filter fun s => s &&& X == 0).length := by
  intro l
  induction l with
  | nil => intro a; rfl
  | cons s l ih =>
    intro a
    show cntL X l (cond (Nat.beq (s &&& X) 0) (a + 1) a) = _
    rw [ih, List.filter_cons]
    cases h : (s &&& X == 0) with
    | true =>
      have h2 : Nat.beq (s &&& X) 0 = true := by rw [Nat.beq_eq]; exact eq_of_beq h
      rw [h2]
      simp only [cond_true, if_true, List.length_cons]
      omega
    | false =>
      have h2 : Nat.beq (s &&& X) 0 = false := by
        cases h3 : Nat.beq (s &&& X) 0 with
        | false => rfl
        | true => rw [Nat.beq_eq] at h3; rw [h3] at h; cases h
      rw [h2]
      simp only [cond_false, Bool.false_eq_true, if_false]
def ndp : List Nat → Bool
  | [] => true
  | a :: l => (l.all fun b => !Nat.beq a b) && ndp l
theorem ndp_nodup : ∀ l : List Nat, ndp l = true → l.Nodup := by
  intro l
  induction l with
  | nil => intro _; exact List.nodup_nil
  | cons a l ih =>
    intro h
    simp only [ndp, Bool.and_eq_true, List.all_eq_true] at h
    refine List.nodup_cons.2 ⟨fun ha => ?_, ih h.2⟩
    have := h.1 a ha
    rw [Nat.beq_refl] at this
    cases this
def bit7 (n : Nat) (l : List Nat) : Bool := l.all fun s => Nat.beq (s % 128) (2 ^ n)
set_option maxRecDepth 100000 in
theorem chkA0 : (ms9.all fun X => Nat.ble (cntL X mg0 0) 32) = true := by decide +kernel
set_option maxRecDepth 100000 in
theorem chkB0 : bit7 0 mg0 = true := by decide +kernel
set_option maxRecDepth 100000 in
theorem chkC0 : (ndp mg0 && mg0.all fun s => Nat.blt s (2 ^ 84) && Nat.beq (onesR 84 s) 12) = true := by decide +kernel
theorem mlen0 : mg0.length = 120 := by decide
set_option maxRecDepth 100000 in
theorem chkA1 : (ms9.all fun X => Nat.ble (cntL X mg1 0) 32) = true := by decide +kernel
set_option maxRecDepth 100000 in
theorem chkB1 : bit7 1 mg1 = true := by decide +kernel
set_option maxRecDepth 100000 in
theorem chkC1 : (ndp mg1 && mg1.all fun s => Nat.blt s (2 ^ 84) && Nat.beq (onesR 84 s) 12) = true := by decide +kernel
theorem mlen1 : mg1.length = 120 := by decide
set_option maxRecDepth 100000 in
theorem chkA2 : (ms9.all fun X => Nat.ble (cntL X mg2 0) 32) = true := by decide +kernel
set_option maxRecDepth 100000 in
theorem chkB2 : bit7 2 mg2 = true := by decide +kernel
set_option maxRecDepth 100000 in
theorem chkC2 : (ndp mg2 && mg2.all fun s => Nat.blt s (2 ^ 84) && Nat.beq (onesR 84 s) 12) = true := by decide +kernel
theorem mlen2 : mg2.length = 120 := by decide
set_option maxRecDepth 100000 in
theorem chkA3 : (ms9.all fun X => Nat.ble (cntL X mg3 0) 32) = true := by decide +kernel
set_option maxRecDepth 100000 in
theorem chkB3 : bit7 3 mg3 = true := by decide +kernel
set_option maxRecDepth 100000 in
theorem chkC3 : (ndp mg3 && mg3.all fun s => Nat.blt s (2 ^ 84) && Nat.beq (onesR 84 s) 12) = true := by decide +kernel
theorem mlen3 : mg3.length = 120 := by decide
set_option maxRecDepth 100000 in
theorem chkA4 : (ms9.all fun X => Nat.ble (cntL X mg4 0) 32) = true := by decide +kernel
set_option maxRecDepth 100000 in
theorem chkB4 : bit7 4 mg4 = true := by decide +kernel
set_option maxRecDepth 100000 in
theorem chkC4 : (ndp mg4 && mg4.all fun s => Nat.blt s (2 ^ 84) && Nat.beq (onesR 84 s) 12) = true := by decide +kernel
theorem mlen4 : mg4.length = 120 := by decide
set_option maxRecDepth 100000 in
theorem chkA5 : (ms9.all fun X => Nat.ble (cntL X mg5 0) 32) = true := by decide +kernel
set_option maxRecDepth 100000 in
theorem chkB5 : bit7 5 mg5 = true := by decide +kernel
set_option maxRecDepth 100000 in
theorem chkC5 : (ndp mg5 && mg5.all fun s => Nat.blt s (2 ^ 84) && Nat.beq (onesR 84 s) 12) = true := by decide +kernel
theorem mlen5 : mg5.length = 120 := by decide
set_option maxRecDepth 100000 in
theorem chkA6 : (ms9.all fun X => Nat.ble (cntL X mg6 0) 32) = true := by decide +kernel
set_option maxRecDepth 100000 in
theorem chkB6 : bit7 6 mg6 = true := by decide +kernel
set_option maxRecDepth 100000 in
theorem chkC6 : (ndp mg6 && mg6.all fun s => Nat.blt s (2 ^ 84) && Nat.beq (onesR 84 s) 12) = true := by decide +kernel
theorem mlen6 : mg6.length = 120 := by decide
theorem bit7_at {n : Nat} {l : List Nat} (h : bit7 n l = true) {s : Nat} (hs : s ∈ l) : s % 128 = 2 ^ n := by
  have := List.all_eq_true.1 h s hs
  exact Nat.eq_of_beq_eq_true this
end Go.Vc
