/-
  The calculus and plain words, part 7.
-/
import Derived.Test.YtoeldiaidjnibaaGreatKa6
set_option linter.unusedVariables false
set_option linter.unusedSimpArgs false
/-
  Plain words: what the kernel counts among the systems of nine points.
-/
namespace Go.Vc
def cntL (X : Nat) : List Nat → Nat → Nat
  | [], a => a
  | s :: l, a => cntL X l (cond (Nat.beq (Nat.land s X) 0) (Nat.succ a) a)
def ndp : List Nat → Bool
  | [] => true
  | a :: l => (l.all fun b => !Nat.beq a b) && ndp l
def bit7 (n : Nat) (l : List Nat) : Bool := l.all fun s => Nat.beq (s % 128) (2 ^ n)
end Go.Vc
