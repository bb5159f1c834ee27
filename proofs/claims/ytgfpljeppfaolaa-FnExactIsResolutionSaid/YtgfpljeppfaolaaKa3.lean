/-
  The calculus and plain words, part 3.
-/
import Derived.Test.YtgfpljeppfaolaaKa2
import Derived.Shelf.SlSortCmp.NoneTotal
import Derived.Shelf.SortM.Plain
import Derived.Shelf.SortM.SortNone
import Derived.Laws.OwnMore
import Derived.RangeFuncLeaves
import Derived.RangeFuncSeq
import Derived.OwnWalkIn
import Derived.Lib.AppendZeros
import Derived.RangeFuncRecord
set_option linter.unusedVariables false
set_option linter.unusedSimpArgs false
namespace Go.Vc
open Go Go.RowKit
def pqB (N : Nat) (o : Oper) : Option Tmp :=
  match o.guard with
  | none => match o.dst with
    | some d => match Nat.blt d N with | true => some d | false => none
    | none => none
  | some _ => none
theorem pqB_ok {N : Nat} {o : Oper} {d : Tmp} (h : pqB N o = some d) : o.guard = none ∧ o.dst = some d ∧ Nat.blt d N = true := by
  unfold pqB at h
  split at h
  · split at h
    · split at h
      · cases h; exact ⟨by assumption, by assumption, by assumption⟩
      · cases h
    · cases h
  · cases h
def mvV (σ : Sig) (o : Op) : Option Value :=
  match o with
  | .move x => ev σ x
  | .assign x => ev σ x
  | .nilCheck x => match ev σ x with | some (.pointer (some q)) => some (.pointer (some q)) | _ => none
  | .extract x i => match ev σ x with | some (.tuple vs) => vs[i]? | _ => none
  | .pick c x y => match ev σ c with | some (.bool true) => ev σ x | some (.bool false) => ev σ y | _ => none
  | _ => none
theorem mvV_ok {P : Program} {w0 : World} {o : Oper} {σ : Sig} {H : List Assn} {v : Value} (h : mvV σ o.op = some v) : Pu P w0 o σ H v := by
  unfold mvV at h
  split at h
  · exact Pu.move (by assumption) h
  · exact Pu.assign (by assumption) h
  · split at h
    · cases h; exact Pu.nilCheck (by assumption) (by assumption)
    · cases h
  · split at h
    · exact Pu.extract (by assumption) (by assumption) h
    · cases h
  · split at h
    · exact Pu.pickT (by assumption) (by assumption) h
    · exact Pu.pickF (by assumption) (by assumption) h
    · cases h
  · cases h
section
variable {P : Program} {N : Nat} {w0 : World} {Q : Exit → Act → World → Prop} {σ σ' : Sig} {H H' Hs : List Assn} {ops : Array Oper} {rest : List Oper} {o : Oper}
theorem Sub.k {H1 H2 : List Assn} {A : Assn} (h : Sub H1 H2) : Sub (A :: H1) (A :: H2) := Sub.keep 0 rfl h
def mqB (σ : Sig) (N : Nat) (o : Oper) : Option (Tmp × Value) :=
  match pqB N o with
  | some d => match mvV σ o.op with | some v => some (d, v) | none => none
  | none => none
theorem mqB_ok {d : Tmp} {v : Value} (h : mqB σ N o = some (d, v)) : pqB N o = some d ∧ mvV σ o.op = some v := by
  unfold mqB at h
  split at h
  · split at h
    · cases h; exact ⟨by assumption, by assumption⟩
    · cases h
  · cases h
theorem O.q {d : Tmp} {v : Value} (h1 : pqB N o = some d) (hp : Pu P w0 o σ H v) (h : O P N w0 ops Q rest ((d, v) :: σ) H) : O P N w0 ops Q (o :: rest) σ H :=
  let h2 := pqB_ok h1; O.p h2.1 h2.2.1 h2.2.2 hp h
theorem O.f {d : Tmp} {K : Value → List Assn → Prop} (h1 : pqB N o = some d) (hp : Ef P w0 o σ H Q K) (h : ∀ v H', K v H' → O P N w0 ops Q rest ((d, v) :: σ) H') : O P N w0 ops Q (o :: rest) σ H :=
  let h2 := pqB_ok h1; O.e h2.1 h2.2.1 h2.2.2 hp h
theorem O.m {d : Tmp} {v : Value} (h1 : mqB σ N o = some (d, v)) (h : O P N w0 ops Q rest ((d, v) :: σ) H) : O P N w0 ops Q (o :: rest) σ H :=
  let h2 := mqB_ok h1; O.q h2.1 (mvV_ok h2.2) h
def gqB (ops : Array Oper) (σ : Sig) (N : Nat) (o : Oper) : Option Tmp :=
  match o.guard with
  | some (j, b) => match (ops[j]?).bind (·.dst) with
    | some t => match look σ t with
      | some (.bool c) => match Bool.xor c b with
        | false => match o.dst with
          | some d => match Nat.blt d N with | true => some d | false => none
          | none => none
        | true => none
      | _ => none
    | none => none
  | none => none
theorem xor_look {c b : Bool} {t : Nat} (h : Bool.xor c b = false) (hl : look σ t = some (.bool c)) : look σ t = some (.bool b) := by
  have : c = b := by revert h; cases c <;> cases b <;> decide
  rw [← this]; exact hl
theorem gqB_ok {d : Tmp} (h : gqB ops σ N o = some d) : ∃ j b t, o.guard = some (j, b) ∧ (ops[j]?).bind (·.dst) = some t ∧ look σ t = some (.bool b) ∧ o.dst = some d ∧ Nat.blt d N = true := by
  unfold gqB at h
  split at h
  · split at h
    · split at h
      · split at h
        · split at h
          · split at h
            · cases h
              exact ⟨_, _, _, by assumption, by assumption, xor_look (by assumption) (by assumption), by assumption, by assumption⟩
            · cases h
          · cases h
        · cases h
      · cases h
    · cases h
  · cases h
theorem O.gq {d : Tmp} {v : Value} (h1 : gqB ops σ N o = some d) (hp : Pu P w0 o σ H v) (h : O P N w0 ops Q rest ((d, v) :: σ) H) : O P N w0 ops Q (o :: rest) σ H := by
  obtain ⟨j, b, t, a1, a2, a3, a4, a5⟩ := gqB_ok h1
  exact O.gp a1 a2 a3 a4 a5 hp h
theorem O.gf {d : Tmp} {K : Value → List Assn → Prop} (h1 : gqB ops σ N o = some d) (hp : Ef P w0 o σ H Q K) (h : ∀ v H', K v H' → O P N w0 ops Q rest ((d, v) :: σ) H') : O P N w0 ops Q (o :: rest) σ H := by
  obtain ⟨j, b, t, a1, a2, a3, a4, a5⟩ := gqB_ok h1
  exact O.ge a1 a2 a3 a4 a5 hp h
def gmqB (ops : Array Oper) (σ : Sig) (N : Nat) (o : Oper) : Option (Tmp × Value) :=
  match gqB ops σ N o with
  | some d => match mvV σ o.op with | some v => some (d, v) | none => none
  | none => none
theorem gmqB_ok {d : Tmp} {v : Value} (h : gmqB ops σ N o = some (d, v)) : gqB ops σ N o = some d ∧ mvV σ o.op = some v := by
  unfold gmqB at h
  split at h
  · split at h
    · cases h; exact ⟨by assumption, by assumption⟩
    · cases h
  · cases h
theorem O.gm {d : Tmp} {v : Value} (h1 : gmqB ops σ N o = some (d, v)) (h : O P N w0 ops Q rest ((d, v) :: σ) H) : O P N w0 ops Q (o :: rest) σ H :=
  let h2 := gmqB_ok h1; O.gq h2.1 (mvV_ok h2.2) h
def sqB (ops : Array Oper) (σ : Sig) (N : Nat) (o : Oper) : Option Tmp :=
  match o.guard with
  | some (j, b) => match (ops[j]?).bind (·.dst) with
    | some t => match look σ t with
      | some u => match skipB b u with
        | true => match o.dst with
          | some d => match Nat.blt d N with | true => some d | false => none
          | none => none
        | false => none
      | none => none
    | none => none
  | none => none
theorem sqB_ok {d : Tmp} (h : sqB ops σ N o = some d) : ∃ j b t u, o.guard = some (j, b) ∧ (ops[j]?).bind (·.dst) = some t ∧ look σ t = some u ∧ skipB b u = true ∧ o.dst = some d ∧ Nat.blt d N = true := by
  unfold sqB at h
  split at h
  · split at h
    · split at h
      · split at h
        · split at h
          · split at h
            · cases h
              exact ⟨_, _, _, _, by assumption, by assumption, by assumption, by assumption, by assumption, by assumption⟩
            · cases h
          · cases h
        · cases h
      · cases h
    · cases h
  · cases h
theorem O.g {d : Tmp} (h1 : sqB ops σ N o = some d) (h : O P N w0 ops Q rest ((d, undef) :: σ) H) : O P N w0 ops Q (o :: rest) σ H := by
  obtain ⟨j, b, t, u, a1, a2, a3, a4, a5, a6⟩ := sqB_ok h1
  exact O.gs a1 a2 a3 a4 a5 a6 h

def nqB (ops : Array Oper) (done : List Nat) (i : Nat) : Option Oper :=
  match (done.contains i || !strictB ops i) with
  | false => ops[i]?
  | true => none
theorem nqB_ok {done : List Nat} {i : Nat} (h : nqB ops done i = some o) : ops[i]? = some o ∧ (done.contains i || !strictB ops i) = false := by
  unfold nqB at h
  split at h
  · exact ⟨h, by assumption⟩
  · cases h
def fqB (σ : Sig) (d : Option Tmp) : Option Tmp :=
  match d with
  | some d => match look σ d with | none => some d | some _ => none
  | none => none
theorem fqB_ok {x : Option Tmp} {d : Tmp} (h : fqB σ x = some d) : x = some d ∧ (look σ d).isNone = true := by
  unfold fqB at h
  split at h
  · split at h
    · rename_i h2; cases h; exact ⟨rfl, by rw [h2]; rfl⟩
    · cases h
  · cases h
def dqB (ops : Array Oper) (done : List Nat) (σ : Sig) (N : Nat) (i : Nat) : Option (Oper × Tmp) :=
  match nqB ops done i with
  | some o => match pqB N o with
    | some d => match fqB σ (some d) with | some _ => some (o, d) | none => none
    | none => none
  | none => none
theorem dqB_ok {done : List Nat} {i : Nat} {d : Tmp} (h : dqB ops done σ N i = some (o, d)) : nqB ops done i = some o ∧ pqB N o = some d ∧ (look σ d).isNone = true := by
  unfold dqB at h
  split at h
  · split at h
    · split at h
      · rename_i hf; cases h; have := fqB_ok hf; exact ⟨by assumption, by assumption, by rw [Option.some.inj this.1]; exact this.2⟩
      · cases h
    · cases h
  · cases h
theorem D.q {effs done : List Nat} {d : Tmp} {v : Value} (i : Nat) (h1 : dqB ops done σ N i = some (o, d)) (hp : Pu P w0 o σ Hs v) (h : D P N w0 ops Q effs (i :: done) ((d, v) :: σ) Hs H) : D P N w0 ops Q effs done σ Hs H := by
  obtain ⟨a1, a2, a3⟩ := dqB_ok h1
  obtain ⟨b1, b2⟩ := nqB_ok a1
  obtain ⟨c1, c2, c3⟩ := pqB_ok a2
  exact D.p i b1 b2 c1 c2 a3 c3 hp h
def dmqB (ops : Array Oper) (done : List Nat) (σ : Sig) (N : Nat) (i : Nat) : Option (Tmp × Value) :=
  match dqB ops done σ N i with
  | some (o, d) => match mvV σ o.op with | some v => some (d, v) | none => none
  | none => none
theorem D.m {effs done : List Nat} {d : Tmp} {v : Value} (i : Nat) (h1 : dmqB ops done σ N i = some (d, v)) (h : D P N w0 ops Q effs (i :: done) ((d, v) :: σ) Hs H) : D P N w0 ops Q effs done σ Hs H := by
  unfold dmqB at h1
  split at h1
  · split at h1
    · cases h1; exact D.q i (by assumption) (mvV_ok (by assumption)) h
    · cases h1
  · cases h1
def dgqB (ops : Array Oper) (done : List Nat) (σ : Sig) (N : Nat) (i : Nat) : Option (Oper × Tmp) :=
  match nqB ops done i with
  | some o => match gqB ops σ N o with
    | some d => match fqB σ (some d) with | some _ => some (o, d) | none => none
    | none => none
  | none => none
theorem dgqB_ok {done : List Nat} {i : Nat} {d : Tmp} (h : dgqB ops done σ N i = some (o, d)) : nqB ops done i = some o ∧ gqB ops σ N o = some d ∧ (look σ d).isNone = true := by
  unfold dgqB at h
  split at h
  · split at h
    · split at h
      · rename_i hf; cases h; have := fqB_ok hf; exact ⟨by assumption, by assumption, by rw [Option.some.inj this.1]; exact this.2⟩
      · cases h
    · cases h
  · cases h
theorem D.gq {effs done : List Nat} {d : Tmp} {v : Value} (i : Nat) (h1 : dgqB ops done σ N i = some (o, d)) (hp : Pu P w0 o σ Hs v) (h : D P N w0 ops Q effs (i :: done) ((d, v) :: σ) Hs H) : D P N w0 ops Q effs done σ Hs H := by
  obtain ⟨a1, a2, a3⟩ := dgqB_ok h1
  obtain ⟨b1, b2⟩ := nqB_ok a1
  obtain ⟨j, b, t, e1, e2, e3, e4, e5⟩ := gqB_ok a2
  exact D.gp i b1 b2 e1 e2 e3 e4 a3 e5 hp h
def dgmqB (ops : Array Oper) (done : List Nat) (σ : Sig) (N : Nat) (i : Nat) : Option (Tmp × Value) :=
  match dgqB ops done σ N i with
  | some (o, d) => match mvV σ o.op with | some v => some (d, v) | none => none
  | none => none
theorem D.gm {effs done : List Nat} {d : Tmp} {v : Value} (i : Nat) (h1 : dgmqB ops done σ N i = some (d, v)) (h : D P N w0 ops Q effs (i :: done) ((d, v) :: σ) Hs H) : D P N w0 ops Q effs done σ Hs H := by
  unfold dgmqB at h1
  split at h1
  · split at h1
    · cases h1; exact D.gq i (by assumption) (mvV_ok (by assumption)) h
    · cases h1
  · cases h1
def dsqB (ops : Array Oper) (done : List Nat) (σ : Sig) (N : Nat) (i : Nat) : Option Tmp :=
  match nqB ops done i with
  | some o => match sqB ops σ N o with
    | some d => fqB σ (some d)
    | none => none
  | none => none
theorem D.g {effs done : List Nat} {d : Tmp} (i : Nat) (h1 : dsqB ops done σ N i = some d) (h : D P N w0 ops Q effs (i :: done) ((d, undef) :: σ) Hs H) : D P N w0 ops Q effs done σ Hs H := by
  unfold dsqB at h1
  split at h1
  · rename_i a1
    split at h1
    · rename_i a2
      obtain ⟨b1, b2⟩ := nqB_ok a1
      obtain ⟨j, b, t, u, e1, e2, e3, e4, e5, e6⟩ := sqB_ok a2
      have := fqB_ok h1
      cases this.1
      exact D.gs i b1 b2 e1 e2 e3 e4 e5 this.2 e6 h
    · cases h1
  · cases h1
def efB (ops : Array Oper) (done : List Nat) (σ : Sig) (N : Nat) (e : Nat) : Option (Oper × Option Tmp) :=
  match nqB ops done e with
  | some o => match closedB ops done e with
    | true => match o.guard with
      | none => match o.dst with
        | none => some (o, none)
        | some d => match Nat.blt d N with
          | true => match look σ d with
            | none => some (o, some d)
            | some _ => none
          | false => none
      | some _ => none
    | false => none
  | none => none
theorem efB_ok {done : List Nat} {e : Nat} {d : Option Tmp} (h : efB ops done σ N e = some (o, d)) : nqB ops done e = some o ∧ closedB ops done e = true ∧ o.guard = none ∧ o.dst = d ∧ dstOk d N = true ∧ freshB d σ = true := by
  unfold efB at h
  split at h
  · split at h
    · split at h
      · split at h
        · cases h; exact ⟨by assumption, by assumption, by assumption, by assumption, rfl, rfl⟩
        · split at h
          · split at h
            · rename_i hl; cases h; exact ⟨by assumption, by assumption, by assumption, by assumption, by assumption, by unfold freshB; simp only [hl]; rfl⟩
            · cases h
          · cases h
      · cases h
    · cases h
  · cases h
theorem D.f (hwf : wfB ops = true) {effs done : List Nat} {K : Value → List Assn → Prop} {d : Option Tmp} (e : Nat) (h1 : efB ops done σ N e = some (o, d)) (hp : Ef P w0 o σ H Q K)
    (h : ∀ v H', K v H' → (∀ w, St w0 H w → St w0 Hs w) → (∀ w, St w0 H' w → St w0 Hs w) ∧ D P N w0 ops Q (e :: effs) (e :: done) (push d v σ) Hs H') : D P N w0 ops Q effs done σ Hs H := by
  obtain ⟨a1, a2, a3, a4, a5, a6⟩ := efB_ok h1
  obtain ⟨b1, b2⟩ := nqB_ok a1
  exact D.eff hwf b1 b2 a2 a3 hp a4 a5 a6 h
end
end Go.Vc

namespace Go.Vc
open Go Go.RowKit
def selN : List Nat → List Assn → Option (List Assn)
  | [], _ => some []
  | i :: is, H => match pull i H with
    | some (A, H1) => match selN is H1 with
      | some K => some (A :: K)
      | none => none
    | none => none
def drpS : Nat → List Assn → Option (List Assn)
  | 0, H => some H
  | _ + 1, [] => none
  | k + 1, _ :: H => drpS k H
def selT : List Nat → Nat → List Assn → Option (List Assn)
  | [], k, H => drpS k H
  | i :: is, k, H => match pull i H with
    | some (A, H1) => match selT is k H1 with
      | some K => some (A :: K)
      | none => none
    | none => none
theorem Sub.s : ∀ (is : List Nat) {H K : List Assn}, selN is H = some K → Sub H K
  | [], H, K, h => by cases h; exact Sub.nil _
  | i :: is, H, K, h => by
    unfold selN at h
    split at h
    · split at h
      · cases h; exact Sub.keep i (by assumption) (Sub.s is (by assumption))
      · cases h
    · cases h
theorem drpS_ok : ∀ (k : Nat) {H K : List Assn}, drpS k H = some K → Sub H K
  | 0, H, K, h => by cases h; exact Sub.refl _
  | k + 1, [], K, h => by cases h
  | k + 1, _ :: H, K, h => Sub.drop (drpS_ok k h)
theorem Sub.t : ∀ (is : List Nat) (k : Nat) {H K : List Assn}, selT is k H = some K → Sub H K
  | [], k, H, K, h => drpS_ok k h
  | i :: is, k, H, K, h => by
    unfold selT at h
    split at h
    · split at h
      · cases h; exact Sub.keep i (by assumption) (Sub.t is k (by assumption))
      · cases h
    · cases h
section
variable {P : Program} {N : Nat} {w0 : World} {Q : Exit → Act → World → Prop} {σ σ' : Sig} {H H' Hs : List Assn} {ops ops2 : Array Oper} {rest : List Oper} {o : Oper} {x y z u : Code} {i j k : Nat}
theorem Za (h : O P N w0 ops (Exit.then (fun a w => y.wp P Q a w) Q) ops.toList σ H) : V P N w0 (.seq (.region i ops false) y) Q σ H := V.seq (V.region h)
theorem Zj (h : O P N w0 ops (Exit.then (fun a w => y.wp P (Exit.then (fun a w => z.wp P Q a w) Q) a w) (Exit.then (fun a w => z.wp P Q a w) Q)) ops.toList σ H) : V P N w0 (.seq (.seq (.region i ops false) y) z) Q σ H := V.seq (V.seq (V.region h))
theorem Zf (h : V P N w0 y Q σ H) : O P N w0 ops (Exit.then (fun a w => y.wp P Q a w) Q) [] σ H := O.nil (X.next h)
theorem Zb (h : O P N w0 ops (Exit.then (fun a w => y.wp P Q a w) Q) ops.toList σ H) : O P N w0 ops2 (Exit.then (fun a w => (Code.seq (.region i ops false) y).wp P Q a w) Q) [] σ H := O.nil (X.next (V.seq (V.region h)))
theorem Zc (h : O P N w0 ops (Exit.then (fun a w => y.wp P (Exit.then (fun a w => z.wp P Q a w) Q) a w) (Exit.then (fun a w => z.wp P Q a w) Q)) ops.toList σ H) : O P N w0 ops2 (Exit.then (fun a w => (Code.seq (.seq (.region i ops false) y) z).wp P Q a w) Q) [] σ H := O.nil (X.next (V.seq (V.seq (V.region h))))
theorem Ze (h : X N w0 Q .ret σ H) : O P N w0 ops (Exit.then (fun a w => Code.ret.wp P Q a w) Q) [] σ H := O.nil (X.next (V.ret h))
theorem Zi (h : V P N w0 x (Exit.inBlock i Q) σ H) : O P N w0 ops (Exit.then (fun a w => (Code.block i x).wp P Q a w) Q) [] σ H := O.nil (X.next (V.block h))
theorem Zg (h : O P N w0 ops Q ops.toList σ H) : V P N w0 .skip (Exit.inBlock j (Exit.then (fun a w => (Code.region i ops false).wp P Q a w) Q)) σ H := V.skip (X.blockNormal (X.next (V.region h)))
theorem Zk (h : O P N w0 ops Q ops.toList σ H) : O P N w0 ops2 (Exit.inBlock j (Exit.then (fun a w => (Code.region i ops false).wp P Q a w) Q)) [] σ H := O.nil (X.blockNormal (X.next (V.region h)))
theorem Zd {K K2 : Act → World → Prop} (h : O P N w0 ops (Exit.then (fun a w => y.wp P Q a w) Q) ops.toList σ H) : V P N w0 (.exit j) (Exit.then K (Exit.then K2 (Exit.inBlock j (Exit.then (fun a w => (Code.seq (.region i ops false) y).wp P Q a w) Q)))) σ H := V.exit (X.thenExit (X.thenExit (X.blockHit (X.next (V.seq (V.region h))))))
theorem Zh (h : O P N w0 ops (Exit.then (fun a w => y.wp P (Exit.inBlock j (Exit.then (fun a w => z.wp P Q a w) Q)) a w) (Exit.inBlock j (Exit.then (fun a w => z.wp P Q a w) Q))) ops.toList σ H) : V P N w0 .skip (Exit.then (fun a w => (Code.seq (.block j (.seq (.region i ops false) y)) z).wp P Q a w) Q) σ H := V.skip (X.next (V.seq (V.block (V.seq (V.region h)))))
end
abbrev Vr := @V.region
abbrev Xn := @X.next
abbrev On := @O.nil
abbrev Vs := @V.seq
abbrev Vt := @V.ret
abbrev Xb := @X.blockNormal
abbrev Xe := @X.thenExit
abbrev Xr := @X.thenRet
abbrev Vk := @V.skip
abbrev Vb := @V.block
abbrev Ve := @V.exit
abbrev Xh := @X.blockHit
abbrev Xq := @X.blockRet
end Go.Vc

namespace Go.Vc
def leB (a b : B3) : Prop := ¬ B3.lt b a
def SrtB (l : List B3) : Prop := l.Pairwise leB
end Go.Vc

namespace Go.Vc
open Go Go.RowKit
section
variable {P : Program} {N : Nat} {w0 w : World} {Q : Exit → Act → World → Prop} {σ : Sig} {H H' : List Assn}
end
section
variable {w0 : World} {H : List Assn}
theorem Ld.part {A : Option Addr} {xs : List B3} {k s j : Nat} {u : Value} (hr : ∀ w, St w0 H w → Rd B3C w A xs) (hk : k < xs.length) (hs : s = 3) (hu : (B3.cs xs[k])[j]? = some u) : ∀ w, St w0 H w → ∃ q, (A.map (·.add (k * s))).map (·.add j) = some q ∧ w.cell? q = some u := by
  intro w hw
  obtain ⟨q, h1, h2⟩ := Ld.rds hr hk (s := s) hs w hw
  exact ⟨q.add j, by rw [h1]; rfl, h2 j u hu⟩
end
end Go.Vc

namespace Go.Vc
open Go Go.RowKit
open Go.Proofs (sortWorldK CmpLays ltOf)
open Go.Sort (flatK HoldsK putRowK get_flatK size_flatK putCells putRow mapBlock onCells PermIn SortedIn SWO)
section
variable {P : Program} {α : Type} {w0 w w' : World} {H : List Assn} {T c g : Nat} {A : Option Addr} {C : Cod α} {xs ys : List α}
theorem own_cases (hw : St w0 (Own T C A c xs :: H) w) : (A = none ∧ c = 0 ∧ xs = []) ∨ ∃ g, A = some ⟨g, 0, none⟩ := by
  obtain ⟨F, ho, hF⟩ := hw.get 0 rfl
  rcases ho.2 with ⟨h1, h2⟩ | ⟨g, cap, cur, hvv, _⟩
  · injection h1 with e1 e2 e3
    exact .inl ⟨e1, e3, List.eq_nil_of_length_eq_zero h2⟩
  · injection hvv with e1
    exact .inr ⟨g, e1⟩
end
end Go.Vc

namespace Go.Vc
open Go Go.RowKit
open Go.Proofs (sortWorld CmpLays1 ltOf)
open Go.Sort (putCells putRow mapBlock onCells PermIn SortedIn SWO Holds)
section
variable {P : Program} {α : Type} {w0 w w' : World} {H : List Assn} {T c g : Nat} {A : Option Addr} {C : Cod α} {xs ys : List α} {enc : α → Value}
theorem flat1 (hC : ∀ x, C.enc x = [enc x]) : ∀ xs : List α, xs.flatMap C.enc = xs.map enc := by
  intro xs
  induction xs with
  | nil => rfl
  | cons x xs ih => rw [List.flatMap_cons, List.map_cons, hC, ih]; rfl
theorem own_holds1 [Inhabited α] (hC : ∀ x, C.enc x = [enc x]) (hz : C.sz = 1) (hw : St w0 (Own T C (some ⟨g, 0, none⟩) c xs :: H) w) : Holds enc w g 0 xs.toArray ∧ g < w.heap.size := by
  obtain ⟨F, ho, hF⟩ := hw.get 0 rfl
  rcases ho.2 with ⟨h1, h2⟩ | ⟨g', cap, cur, hvv, hbase, hh, hle, hmax, hcs, htake⟩
  · injection h1 with e1; cases e1
  · injection hvv with e1 e2 e3
    cases e1
    subst e3
    refine ⟨fun j hj => ?_, (Array.getElem?_eq_some_iff.1 hh).1⟩
    have hj' : j < xs.length := by simpa using hj
    rw [flat1 hC, hz, Nat.mul_one] at htake
    have e : cur[j]? = some (enc xs[j]) := by
      have h1 : (cur.toList.take xs.length)[j]? = cur.toList[j]? := by rw [List.getElem?_take, if_pos (by omega)]
      rw [htake, List.getElem?_map, List.getElem?_eq_getElem hj'] at h1
      rw [← Array.getElem?_toList, ← h1]
      rfl
    constructor
    · rw [getElem!_pos _ j hj]
      simp only [World.cell?, hh, Nat.zero_add, e]
      simp
    · simp [World.frozen?, hh]
theorem putCells1 [Inhabited α] {cur : Array Value} (hn : xs.length ≤ cur.size) : (putCells enc 0 xs.toArray cur).toList.take xs.length = xs.map enc := by
  apply List.ext_getElem
  · simp [putCells]; omega
  · intro j h1 h2
    simp only [List.getElem_take, Array.getElem_toList, putCells, Array.getElem_mapIdx]
    rw [if_pos ⟨Nat.zero_le _, by simpa using h2⟩, Nat.sub_zero, getElem!_pos _ j (by simpa using h2)]
    simp
theorem sort_heap [Inhabited α] {enc : α → Value} {n : Nat} {d : Array α} {os : Array Obj} {k : Nat} (hk : k < w.heap.size) : (Go.Sort.grow (putRow enc (Go.Sort.ahead w n) g 0 d) os).heap[k]? = if g = k then (w.heap[k]?).map (onCells (putCells enc 0 d)) else w.heap[k]? := by
  unfold Go.Sort.grow putRow mapBlock Go.Sort.ahead
  simp only
  rw [Array.getElem?_append_left (by simpa using hk), Array.getElem?_modify]
theorem sort_size [Inhabited α] {enc : α → Value} {n : Nat} {d : Array α} {os : Array Obj} : (Go.Sort.grow (putRow enc (Go.Sort.ahead w n) g 0 d) os).heap.size = w.heap.size + os.size := by
  unfold Go.Sort.grow putRow mapBlock Go.Sort.ahead
  simp
theorem St.sorted1 [Inhabited α] (hC : ∀ x, C.enc x = [enc x]) (hz : C.sz = 1) (hw : St w0 (Own T C (some ⟨g, 0, none⟩) c xs :: H) w) (hl : ys.length = xs.length) (n : Nat) (os : Array Obj) :
    St w0 (Own T C (some ⟨g, 0, none⟩) c ys :: H) (Go.Sort.grow (putRow enc (Go.Sort.ahead w n) g 0 ys.toArray) os) := by
  refine hw.upd ?_
  rintro F ⟨ho, hF⟩ hb
  rcases ho.2 with ⟨h1, h2⟩ | ⟨g', cap, cur, hvv, hbase, hh, hle, hmax, hcs, htake⟩
  · injection h1 with e1; cases e1
  · injection hvv with e1 e2 e3
    cases e1
    subst e3
    have hgs : g < w.heap.size := (Array.getElem?_eq_some_iff.1 hh).1
    rw [hz, Nat.mul_one] at hcs
    refine ⟨⟨rfl, rfl, rfl, by rw [sort_size]; omega, fun k hk hk' => ?_, Nat.le_add_right _ _⟩, F, ⟨⟨?_, .inr ⟨g, c, putCells enc 0 ys.toArray cur, by rw [hl], Nat.zero_le _, ?_, by omega, hmax, ?_, ?_⟩⟩, ?_⟩, ?_⟩
    · rw [sort_heap hk, if_neg (fun e => hk' ((hF k).2 (by subst e; rfl)))]
    · rw [length_flatMap_enc]
    · rw [sort_heap hgs, if_pos rfl, hh]; rfl
    · simp [putCells, hcs, hz]
    · rw [hz, Nat.mul_one, flat1 hC]
      exact putCells1 (by omega)
    · intro k
      rw [hF k]
      simp [Value.ownBlock]
    · intro k hk
      exact ⟨.inl hk, by have := (hb k hk).2; rw [sort_size]; omega⟩
def sortI (xs : List Int) : List Int := xs.mergeSort fun x y => decide (x ≤ y)
theorem sortI_len (xs : List Int) : (sortI xs).length = xs.length := by unfold sortI; exact List.length_mergeSort _
theorem sortI_perm (xs : List Int) : (sortI xs).Perm xs := List.mergeSort_perm _ _
theorem sortI_sorted (xs : List Int) : (sortI xs).Pairwise (· ≤ ·) := by
  have h := List.pairwise_mergeSort (le := fun x y : Int => decide (x ≤ y)) (by intro a b c; simp; omega) (by intro a b; simp; omega) xs
  exact h.imp (by intro a b h; simpa using h)
theorem sortI_does {ρ : Go.Shelf.Ren} (L : Go.Proofs.SlLaysM.n5 P ρ) {xs : List Int} (hlen : xs.length < 4611686018427387904) :
    Does P (ρ.f 5) [.slice A xs.length c] w0 (Own T I64 A c xs :: H) (fun v => [.sep (.pur (v = .tuple #[])) (Own T I64 A c (sortI xs))] ++ H) := by
  intro w hw
  rcases own_cases hw with ⟨rfl, rfl, rfl⟩ | ⟨g, rfl⟩
  · refine (Go.Proofs.AnyM.slices_Sort_int_none L none 0 w).mono ?_
    rintro e w' ⟨rfl, rfl⟩
    have e : sortI [] = [] := by simp [sortI]
    rw [e]
    exact ⟨_, rfl, St.unsep (St.addPur rfl hw)⟩
  · obtain ⟨hH, hg⟩ := own_holds1 (enc := Value.int .i64) (fun _ => rfl) rfl hw
    refine (Go.Proofs.AnyM.slices_Sort_int L g 0 c xs w hH hg hlen).mono ?_
    rintro e w' ⟨rfl, n, os, rfl⟩
    exact ⟨_, rfl, St.unsep (St.addPur rfl (St.sorted1 (enc := Value.int .i64) (fun _ => rfl) rfl hw (sortI_len xs) n os))⟩
end
end Go.Vc

namespace Go.Vc
open Go Go.RowKit
section
variable {P : Program} {w0 w : World} {H : List Assn} {T c g : Nat}
end
def turnL (v k : Int) (n : Nat) : List Int := (List.range n).map fun a : Nat => ((a : Int) + k) % v
def turnB (v k : Int) (bs : List B3) : List B3 := bs.map (renB (turnL v k v.toNat))
def TSR (v : Int) (bs : List B3) (k : Int) (r : List B3) : Prop := if STS v bs ∧ 0 ≤ k ∧ k ≤ v - 1 then r.Perm (turnB v k bs) ∧ SrtB r else r = []
theorem TSR.len {v : Int} {bs : List B3} {k : Int} {r : List B3} (h : TSR v bs k r) : r.length ≤ bs.length := by
  unfold TSR at h
  split at h
  · rw [h.1.length_eq]; simp [turnB]
  · simp [h]
end Go.Vc

namespace Go.Vc
open Go Go.RowKit
section
variable {P : Program} {w0 w : World} {H : List Assn} {σ : Sig} {o : Oper} {T T2 : TypeId} {x y : Operand} {m n : Nat}
end

section
variable {α : Type} {P : Program} {w0 w : World} {Q : Exit → Act → World → Prop} {H H' : List Assn} {σ : Sig} {o : Oper}
theorem Ef.appendN {T e sz bytes c c2 m : Nat} {x y : Operand} {z : Value} {C : Cod α} {A A2 : Option Addr} {xs ys : List α} (i : Nat) (ho : o.op = .call { callee := .builtin .append, args := #[x, y], argTypes := #[T, T] }) (hT : P.underlying T = some (.slice e)) (hi : Inf P e sz bytes z) (hs : sz = C.sz) (hzc : z.cells.size = sz)
    (hx : ev σ x = some (.slice A xs.length c)) (hy : ev σ y = some (.slice A2 m c2)) (hp : pull i H = some (Own e C A c xs, H')) (hm : m = ys.length) (hA2 : ∀ w, St w0 H w → A2 = none → ys.length = 0 ∧ c2 = 0) (hr : ∀ w, St w0 H w → Rd C w A2 ys) (hb : (xs.length + ys.length) * bytes ≤ 140737488355328) (hbp : 0 < bytes) :
    Ef P w0 o σ H Q (fun v H'' => ∃ A' c', v = .slice A' (xs ++ ys).length c' ∧ H'' = repl i H (Own e C A' c' (xs ++ ys)) ∧ (A.isSome = true ∨ 0 < ys.length → A'.isSome = true)) := by
  cases A2 with
  | some q => exact Ef.append i ho hT hi hs hzc hx hy hp hm rfl hr hb hbp
  | none =>
    refine Ef.mk fun w hw a ha => ?_
    have h1 := ha x (by simp [ho, Op.operands, Call.operands]) _ hx
    have h2 := ha y (by simp [ho, Op.operands, Call.operands]) _ hy
    obtain ⟨h3, h4⟩ := hA2 w hw rfl
    subst hs
    subst hm
    subst h4
    have hys : ys = [] := List.length_eq_zero_iff.1 h3
    subst hys
    obtain ⟨i0, hi1, hi2, hi3, hi4⟩ := hi.parts
    obtain ⟨F, hown, hF⟩ := hw.get i hp
    have hrun := run_append_owned_none (P := P) (w := w) 0 T o.type e i0 C.sz hT hi1 _ xs.length (xs.flatMap C.enc) hown
    refine ⟨.slice A xs.length c, w, by simp only [List.length_nil] at h2; simp [execOp, ho, resolve, invoke, builtin, h1, h2, hrun], repl i H (Own e C A c (xs ++ [])), ?_, A, c, by rw [List.append_nil], rfl, fun h => by rcases h with h | h; (· exact h); (· simp at h)⟩
    rw [List.append_nil]
    exact (hw.perm (pull_perm hp)).perm (repl_perm hp)
end
def SrcK (T : TypeId) (cA : Option Addr) (cc : Nat) (code : List UInt8) (s : Nat) : Assn :=
  .exi fun q : Nat × Nat => .sep (.pur (q.1 ≤ code.length ∧ q.2 < 18446744073709551616)) (Blk s [.slice cA code.length cc, .int .i64 (q.1 : Int), .int .u64 (q.2 : Int)] T)
section
variable {P : Program} {N : Nat} {w0 w : World} {Q : Exit → Act → World → Prop} {σ : Sig} {H H' : List Assn} {T : TypeId} {cA : Option Addr} {cc s : Nat} {code : List UInt8}
theorem SrcK.mk {a h : Nat} (hp : a ≤ code.length ∧ h < 18446744073709551616) (hw : St w0 (Blk s [.slice cA code.length cc, .int .i64 (a : Int), .int .u64 (h : Int)] T :: H) w) : St w0 (SrcK T cA cc code s :: H) w :=
  St.mkExi (a, h) (St.unsep (St.addPur hp hw))
end
end Go.Vc

namespace Go.Vc
section
variable {v : Int} {bs : List B3} {r : List Int} {k : Int} {i : Nat}
theorem rises_ix (h : rises (bs.length : Int) r) : ∀ k ∈ r, okIx bs k := fun k hk => by
  obtain ⟨i, hi, rfl⟩ := List.getElem_of_mem hk
  exact ((rises_iff _ _).1 h i hi hi).1
theorem rises_len {n : Nat} (h : rises (n : Int) r) : r.length ≤ n := by
  have h1 := (rises_iff _ _).1 h
  have ge : ∀ i (hi : i < r.length), (i : Int) ≤ r[i] := by
    intro i
    induction i with
    | zero => intro hi; exact (h1 0 hi hi).1.1
    | succ i ih =>
      intro hi
      have a := ih (by omega)
      have b := (h1 (i + 1) hi hi).2 i (by omega) rfl
      omega
  by_cases e : r.length = 0
  · omega
  · have a := ge (r.length - 1) (by omega)
    have b := (h1 (r.length - 1) (by omega) (by omega)).1.2
    omega
noncomputable instance (bs : List B3) (r : List Int) : Decidable (Djs bs r) := Classical.propDecidable _
def DjA (bs : List B3) (r : List Int) (i : Nat) : Prop := ∀ q (hq : q < r.length) p (hp : p < r.length), p < q → q < i → disj (blk bs r[p]) (blk bs r[q])
theorem djA_zero : DjA bs r 0 := fun q hq p hp h1 h2 => by omega
theorem djA_succ (h : DjA bs r i) (hi : i < r.length) (h2 : ∀ p (hp : p < r.length), p < i → disj (blk bs r[p]) (blk bs r[i])) : DjA bs r (i + 1) := fun q hq p hp h3 h4 => by
  by_cases e : q = i
  · subst e; exact h2 p hp h3
  · exact h q hq p hp h3 (by omega)
theorem djA_all (h : DjA bs r i) (hi : r.length ≤ i) : Djs bs r := List.pairwise_iff_getElem.2 fun p q hp hq hpq => h q hq p hp hpq (by omega)
theorem djs_at (h : Djs bs r) {p q : Nat} (hp : p < r.length) (hq : q < r.length) (hpq : p < q) : disj (blk bs r[p]) (blk bs r[q]) := List.pairwise_iff_getElem.1 h p q hp hq hpq
theorem djs_take (h : Djs bs r) (n : Nat) : Djs bs (r.take n) := List.Pairwise.sublist (List.take_sublist n r) h
theorem maskOf_snoc : ∀ {r : List Int} {k : Int}, maskOf bs (r ++ [k]) = maskOf bs r ||| bmask (blk bs k)
  | [], k => by simp [maskOf]
  | a :: r, k => by simp only [List.cons_append, maskOf, maskOf_snoc (r := r), Nat.or_assoc]
theorem maskOf_lt (hb : ∀ b ∈ bs, good 15 b) : ∀ {r : List Int}, (∀ k ∈ r, okIx bs k) → maskOf bs r < 65536
  | [], _ => by unfold maskOf; decide
  | a :: r, h => by
    have h1 := bmask_lt (hb _ (blk_mem (h a (by simp))))
    have h2 := maskOf_lt hb (r := r) (fun k hk => h k (by simp [hk]))
    exact Nat.or_lt_two_pow (n := 16) h1 h2
theorem djs_snoc (hb : ∀ b ∈ bs, good v b) (hr : ∀ k ∈ r, okIx bs k) (hk : okIx bs k) : Djs bs (r ++ [k]) ↔ Djs bs r ∧ maskOf bs r &&& bmask (blk bs k) = 0 := by
  unfold Djs
  rw [List.pairwise_append, and_zero]
  constructor
  · rintro ⟨h1, _, h2⟩
    refine ⟨h1, ?_⟩
    rintro p ⟨hp1, hp2⟩
    obtain ⟨j, hj, h3⟩ := (maskOf_bit hb hr p).1 hp1
    exact h2 j hj k (by simp) p ⟨h3, (bmask_bit (hb _ (blk_mem hk)) p).1 hp2⟩
  · rintro ⟨h1, h2⟩
    refine ⟨h1, List.pairwise_singleton _ _, fun j hj l hl p hp => ?_⟩
    obtain rfl := List.mem_singleton.1 hl
    have hg := hb _ (blk_mem hk)
    have hp0 := (good_lt hg hp.2).1
    have e : ((p.toNat : Nat) : Int) = p := by omega
    exact h2 p.toNat ⟨(maskOf_bit hb hr _).2 ⟨j, hj, by rw [e]; exact hp.1⟩, (bmask_bit hg _).2 (by rw [e]; exact hp.2)⟩
theorem mask_full (hb : ∀ b ∈ bs, good v b) (hv : 0 ≤ v) (hr : ∀ k ∈ r, okIx bs k) (hd : Djs bs r) : maskOf bs r = 2 ^ v.toNat - 1 ↔ 3 * (r.length : Int) = v := by
  have h1 := maskOf_cov hb hr hd
  have key : maskOf bs r = 2 ^ v.toNat - 1 ↔ ∀ p, p < v.toNat → (maskOf bs r).testBit p = true := by
    constructor
    · intro e p hp
      rw [e, Nat.testBit_two_pow_sub_one, decide_eq_true_eq]
      exact hp
    · intro h
      apply Nat.eq_of_testBit_eq
      intro p
      rw [Nat.testBit_two_pow_sub_one]
      by_cases hp : p < v.toNat
      · rw [h p hp, decide_eq_true hp]
      · rw [decide_eq_false hp]
        cases ht : (maskOf bs r).testBit p with
        | false => rfl
        | true =>
          obtain ⟨k, hk, hh⟩ := (maskOf_bit hb hr p).1 ht
          have := (good_lt (hb _ (blk_mem (hr k hk))) hh).2
          omega
  rw [key, ← cov_all, h1]
  omega
end
end Go.Vc

namespace Go.Vc
open Go Go.RowKit
variable {P : Program} {N : Nat} {w0 : World} {Q : Exit → Act → World → Prop} {σ σ' : Sig} {H H' : List Assn} {ops : Array Oper} {rest : List Oper} {o : Oper} {ro : Option Nat}

abbrev Fw (ro : Option Nat) : Fence := { Fence.wide with round := ro }

theorem callsFw {n : Nat} {f : FuncId} {args : Array Value} {w : World} {R : Ending → World → Prop} (h : Calls P f args w R) : CallsIn (Fw ro) n P f args w R := callsIn_wide.2 h

theorem wpFw {a : Act} {w : World} {K : Act → World → Prop} (hnd : ∀ c, o.op ≠ .defer c) (h : o.wp P a w K Q) : o.wpIn (Fw ro) 0 P a w K Q := by
  refine ⟨fun _ _ => trivial, ?_⟩
  rw [Oper.semAt_eq _ _ _ hnd]
  unfold Oper.wp at h
  revert h
  generalize (execOp a.eval o).run P w = r
  intro h
  cases r with
  | ok x w' =>
    cases x with
    | value v => exact h
    | skip => exact h
    | defer d => exact h
    | enter f args => exact ⟨(fun h => by cases h), callsFw h⟩
    | row r args => exact ⟨fun h => (by cases h), fun c cs _ => let ⟨v, w', r, s⟩ := h c cs; ⟨v, w', r, stepsIn_wide.2 s⟩⟩
    | _ => exact h.elim
  | halt x w' =>
    cases x with
    | panic v => exact h
    | _ => exact h.elim

def OI (P : Program) (N : Nat) (w0 : World) (ro : Option Nat) (ops : Array Oper) (Q : Exit → Act → World → Prop) (rest : List Oper) (σ : Sig) (H : List Assn) : Prop :=
  ∀ w, St w0 H w → ∀ a, Env N σ a → wpListIn (Fw ro) 0 P ops Q rest a w
def VI (P : Program) (N : Nat) (w0 : World) (ro : Option Nat) (c : Code) (Q : Exit → Act → World → Prop) (σ : Sig) (H : List Assn) : Prop :=
  ∀ w, St w0 H w → ∀ a, Env N σ a → c.wpIn (Fw ro) 0 P Q a w

theorem VI.region {id : Nat} {l : List Oper} (h : OI P N w0 ro l.toArray Q l σ H) : VI P N w0 ro (.region id l.toArray false) Q σ H := fun w hw a ha => wpIn_region_lit (h w hw a ha)
theorem VI.block {id : Nat} {c : Code} (h : VI P N w0 ro c (Exit.inBlock id Q) σ H) : VI P N w0 ro (.block id c) Q σ H := fun w hw a ha => wpIn_block (h w hw a ha)
theorem V.ofI {c : Code} (h : VI P N w0 none c Q σ H) : V P N w0 c Q σ H := fun w hw a ha => (wpIn_wide (n := 0)).1 (h w hw a ha)
theorem OI.nil (h : X N w0 Q .normal σ H) : OI P N w0 ro ops Q [] σ H := fun w hw a ha => h w hw a ha
theorem OI.p {d : Tmp} {v : Value} (hnd : ∀ c, o.op ≠ .defer c) (hg : o.guard = none) (hd : o.dst = some d) (hN : Nat.blt d N = true) (hp : Pu P w0 o σ H v) (h : OI P N w0 ro ops Q rest ((d, v) :: σ) H) : OI P N w0 ro ops Q (o :: rest) σ H := by
  intro w hw a ha
  refine wpListIn_plain hg fun K hK => wpFw hnd (upon_ok (hp w hw a (ha.agree o)) (hK _ _ ?_))
  have := ha.put (d := some d) hN v
  rw [hd]
  exact h w hw _ this
theorem OI.ef {d : Option Tmp} {K : Value → List Assn → Prop} (hnd : ∀ c, o.op ≠ .defer c) (hg : o.guard = none) (hd : o.dst = d) (hN : dstOk d N = true) (hp : Ef P w0 o σ H Q K) (h : ∀ v H', K v H' → OI P N w0 ro ops Q rest (push d v σ) H') : OI P N w0 ro ops Q (o :: rest) σ H := by
  intro w hw a ha
  subst hd
  refine wpListIn_plain hg fun K' hK => wpFw hnd (Oper.wp_mono ?_ (hp w hw a (ha.agree o)))
  rintro a' w' ⟨v, H', rfl, hs, hk⟩
  exact hK _ _ (h v H' hk w' hs _ (ha.put hN v))
theorem OI.pre (hs : ∀ w, St w0 H w → St w0 H' w) (h : OI P N w0 ro ops Q rest σ H') : OI P N w0 ro ops Q rest σ H := fun w hw a ha => h w (hs w hw) a ha
theorem OI.exi {α : Type} {A : α → Assn} (h : ∀ x, OI P N w0 ro ops Q rest σ (A x :: H)) : OI P N w0 ro ops Q rest σ (.exi A :: H) := fun w hw a ha => let ⟨x, hx⟩ := hw.exi; h x w hx a ha
theorem OI.sep {A B : Assn} (h : OI P N w0 ro ops Q rest σ (A :: B :: H)) : OI P N w0 ro ops Q rest σ (.sep A B :: H) := fun w hw a ha => h w hw.sep a ha
theorem V.pre {c : Code} (hs : ∀ w, St w0 H w → St w0 H' w) (h : V P N w0 c Q σ H') : V P N w0 c Q σ H := fun w hw a ha => h w (hs w hw) a ha
theorem OI.yield {d : Tmp} {x y : Operand} {ts : Array TypeId} {l : Nat} {v : Value} (hg : o.guard = none) (hd : o.dst = some d) (hN : Nat.blt d N = true) (ho : o.op = .call { callee := .value x, args := #[y], argTypes := ts })
    (hx : ev σ x = some (.func (.yield l) #[] #[])) (hy : ev σ y = some v) (hyl : ∀ w, St w0 H w → YieldAt Fence.wide 0 P l #[v] w (fun e w' => e = .returned (.bool true) ∧ St w0 H' w'))
    (h : OI P N w0 none ops Q rest ((d, .bool true) :: σ) H') : OI P N w0 none ops Q (o :: rest) σ H := by
  intro w hw a ha
  obtain ⟨fn, tmps, assign, body, hr, hR⟩ := hyl w hw
  have h1 := ha.eval hx
  have h2 := ha.eval hy
  refine wpListIn_plain hg fun K hK => ⟨fun _ _ => trivial, ?_⟩
  have he : (o.semAt (Fw none).round a.eval).run P w = .ok (.round l fn tmps assign body) w := by
    show (execOp a.eval o).run P w = _
    simp [execOp, ho, resolve, invoke, h1, h2, Deferred.ofValue, Sem.run_pure, Result.andThen, hr]
  rw [he]
  refine ⟨(fun h => by cases h), hR.mono ?_⟩
  rintro e w' ⟨rfl, hs⟩
  rw [hd]
  exact hK _ _ (h w' hs _ (ha.put (d := some d) hN _))


def ObjA (b : Nat) (ob : Obj) : Assn := ⟨fun w F => w.heap[b]? = some ob ∧ ∀ k, F k ↔ k = b, fun ⟨h, hF⟩ hk => ⟨by rw [hk b ((hF b).2 rfl)]; exact h, hF⟩⟩
theorem ObjA.get {w : World} {b : Nat} {ob : Obj} (h : St w0 (ObjA b ob :: H) w) : w.heap[b]? = some ob := let ⟨_, hP, _⟩ := h.head; hP.1
theorem St.addObj {w : World} (hw : St w0 H w) (ob : Obj) : St w0 (ObjA w.heap.size ob :: H) (w.alloc ob) := by
  refine hw.add (below_alloc w ob) (F := fun k => k = w.heap.size) ⟨World.alloc_heap_new w ob, fun _ => Iff.rfl⟩ ?_
  rintro k rfl
  exact ⟨Nat.le_refl _, by simp⟩
theorem St.putObj {w : World} {b : Nat} {ob : Obj} (ob' : Obj) (hw : St w0 (ObjA b ob :: H) w) : St w0 (ObjA b ob' :: H) (w.putObj b ob') := by
  have hb : b < w.heap.size := (Array.getElem?_eq_some_iff.1 (ObjA.get hw)).1
  refine hw.upd fun F ⟨h, hF⟩ hk => ⟨⟨rfl, rfl, rfl, by simp [World.putObj], fun k _ hn => World.putObj_heap_other (fun e => hn ((hF k).2 (by first | exact e | exact e.symm))), Nat.le_refl _⟩, fun k => k = b, ⟨World.putObj_heap_same hb, fun _ => Iff.rfl⟩, ?_⟩
  rintro k rfl
  exact ⟨.inl ((hF k).2 rfl), by simpa [World.putObj] using hb⟩

def Each (P : Program) (f : FuncId) (lb : List Value) (xs : List Int) (w0 : World) (H : List Assn) : Prop :=
  ∀ (l : Nat) (J : Nat → List Assn),
    (∀ k (hk : k < xs.length) w, St w0 (H ++ J k) w → YieldAt Fence.wide 0 P l #[.int .i64 xs[k]] w (fun e w' => e = .returned (.bool true) ∧ St w0 (H ++ J (k + 1)) w')) →
    Does P f (.func (.yield l) #[] #[] :: lb) w0 (H ++ J 0) (fun _ => H ++ J xs.length)


structure EnvM (N D : Nat) (σ : Sig) (a : Act) : Prop where
  defers : a.defers = [{ target := .collected D, args := #[] }]
  size : a.tmps.size = N
  look_ : ∀ t v, look σ t = some v → a.tmps[t]? = some v
theorem EnvM.env {D : Nat} {a : Act} (h : EnvM N D σ a) : Env N σ { a with defers := [] } := ⟨rfl, h.size, h.look_⟩
theorem EnvM.agree {D : Nat} {a : Act} (h : EnvM N D σ a) (o : Oper) : Agree σ o a := fun x hx v hv => h.env.agree o x hx v hv
theorem EnvM.put {D : Nat} {a : Act} (h : EnvM N D σ a) {d : Tmp} (hd : Nat.blt d N = true) (v : Value) : EnvM N D ((d, v) :: σ) (a.put (some d) v) :=
  let e := h.env.put (d := some d) hd v; ⟨h.defers, e.size, e.look_⟩
def VM (P : Program) (N : Nat) (w0 : World) (D : Nat) (c : Code) (Q : Exit → Act → World → Prop) (σ : Sig) (H : List Assn) : Prop := ∀ w, St w0 H w → ∀ a, EnvM N D σ a → c.wp P Q a w
def XM (N : Nat) (w0 : World) (D : Nat) (Q : Exit → Act → World → Prop) (e : Exit) (σ : Sig) (H : List Assn) : Prop := ∀ w, St w0 H w → ∀ a, EnvM N D σ a → Q e a w
def OM (P : Program) (N : Nat) (w0 : World) (D : Nat) (ops : Array Oper) (Q : Exit → Act → World → Prop) (rest : List Oper) (σ : Sig) (H : List Assn) : Prop := ∀ w, St w0 H w → ∀ a, EnvM N D σ a → wpList P ops Q rest a w
section marks
variable {D : Nat}
theorem VM.seq {x y : Code} (h : VM P N w0 D x (Exit.then (fun a w => y.wp P Q a w) Q) σ H) : VM P N w0 D (.seq x y) Q σ H := fun w hw a ha => wp_seq (h w hw a ha)
theorem XM.next {y : Code} (h : VM P N w0 D y Q σ H) : XM N w0 D (Exit.then (fun a w => y.wp P Q a w) Q) .normal σ H := h
theorem XM.blockNormal {id : Nat} (h : XM N w0 D Q .normal σ H) : XM N w0 D (Exit.inBlock id Q) .normal σ H := h
theorem VM.region {id : Nat} {l : List Oper} (h : OM P N w0 D l.toArray Q l σ H) : VM P N w0 D (.region id l.toArray false) Q σ H := fun w hw a ha => wp_region_lit (h w hw a ha)
theorem OM.nil (h : XM N w0 D Q .normal σ H) : OM P N w0 D ops Q [] σ H := fun w hw a ha => wpList_nil (h w hw a ha)
theorem OM.p {d : Tmp} {v : Value} (hg : o.guard = none) (hd : o.dst = some d) (hN : Nat.blt d N = true) (hp : Pu P w0 o σ H v) (h : OM P N w0 D ops Q rest ((d, v) :: σ) H) : OM P N w0 D ops Q (o :: rest) σ H := by
  intro w hw a ha
  unfold wpList
  rw [if_pos (wanted_none hg _)]
  have := ha.put hN v
  rw [← hd] at this
  exact .inl (upon_ok (hp w hw a (ha.agree o)) (h w hw _ this))
theorem OM.exi {α : Type} {A : α → Assn} (h : ∀ x, OM P N w0 D ops Q rest σ (A x :: H)) : OM P N w0 D ops Q rest σ (.exi A :: H) := fun w hw a ha => let ⟨x, hx⟩ := hw.exi; h x w hx a ha
theorem OM.sep {A B : Assn} (h : OM P N w0 D ops Q rest σ (A :: B :: H)) : OM P N w0 D ops Q rest σ (.sep A B :: H) := fun w hw a ha => h w hw.sep a ha
theorem VM.pre {c : Code} (hs : ∀ w, St w0 H w → St w0 H' w) (h : VM P N w0 D c Q σ H') : VM P N w0 D c Q σ H := fun w hw a ha => h w (hs w hw) a ha
theorem OM.pre (hs : ∀ w, St w0 H w → St w0 H' w) (h : OM P N w0 D ops Q rest σ H') : OM P N w0 D ops Q rest σ H := fun w hw a ha => h w (hs w hw) a ha
theorem VM.ret1 {fn : Func} {t : Nat} {v : Value} {R : Value → List Assn} (hr : fn.results = #[.tmp t]) (ht : look σ t = some v) (hs : ∀ w, St w0 H w → St w0 (R v) w) :
    VM P N w0 D .ret (bodyPostM Fence.wide 0 P fn (fun e w' => ∃ v, e = .returned v ∧ St w0 (R v) w')) σ (ObjA D (.deferred (some [])) :: H) := by
  intro w hw a ha
  refine wp_ret ?_
  show LeavesInM Fence.wide 0 P fn a.tmps _ a.defers .returning w
  rw [ha.defers]
  refine ⟨(by intro h; cases h), .inl ⟨D, _, rfl, run_takeDeferred (ObjA.get hw), v, ?_, v, rfl, hs _ (hw.putObj _).tail⟩⟩
  have h1 := ha.look_ t v ht
  simp [results, hr, h1]
end marks

theorem Does.enterM {f : FuncId} {fn : Func} {c : Code} {args : List Value} {R : Value → List Assn} (hf : P.funcs[f]? = some fn) (hb : fn.body = some c) (hN : Nat.ble args.length fn.ntmps = true) (σ : Sig) (hσ : args0 0 args = σ)
    (h : V P fn.ntmps w0 c (bodyPostM Fence.wide 0 P fn (fun e w' => ∃ v, e = .returned v ∧ St w0 (R v) w')) σ H) : Does P f args w0 H R := by
  subst hσ
  intro w hw
  refine (callsIn_wide (n := 0)).1 (callsIn_of_wp_marks hf hb trivial ((wpIn_wide (n := 0)).2 (h w hw _ ⟨rfl, ?_, ?_⟩)))
  · have := Nat.le_of_ble_eq_true hN
    simp
    omega
  · intro t v ht
    obtain ⟨_, h2⟩ := look_args0 args 0 t v ht
    have hlt : t < args.length := (List.getElem?_eq_some_iff.1 (by simpa using h2)).1
    simp only [Nat.sub_zero] at h2
    rw [Array.getElem?_append_left (by simpa using hlt)]
    simpa using h2

def BoxI (T E b : Nat) (ys : List Int) : Assn := .exi fun A : Option Addr => .exi fun c : Nat => .sep (Blk b [.slice A ys.length c] T) (Own E I64 A c ys)
theorem BoxI.mk {T E b c : Nat} {A : Option Addr} {ys : List Int} {w : World} (h : St w0 (Blk b [.slice A ys.length c] T :: Own E I64 A c ys :: H) w) : St w0 (BoxI T E b ys :: H) w := St.mkExi A (St.mkExi c h.unsep)

theorem perm2 (x y : Assn) (A B : List Assn) : (x :: y :: (A ++ B)).Perm (A ++ (B ++ [x, y])) := by
  rw [← List.append_assoc]
  exact (List.perm_append_comm (l₁ := A ++ B) (l₂ := [x, y])).symm

theorem V.rangeFunc {g : Operand} {p : Tmp} {assign body : Code} {f : FuncId} {lb : List Value} {xs : List Int} {H0 : List Assn} (J : Nat → List Assn) (σ1 : Int → Sig) (hg : ev σ g = some (.func (.func f) #[] lb.toArray)) (hok : CallOk P f) (hN : Nat.blt p N = true)
    (hit : Each P f lb xs w0 H0) (hH : Sub H (H0 ++ J 0))
    (hassign : ∀ l (Fr : List Assn) k (hk : k < xs.length), VI P N w0 (some l) assign (fun e a' w' => e = .normal ∧ Env N (σ1 xs[k]) a' ∧ St w0 (H0 ++ (J k ++ Fr)) w') ((p, .int .i64 xs[k]) :: σ) (H0 ++ (J k ++ Fr)))
    (hbody : ∀ l (Fr : List Assn) k (hk : k < xs.length), VI P N w0 (some l) body (fun e _ w' => e = .normal ∧ St w0 (H0 ++ (J (k + 1) ++ Fr)) w') (σ1 xs[k]) (H0 ++ (J k ++ Fr)))
    (hdone : ∀ D, XM N w0 D Q .normal σ (ObjA D (.deferred (some [])) :: (H0 ++ J xs.length))) : V P N w0 (.rangeFunc g #[p] assign body) Q σ H := by
  intro w hw a ha
  have hw := hw.sub hH
  have hga := ha.eval hg
  refine (wpIn_wide (n := 0)).1 (wpIn_rangeFunc ?_)
  intro fn _
  obtain ⟨rec, hrec⟩ : ∃ rec : LoopState → Loop, rec = fun st => { state := st, pending := none, fn, tmps := a.tmps, params := #[p], assign, body, defers := w.heap.size } := ⟨_, rfl⟩
  have hw1 := (hw.addObj (.deferred (some []))).addObj (.loop (rec .ready))
  rw [World.size_alloc] at hw1
  refine ⟨w.heap.size + 1, [{ target := .collected w.heap.size, args := #[] }], (w.alloc (.deferred (some []))).alloc (.loop (rec .ready)), { target := .fn (.func f) lb.toArray, args := #[.func (.yield (w.heap.size + 1)) #[] #[]] }, (w.alloc (.deferred (some []))).alloc (.loop (rec .ready)), f,
    #[.func (.yield (w.heap.size + 1)) #[] #[]] ++ lb.toArray, (w.alloc (.deferred (some []))).alloc (.loop (rec .ready)), ?_, ?_, fun _ _ => trivial, ?_, (fun h => by cases h), ?_⟩
  · rw [hrec]; exact run_enterLoop_outer _ _ _ _ _
  · simp only [resolve, hga]
    simp [go_sem]
  · simp [invoke, run_callFunc hok]
  · have hc := hit (w.heap.size + 1) (fun k => J k ++ [ObjA (w.heap.size + 1) (.loop (rec .ready)), ObjA w.heap.size (.deferred (some []))]) (fun k hk W hW => ?_) _ (hw1.perm (perm2 _ _ _ _))
    · have he : (#[.func (.yield (w.heap.size + 1)) #[] #[]] ++ lb.toArray : Array Value) = (.func (.yield (w.heap.size + 1)) #[] #[] :: lb).toArray := by simp
      rw [he]
      refine callsIn_wide.2 (hc.mono ?_)
      rintro e W2 ⟨v, rfl, hs⟩
      have hs2 := hs.perm (perm2 _ _ _ _).symm
      have hl := ObjA.get hs2
      rw [hrec] at hl
      exact ⟨none, _, run_endLoop hl (by simp), hdone _ _ (hs2.putObj _).tail _ ⟨by simp [ha.defers], ha.size, ha.look_⟩⟩
    · have hW2 := hW.perm (perm2 _ _ _ _).symm
      have hl := ObjA.get hW2
      rw [hrec] at hl
      refine ⟨fn, _, assign, body, run_yield hl (by simp), roundIn_of_wpIn trivial ?_⟩
      have hev : Env N ((p, .int .i64 xs[k]) :: σ) { tmps := (#[p].zip #[Value.int .i64 xs[k]]).foldl (fun tmps (t, a) => tmps.setIfInBounds t a) a.tmps, defers := [] } := by
        have h9 := ha.put (d := some p) hN (.int .i64 xs[k])
        exact ⟨rfl, by simpa [Act.put] using h9.size, fun t v ht => by simpa [Act.put] using h9.look_ t v ht⟩
      refine wpIn_mono (hassign _ _ k hk W hW _ hev) ?_
      rintro e a' w' ⟨rfl, ha', hw'⟩
      have hw2 := hw'.perm (perm2 _ _ _ _).symm
      have hl2 := ObjA.get hw2
      rw [hrec] at hl2
      refine ⟨_, run_beginRound hl2 rfl, ?_⟩
      refine wpIn_mono (hbody _ _ k hk _ ((hw2.putObj _).perm (perm2 _ _ _ _)) a' ha') ?_
      rintro e a3 W3 ⟨rfl, hw3⟩
      have hw4 := hw3.perm (perm2 _ _ _ _).symm
      have hl3 := ObjA.get hw4
      refine ⟨_, _, run_endRound none hl3, rfl, ?_⟩
      have hw5 := (hw4.putObj (.loop (rec .ready))).perm (perm2 _ _ _ _)
      rw [hrec] at hw5 ⊢
      exact hw5
end Go.Vc

namespace Go.Vc
open Go Go.RowKit
variable {P : Program} {N : Nat} {w0 : World} {Q : Exit → Act → World → Prop} {σ : Sig} {H : List Assn} {o : Oper} {α : Type}

theorem Pu.capS {T : TypeId} {x : Operand} {A : Option Addr} {n c : Nat} {e : TypeId} (ho : o.op = .call { callee := .builtin .cap, args := #[x], argTypes := #[T] }) (hT : P.underlying T = some (.slice e)) (hx : ev σ x = some (.slice A n c)) : Pu P w0 o σ H (.int .i64 (c : Int)) := by
  intro w hw a ha
  have h1 := ha x (by simp [ho, Op.operands, Call.operands]) _ hx
  simp [execOp, ho, h1, resolve, invoke, builtin, Builtin.cap_, run_underlying hT, goInt]
theorem Ef.appendZ {T M e sz bytes n : Nat} {x y : Operand} {z : Value} {K K' : IntKind} (C : Cod α) (u : α) (ho : o.op = .call { callee := .builtin .append, args := #[x, y], argTypes := #[T, M] }) (hT : P.underlying T = some (.slice e)) (hM : P.underlying M = some (.int K')) (hi : Inf P e sz bytes z) (hs : sz = C.sz) (hz : z.cells.toList = C.enc u)
    (hx : ev σ x = some (.slice none 0 0)) (hy : ev σ y = some (.int K (n : Int))) (h0 : 0 < n) (hn : n ≤ 9223372036854775807) (hb : n * bytes ≤ 281474976710656) :
    Ef P w0 o σ H Q (fun v H' => ∃ A c, v = .slice A n c ∧ n ≤ c ∧ H' = Own e C A c ([] : List α) :: H) := by
  refine Ef.mk fun w hw a ha => ?_
  have h1 := ha x (by simp [ho, Op.operands, Call.operands]) _ hx
  have h2 := ha y (by simp [ho, Op.operands, Call.operands]) _ hy
  obtain ⟨i, hi1, hi2, hi3, hi4⟩ := hi.parts
  subst hs
  have hsz : z.cells.size = C.sz := by
    have := congrArg List.length hz
    rw [C.len] at this
    simpa using this
  have hrun := Lib.run_append_nil_zeros (P := P) w T M o.type e i z K K' hT hM hi1 hi2 n h0 (by rw [hi3]; exact C.pos) (by omega) (by rw [hi4]; exact hb)
  have hge := grownCap_ge w n 0 e
  have hle := grownCap_le_maxLen w n 0 e (by simpa [maxLen] using hn)
  refine ⟨_, (w.drew.alloc (.cells (Builtin.zeroCells z.cells n ++ Builtin.zeroCells z.cells (grownCap w n 0 e - n)) e)), ?_, _, hw.add (A := Own e C (some ⟨w.heap.size, 0, none⟩) (grownCap w n 0 e) ([] : List α)) (F := fun k => k = w.heap.size) ?_ ?_ ?_, _, _, rfl, hge, rfl⟩
  · simp [execOp, ho, resolve, invoke, builtin, h1, h2, hrun]
  · have b := (Below.refl w.drew.heap.size w.drew).alloc (Nat.le_refl _) (.cells (Builtin.zeroCells z.cells n ++ Builtin.zeroCells z.cells (grownCap w n 0 e - n)) e)
    exact ⟨b.os, b.tape, b.output, b.size, b.block, Nat.le_succ _⟩
  · refine ⟨⟨by simp, .inr ⟨_, _, _, rfl, Nat.zero_le _, World.alloc_heap_new w.drew _, Nat.zero_le _, hle, ?_, by simp⟩⟩, fun k => ?_⟩
    · simp only [Builtin.zeroCells, Array.size_append, Array.size_map, Array.size_range, hsz]
      rw [← Nat.add_mul, Nat.add_sub_cancel' hge]
    · simp [Value.ownBlock]
      exact eq_comm
  · rintro k rfl
    refine ⟨Nat.le_refl _, ?_⟩
    have := World.size_alloc w.drew (.cells (Builtin.zeroCells z.cells n ++ Builtin.zeroCells z.cells (grownCap w n 0 e - n)) e)
    rw [this]
    exact Nat.lt_succ_self _
end Go.Vc

namespace Go.Vc
open Go Go.RowKit

theorem flat_succ {l : List (List Int)} {i : Nat} (h : i < l.length) : (l.take (i + 1)).flatten = (l.take i).flatten ++ l[i] := by
  rw [List.take_succ_eq_append_getElem h, List.flatten_append]
  simp
theorem conts_take_flat {s : List (Sl × List Int)} {i : Nat} (h : i < s.length) : ((conts s).take (i + 1)).flatten = ((conts s).take i).flatten ++ (s[i]).2 := by
  rw [flat_succ (by rw [conts_len]; exact h)]
  simp [conts]
def sumL (s : List (Sl × List Int)) (i : Nat) : Nat := ((conts s).take i).flatten.length
theorem sumL_succ {s : List (Sl × List Int)} {i : Nat} (h : i < s.length) : sumL s (i + 1) = sumL s i + (s[i]).2.length := by
  unfold sumL
  rw [conts_take_flat h, List.length_append]
theorem sumL_le (s : List (Sl × List Int)) (i : Nat) : sumL s i ≤ (conts s).flatten.length := by
  unfold sumL
  have h : (conts s).flatten = ((conts s).take i).flatten ++ ((conts s).drop i).flatten := by rw [← List.flatten_append, List.take_append_drop]
  rw [h, List.length_append]
  omega
theorem row_flat {s : List (Sl × List Int)} {k : Nat} (h : k < s.length) : (s[k]).2.length ≤ (conts s).flatten.length := by
  have h1 := sumL_succ h
  have h2 := sumL_le s (k + 1)
  omega
theorem sumL_all (s : List (Sl × List Int)) : sumL s s.length = (conts s).flatten.length := by
  unfold sumL
  rw [List.take_of_length_le (by rw [conts_len]; exact Nat.le_refl _)]

def RowOk (s : List (Sl × List Int)) : Prop := ∀ p ∈ s, p.2.length ≤ p.1.c ∧ (p.1.A = none → p.1.c = 0)
theorem rises_sort {n : Int} {l : List Int} : rises n (sortI l) ↔ l.Nodup ∧ ∀ x ∈ l, 0 ≤ x ∧ x < n := by
  have hp := sortI_perm l
  have hs := sortI_sorted l
  rw [rises_iff]
  constructor
  · intro h
    have hlt : (sortI l).Pairwise (· < ·) := by
      rw [List.pairwise_iff_getElem]
      intro i j hi hj hij
      obtain ⟨d, rfl⟩ : ∃ d, j = i + 1 + d := ⟨j - (i + 1), by omega⟩
      induction d with
      | zero => exact (h (i + 1) hj (by omega)).2 i (by omega) rfl
      | succ d ih =>
        have h1 := ih (by omega) (by omega)
        have h2 := (h (i + 1 + (d + 1)) hj (by omega)).2 (i + 1 + d) (by omega) (by omega)
        omega
    refine ⟨hp.nodup_iff.1 (hlt.imp (fun h => by omega)), fun x hx => ?_⟩
    obtain ⟨k, hk, rfl⟩ := List.getElem_of_mem (hp.mem_iff.2 hx)
    have := (h k hk (by omega)).1
    omega
  · rintro ⟨hn, hr⟩ q hq h0
    refine ⟨?_, fun j hj e => ?_⟩
    · have := hr _ (hp.mem_iff.1 (List.getElem_mem hq))
      omega
    · have hle := List.pairwise_iff_getElem.1 hs j q (by omega) hq (by omega)
      have hne : (sortI l)[j] ≠ (sortI l)[q] := List.pairwise_iff_getElem.1 (hp.nodup_iff.2 hn) j q (by omega) hq (by omega)
      omega

def ResAt (v : Int) (bs : List B3) (l : List (List Int)) (i : Nat) : Prop := ∀ j (h : j < l.length), j < i → (3 * (l[j].length : Int) = v ∧ Djs bs l[j]) ∧ ∀ k (hk : k < l.length), k + 1 = j → cmpL l[k] l[j] < 0
def ResP (v : Int) (bs : List B3) (l : List (List Int)) : Prop := ResAt v bs l l.length ∧ l.flatten.length = bs.length ∧ l.flatten.Nodup
noncomputable instance (v : Int) (bs : List B3) (l : List (List Int)) : Decidable (ResP v bs l) := Classical.propDecidable _
theorem resAt_zero {v : Int} {bs : List B3} {l : List (List Int)} : ResAt v bs l 0 := fun j h h0 => by omega
theorem resAt_succ {v : Int} {bs : List B3} {l : List (List Int)} {i : Nat} (h : ResAt v bs l i) (hi : i < l.length) (hc : 3 * (l[i].length : Int) = v ∧ Djs bs l[i]) (ho : ∀ k (hk : k < l.length), k + 1 = i → cmpL l[k] l[i] < 0) : ResAt v bs l (i + 1) := by
  intro j hj hji
  by_cases e : j = i
  · subst e; exact ⟨hc, ho⟩
  · exact h j hj (by omega)
theorem resAt_succS {v : Int} {bs : List B3} {s : List (Sl × List Int)} {i : Nat} (h : ResAt v bs (conts s) i) (hi : i < s.length) (hc : 3 * ((s[i]).2.length : Int) = v ∧ Djs bs (s[i]).2) (ho : ∀ h0 : 0 < i, cmpL (s[i - 1]).2 (s[i]).2 < 0) : ResAt v bs (conts s) (i + 1) := by
  refine resAt_succ h (by rw [conts_len]; exact hi) (by rw [conts_get]; exact hc) (fun k hk e => ?_)
  subst e
  rw [conts_get, conts_get]
  exact ho (by omega)
theorem ResP.cls {v : Int} {bs : List B3} {s : List (Sl × List Int)} (h : ResP v bs (conts s)) {i : Nat} (hi : i < s.length) : 3 * ((s[i]).2.length : Int) = v ∧ Djs bs (s[i]).2 := by
  have := (h.1 i (by rw [conts_len]; exact hi) (by rw [conts_len]; exact hi)).1
  rw [conts_get] at this
  exact this
theorem ResP.ord {v : Int} {bs : List B3} {s : List (Sl × List Int)} (h : ResP v bs (conts s)) {i : Nat} (hi : i < s.length) (h0 : 0 < i) : cmpL (s[i - 1]).2 (s[i]).2 < 0 := by
  have := (h.1 i (by rw [conts_len]; exact hi) (by rw [conts_len]; exact hi)).2 (i - 1) (by rw [conts_len]; omega) (by omega)
  rw [conts_get, conts_get] at this
  exact this
def AllR (n : Int) (l : List (List Int)) : Prop := ∀ c ∈ l, rises n c
noncomputable instance (n : Int) (l : List (List Int)) : Decidable (AllR n l) := Classical.propDecidable _
theorem rises_mem {n : Int} {c : List Int} (h : rises n c) : ∀ x ∈ c, 0 ≤ x ∧ x < n := by
  intro x hx
  obtain ⟨k, hk, rfl⟩ := List.getElem_of_mem hx
  exact ((rises_iff n c).1 h k hk hk).1
theorem order_iff {n : Int} {l : List (List Int)} (h : AllR n l) : rises n (sortI l.flatten) ↔ l.flatten.Nodup := by
  rw [rises_sort]
  refine ⟨fun q => q.1, fun q => ⟨q, fun x hx => ?_⟩⟩
  obtain ⟨c, hc, hxc⟩ := List.mem_flatten.1 hx
  exact rises_mem (h c hc) x hxc
theorem res_iff {v : Int} {bs : List B3} {s : List (Sl × List Int)} {i : Nat} {r : List Int} (hS : STS v bs) (hal : AllR (bs.length : Int) (conts s)) (hr : ResAt v bs (conts s) i) (hi : s.length ≤ i) (e : r = (conts s).flatten) :
    ((r.length : Int) = (bs.length : Int) ∧ rises (bs.length : Int) (sortI r)) ↔ (STS v bs ∧ AllR (bs.length : Int) (conts s) ∧ ResP v bs (conts s)) := by
  subst e
  rw [order_iff hal]
  constructor
  · rintro ⟨h1, h2⟩
    exact ⟨hS, hal, fun j hj _ => hr j hj (by rw [conts_len] at hj; omega), by omega, h2⟩
  · rintro ⟨_, _, _, h1, h2⟩
    exact ⟨by omega, h2⟩
def SeenB (n : Nat) (z : List Bool) (L : List Int) : Prop := z.length = n ∧ ∀ k (h : k < z.length), z[k] = true ↔ (k : Int) ∈ L
theorem seen_zero (n : Nat) : SeenB n (List.replicate n false) [] := ⟨List.length_replicate .., fun k h => by simp⟩
theorem seen_set {n : Nat} {z : List Bool} {L : List Int} {x : Int} (h : SeenB n z L) (hx : 0 ≤ x) : SeenB n (z.set x.toNat true) (L ++ [x]) := by
  refine ⟨by rw [List.length_set]; exact h.1, fun k hk => ?_⟩
  rw [List.length_set] at hk
  rw [List.getElem_set]
  by_cases e : x.toNat = k
  · rw [if_pos e]
    simp only [List.mem_append, List.mem_singleton, true_iff]
    exact .inr (by omega)
  · rw [if_neg e, h.2 k hk]
    simp only [List.mem_append, List.mem_singleton]
    exact ⟨.inl, fun q => q.resolve_right (by omega)⟩
theorem seen_get {n : Nat} {z : List Bool} {L : List Int} {x : Int} (h : SeenB n z L) (hx : 0 ≤ x) (hk : x.toNat < z.length) : z[x.toNat] = true ↔ x ∈ L := by
  rw [h.2 _ hk, show ((x.toNat : Nat) : Int) = x by omega]
theorem nodup_snoc {L : List Int} {x : Int} (h : L.Nodup) (hx : ¬ x ∈ L) : (L ++ [x]).Nodup := by
  rw [List.nodup_append]
  refine ⟨h, by simp, fun a ha b hb e => ?_⟩
  simp only [List.mem_singleton] at hb
  subst hb
  subst e
  exact hx ha
theorem ResP.fresh {v : Int} {bs : List B3} {s : List (Sl × List Int)} (h : ResP v bs (conts s)) {i j : Nat} (hi : i < s.length) (hj : j < (s[i]).2.length) : ¬ (s[i]).2[j] ∈ ((conts s).take i).flatten ++ (s[i]).2.take j := by
  intro hm
  have h1 : (conts s).flatten = ((conts s).take (i + 1)).flatten ++ ((conts s).drop (i + 1)).flatten := by rw [← List.flatten_append, List.take_append_drop]
  have h2 := h.2.2
  rw [h1, conts_take_flat hi] at h2
  have h3 := (List.nodup_append.1 h2).1
  have h4 : (s[i]).2 = (s[i]).2.take j ++ (s[i]).2.drop j := (List.take_append_drop ..).symm
  rw [h4, ← List.append_assoc] at h3
  exact (List.nodup_append.1 h3).2.2 _ hm _ (List.mem_drop_iff_getElem.2 ⟨0, by omega, by simp⟩) rfl
theorem allR_of {n : Int} {s : List (Sl × List Int)} {i : Nat} (h : ∀ k (hk : k < s.length), k < i → rises n (s[k]).2) (hi : s.length ≤ i) : AllR n (conts s) := by
  intro q hq
  obtain ⟨k, hk, rfl⟩ := List.getElem_of_mem hq
  rw [conts_get]
  rw [conts_len] at hk
  exact h k hk (by omega)
theorem allR_at {n : Int} {s : List (Sl × List Int)} (h : AllR n (conts s)) {i : Nat} (hi : i < s.length) : rises n (s[i]).2 := h _ (List.mem_map_of_mem (List.getElem_mem hi))
theorem res_iff2 {v : Int} {bs : List B3} {s : List (Sl × List Int)} {i n : Nat} (hS : STS v bs) (hal : AllR (bs.length : Int) (conts s)) (hr : ResAt v bs (conts s) i) (hn : ((conts s).take i).flatten.Nodup) (e : n = sumL s i) (hi : s.length ≤ i) :
    ((n : Int) = (bs.length : Int)) ↔ (STS v bs ∧ AllR (bs.length : Int) (conts s) ∧ ResP v bs (conts s)) := by
  have h1 : (conts s).take i = conts s := List.take_of_length_le (by rw [conts_len]; exact hi)
  rw [h1] at hn
  unfold sumL at e
  rw [h1] at e
  subst e
  constructor
  · intro h
    exact ⟨hS, hal, fun j hj _ => hr j hj (by rw [conts_len] at hj; omega), by omega, hn⟩
  · rintro ⟨_, _, _, h2, _⟩
    omega
theorem fill_next {r : List (Sl × List Int)} {x : Sl × List Int} {n : Nat} (h : r.length < n) : (tops r ++ List.replicate (n - r.length) (⟨none, 0, 0⟩ : Sl)).set r.length x.1 = tops (r ++ [x]) ++ List.replicate (n - (r ++ [x]).length) ⟨none, 0, 0⟩ := by
  obtain ⟨m, rfl⟩ : ∃ m, n = r.length + 1 + m := ⟨n - (r.length + 1), by omega⟩
  have e1 : r.length + 1 + m - r.length = m + 1 := by omega
  have e2 : r.length + 1 + m - (r ++ [x]).length = m := by simp
  rw [e1, e2, tops_append, List.replicate_succ, List.set_append_right _ _ (by rw [tops_len]; exact Nat.le_refl _), tops_len, Nat.sub_self]
  simp [tops]
theorem roomLeft_pos {n : Nat} {l : Int} (h : ¬ roomLeft n l < 0) : roomLeft n l = l - n ∧ 0 ≤ l - n := by
  unfold roomLeft at *
  split at h <;> split <;> omega
end Go.Vc

namespace Go.Vc
open Go Go.RowKit Go.ChangeShapes Go.WideShapes
section
variable {H : Type} {enc : TypeId × Value → H} {P : Program} {w : World} {base : Nat} {spare : Nat → Bool} {held : Bool}
theorem open_ints {t e : TypeId} {fuel : Nat} {cs : List Value} {x : DataW H × List MemPlace} (ht : P.underlying t = some (.slice e)) (he : P.underlying e = some (.int .i64)) (ce : P.cellsOf e = 1)
    (h : DataW.trod enc P w base spare held fuel t cs = some x) : ∃ (A : Option Addr) (c : Nat) (bs : List Int), cs = [.slice A bs.length c] ∧ bs.length ≤ 9223372036854775807 ∧ Rd I64 w A bs := by
  rcases Deep.open_slice ht h with ⟨rfl, _⟩ | ⟨a, len, cap, m, n, D, Pl, rfl, hb, hl, hm, hmm, _, hx⟩
  · exact ⟨none, 0, [], rfl, by simp, Rd.nil _ _ _⟩
  · have hlm : len ≤ m := by rw [hmm]; split <;> omega
    have each : ∀ i, i < len → ∃ b : Int, w.cells? base (a.add (i * I64.sz)) I64.sz = some (I64.enc b) := by
      intro j hj
      obtain ⟨cs', h1, h2⟩ := hx j (by omega)
      obtain ⟨n, e0, _, hv⟩ := DataW.trod_int he h2
      subst e0
      rw [ce] at h1
      exact ⟨n, h1⟩
    obtain ⟨bs, hbl, hr⟩ := rd_of_cells each
    subst hbl
    simp only [maxLen] at hm
    exact ⟨some a, cap, bs, rfl, by omega, hr⟩
theorem open_rows {t s e : TypeId} {fuel : Nat} {cs : List Value} {x : DataW H × List MemPlace} (ht : P.underlying t = some (.slice s)) (hs : P.underlying s = some (.slice e)) (he : P.underlying e = some (.int .i64)) (ck : P.cellsOf s = 1) (ce : P.cellsOf e = 1)
    (h : DataW.trod enc P w base spare held fuel t cs = some x) : ∃ (A : Option Addr) (c : Nat) (ps : List (Sl × List Int)), cs = [.slice A (tops ps).length c] ∧ ps.length ≤ 9223372036854775807 ∧ RdL I64 w A ps := by
  rcases Deep.open_slice ht h with ⟨rfl, _⟩ | ⟨a, len, cap, m, n, D, Pl, rfl, hb, hl, hm, hmm, _, hx⟩
  · exact ⟨none, 0, [], rfl, by simp, ⟨Rd.nil _ _ _, fun p hp => by (cases hp), fun k hk => by (cases hk)⟩⟩
  · have hlm : len ≤ m := by rw [hmm]; split <;> omega
    have each : ∀ i, i < len → ∃ p : Sl × List Int, w.cells? base (a.add (i * SlC.sz)) SlC.sz = some (SlC.enc p.1) ∧ (p.1.n = p.2.length ∧ p.2.length ≤ 9223372036854775807) ∧ Rd I64 w p.1.A p.2 := by
      intro j hj
      obtain ⟨cs', h1, h2⟩ := hx j (by omega)
      obtain ⟨A, c, bs, rfl, hbl, hr⟩ := open_ints hs he ce h2
      rw [ck] at h1
      exact ⟨(⟨A, bs.length, c⟩, bs), h1, ⟨rfl, hbl⟩, hr⟩
    have key : ∀ m, m ≤ len → ∃ ps : List (Sl × List Int), ps.length = m ∧ ∀ i (hi : i < ps.length), w.cells? base (a.add (i * SlC.sz)) SlC.sz = some (SlC.enc (ps[i]).1) ∧ ((ps[i]).1.n = (ps[i]).2.length ∧ (ps[i]).2.length ≤ 9223372036854775807) ∧ Rd I64 w (ps[i]).1.A (ps[i]).2 := by
      intro m
      induction m with
      | zero => exact fun _ => ⟨[], rfl, fun i hi => by cases hi⟩
      | succ m ih =>
        intro hm
        obtain ⟨ps, hl, hr⟩ := ih (by omega)
        obtain ⟨p, hp⟩ := each m (by omega)
        refine ⟨ps ++ [p], by simp [hl], fun i hi => ?_⟩
        by_cases e : i < ps.length
        · rw [List.getElem_append_left e]
          exact hr i e
        · have e2 : i = m := by simp at hi; omega
          subst e2
          have hxx : (ps ++ [p])[i] = p := by simp [hl]
          rw [hxx]
          exact hp
    obtain ⟨ps, hpl, hr⟩ := key len (Nat.le_refl _)
    subst hpl
    simp only [maxLen] at hm
    refine ⟨some a, cap, ps, by rw [tops_len], by omega, ⟨fun i hi => ⟨a, rfl, fun j u hj => ?_⟩, fun p hp => ?_, fun k hk => (hr k hk).2.2⟩⟩
    · have hi2 : i < ps.length := by rw [tops_len] at hi; exact hi
      have hx := (hr i hi2).1
      have hti : (tops ps)[i] = (ps[i]).1 := by simp [tops]
      rw [hti] at hj
      obtain ⟨_, hlen, hcell⟩ := World.cells?_some hx
      have hjs : j < SlC.sz := by have := (List.getElem?_eq_some_iff.1 hj).1; rwa [SlC.len] at this
      have hc := hcell j hjs
      rw [Addr.add_add'] at hc
      rw [hc]
      exact hj
    · obtain ⟨k, hk, rfl⟩ := List.getElem_of_mem hp
      exact (hr k hk).2.1
end
end Go.Vc

