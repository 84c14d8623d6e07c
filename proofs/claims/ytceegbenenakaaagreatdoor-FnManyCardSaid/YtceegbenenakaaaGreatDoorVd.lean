/- A call before which all rows that are handed over by value are given up. Loops whose way on is hidden while their rounds are shown. The moves of the code itself, one by one: for texts whose code is kept shut (the kernel then compares no code that is still to come). -/
import Derived.Test.YtceegbenenakaaaGreatDoorV20
namespace Go.Proofs.YtceegbenenakaaaGreatDoor
set_option linter.unusedVariables false
set_option linter.unusedSimpArgs false
set_option linter.unusedSectionVars false
open Go.RowKit Pl
end Go.Proofs.YtceegbenenakaaaGreatDoor
namespace Go.Proofs.YtceegbenenakaaaGreatDoor
set_option linter.unusedVariables false
set_option linter.unusedSimpArgs false
set_option linter.unusedSectionVars false
open Go.RowKit Pl
def HQ (Q Q' : Pst) : Prop := ∀ e S, Q e S → Q' e S
theorem z1o {base : Nat} {Wc : Pst → St → Prop} {Q : Pst} {S : St} (σ : Type) (st : σ → St) (inv : σ → Prop) (μ : σ → Nat) (x0 : σ) (h0 : inv x0) (hl : LeP base S (st x0))
 (hr : ∀ Q' : Pst, HQ Q Q' → ∀ x, inv x → Wc (fun e S' => match e with
   | .normal => ∃ x', inv x' ∧ μ x' < μ x ∧ LeP base S' (st x')
   | .exit i => Q' (.exit i) S'
   | .ret => Q' .ret S') (st x)) : z0C base Wc Q S := z0P σ st inv μ x0 h0 hl (hr Q fun _ _ h => h)
end Go.Proofs.YtceegbenenakaaaGreatDoor
namespace Go.Proofs.YtceegbenenakaaaGreatDoor
set_option linter.unusedVariables false
set_option linter.unusedSimpArgs false
set_option linter.unusedSectionVars false
open Go.RowKit Pl
section
variable {P : Program} {tt : TT} {base : Nat} {Q : Pst}
theorem wi_seq {x y : Code} {S : St} (h : W P tt base x (fun e S' => match e with
 | .normal => W P tt base y Q S'
 | .exit i => Q (.exit i) S'
 | .ret => Q .ret S') S) : W P tt base (.seq x y) Q S := h
theorem z03 {c : Operand} {x y : Code} {S : St} {b : Bool} (he : S.ev c = .bool b) (h : z0s b (W P tt base x Q S) (W P tt base y Q S)) : W P tt base (.cond c x y) Q S := by
 show (match S.ev c with
  | .bool b => z0s b (W P tt base x Q S) (W P tt base y Q S)
  | _ => False)
 rw [he]
 exact h
theorem z09 {i : Nat} {ops : Array Oper} {sl : List (Nat × T)} {hp : List (Nat × Option Ent)} {nx : Nat} (h : WO P tt ops.toList nx 0 ops.toList (Q .normal) ⟨sl, hp, nx⟩) : W P tt base (.region i ops false) Q ⟨sl, hp, nx⟩ := h
theorem z04 {i : Nat} {ops : Array Oper} {sl : List (Nat × T)} {hp : List (Nat × Option Ent)} {nx : Nat} (h : WD P tt ops.toList nx (Q .normal) ⟨sl, hp, nx⟩) : W P tt base (.region i ops true) Q ⟨sl, hp, nx⟩ := h
theorem z05 {S : St} (h : Q .normal S) : W P tt base .skip Q S := h
theorem z0a {S : St} (h : Q .ret S) : W P tt base .ret Q S := h
theorem z06 {i : Nat} {S : St} (h : Q (.exit i) S) : W P tt base (.exit i) Q S := h
theorem zcC {i : Nat} {c : Code} {S : St} (h : W P tt base c (fun e S' => match e with
 | .normal => Q .normal S'
 | .exit j => bif Nat.beq j i then Q .normal S' else Q (.exit j) S'
 | .ret => Q .ret S') S) : W P tt base (.block i c) Q S := h
theorem z07 {c : Code} {S : St} (h : z0C base (W P tt base c) Q S) : W P tt base (.loop c) Q S := h
end
end Go.Proofs.YtceegbenenakaaaGreatDoor
