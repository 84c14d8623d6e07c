/- Loops whose way on is hidden while their rounds are shown. -/
import Derived.Test.YtmmnkndmlkhmhaaGreatDoorV21
namespace Go.Proofs.YtmmnkndmlkhmhaaGreatDoor
open Go.RowKit Pl
set_option linter.unusedVariables false
set_option linter.unusedSimpArgs false

def HQ (Q Q' : Pst) : Prop := ∀ e S, Q e S → Q' e S
theorem loop_op {base : Nat} {Wc : Pst → St → Prop} {Q : Pst} {S : St} (σ : Type) (st : σ → St) (inv : σ → Prop) (μ : σ → Nat) (x0 : σ) (h0 : inv x0) (hl : LeP base S (st x0))
    (hr : ∀ Q' : Pst, HQ Q Q' → ∀ x, inv x → Wc (fun e S' => match e with
      | .normal => ∃ x', inv x' ∧ μ x' < μ x ∧ LeP base S' (st x')
      | .exit i => Q' (.exit i) S'
      | .ret => Q' .ret S') (st x)) : LoopW base Wc Q S := loop_of σ st inv μ x0 h0 hl (hr Q fun _ _ h => h)
end Go.Proofs.YtmmnkndmlkhmhaaGreatDoor
