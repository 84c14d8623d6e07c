/- The moves of the code with the way on hidden: what is still to come is an unknown condition, so neither the text's steps nor the kernel look at it. -/
import Derived.Test.YtfjbinbpgdiafaaGreatDoorVd
namespace Go.Proofs.YtfjbinbpgdiafaaGreatDoor
set_option linter.unusedVariables false
set_option linter.unusedSimpArgs false
set_option linter.unusedSectionVars false
open Go.RowKit Pl
section
variable {P : Program} {tt : TT} {base : Nat} {Q : Pst}
theorem z0f {x y : Code} {S : St} (h : ∀ Q1 : Pst, (∀ S', W P tt base y Q S' → Q1 .normal S') → (∀ i S', Q (.exit i) S' → Q1 (.exit i) S') → (∀ S', Q .ret S' → Q1 .ret S') → W P tt base x Q1 S) : W P tt base (.seq x y) Q S :=
 wi_seq (h _ (fun _ h => h) (fun _ _ h => h) (fun _ h => h))
theorem z04 {n : Nat} {c : Code} {S : St} (h : ∀ Q1 : Pst, (∀ S', Q .normal S' → Q1 .normal S') → (∀ S', Q .normal S' → Q1 (.exit n) S') → (∀ i S', Nat.beq i n = false → Q (.exit i) S' → Q1 (.exit i) S') → (∀ S', Q .ret S' → Q1 .ret S') → W P tt base c Q1 S) : W P tt base (.block n c) Q S :=
 zf5 (h _ (fun _ h => h) (fun S' h => by show (bif Nat.beq n n then Q .normal S' else Q (.exit n) S'); rw [Nat.beq_refl]; exact h) (fun i S' e h => by show (bif Nat.beq i n then Q .normal S' else Q (.exit i) S'); rw [e]; exact h) (fun _ h => h))
end
end Go.Proofs.YtfjbinbpgdiafaaGreatDoor
