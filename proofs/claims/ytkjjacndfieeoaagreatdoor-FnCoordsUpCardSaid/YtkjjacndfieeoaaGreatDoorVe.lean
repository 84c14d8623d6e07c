/- The moves of the code with the way on hidden: what is still to come is an unknown condition, so neither the text's steps nor the kernel look at it. Rows that may be moved: a contract's own row told as such; marks in rows. -/
import Derived.Test.YtkjjacndfieeoaaGreatDoorVd
namespace Go.Proofs.YtkjjacndfieeoaaGreatDoor
set_option linter.unusedVariables false
set_option linter.unusedSimpArgs false
set_option linter.unusedSectionVars false
open Go.RowKit Pl
section
variable {P : Program} {tt : TT} {base : Nat} {Q : Pst}
theorem z0c {x y : Code} {S : St} (h : ∀ Q1 : Pst, (∀ S', W P tt base y Q S' → Q1 .normal S') → (∀ i S', Q (.exit i) S' → Q1 (.exit i) S') → (∀ S', Q .ret S' → Q1 .ret S') → W P tt base x Q1 S) : W P tt base (.seq x y) Q S :=
 zhT (h _ (fun _ h => h) (fun _ _ h => h) (fun _ h => h))
theorem z03 {n : Nat} {c : Code} {S : St} (h : ∀ Q1 : Pst, (∀ S', Q .normal S' → Q1 .normal S') → (∀ S', Q .normal S' → Q1 (.exit n) S') → (∀ i S', Nat.beq i n = false → Q (.exit i) S' → Q1 (.exit i) S') → (∀ S', Q .ret S' → Q1 .ret S') → W P tt base c Q1 S) : W P tt base (.block n c) Q S :=
 zcn (h _ (fun _ h => h) (fun S' h => by show (bif Nat.beq n n then Q .normal S' else Q (.exit n) S'); rw [Nat.beq_refl]; exact h) (fun i S' e h => by show (bif Nat.beq i n then Q .normal S' else Q (.exit i) S'); rw [e]; exact h) (fun _ h => h))
end
end Go.Proofs.YtkjjacndfieeoaaGreatDoor
namespace Go.Proofs.YtkjjacndfieeoaaGreatDoor
set_option linter.unusedVariables false
set_option linter.unusedSimpArgs false
set_option linter.unusedSectionVars false
open Go.RowKit Pl
def zcG (k : Nat) (c : T) : T := match c with
 | .val (.slice none 0 0) => .own k []
 | c => c
theorem zfX (k : Nat) (hk : 0 < k) (c : T) : zcG k c = c ∨ (c = .val nilV ∧ ∃ k', 0 < k' ∧ zcG k c = .own k' []) := by
 unfold zcG
 split
 ·exact .inr ⟨rfl, k, hk, rfl⟩
 ·exact .inl rfl
theorem CvE.nil (k : Nat) (hk : 0 < k) : CvE [[.val nilV]] [[.own k []]] := ⟨fun e he c hc => by
 rw [List.mem_singleton] at he; subst he
 rw [List.mem_singleton] at hc; subst hc; trivial, zcG k, zfX k hk, rfl⟩
section
variable (el : Nat → List T → List T) (sz : List T → Nat)
end
end Go.Proofs.YtkjjacndfieeoaaGreatDoor
