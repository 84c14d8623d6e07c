/- Loops whose way on is hidden while their rounds are shown. The moves of the code itself, one by one: for texts whose code is kept shut (the kernel then compares no code that is still to come). The moves of the code with the way on hidden: what is still to come is an unknown condition, so neither the text's steps nor the kernel look at it. -/
import Derived.Test.YtkgfidphcpklhaaDoorV21
namespace Go.Proofs.YtkgfidphcpklhaaDoor
open Go.RowKit Pl
set_option linter.unusedVariables false

def HQ (Q Q' : Pst) : Prop := ∀ e S, Q e S → Q' e S
theorem loop_op {base : Nat} {Wc : Pst → St → Prop} {Q : Pst} {S : St} (σ : Type) (st : σ → St) (inv : σ → Prop) (μ : σ → Nat) (x0 : σ) (h0 : inv x0) (hl : LeP base S (st x0))
    (hr : ∀ Q' : Pst, HQ Q Q' → ∀ x, inv x → Wc (fun e S' => match e with
      | .normal => ∃ x', inv x' ∧ μ x' < μ x ∧ LeP base S' (st x')
      | .exit i => Q' (.exit i) S'
      | .ret => Q' .ret S') (st x)) : LoopW base Wc Q S := loop_of σ st inv μ x0 h0 hl (hr Q fun _ _ h => h)
end Go.Proofs.YtkgfidphcpklhaaDoor
namespace Go.Proofs.YtkgfidphcpklhaaDoor
open Go.RowKit Pl
set_option linter.unusedVariables false

section
variable {P : Program} {tt : TT} {base : Nat} {Q : Pst}
theorem wi_seq {x y : Code} {S : St} (h : W P tt base x (fun e S' => match e with
    | .normal => W P tt base y Q S'
    | .exit i => Q (.exit i) S'
    | .ret => Q .ret S') S) : W P tt base (.seq x y) Q S := h
theorem wi_cond {c : Operand} {x y : Code} {S : St} {b : Bool} (he : S.ev c = .bool b) (h : CondB b (W P tt base x Q S) (W P tt base y Q S)) : W P tt base (.cond c x y) Q S := by
  show (match S.ev c with
    | .bool b => CondB b (W P tt base x Q S) (W P tt base y Q S)
    | _ => False)
  rw [he]
  exact h
theorem wi_reg {i : Nat} {ops : Array Oper} {sl : List (Nat × T)} {hp : List (Nat × Option Ent)} {nx : Nat} (h : WO P tt ops.toList nx 0 ops.toList (Q .normal) ⟨sl, hp, nx⟩) : W P tt base (.region i ops false) Q ⟨sl, hp, nx⟩ := h
theorem wi_regd {i : Nat} {ops : Array Oper} {sl : List (Nat × T)} {hp : List (Nat × Option Ent)} {nx : Nat} (h : WD P tt ops.toList nx (Q .normal) ⟨sl, hp, nx⟩) : W P tt base (.region i ops true) Q ⟨sl, hp, nx⟩ := h
theorem wi_skip {S : St} (h : Q .normal S) : W P tt base .skip Q S := h
theorem wi_ret {S : St} (h : Q .ret S) : W P tt base .ret Q S := h
theorem wi_exit {i : Nat} {S : St} (h : Q (.exit i) S) : W P tt base (.exit i) Q S := h
theorem wi_block {i : Nat} {c : Code} {S : St} (h : W P tt base c (fun e S' => match e with
    | .normal => Q .normal S'
    | .exit j => bif Nat.beq j i then Q .normal S' else Q (.exit j) S'
    | .ret => Q .ret S') S) : W P tt base (.block i c) Q S := h
theorem wi_loop {c : Code} {S : St} (h : LoopW base (W P tt base c) Q S) : W P tt base (.loop c) Q S := h
/-- One move of the code. -/
theorem wiQ {c : Code} {S : St} {B : Prop} (k : B) (h : B → W P tt base c Q S := by
  first
    | (exact fun k => wi_seq k) | (exact fun k => wi_reg k) | (exact fun k => wi_regd k) | (exact fun k => wi_cond rfl k) | (exact fun k => wi_skip k) | (exact fun k => wi_ret k) | (exact fun k => wi_exit k) | (exact fun k => wi_block k) | (exact fun k => wi_loop k)) : W P tt base c Q S := h k
end
end Go.Proofs.YtkgfidphcpklhaaDoor
namespace Go.Proofs.YtkgfidphcpklhaaDoor
open Go.RowKit Pl
set_option linter.unusedVariables false

section
variable {P : Program} {tt : TT} {base : Nat} {Q : Pst}
theorem wo_seq {x y : Code} {S : St} (h : ∀ Q1 : Pst, (∀ S', W P tt base y Q S' → Q1 .normal S') → (∀ i S', Q (.exit i) S' → Q1 (.exit i) S') → (∀ S', Q .ret S' → Q1 .ret S') → W P tt base x Q1 S) : W P tt base (.seq x y) Q S :=
  wi_seq (h _ (fun _ h => h) (fun _ _ h => h) (fun _ h => h))
theorem wo_block {n : Nat} {c : Code} {S : St} (h : ∀ Q1 : Pst, (∀ S', Q .normal S' → Q1 .normal S') → (∀ S', Q .normal S' → Q1 (.exit n) S') → (∀ i S', Nat.beq i n = false → Q (.exit i) S' → Q1 (.exit i) S') → (∀ S', Q .ret S' → Q1 .ret S') → W P tt base c Q1 S) : W P tt base (.block n c) Q S :=
  wi_block (h _ (fun _ h => h) (fun S' h => by show (bif Nat.beq n n then Q .normal S' else Q (.exit n) S'); rw [Nat.beq_refl]; exact h) (fun i S' e h => by show (bif Nat.beq i n then Q .normal S' else Q (.exit i) S'); rw [e]; exact h) (fun _ h => h))
end
end Go.Proofs.YtkgfidphcpklhaaDoor
