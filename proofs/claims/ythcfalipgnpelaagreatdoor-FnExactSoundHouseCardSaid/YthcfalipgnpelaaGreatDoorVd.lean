/- A call before which all rows that are handed over by value are given up. Loops whose way on is hidden while their rounds are shown. The moves of the code itself, one by one: for texts whose code is kept shut (the kernel then compares no code that is still to come). -/
import Derived.Test.YthcfalipgnpelaaGreatDoorV20
namespace Go.Proofs.YthcfalipgnpelaaGreatDoor
set_option linter.unusedVariables false
set_option linter.unusedSimpArgs false
set_option linter.unusedSectionVars false
open Go.RowKit Pl
def refs0 : T → List Nat
 | .ref r => [r]
 | _ => []
def refs1 : T → List Nat
 | .agg cs => cs.flatMap refs0
 | x => refs0 x
def zf5 (σ : List Nat) (xs : List T) : List Nat := (xs.flatMap refs1).filter fun r => !σ.contains r
theorem z7m {P : Program} {f : FuncId} {xs ts : List T} {H : Hp} {id : Nat} {K : List Nat → Kon} {He He' : List Ent} {r : T} (σ : List Nat) (hc : CT P f He ts r He') (h1 : AM σ (updL H (z3I (zf5 σ xs))) (xs.map (frz1 (zf5 σ xs) H)) ts) (h2 : HM σ (updL H (z3I (zf5 σ xs))) He.length σ He) (h3 : σ.Nodup ∧ 0 ∉ σ)
 (h4 : (Nat.ble He.length He'.length && Nat.ble He'.length (He.length + 16) && z8O He'.length r && He'.all (z8P He'.length)) = true) (h5 : (xs.map (frz1 (zf5 σ xs) H)).all z2I = true ∨ (own2 r ∧ ∀ e ∈ He', ownE e))
 (hk : K σ (ren2 (rho σ id) r) (z3I (zf5 σ xs) ++ z6z (rho σ id) He' 1)) : z0p P f xs H id K := z3K (zf5 σ xs) σ hc h1 h2 h3 h4 h5 hk
end Go.Proofs.YthcfalipgnpelaaGreatDoor
namespace Go.Proofs.YthcfalipgnpelaaGreatDoor
set_option linter.unusedVariables false
set_option linter.unusedSimpArgs false
set_option linter.unusedSectionVars false
open Go.RowKit Pl
def HQ (Q Q' : Pst) : Prop := ∀ e S, Q e S → Q' e S
theorem z0K {base : Nat} {Wc : Pst → St → Prop} {Q : Pst} {S : St} (σ : Type) (st : σ → St) (inv : σ → Prop) (μ : σ → Nat) (x0 : σ) (h0 : inv x0) (hl : LeP base S (st x0))
 (hr : ∀ Q' : Pst, HQ Q Q' → ∀ x, inv x → Wc (fun e S' => match e with
   | .normal => ∃ x', inv x' ∧ μ x' < μ x ∧ LeP base S' (st x')
   | .exit i => Q' (.exit i) S'
   | .ret => Q' .ret S') (st x)) : z0z base Wc Q S := z0f σ st inv μ x0 h0 hl (hr Q fun _ _ h => h)
end Go.Proofs.YthcfalipgnpelaaGreatDoor
namespace Go.Proofs.YthcfalipgnpelaaGreatDoor
set_option linter.unusedVariables false
set_option linter.unusedSimpArgs false
set_option linter.unusedSectionVars false
open Go.RowKit Pl
section
variable {P : Program} {tt : TT} {base : Nat} {Q : Pst}
theorem wi_seq {x y : Code} {S : St} (h : W P tt base x (fun e S' => match e with
 | .normal => W P tt base y Q S'
 | .exit i => Q (.exit i) S'
 | .ret => Q .ret S') S) : W P tt base (.seq x y) Q S := h
theorem zlw {c : Operand} {x y : Code} {S : St} {b : Bool} (he : S.ev c = .bool b) (h : z0o b (W P tt base x Q S) (W P tt base y Q S)) : W P tt base (.cond c x y) Q S := by
 show (match S.ev c with
  | .bool b => z0o b (W P tt base x Q S) (W P tt base y Q S)
  | _ => False)
 rw [he]
 exact h
theorem wi_reg {i : Nat} {ops : Array Oper} {sl : List (Nat × T)} {hp : List (Nat × Option Ent)} {nx : Nat} (h : WO P tt ops.toList nx 0 ops.toList (Q .normal) ⟨sl, hp, nx⟩) : W P tt base (.region i ops false) Q ⟨sl, hp, nx⟩ := h
theorem zlx {i : Nat} {ops : Array Oper} {sl : List (Nat × T)} {hp : List (Nat × Option Ent)} {nx : Nat} (h : WD P tt ops.toList nx (Q .normal) ⟨sl, hp, nx⟩) : W P tt base (.region i ops true) Q ⟨sl, hp, nx⟩ := h
theorem zly {S : St} (h : Q .normal S) : W P tt base .skip Q S := h
theorem wi_ret {S : St} (h : Q .ret S) : W P tt base .ret Q S := h
theorem zlz {i : Nat} {S : St} (h : Q (.exit i) S) : W P tt base (.exit i) Q S := h
theorem zjs {i : Nat} {c : Code} {S : St} (h : W P tt base c (fun e S' => match e with
 | .normal => Q .normal S'
 | .exit j => bif Nat.beq j i then Q .normal S' else Q (.exit j) S'
 | .ret => Q .ret S') S) : W P tt base (.block i c) Q S := h
theorem zlA {c : Code} {S : St} (h : z0z base (W P tt base c) Q S) : W P tt base (.loop c) Q S := h
theorem wiQ {c : Code} {S : St} {B : Prop} (k : B) (h : B → W P tt base c Q S := by
 first
  | (exact fun k => wi_seq k) | (exact fun k => wi_reg k) | (exact fun k => zlx k) | (exact fun k => zlw rfl k) | (exact fun k => zly k) | (exact fun k => wi_ret k) | (exact fun k => zlz k) | (exact fun k => zjs k) | (exact fun k => zlA k)) : W P tt base c Q S := h k
end
end Go.Proofs.YthcfalipgnpelaaGreatDoor
