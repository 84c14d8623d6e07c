/- A call before which all rows that are handed over by value are given up. Loops whose way on is hidden while their rounds are shown. The moves of the code itself, one by one: for texts whose code is kept shut (the kernel then compares no code that is still to come). -/
import Derived.Test.YtgmbkbggnlponaaGreatDoorV20
namespace Go.Proofs.YtgmbkbggnlponaaGreatDoor
set_option linter.unusedVariables false
set_option linter.unusedSimpArgs false
set_option linter.unusedSectionVars false
open Go.RowKit Pl
def refs0 : T → List Nat
 | .ref r => [r]
 | _ => []
def refs1 : T → List Nat
 | .agg cs => cs.flatMap refs0
 | x => refs0 x
def zde (σ : List Nat) (xs : List T) : List Nat := (xs.flatMap refs1).filter fun r => !σ.contains r
theorem zhG {P : Program} {f : FuncId} {xs ts : List T} {H : Hp} {id : Nat} {K : List Nat → Kon} {He He' : List Ent} {r : T} (σ : List Nat) (hc : CT P f He ts r He') (h1 : AM σ (updL H (z16 (zde σ xs))) (xs.map (frz1 (zde σ xs) H)) ts) (h2 : HM σ (updL H (z16 (zde σ xs))) He.length σ He) (h3 : σ.Nodup ∧ 0 ∉ σ)
 (h4 : (Nat.ble He.length He'.length && Nat.ble He'.length (He.length + 16) && z7N He'.length r && He'.all (z6n He'.length)) = true) (h5 : (xs.map (frz1 (zde σ xs) H)).all z2E = true ∨ (own2 r ∧ ∀ e ∈ He', ownE e))
 (hk : K σ (ren2 (rho σ id) r) (z16 (zde σ xs) ++ z5K (rho σ id) He' 1)) : z0u P f xs H id K := z6w (zde σ xs) σ hc h1 h2 h3 h4 h5 hk
end Go.Proofs.YtgmbkbggnlponaaGreatDoor
namespace Go.Proofs.YtgmbkbggnlponaaGreatDoor
set_option linter.unusedVariables false
set_option linter.unusedSimpArgs false
set_option linter.unusedSectionVars false
open Go.RowKit Pl
def HQ (Q Q' : Pst) : Prop := ∀ e S, Q e S → Q' e S
theorem z6x {base : Nat} {Wc : Pst → St → Prop} {Q : Pst} {S : St} (σ : Type) (st : σ → St) (inv : σ → Prop) (μ : σ → Nat) (x0 : σ) (h0 : inv x0) (hl : LeP base S (st x0))
 (hr : ∀ Q' : Pst, HQ Q Q' → ∀ x, inv x → Wc (fun e S' => match e with
   | .normal => ∃ x', inv x' ∧ μ x' < μ x ∧ LeP base S' (st x')
   | .exit i => Q' (.exit i) S'
   | .ret => Q' .ret S') (st x)) : z0y base Wc Q S := z0S σ st inv μ x0 h0 hl (hr Q fun _ _ h => h)
end Go.Proofs.YtgmbkbggnlponaaGreatDoor
namespace Go.Proofs.YtgmbkbggnlponaaGreatDoor
set_option linter.unusedVariables false
set_option linter.unusedSimpArgs false
set_option linter.unusedSectionVars false
open Go.RowKit Pl
section
variable {P : Program} {tt : TT} {base : Nat} {Q : Pst}
theorem wi_seq {x y : Code} {S : St} (h : W P tt base x (fun e S' => match e with
 | .normal => W P tt base y Q S'
 | .exit i => Q (.exit i) S'
 | .ret => Q .ret S') S) : W P tt base (.seq x y) Q S := h
theorem z04 {c : Operand} {x y : Code} {S : St} {b : Bool} (he : S.ev c = .bool b) (h : z0t b (W P tt base x Q S) (W P tt base y Q S)) : W P tt base (.cond c x y) Q S := by
 show (match S.ev c with
  | .bool b => z0t b (W P tt base x Q S) (W P tt base y Q S)
  | _ => False)
 rw [he]
 exact h
theorem z09 {i : Nat} {ops : Array Oper} {sl : List (Nat × T)} {hp : List (Nat × Option Ent)} {nx : Nat} (h : WO P tt ops.toList nx 0 ops.toList (Q .normal) ⟨sl, hp, nx⟩) : W P tt base (.region i ops false) Q ⟨sl, hp, nx⟩ := h
theorem z05 {i : Nat} {ops : Array Oper} {sl : List (Nat × T)} {hp : List (Nat × Option Ent)} {nx : Nat} (h : WD P tt ops.toList nx (Q .normal) ⟨sl, hp, nx⟩) : W P tt base (.region i ops true) Q ⟨sl, hp, nx⟩ := h
theorem z06 {S : St} (h : Q .normal S) : W P tt base .skip Q S := h
theorem z0a {S : St} (h : Q .ret S) : W P tt base .ret Q S := h
theorem z07 {i : Nat} {S : St} (h : Q (.exit i) S) : W P tt base (.exit i) Q S := h
theorem zg7 {i : Nat} {c : Code} {S : St} (h : W P tt base c (fun e S' => match e with
 | .normal => Q .normal S'
 | .exit j => bif Nat.beq j i then Q .normal S' else Q (.exit j) S'
 | .ret => Q .ret S') S) : W P tt base (.block i c) Q S := h
theorem z08 {c : Code} {S : St} (h : z0y base (W P tt base c) Q S) : W P tt base (.loop c) Q S := h
end
end Go.Proofs.YtgmbkbggnlponaaGreatDoor
