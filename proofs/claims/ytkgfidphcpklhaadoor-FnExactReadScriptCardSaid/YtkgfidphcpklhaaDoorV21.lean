/- A call before which all rows that are handed over by value are given up. -/
import Derived.Test.YtkgfidphcpklhaaDoorV20
set_option linter.unusedSimpArgs false
namespace Go.Proofs.YtkgfidphcpklhaaDoor
open Go.RowKit Pl
set_option linter.unusedVariables false

def refs0 : T → List Nat
  | .ref r => [r]
  | _ => []
def refs1 : T → List Nat
  | .agg cs => cs.flatMap refs0
  | x => refs0 x
def refsL (σ : List Nat) (xs : List T) : List Nat := (xs.flatMap refs1).filter fun r => !σ.contains r
theorem c_callF {P : Program} {f : FuncId} {xs ts : List T} {H : Hp} {id : Nat} {K : List Nat → Kon} {He He' : List Ent} {r : T} (σ : List Nat) (hc : CT P f He ts r He') (h1 : AM σ (updL H (goneU (refsL σ xs))) (xs.map (frz1 (refsL σ xs) H)) ts) (h2 : HM σ (updL H (goneU (refsL σ xs))) He.length σ He) (h3 : σ.Nodup ∧ 0 ∉ σ)
    (h4 : (Nat.ble He.length He'.length && Nat.ble He'.length (He.length + 16) && scope2 He'.length r && He'.all (scopeE He'.length)) = true) (h5 : (xs.map (frz1 (refsL σ xs) H)).all noRef1 = true ∨ (own2 r ∧ ∀ e ∈ He', ownE e))
    (hk : K σ (ren2 (rho σ id) r) (goneU (refsL σ xs) ++ callU (rho σ id) He' 1)) : CallP P f xs H id K := c_callG (refsL σ xs) σ hc h1 h2 h3 h4 h5 hk
end Go.Proofs.YtkgfidphcpklhaaDoor
