/- Functions by content: what makes the shards of a house right. -/
import Derived.Test.YthcfalipgnpelaaGreatDoorVd
import Derived.Test.YthcfalipgnpelaaGreatDoorSzdp
namespace Go.Proofs.YthcfalipgnpelaaGreatDoor
set_option linter.unusedVariables false
set_option linter.unusedSimpArgs false
set_option linter.unusedSectionVars false
open Go.RowKit Pl
def cI (e:List T) (j:Nat):Int:=match e[j]? with
 | some (.int _ n)=>n
 | _=>0
def allB (p:Nat → Bool) (n:Nat):Bool:=(List.range n).all p
theorem z2H {p:Nat → Bool} {n k:Nat} (h:k < n) (hp:p k = false):allB p n = false:=by
 unfold allB
 rw [List.all_eq_false]
 exact ⟨k,List.mem_range.2 h,by simp [hp]⟩
theorem z1X {p:Nat → Bool} {n:Nat} (h:∀ k,k < n → p k = true):allB p n = true:=List.all_eq_true.2 fun k hk=>h k (List.mem_range.1 hk)
end Go.Proofs.YthcfalipgnpelaaGreatDoor
