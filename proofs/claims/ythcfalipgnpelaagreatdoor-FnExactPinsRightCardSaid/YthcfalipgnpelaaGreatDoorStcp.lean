/- Functions by content: the stamps of a world are right. -/
import Derived.Test.YthcfalipgnpelaaGreatDoorVd
import Derived.Test.YthcfalipgnpelaaGreatDoorStbp
namespace Go.Proofs.YthcfalipgnpelaaGreatDoor
set_option linter.unusedVariables false
set_option linter.unusedSimpArgs false
set_option linter.unusedSectionVars false
open Go.RowKit Pl
structure Gv where
 ho:Int
 ep:Int
 bi:Int
 a:Int
 op:List Bs
 sh:List Bs
 si:List Bs
section
attribute [local irreducible] z0o z0p z0z AnsP LeP
end
theorem zn8 (z:List (List T)) (hz:∀ e ∈ z,Fits 1048576 z0t e):∃ pf:Nat → List Bs,∀ k,k < z.length → PoAt z pf k:=by
 have key:∀ k,∃ p:List Bs,k < z.length → PoAt z (fun _=>p) k:=fun k=>by
  by_cases h:k < z.length
  ·obtain ⟨n0,n1,b2,z3,z4,z5,z6,n7,b8,z9,z10,z11,z12,z13,he,-,-,-,-,q4,-,-,-,-,-,-,-,-,-,-⟩:=z1P (hz _ (List.getElem_mem h))
   obtain ⟨po,rfl,-⟩:=z36 q4.2
   have a4:=q4.1
   rw [z05] at a4
   exact ⟨po,fun _=>⟨n0,n1,b2,z3,z5,z6,n7,b8,z9,z10,z11,z12,z13,by rw [List.getElem?_eq_getElem h,he],a4⟩⟩
  ·exact ⟨[],fun c=>absurd c h⟩
 exact ⟨fun k=>Classical.choose (key k),fun k hk=>Classical.choose_spec (key k) hk⟩
end Go.Proofs.YthcfalipgnpelaaGreatDoor
