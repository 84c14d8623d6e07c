/- Plain: heads, signatures and seals read back; what a coordinator makes of its records. -/
import Derived.Test.YtfjbinbpgdiafaaGreatDoorPs
import Derived.Test.YtfjbinbpgdiafaaGreatDoorCap
namespace Go.Proofs.YtfjbinbpgdiafaaGreatDoor
set_option linter.unusedVariables false
set_option linter.unusedSimpArgs false
set_option linter.unusedSectionVars false
open Go.RowKit Pl
instance hdGoodDec (h : Hd) : Decidable h.good := by unfold Hd.good; exact inferInstance
def prevH (l : List Hd) : Bs := match l[l.length - 1]? with
 | none => []
 | some h => zhe h
def nextH (ho : Nat) (l : List Hd) (ro : Bs) : Hd := ⟨ho, l.length + 1, ro, prevH l⟩
def Chain (ho : Nat) (l : List Hd) : Prop := ∀ i (h : i < l.length), l[i].good ∧ l[i] = nextH ho (l.take i) l[i].ro
structure Cv where
 se : List (Hd × Sg)
 tr : List Nat
 ty : Nat
inductive Ck where
 | no | beg (n : Nat) | clo (h : Hd) (s : Sg)
def cHds (s : Cv) : List Hd := s.se.map fun x => x.1
structure CvOk (ho : Nat) (s : Cv) : Prop where
 ch : Chain ho (cHds s)
 tl : s.tr.length = s.se.length
 sg : ∀ x ∈ s.se, x.1.good ∧ x.2.good
 ty : s.ty ≤ 1000
 tb : ∀ x ∈ s.tr, x ≤ 1000
def z7B (l : List Bs) (n : Int) : Bool := (l.all fun x => decide ((x.length : Int) = 16)) && decide ((l.length : Int) = n)
structure Sa where
 ho : Int
 ep : Int
 ro : Bs
 pr : Bs
 a : Int
 op : List Bs
 sh : List Bs
 si : List Bs
deriving DecidableEq
end Go.Proofs.YtfjbinbpgdiafaaGreatDoor
