/- Functions by content: seals that are right in form; the chain of a house is right. -/
import Derived.Test.YthcfalipgnpelaaGreatDoorStbp
import Derived.Test.YthcfalipgnpelaaGreatDoorRspp
namespace Go.Proofs.YthcfalipgnpelaaGreatDoor
set_option maxRecDepth 100000
set_option maxHeartbeats 8000000
set_option linter.unusedVariables false
set_option linter.unusedSimpArgs false
set_option linter.unusedSectionVars false
open Go.RowKit Pl
section
attribute [local irreducible] z0o z0p z0z AnsP LeP
def sd0:Hd × Sg:=(⟨0,0,[],[]⟩,⟨0,[],[],[]⟩)
def sdAt (l:List (Hd × Sg)) (k:Nat):Hd × Sg:=l.getD k sd0
theorem zmd {l:List (Hd × Sg)} {k:Nat} (h:k < l.length):sdAt l k = l[k]:=by simp [sdAt,List.getD,List.getElem?_eq_getElem h]
theorem zeG {l:List (Hd × Sg)} {k:Nat} (h:k < l.length):(slE l)[k]? = some (hdE (sdAt l k).1 ++ sgE (sdAt l k).2):=by rw [zmd h]; exact z9Z h
def slB (root:Bs) (x:Hd × Sg):Bool:=decide ((x.2.a:Int) = ((x.1.ep - 1:Nat):Int)) && decide (z53 (z2l x.1) x.2 = root)
theorem ziU (root:Bs) (x:Hd × Sg) (g:x.1.good) (gs:x.2.good):CT Tryz.prog 117 [] [.str root,.agg (hdE x.1 ++ sgE x.2)] (.bool (slB root x)) []:=by
 obtain ⟨h,s⟩:=x
 have c1:=z6Q h g
 have c2:=z6d h g
 have c3:=zk1 h.ep ⟨g.2.1,g.2.2.1⟩
 have c4:=zhK root (z2l h) s gs (by rw [z54]; omega)
 show CT _ _ _ _ (.bool (decide ((s.a:Int) = ((h.ep - 1:Nat):Int)) && decide (z53 (z2l h) s = root))) _
 generalize decide (z53 (z2l h) s = root) = b at c4 ⊢
 generalize z2l h = t at c2 c4
 obtain ⟨hho,ep,ro,pr⟩:=h
 obtain ⟨a,op,sh,si⟩:=s
 simp only at c1 c2 c3 c4 ⊢
 by_cases ha:(a:Int) = ((ep - 1:Nat):Int)
 ·rw [decide_eq_true ha,Bool.true_and]
  refine z01 z03 1 rfl Tryz.func117 rfl rfl rfl ?_
  repeat ((try conv=>whnf); first | (refine z0k ha ?_) | (refine ccA ([]) (c1) ?_) | (refine ccA ([]) (c3) ?_) | (refine ccA ([]) (c2) ?_) | (refine ccA ([]) (c4) ?_) | (refine And.intro (by kernel_rfl) ?_) | (refine stpQ ?_))
  (refine z00 (by rfl) ?_ ?_ (by rfl)) <;> (repeat' (first | (exact eqA) | (refine shE ?_) | (refine And.intro ?_ ?_))) <;> simp [ha]
 ·rw [decide_eq_false ha,Bool.false_and]
  refine z01 z03 1 rfl Tryz.func117 rfl rfl rfl ?_
  repeat ((try conv=>whnf); first | (refine z0e ha ?_) | (refine ccA ([]) (c1) ?_) | (refine ccA ([]) (c3) ?_) | (refine And.intro (by kernel_rfl) ?_) | (refine stpQ ?_))
  (refine z00 (by rfl) ?_ ?_ (by rfl)) <;> (repeat' (first | (exact eqA) | (refine shE ?_) | (refine And.intro ?_ ?_))) <;> simp [ha]
theorem zg7 (root:Bs) (x:Hd × Sg) (g:x.1.good) (gs:x.2.good):CT Tryz.prog 110 [] [.str root,.agg (hdE x.1 ++ sgE x.2)] (.bool (slB root x)) []:=by
 obtain ⟨h,s⟩:=x
 have c1:=z84 h g
 have c2:=z3Y h g
 have c3:=zi1 h.ep ⟨g.2.1,g.2.2.1⟩
 have c4:=zc7 root (z2l h) s gs (by rw [z54]; omega)
 show CT _ _ _ _ (.bool (decide ((s.a:Int) = ((h.ep - 1:Nat):Int)) && decide (z53 (z2l h) s = root))) _
 generalize decide (z53 (z2l h) s = root) = b at c4 ⊢
 generalize z2l h = t at c2 c4
 obtain ⟨hho,ep,ro,pr⟩:=h
 obtain ⟨a,op,sh,si⟩:=s
 simp only at c1 c2 c3 c4 ⊢
 by_cases ha:(a:Int) = ((ep - 1:Nat):Int)
 ·rw [decide_eq_true ha,Bool.true_and]
  refine z01 z03 1 rfl Tryz.func110 rfl rfl rfl ?_
  repeat ((try conv=>whnf); first | (refine z0k ha ?_) | (refine ccA ([]) (c1) ?_) | (refine ccA ([]) (c3) ?_) | (refine ccA ([]) (c2) ?_) | (refine ccA ([]) (c4) ?_) | (refine And.intro (by kernel_rfl) ?_) | (refine stpQ ?_))
  (refine z00 (by rfl) ?_ ?_ (by rfl)) <;> (repeat' (first | (exact eqA) | (refine shE ?_) | (refine And.intro ?_ ?_))) <;> simp [ha]
 ·rw [decide_eq_false ha,Bool.false_and]
  refine z01 z03 1 rfl Tryz.func110 rfl rfl rfl ?_
  repeat ((try conv=>whnf); first | (refine z0e ha ?_) | (refine ccA ([]) (c1) ?_) | (refine ccA ([]) (c3) ?_) | (refine And.intro (by kernel_rfl) ?_) | (refine stpQ ?_))
  (refine z00 (by rfl) ?_ ?_ (by rfl)) <;> (repeat' (first | (exact eqA) | (refine shE ?_) | (refine And.intro ?_ ?_))) <;> simp [ha]
end
end Go.Proofs.YthcfalipgnpelaaGreatDoor
