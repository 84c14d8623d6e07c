/- Functions by content: the reference's coordinator applies a record. Functions by content: the reference compares texts and seals. Texts and seals of any content, out of what fits their shapes. -/
import Derived.Test.YthcfalipgnpelaaGreatDoorVd
import Derived.Test.YthcfalipgnpelaaGreatDoorCsa
import Derived.Test.YthcfalipgnpelaaGreatDoorSzdp
import Derived.Test.YthcfalipgnpelaaGreatDoorPco
namespace Go.Proofs.YthcfalipgnpelaaGreatDoor
set_option linter.unusedVariables false
set_option linter.unusedSimpArgs false
set_option linter.unusedSectionVars false
open Go.RowKit Pl
attribute [local irreducible] z0o z0p z0z AnsP LeP
end Go.Proofs.YthcfalipgnpelaaGreatDoor
namespace Go.Proofs.YthcfalipgnpelaaGreatDoor
set_option linter.unusedVariables false
set_option linter.unusedSimpArgs false
set_option linter.unusedSectionVars false
open Go.RowKit Pl
attribute [local irreducible] z0o z0p z0z AnsP LeP
set_option maxRecDepth 100000 in
set_option maxHeartbeats 8000000 in
theorem z8v (l m:List Bs) (hl:(l.length:Int) ≤ 100000000) (hm:(m.length:Int) ≤ 100000000):CT Tryz.prog 51 [] [.sl 1 (strE l),.sl 1 (strE m)] (.bool (decide (l = m))) []:=by
 have hll:=z05 l
 have hlm:=z05 m
 refine z01 z03 1 rfl Tryz.func51 rfl rfl rfl ?_
 by_cases hn:l.length = m.length
 ·repeat ((try conv=>whnf); first | (refine Exists.intro l.length (And.intro hll ?_)) | (refine Exists.intro m.length (And.intro hlm ?_)) | (refine stpQ ?_))
  refine z0K Nat (fun k=>⟨[(0,.sl 1 (strE l)),(1,.sl 1 (strE m)),(5,.int .i64 (k:Int))],[],1⟩) (fun k=>k ≤ l.length ∧ l.take k = m.take k) (fun k=>l.length - k) 0 ⟨by omega,rfl⟩ ?_ ?_
  ·(refine z02 (by rfl) ?_ ?_) <;> repeat' (first | (exact eqA) | (refine shE ?_) | (refine And.intro ?_ ?_))
  ·intro Q1 hQ1 k hkk
   have hk:=hkk.1
   have hp:=hkk.2
   clear hkk
   by_cases hlt:k < l.length
   ·have hlt2:k < m.length:=by omega
    by_cases hq:pAt l k = pAt m k
    ·have hnx:l.take (k + 1) = m.take (k + 1):=by
      rw [List.take_add_one,List.take_add_one,hp,List.getElem?_eq_getElem hlt,List.getElem?_eq_getElem hlt2]
      simp only [pAt,List.getD,List.getElem?_eq_getElem hlt,List.getElem?_eq_getElem hlt2,Option.getD_some] at hq
      rw [hq]
     repeat ((try conv=>whnf); first | (refine Exists.intro l.length (And.intro hll ?_)) | (refine i_at (z0j hlt) ?_) | (refine i_at (z0j hlt2) ?_) | (refine z0A hq ?_) | (refine And.intro (by kernel_rfl) ?_) | (refine stpQ ?_))
     refine ⟨k + 1,⟨by omega,hnx⟩,by omega,?_⟩
     (refine z02 (by rfl) ?_ ?_) <;> repeat' (first | (exact eqA) | (refine shE ?_) | (refine And.intro ?_ ?_))
    ·have hne:¬ l = m:=fun h0=>hq (by rw [h0])
     repeat ((try conv=>whnf); first | (refine Exists.intro l.length (And.intro hll ?_)) | (refine i_at (z0j hlt) ?_) | (refine i_at (z0j hlt2) ?_) | (refine z1w hq ?_) | (refine And.intro (by kernel_rfl) ?_) | (refine stpQ ?_))
     refine hQ1 _ _ ?_
     (try conv=>whnf)
     rw [decide_eq_false hne]
     (refine z00 (by rfl) ?_ ?_ (by rfl)) <;> repeat' (first | (exact eqA) | (refine shE ?_) | (refine And.intro ?_ ?_))
   ·have he:l = m:=by
     rw [List.take_of_length_le (by omega),List.take_of_length_le (by omega)] at hp; exact hp
    have hke:k = l.length:=by omega
    subst hke
    repeat ((try conv=>whnf); first | (refine Exists.intro l.length (And.intro hll ?_)) | (refine stpQ ?_))
    refine hQ1 _ _ ?_
    repeat ((try conv=>whnf); first | (refine stpQ ?_))
    rw [decide_eq_true he]
    (refine z00 (by rfl) ?_ ?_ (by rfl)) <;> repeat' (first | (exact eqA) | (refine shE ?_) | (refine And.intro ?_ ?_))
 ·have hne:¬ l = m:=fun h0=>hn (by rw [h0])
  rw [decide_eq_false hne]
  repeat ((try conv=>whnf); first | (refine Exists.intro l.length (And.intro hll ?_)) | (refine Exists.intro m.length (And.intro hlm ?_)) | (refine stpQ ?_))
  (refine z00 (by rfl) ?_ ?_ (by rfl)) <;> repeat' (first | (exact eqA) | (refine shE ?_) | (refine And.intro ?_ ?_))
theorem zkh {h:Hd} {s:Sg} (gs:s.good):¬ z39 h s = []:=fun e=>by
 have:=zhM (h:=h) gs
 rw [e] at this
 simp at this
end Go.Proofs.YthcfalipgnpelaaGreatDoor
namespace Go.Proofs.YthcfalipgnpelaaGreatDoor
set_option linter.unusedVariables false
set_option linter.unusedSimpArgs false
set_option linter.unusedSectionVars false
open Go.RowKit Pl
theorem z36 {N:Nat} {z:List (List T)} (h:∀ e ∈ z,Fits N .str e):∃ l:List Bs,z = strE l ∧ ∀ x ∈ l,x.length ≤ N:=by
 obtain ⟨l,hl,hx⟩:=z2M (fun s:Bs=>[T.str s]) (fun s=>s.length ≤ N) z fun e he=>by
  obtain ⟨s,rfl,q⟩:=h e he
  exact ⟨s,rfl,q⟩
 exact ⟨l,hl,hx⟩
theorem zie {z:List (List T)} (h:∀ e ∈ z,Fits 1048576 z0F e):∃ l:List Sa,z = saL l ∧ ∀ x ∈ l,z6C x :=
 z2M saE z6C z fun e he=>by
  obtain ⟨n0,n1,s2,s3,n4,z5,z6,z7,rfl,-,-,-,-,-,q5,q6,q7,-⟩:=z2g (h e he)
  obtain ⟨l5,rfl,-⟩:=z36 q5.2
  obtain ⟨l6,rfl,-⟩:=z36 q6.2
  obtain ⟨l7,rfl,-⟩:=z36 q7.2
  have a5:=q5.1
  have a6:=q6.1
  have a7:=q7.1
  rw [z05] at a5 a6 a7
  exact ⟨⟨n0,n1,s2,s3,n4,l5,l6,l7⟩,rfl,a5,a6,a7⟩
end Go.Proofs.YthcfalipgnpelaaGreatDoor
