/- Functions by content: the shards of a house are right, by the program. Functions by content: the shards of a house by the reference, by what is wrong first. -/
import Derived.Test.YthcfalipgnpelaaGreatDoorRsp
namespace Go.Proofs.YthcfalipgnpelaaGreatDoor
set_option linter.unusedVariables false
set_option linter.unusedSimpArgs false
open Go.RowKit Pl
section
attribute [local irreducible] z0o z0p z0z AnsP LeP
set_option maxRecDepth 100000 in
set_option maxHeartbeats 8000000 in
theorem za3 (n0 K:Int) (b2:Bool) (z3 z4 z5:List (List T)) (tr:List Int) (n7:Int) (b8:Bool) (z9 z10 z z12 z13:List (List T)) (f:Nat→Bool) (hf:∀ k,k<z.length→zki z f k)
 (h5:z5.length≤1048576) (ht:tr.length≤1048576) (hz:z.length≤1048576) :
 CT Tryz.prog 74 [] [.agg [.int .i64 n0,.int .i64 K,.bool b2,.sl 3 z3,.sl 1 z4,.sl 8 z5,.sl 1 (isE tr),.int .i64 n7,.bool b8,.sl 1 z9,.sl 1 z10,.sl 11 z,.sl 1 z12,.sl 1 z13]] (.bool (allB (shB z5.length K tr f z) z.length)) []:=by
 have htl:=z5M tr
 refine z01 z03 1 rfl Tryz.func74 rfl rfl rfl ?_
 repeat ((try conv=>whnf);first|refine stpQ ?_)
 refine z0K Nat (fun k=>⟨[(1,.ptr 1 0 0),(3,.int .i64 (z5.length:Int)),(11,.sl 11 z),(12,.int .i64 (z.length:Int)),(13,.int .i64 (k:Int))],[(1,some (.box [.int .i64 n0,.int .i64 K,.bool b2,.sl 3 z3,.sl 1 z4,.sl 8 z5,.sl 1 (isE tr),.int .i64 n7,.bool b8,.sl 1 z9,.sl 1 z10,.sl 11 z,.sl 1 z12,.sl 1 z13]))],2⟩)
  (fun k=>k≤z.length∧∀ j,j<k→shB z5.length K tr f z j=true) (fun k=>z.length-k) 0 ⟨by omega,fun j h=>by omega⟩ ?_ ?_
 ·(refine z02 (by rfl) ?_ ?_)<;>(repeat' (first|exact eqA|refine shE ?_|refine And.intro ?_ ?_))<;>first|rfl|decide
 ·intro Q1 hQ1 k hx
  have hk:k≤z.length:=hx.1
  have hp:=hx.2
  clear hx
  by_cases hlt:k<z.length
  ·obtain ⟨a,Ks,u2,y3,ep,y5,y6,y7,re,rt,rk,g,-,cI1,hpos⟩:=hf k hlt
   have hlt2:(k:Int)<(z.length:Int):=by omega
   have e1:IntKind.i64.wrap ((z5.length:Int)-1)=(z5.length:Int)-1:=by rw [z08 (by omega) (by omega)]
   have gd:z.getD k []=[.int .i64 a,.int .i64 Ks,.bool u2,.sl 3 y3,.int .i64 ep,.sl 1 y5,.sl 1 y6,.sl 3 y7,.int .i64 re,.int .i64 rt,.int .i64 rk]:=by rw [List.getD,g];rfl
   have hS:shB z5.length K tr f z k=(decide (a=(k:Int))&&(decide (Ks=K)&&(f k&&(decide (ep=(z5.length:Int)) || (decide (ep=(z5.length:Int)-1)&&(decide (tr.length=z5.length)&&(decide (re=(z5.length:Int))&&decide (rt=isAt tr (z5.length-1))))))))) :=by
    unfold shB
    rw [gd]
    rfl
   have hfin:shB z5.length K tr f z k=false→allB (shB z5.length K tr f z) z.length=false:=fun h=>z2H hlt h
   have hgo:shB z5.length K tr f z k=true→∀ j,j<k+1→shB z5.length K tr f z j=true:=fun h j hj=>by
    rcases Nat.lt_or_ge j k with h1|h1
    ·exact hp j h1
    ·rw [show j=k by omega];exact h
   clear hf gd hp
   generalize shB z5.length K tr f z k=B at hS hfin hgo
   by_cases q1:a=(k:Int)
   ·by_cases q2:Ks=K
    ·cases q3:f k with
     | true =>
       rw [q3] at cI1 hS hpos
       have hep:=hpos rfl
       by_cases q4:ep=(z5.length:Int)
       ·have hB:B=true:=by rw [hS];simp [q1,q2,q4]
        have q5:¬ ep=(z5.length:Int)-1:=by omega
        repeat ((try conv=>whnf);first|refine i_at g ?_|refine ccA ([]) (cI1) ?_|refine Exists.intro _ (And.intro e1.symm ?_)|refine And.intro (by kernel_rfl) ?_|refine stpQ ?_)
        refine ⟨k+1,⟨by omega,hgo hB⟩,by omega,?_⟩
        (refine z02 (by rfl) ?_ ?_)<;>repeat' (first|exact eqA|refine shE ?_|refine And.intro ?_ ?_)
       ·by_cases q5:ep=(z5.length:Int)-1
        ·by_cases q6:tr.length=z5.length
         ·have gt:(isE tr)[z5.length-1]?=some [.int .i64 (isAt tr (z5.length-1))]:=z6v (by omega)
          have et:(z5.length:Int)-1=((z5.length-1:Nat):Int):=by omega
          by_cases q7:re=(z5.length:Int)
          ·by_cases q8:rt=isAt tr (z5.length-1)
           ·have hB:B=true:=by rw [hS];simp [q1,q2,q5,q6,q7,q8]
            repeat ((try conv=>whnf);first|refine i_at g ?_|refine Exists.intro _ (Exists.intro _ (And.intro et (And.intro gt ?_)))|refine ccA ([]) (cI1) ?_|refine Exists.intro _ (And.intro e1.symm ?_)|refine And.intro (by kernel_rfl) ?_|refine stpQ ?_)
            refine ⟨k+1,⟨by omega,hgo hB⟩,by omega,?_⟩
            (refine z02 (by rfl) ?_ ?_)<;>repeat' (first|exact eqA|refine shE ?_|refine And.intro ?_ ?_)
           ·have hB:B=false:=by rw [hS];simp [q4,q8]
            repeat ((try conv=>whnf);first|refine i_at g ?_|refine Exists.intro _ (Exists.intro _ (And.intro et (And.intro gt ?_)))|refine ccA ([]) (cI1) ?_|refine Exists.intro _ (And.intro e1.symm ?_)|refine And.intro (by kernel_rfl) ?_|refine stpQ ?_)
            refine hQ1 _ _ ?_
            (try conv=>whnf)
            rw [hfin hB]
            (refine z00 (by rfl) ?_ ?_ (by rfl))<;>repeat' (first|exact eqA|refine shE ?_|refine And.intro ?_ ?_)
          ·have hB:B=false:=by rw [hS];simp [q4,q7]
           repeat ((try conv=>whnf);first|refine i_at g ?_|refine Exists.intro _ (Exists.intro _ (And.intro et (And.intro gt ?_)))|refine ccA ([]) (cI1) ?_|refine Exists.intro _ (And.intro e1.symm ?_)|refine And.intro (by kernel_rfl) ?_|refine stpQ ?_)
           refine hQ1 _ _ ?_
           (try conv=>whnf)
           rw [hfin hB]
           (refine z00 (by rfl) ?_ ?_ (by rfl))<;>repeat' (first|exact eqA|refine shE ?_|refine And.intro ?_ ?_)
         ·have hB:B=false:=by rw [hS];simp [q4,q6]
          repeat ((try conv=>whnf);first|refine i_at g ?_|refine ccA ([]) (cI1) ?_|refine Exists.intro _ (And.intro e1.symm ?_)|refine And.intro (by kernel_rfl) ?_|refine stpQ ?_)
          refine hQ1 _ _ ?_
          (try conv=>whnf)
          rw [hfin hB]
          (refine z00 (by rfl) ?_ ?_ (by rfl))<;>repeat' (first|exact eqA|refine shE ?_|refine And.intro ?_ ?_)
        ·have hB:B=false:=by rw [hS];simp [q4,q5]
         repeat ((try conv=>whnf);first|refine i_at g ?_|refine ccA ([]) (cI1) ?_|refine Exists.intro _ (And.intro e1.symm ?_)|refine And.intro (by kernel_rfl) ?_|refine stpQ ?_)
         refine hQ1 _ _ ?_
         (try conv=>whnf)
         rw [hfin hB]
         (refine z00 (by rfl) ?_ ?_ (by rfl))<;>repeat' (first|exact eqA|refine shE ?_|refine And.intro ?_ ?_)
     | false =>
       rw [q3] at cI1 hS
       have hB:B=false:=by rw [hS];simp
       repeat ((try conv=>whnf);first|refine i_at g ?_|refine ccA ([]) (cI1) ?_|refine Exists.intro _ (And.intro e1.symm ?_)|refine And.intro (by kernel_rfl) ?_|refine stpQ ?_)
       refine hQ1 _ _ ?_
       (try conv=>whnf)
       rw [hfin hB]
       (refine z00 (by rfl) ?_ ?_ (by rfl))<;>repeat' (first|exact eqA|refine shE ?_|refine And.intro ?_ ?_)
    ·have hB:B=false:=by rw [hS];simp [q2]
     repeat ((try conv=>whnf);first|refine i_at g ?_|refine ccA ([]) (cI1) ?_|refine Exists.intro _ (And.intro e1.symm ?_)|refine And.intro (by kernel_rfl) ?_|refine stpQ ?_)
     refine hQ1 _ _ ?_
     (try conv=>whnf)
     rw [hfin hB]
     (refine z00 (by rfl) ?_ ?_ (by rfl))<;>repeat' (first|exact eqA|refine shE ?_|refine And.intro ?_ ?_)
   ·have hB:B=false:=by rw [hS];simp [q1]
    repeat ((try conv=>whnf);first|refine i_at g ?_|refine ccA ([]) (cI1) ?_|refine Exists.intro _ (And.intro e1.symm ?_)|refine And.intro (by kernel_rfl) ?_|refine stpQ ?_)
    refine hQ1 _ _ ?_
    (try conv=>whnf)
    rw [hfin hB]
    (refine z00 (by rfl) ?_ ?_ (by rfl))<;>repeat' (first|exact eqA|refine shE ?_|refine And.intro ?_ ?_)
  ·have hke:k=z.length:=by omega
   subst hke
   have hA:=z1X hp
   repeat ((try conv=>whnf);first|refine stpQ ?_)
   refine hQ1 _ _ ?_
   repeat ((try conv=>whnf);first|refine stpQ ?_)
   rw [hA]
   (refine z00 (by rfl) ?_ ?_ (by rfl))<;>repeat' (first|exact eqA|refine shE ?_|refine And.intro ?_ ?_)
end
end Go.Proofs.YthcfalipgnpelaaGreatDoor
namespace Go.Proofs.YthcfalipgnpelaaGreatDoor
set_option linter.unusedVariables false
set_option linter.unusedSimpArgs false
open Go.RowKit Pl
section
attribute [local irreducible] z0o z0p z0z AnsP LeP
set_option maxRecDepth 100000 in
set_option maxHeartbeats 8000000 in
theorem c_sSh0 (n0 K:Int) (b2:Bool) (z3 z4 z5:List (List T)) (tr:List Int) (n7:Int) (b8:Bool) (z9 z10 z z12 z13:List (List T)) (f:Nat→Bool) (hf:∀ k,k<z.length→zki z f k) (h5:z5.length≤1048576) (ht:tr.length≤1048576) (hz:z.length≤1048576) (hgood:∀ j,j<z.length→shB z5.length K tr f z j=true) :
 CT Tryz.prog 69 [] [.agg [.int .i64 n0,.int .i64 K,.bool b2,.sl 3 z3,.sl 1 z4,.sl 8 z5,.sl 1 (isE tr),.int .i64 n7,.bool b8,.sl 1 z9,.sl 1 z10,.sl 11 z,.sl 1 z12,.sl 1 z13]] (.bool true) []:=by
 have htl:=z5M tr
 refine z01 z03 1 rfl Tryz.func69 rfl rfl rfl ?_
 repeat ((try conv=>whnf);first|refine stpQ ?_)
 refine z0K Nat (fun k=>⟨[(1,.ptr 1 0 0),(3,.int .i64 (z5.length:Int)),(4,.int .i64 (k:Int))],[(1,some (.box [.int .i64 n0,.int .i64 K,.bool b2,.sl 3 z3,.sl 1 z4,.sl 8 z5,.sl 1 (isE tr),.int .i64 n7,.bool b8,.sl 1 z9,.sl 1 z10,.sl 11 z,.sl 1 z12,.sl 1 z13]))],2⟩)
  (fun k=>k≤z.length) (fun k=>z.length-k) 0 (by omega) ?_ ?_
 ·(refine z02 (by rfl) ?_ ?_)<;>(repeat' (first|exact eqA|refine shE ?_|refine And.intro ?_ ?_))<;>first|rfl|decide
 ·intro Q1 hQ1 k hk
  by_cases hlt:k<z.length
  ·have hT:=hgood k hlt
   have hkz:k<z.length:=hlt
   obtain ⟨a,Ks,u2,y3,ep,y5,y6,y7,re,rt,rk,g,cI1,-,hpos⟩:=hf k (by omega)
   have hlt2:(k:Int)<(z.length:Int):=by omega
   have e1:IntKind.i64.wrap ((z5.length:Int)-1)=(z5.length:Int)-1:=by rw [z08 (by omega) (by omega)]
   have gd:z.getD k []=[.int .i64 a,.int .i64 Ks,.bool u2,.sl 3 y3,.int .i64 ep,.sl 1 y5,.sl 1 y6,.sl 3 y7,.int .i64 re,.int .i64 rt,.int .i64 rk]:=by rw [List.getD,g];rfl
   have hS:shB z5.length K tr f z k=(decide (a=(k:Int))&&(decide (Ks=K)&&(f k&&(decide (ep=(z5.length:Int)) || (decide (ep=(z5.length:Int)-1)&&(decide (tr.length=z5.length)&&(decide (re=(z5.length:Int))&&decide (rt=isAt tr (z5.length-1))))))))):=by
    unfold shB
    rw [gd]
    rfl
   rw [hS] at hT
   clear hS gd hf hgood
   simp only [Bool.and_eq_true,Bool.or_eq_true,decide_eq_true_eq] at hT
   obtain ⟨q1,q2,q3,hT⟩:=hT
   have hep:=hpos q3
   rw [q3] at cI1
   rcases hT with q4|⟨q5,q6,q7,q8⟩
   ·have r1:¬ ep > (z5.length:Int):=by omega
    have r2:¬ ep<(z5.length:Int)-1:=by omega
    have r3:¬ ep<(z5.length:Int):=by omega
    repeat ((try conv=>whnf);first|refine i_at g ?_|refine ccA ([]) (cI1) ?_|refine Exists.intro _ (And.intro e1.symm ?_)|refine And.intro (by kernel_rfl) ?_|refine stpQ ?_)
    refine ⟨k+1,by omega,by omega,?_⟩
    (refine z02 (by rfl) ?_ ?_)<;>repeat' (first|exact eqA|refine shE ?_|refine And.intro ?_ ?_)
   ·have r1:¬ ep > (z5.length:Int):=by omega
    have r2:¬ ep<(z5.length:Int)-1:=by omega
    have r3:ep<(z5.length:Int):=by omega
    have gt:(isE tr)[z5.length-1]?=some [.int .i64 (isAt tr (z5.length-1))]:=z6v (by omega)
    have et:(z5.length:Int)-1=((z5.length-1:Nat):Int):=by omega
    repeat ((try conv=>whnf);first|refine i_at g ?_|refine Exists.intro _ (Exists.intro _ (And.intro et (And.intro gt ?_)))|refine ccA ([]) (cI1) ?_|refine Exists.intro _ (And.intro e1.symm ?_)|refine And.intro (by kernel_rfl) ?_|refine stpQ ?_)
    refine ⟨k+1,by omega,by omega,?_⟩
    (refine z02 (by rfl) ?_ ?_)<;>repeat' (first|exact eqA|refine shE ?_|refine And.intro ?_ ?_)
  ·have hke:k=z.length:=by omega
   subst hke
   clear hf hgood
   repeat ((try conv=>whnf);first|refine stpQ ?_)
   refine hQ1 _ _ ?_
   repeat ((try conv=>whnf);first|refine stpQ ?_)
   (refine z00 (by rfl) ?_ ?_ (by rfl))<;>repeat' (first|exact eqA|refine shE ?_|refine And.intro ?_ ?_)
end
end Go.Proofs.YthcfalipgnpelaaGreatDoor
