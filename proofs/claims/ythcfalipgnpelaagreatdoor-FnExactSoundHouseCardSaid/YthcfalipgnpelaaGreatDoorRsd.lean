/- Functions by content: the shards of a house by the reference, by what is wrong first. -/
import Derived.Test.YthcfalipgnpelaaGreatDoorRsp
namespace Go.Proofs.YthcfalipgnpelaaGreatDoor
set_option linter.unusedVariables false
set_option linter.unusedSimpArgs false
open Go.RowKit Pl
section
attribute [local irreducible] z0o z0p z0z AnsP LeP
set_option maxRecDepth 100000 in
set_option maxHeartbeats 8000000 in
theorem c_sSh3 (n0 K:Int) (b2:Bool) (z3 z4 z5:List (List T)) (tr:List Int) (n7:Int) (b8:Bool) (z9 z10 z z12 z13:List (List T)) (f:Nat→Bool) (hf:∀ k,k<z.length→zki z f k) (h5:z5.length≤1048576) (ht:tr.length≤1048576) (hz:z.length≤1048576) (m:Nat) (hm:m<z.length) (hgood:∀ j,j<m→shB z5.length K tr f z j=true) (hb:∀ (a Ks:Int) (u2:Bool) (y3:List (List T)) (ep:Int) (y5 y6 y7:List (List T)) (re rt rk:Int),z[m]?=some [.int .i64 a,.int .i64 Ks,.bool u2,.sl 3 y3,.int .i64 ep,.sl 1 y5,.sl 1 y6,.sl 3 y7,.int .i64 re,.int .i64 rt,.int .i64 rk]→a=(m:Int)∧Ks=K∧f m=true∧ep=(z5.length:Int)-1∧tr.length=z5.length∧¬ (re=(z5.length:Int)∧rt=isAt tr (z5.length-1))) :
 CT Tryz.prog 69 [] [.agg [.int .i64 n0,.int .i64 K,.bool b2,.sl 3 z3,.sl 1 z4,.sl 8 z5,.sl 1 (isE tr),.int .i64 n7,.bool b8,.sl 1 z9,.sl 1 z10,.sl 11 z,.sl 1 z12,.sl 1 z13]] (.bool false) []:=by
 have htl:=z5M tr
 refine z01 z03 1 rfl Tryz.func69 rfl rfl rfl ?_
 repeat ((try conv=>whnf);first|refine stpQ ?_)
 refine z0K Nat (fun k=>⟨[(1,.ptr 1 0 0),(3,.int .i64 (z5.length:Int)),(4,.int .i64 (k:Int))],[(1,some (.box [.int .i64 n0,.int .i64 K,.bool b2,.sl 3 z3,.sl 1 z4,.sl 8 z5,.sl 1 (isE tr),.int .i64 n7,.bool b8,.sl 1 z9,.sl 1 z10,.sl 11 z,.sl 1 z12,.sl 1 z13]))],2⟩)
  (fun k=>k≤m) (fun k=>m-k) 0 (by omega) ?_ ?_
 ·(refine z02 (by rfl) ?_ ?_)<;>(repeat' (first|exact eqA|refine shE ?_|refine And.intro ?_ ?_))<;>first|rfl|decide
 ·intro Q1 hQ1 k hk
  by_cases hlt:k<m
  ·have hT:=hgood k hlt
   have hkz:k<z.length:=by omega
   obtain ⟨a,Ks,u2,y3,ep,y5,y6,y7,re,rt,rk,g,cI1,-,hpos⟩:=hf k (by omega)
   have hlt2:(k:Int)<(z.length:Int):=by omega
   have e1:IntKind.i64.wrap ((z5.length:Int)-1)=(z5.length:Int)-1:=by rw [z08 (by omega) (by omega)]
   have gd:z.getD k []=[.int .i64 a,.int .i64 Ks,.bool u2,.sl 3 y3,.int .i64 ep,.sl 1 y5,.sl 1 y6,.sl 3 y7,.int .i64 re,.int .i64 rt,.int .i64 rk]:=by rw [List.getD,g];rfl
   have hS:shB z5.length K tr f z k=(decide (a=(k:Int))&&(decide (Ks=K)&&(f k&&(decide (ep=(z5.length:Int)) || (decide (ep=(z5.length:Int)-1)&&(decide (tr.length=z5.length)&&(decide (re=(z5.length:Int))&&decide (rt=isAt tr (z5.length-1))))))))):=by
    unfold shB
    rw [gd]
    rfl
   rw [hS] at hT
   clear hS gd hf hgood hb
   simp only [Bool.and_eq_true,Bool.or_eq_true,decide_eq_true_eq] at hT
   obtain ⟨q1,q2,q3,hT⟩:=hT
   have hep:=hpos q3
   rw [q3] at cI1
   rcases hT with q4|⟨q5,q6,q7,q8⟩
   ·have r1:¬ ep > (z5.length:Int):=by omega
    have r2:¬ ep<(z5.length:Int)-1:=by omega
    have r3:¬ ep<(z5.length:Int):=by omega
    repeat ((try conv=>whnf);first|refine i_at g ?_|refine ccA ([]) (cI1) ?_|refine Exists.intro _ (And.intro e1.symm ?_)|refine And.intro (by kernel_rfl) ?_|refine stpQ ?_)
    refine ⟨k+1,by omega,by omega,?_⟩
    (refine z02 (by rfl) ?_ ?_)<;>repeat' (first|exact eqA|refine shE ?_|refine And.intro ?_ ?_)
   ·have r1:¬ ep > (z5.length:Int):=by omega
    have r2:¬ ep<(z5.length:Int)-1:=by omega
    have r3:ep<(z5.length:Int):=by omega
    have gt:(isE tr)[z5.length-1]?=some [.int .i64 (isAt tr (z5.length-1))]:=z6v (by omega)
    have et:(z5.length:Int)-1=((z5.length-1:Nat):Int):=by omega
    repeat ((try conv=>whnf);first|refine i_at g ?_|refine Exists.intro _ (Exists.intro _ (And.intro et (And.intro gt ?_)))|refine ccA ([]) (cI1) ?_|refine Exists.intro _ (And.intro e1.symm ?_)|refine And.intro (by kernel_rfl) ?_|refine stpQ ?_)
    refine ⟨k+1,by omega,by omega,?_⟩
    (refine z02 (by rfl) ?_ ?_)<;>repeat' (first|exact eqA|refine shE ?_|refine And.intro ?_ ?_)
  ·have hke:k=m:=by omega
   subst hke
   obtain ⟨a,Ks,u2,y3,ep,y5,y6,y7,re,rt,rk,g,cI1,-,hpos⟩:=hf k (by omega)
   have hlt2:(k:Int)<(z.length:Int):=by omega
   have e1:IntKind.i64.wrap ((z5.length:Int)-1)=(z5.length:Int)-1:=by rw [z08 (by omega) (by omega)]
   have hb:=hb a Ks u2 y3 ep y5 y6 y7 re rt rk g
   clear hf hgood
   obtain ⟨q1,q2,q3,q5,q6,hb⟩:=hb
   rw [q3] at cI1
   have hep:=hpos q3
   have r1:¬ ep > (z5.length:Int):=by omega
   have r2:¬ ep<(z5.length:Int)-1:=by omega
   have r3:ep<(z5.length:Int):=by omega
   have gt:(isE tr)[z5.length-1]?=some [.int .i64 (isAt tr (z5.length-1))]:=z6v (by omega)
   have et:(z5.length:Int)-1=((z5.length-1:Nat):Int):=by omega
   by_cases q7:re=(z5.length:Int)
   ·have q8:¬ rt=isAt tr (z5.length-1):=fun e=>hb ⟨q7,e⟩
    clear hb
    repeat ((try conv=>whnf);first|refine i_at g ?_|refine Exists.intro _ (Exists.intro _ (And.intro et (And.intro gt ?_)))|refine ccA ([]) (cI1) ?_|refine Exists.intro _ (And.intro e1.symm ?_)|refine And.intro (by kernel_rfl) ?_|refine stpQ ?_)
    refine hQ1 _ _ ?_
    (try conv=>whnf)
    (refine z00 (by rfl) ?_ ?_ (by rfl))<;>repeat' (first|exact eqA|refine shE ?_|refine And.intro ?_ ?_)
   ·clear hb
    repeat ((try conv=>whnf);first|refine i_at g ?_|refine Exists.intro _ (Exists.intro _ (And.intro et (And.intro gt ?_)))|refine ccA ([]) (cI1) ?_|refine Exists.intro _ (And.intro e1.symm ?_)|refine And.intro (by kernel_rfl) ?_|refine stpQ ?_)
    refine hQ1 _ _ ?_
    (try conv=>whnf)
    (refine z00 (by rfl) ?_ ?_ (by rfl))<;>repeat' (first|exact eqA|refine shE ?_|refine And.intro ?_ ?_)
end
end Go.Proofs.YthcfalipgnpelaaGreatDoor
