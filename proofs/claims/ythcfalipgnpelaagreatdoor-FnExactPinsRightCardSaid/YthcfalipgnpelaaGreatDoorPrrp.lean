/- Functions by content: the pins of a world are right; both checks agree. -/
import Derived.Test.YthcfalipgnpelaaGreatDoorPasp
import Derived.Test.YthcfalipgnpelaaGreatDoorStcp
namespace Go.Proofs.YthcfalipgnpelaaGreatDoor
set_option maxRecDepth 100000
set_option maxHeartbeats 8000000
set_option linter.unusedVariables false
set_option linter.unusedSimpArgs false
set_option linter.unusedSectionVars false
open Go.RowKit Pl
theorem dec_pa {z:List (List T)} (h:∀ e ∈ z,Fits 1048576 z1a e):∃ l:List (Sa × Sa),z = paL l ∧ ∀ x ∈ l,z6C x.1 ∧ z6C x.2 :=
 z2M paE (fun x=>z6C x.1 ∧ z6C x.2) z fun e he=>by
  obtain ⟨n0,n1,s2,s3,n4,z5,z6,z7,n8,n9,s10,s11,n12,z13,z14,z15,rfl,-,-,-,-,-,q5,q6,q7,-,-,-,-,-,q13,q14,q15,-⟩:=z3y (h e he)
  obtain ⟨l5,rfl,-⟩:=z36 q5.2
  obtain ⟨l6,rfl,-⟩:=z36 q6.2
  obtain ⟨l7,rfl,-⟩:=z36 q7.2
  obtain ⟨l13,rfl,-⟩:=z36 q13.2
  obtain ⟨l14,rfl,-⟩:=z36 q14.2
  obtain ⟨l15,rfl,-⟩:=z36 q15.2
  have a5:=q5.1
  have a6:=q6.1
  have a7:=q7.1
  have a13:=q13.1
  have a14:=q14.1
  have a15:=q15.1
  rw [z05] at a5 a6 a7 a13 a14 a15
  exact ⟨(⟨n0,n1,s2,s3,n4,l5,l6,l7⟩,⟨n8,n9,s10,s11,n12,l13,l14,l15⟩),rfl,⟨a5,a6,a7⟩,⟨a13,a14,a15⟩⟩
def AoAt (R:List Bs) (z:List (List T)) (f:Nat → Bool) (k:Nat):Prop:=∃ (n0:Int) (b1:Bool) (z2 z3 z4 z5:List (List T)),
    z[k]? = some [.int .i64 n0,.bool b1,.sl 3 z2,.sl 1 z3,.sl 8 z4,.sl 16 z5] ∧
    CT Tryz.prog 65 [] [.agg [.int .i64 n0,.bool b1,.sl 3 z2,.sl 1 z3,.sl 8 z4,.sl 16 z5],.sl 1 (strE R)] (.bool (f k)) [] ∧
    CT Tryz.prog 66 [] [.agg [.int .i64 n0,.bool b1,.sl 3 z2,.sl 1 z3,.sl 8 z4,.sl 16 z5],.sl 1 (strE R)] (.bool (f k)) []
theorem ao_all (R:List Bs) (hR:R.length ≤ 1048576) (z:List (List T)) (hz:∀ e ∈ z,Fits 1048576 z0n e):∃ f:Nat → Bool,∀ k,k < z.length → AoAt R z f k:=by
 have key:∀ k,∃ b:Bool,k < z.length → AoAt R z (fun _=>b) k:=fun k=>by
  by_cases h:k < z.length
  ·have hq:=hz _ (List.getElem_mem h)
   have hg:=List.getElem?_eq_getElem h
   generalize z[k] = e at hq hg
   obtain ⟨n0,b1,z2,z3,z4,z5,rfl,-,-,q2,q3,q4,q5,-⟩:=z1N hq
   obtain ⟨fs,rfl,w2⟩:=zi9 q2.2
   obtain ⟨po,rfl,-⟩:=z36 q3.2
   obtain ⟨ps,rfl,w4⟩:=zie q4.2
   obtain ⟨pr,rfl,w5⟩:=dec_pa q5.2
   have a2:=q2.1
   have a3:=q3.1
   have a4:=q4.1
   have a5:=q5.1
   rw [z4F] at a2
   rw [z05] at a3
   rw [z4o] at a4
   rw [zmH] at a5
   have f:=zib (by omega) a2 w2
   exact ⟨_,fun _=>⟨n0,b1,_,_,_,_,hg,zn2 n0 b1 fs f po ps pr R a3 a4 w4 a5 w5 hR,zmY n0 b1 fs f po ps pr R a3 a4 w4 a5 w5 hR⟩⟩
  ·exact ⟨true,fun c=>absurd c h⟩
 exact ⟨fun k=>Classical.choose (key k),fun k hk=>Classical.choose_spec (key k) hk⟩
def prB (z:List (List T)) (f:Nat → Bool) (k:Nat):Bool:=decide (cI (z.getD k []) 0 = (k:Int)) && f k
section
attribute [local irreducible] z0o z0p z0z AnsP LeP
theorem zn4 (y0 z y2 y3 y4 y5:List (List T)) (pf:Nat → List Bs) (f:Nat → Bool) (h0:y0.length ≤ 1048576) (hz:z.length ≤ 1048576) (hp:∀ k,k < y0.length → PoAt y0 pf k) (hf:∀ k,k < z.length → AoAt (z1W pf y0.length) z f k) :
 CT Tryz.prog 18 [] [.agg [.sl 14 y0,.sl 6 z,.sl 2 y2,.sl 7 y3,.sl 1 y4,.sl 1 y5]] (.bool (allB (prB z f) z.length)) []:=by
 have cR:=ziQ y0 z y2 y3 y4 y5 pf h0 hp
 generalize z1W pf y0.length = R at cR hf
 clear hp h0
 refine z01 z03 1 rfl Tryz.func18 rfl rfl rfl ?_
 repeat ((try conv=>whnf); first | (refine ccA ([]) (cR) ?_) | (refine And.intro (by kernel_rfl) ?_) | (refine stpQ ?_))
 refine z0K Nat (fun k=>⟨[(3,.sl 1 (strE R)),(9,.sl 6 z),(10,.int .i64 (z.length:Int)),(11,.int .i64 (k:Int))],[],1⟩) (fun k=>k ≤ z.length ∧ ∀ j,j < k → prB z f j = true) (fun k=>z.length - k) 0 ⟨by omega,fun j h=>by omega⟩ ?_ ?_
 ·(refine z02 (by rfl) ?_ ?_) <;> (repeat' (first | (exact eqA) | (refine shE ?_) | (refine And.intro ?_ ?_))) <;> first | rfl | decide
 ·intro Q1 hQ1 k hx
  have hk:k ≤ z.length:=hx.1
  have hp:=hx.2
  clear hx
  by_cases hlt:k < z.length
  ·have hlt2:(k:Int) < (z.length:Int):=by omega
   obtain ⟨n0,b1,z2,z3,z4,z5,g,-,hI⟩:=hf k hlt
   have gd:z.getD k [] = [.int .i64 n0,.bool b1,.sl 3 z2,.sl 1 z3,.sl 8 z4,.sl 16 z5]:=by rw [List.getD,g]; rfl
   have hB:prB z f k = (decide (n0 = (k:Int)) && f k):=by unfold prB; rw [gd]; rfl
   have hfin:prB z f k = false → allB (prB z f) z.length = false:=fun h=>z2H hlt h
   have hgo:prB z f k = true → ∀ j,j < k + 1 → prB z f j = true:=fun h j hj=>by
    rcases Nat.lt_or_ge j k with h1 | h1
    ·exact hp j h1
    ·rw [show j = k by omega]; exact h
   clear hp hf gd
   generalize prB z f k = B at hfin hgo hB
   generalize f k = B1 at hB hI
   by_cases q1:n0 = (k:Int)
   ·rw [decide_eq_true q1,Bool.true_and] at hB
    subst hB
    cases B with
    | true =>
      repeat ((try conv=>whnf); first | (refine i_at g ?_) | (refine z0A q1 ?_) | (refine ccA ([]) (hI) ?_) | (refine And.intro (by kernel_rfl) ?_) | (refine stpQ ?_))
      refine ⟨k + 1,⟨by omega,hgo rfl⟩,by omega,?_⟩
      (refine z02 (by rfl) ?_ ?_) <;> repeat' (first | (exact eqA) | (refine shE ?_) | (refine And.intro ?_ ?_))
    | false =>
      repeat ((try conv=>whnf); first | (refine i_at g ?_) | (refine z0A q1 ?_) | (refine ccA ([]) (hI) ?_) | (refine And.intro (by kernel_rfl) ?_) | (refine stpQ ?_))
      refine hQ1 _ _ ?_
      (try conv=>whnf)
      rw [hfin rfl]
      (refine z00 (by rfl) ?_ ?_ (by rfl)) <;> repeat' (first | (exact eqA) | (refine shE ?_) | (refine And.intro ?_ ?_))
   ·rw [decide_eq_false q1,Bool.false_and] at hB
    repeat ((try conv=>whnf); first | (refine i_at g ?_) | (refine z1w q1 ?_) | (refine And.intro (by kernel_rfl) ?_) | (refine stpQ ?_))
    refine hQ1 _ _ ?_
    (try conv=>whnf)
    rw [hfin hB]
    (refine z00 (by rfl) ?_ ?_ (by rfl)) <;> repeat' (first | (exact eqA) | (refine shE ?_) | (refine And.intro ?_ ?_))
  ·have hke:k = z.length:=by omega
   subst hke
   have hA:=z1X hp
   repeat ((try conv=>whnf); first | (refine stpQ ?_))
   refine hQ1 _ _ ?_
   repeat ((try conv=>whnf); first | (refine stpQ ?_))
   rw [hA]
   (refine z00 (by rfl) ?_ ?_ (by rfl)) <;> repeat' (first | (exact eqA) | (refine shE ?_) | (refine And.intro ?_ ?_))
theorem zn3 (y0 z y2 y3 y4 y5:List (List T)) (pf:Nat → List Bs) (f:Nat → Bool) (h0:y0.length ≤ 1048576) (hz:z.length ≤ 1048576) (hp:∀ k,k < y0.length → PoAt y0 pf k) (hf:∀ k,k < z.length → AoAt (z1W pf y0.length) z f k) :
 CT Tryz.prog 17 [] [.agg [.sl 14 y0,.sl 6 z,.sl 2 y2,.sl 7 y3,.sl 1 y4,.sl 1 y5]] (.bool (allB (prB z f) z.length)) []:=by
 have cR:=zg5 y0 z y2 y3 y4 y5 pf h0 hp
 generalize z1W pf y0.length = R at cR hf
 clear hp h0
 refine z01 z03 1 rfl Tryz.func17 rfl rfl rfl ?_
 repeat ((try conv=>whnf); first | (refine ccA ([]) (cR) ?_) | (refine And.intro (by kernel_rfl) ?_) | (refine stpQ ?_))
 refine z0K Nat (fun k=>⟨[(1,.ptr 1 0 0),(3,.sl 1 (strE R)),(4,.int .i64 (k:Int))],[(1,some (.box [.sl 14 y0,.sl 6 z,.sl 2 y2,.sl 7 y3,.sl 1 y4,.sl 1 y5]))],2⟩) (fun k=>k ≤ z.length ∧ ∀ j,j < k → prB z f j = true) (fun k=>z.length - k) 0 ⟨by omega,fun j h=>by omega⟩ ?_ ?_
 ·(refine z02 (by rfl) ?_ ?_) <;> (repeat' (first | (exact eqA) | (refine shE ?_) | (refine And.intro ?_ ?_))) <;> first | rfl | decide
 ·intro Q1 hQ1 k hx
  have hk:k ≤ z.length:=hx.1
  have hp:=hx.2
  clear hx
  by_cases hlt:k < z.length
  ·have hlt2:(k:Int) < (z.length:Int):=by omega
   obtain ⟨n0,b1,z2,z3,z4,z5,g,hS,-⟩:=hf k hlt
   have gd:z.getD k [] = [.int .i64 n0,.bool b1,.sl 3 z2,.sl 1 z3,.sl 8 z4,.sl 16 z5]:=by rw [List.getD,g]; rfl
   have hB:prB z f k = (decide (n0 = (k:Int)) && f k):=by unfold prB; rw [gd]; rfl
   have hfin:prB z f k = false → allB (prB z f) z.length = false:=fun h=>z2H hlt h
   have hgo:prB z f k = true → ∀ j,j < k + 1 → prB z f j = true:=fun h j hj=>by
    rcases Nat.lt_or_ge j k with h1 | h1
    ·exact hp j h1
    ·rw [show j = k by omega]; exact h
   clear hp hf gd
   generalize prB z f k = B at hfin hgo hB
   generalize f k = B1 at hB hS
   by_cases q1:n0 = (k:Int)
   ·rw [decide_eq_true q1,Bool.true_and] at hB
    subst hB
    cases B with
    | true =>
      repeat ((try conv=>whnf); first | (refine i_at g ?_) | (refine z0A q1 ?_) | (refine ccA ([]) (hS) ?_) | (refine And.intro (by kernel_rfl) ?_) | (refine stpQ ?_))
      refine ⟨k + 1,⟨by omega,hgo rfl⟩,by omega,?_⟩
      (refine z02 (by rfl) ?_ ?_) <;> repeat' (first | (exact eqA) | (refine shE ?_) | (refine And.intro ?_ ?_))
    | false =>
      repeat ((try conv=>whnf); first | (refine i_at g ?_) | (refine z0A q1 ?_) | (refine ccA ([]) (hS) ?_) | (refine And.intro (by kernel_rfl) ?_) | (refine stpQ ?_))
      refine hQ1 _ _ ?_
      (try conv=>whnf)
      rw [hfin rfl]
      (refine z00 (by rfl) ?_ ?_ (by rfl)) <;> repeat' (first | (exact eqA) | (refine shE ?_) | (refine And.intro ?_ ?_))
   ·rw [decide_eq_false q1,Bool.false_and] at hB
    repeat ((try conv=>whnf); first | (refine i_at g ?_) | (refine z1w q1 ?_) | (refine And.intro (by kernel_rfl) ?_) | (refine stpQ ?_))
    refine hQ1 _ _ ?_
    (try conv=>whnf)
    rw [hfin hB]
    (refine z00 (by rfl) ?_ ?_ (by rfl)) <;> repeat' (first | (exact eqA) | (refine shE ?_) | (refine And.intro ?_ ?_))
  ·have hke:k = z.length:=by omega
   subst hke
   have hA:=z1X hp
   repeat ((try conv=>whnf); first | (refine stpQ ?_))
   refine hQ1 _ _ ?_
   repeat ((try conv=>whnf); first | (refine stpQ ?_))
   rw [hA]
   (refine z00 (by rfl) ?_ ?_ (by rfl)) <;> repeat' (first | (exact eqA) | (refine shE ?_) | (refine And.intro ?_ ?_))
end
theorem zn1 (e:List T) (q:Fits 1048576 z1y e):∃ b,CT Tryz.prog 17 [] [.agg e] (.bool b) [] ∧ CT Tryz.prog 18 [] [.agg e] (.bool b) []:=by
 obtain ⟨y0,z,y2,y3,y4,y5,rfl,q0,q1,-,-,-,-,-⟩:=z3A q
 obtain ⟨pf,hH⟩:=zn8 y0 q0.2
 obtain ⟨f,hf⟩:=ao_all (z1W pf y0.length) (by rw [z4A]; exact q0.1) z q1.2
 exact ⟨_,zn3 y0 z y2 y3 y4 y5 pf f q0.1 q1.1 hH hf,zn4 y0 z y2 y3 y4 y5 pf f q0.1 q1.1 hH hf⟩
end Go.Proofs.YthcfalipgnpelaaGreatDoor
