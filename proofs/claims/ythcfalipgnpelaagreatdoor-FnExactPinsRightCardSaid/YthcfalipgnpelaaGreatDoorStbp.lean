/- Functions by content: stamps of any content; the stamps of a world are right. -/
import Derived.Test.YthcfalipgnpelaaGreatDoorVd
import Derived.Test.YthcfalipgnpelaaGreatDoorSta
import Derived.Test.YthcfalipgnpelaaGreatDoorCsp
import Derived.Test.YthcfalipgnpelaaGreatDoorSp
import Derived.Test.YthcfalipgnpelaaGreatDoorSiR
namespace Go.Proofs.YthcfalipgnpelaaGreatDoor
set_option maxRecDepth 100000
set_option maxHeartbeats 8000000
set_option linter.unusedVariables false
set_option linter.unusedSimpArgs false
set_option linter.unusedSectionVars false
open Go.RowKit Pl
section
attribute [local irreducible] z0o z0p z0z AnsP LeP
def PoAt (z:List (List T)) (pf:Nat → List Bs) (k:Nat):Prop:=∃ (n0 n1:Int) (b2:Bool) (z3 z5 z6:List (List T)) (n7:Int) (b8:Bool) (z9 z10 z11 z12 z13:List (List T)),
 z[k]? = some [.int .i64 n0,.int .i64 n1,.bool b2,.sl 3 z3,.sl 1 (strE (pf k)),.sl 8 z5,.sl 1 z6,.int .i64 n7,.bool b8,.sl 1 z9,.sl 1 z10,.sl 11 z11,.sl 1 z12,.sl 1 z13] ∧ (pf k).length ≤ 1048576
def z1W (pf:Nat → List Bs) (n:Nat):List Bs:=(List.range n).map fun k=>z6g (pf k)
theorem z4A (pf:Nat → List Bs) (n:Nat):(z1W pf n).length = n:=by simp [z1W]
theorem z8d (pf:Nat → List Bs) (n:Nat):z1W pf (n + 1) = z1W pf n ++ [z6g (pf n)]:=by simp [z1W,List.range_succ]
theorem ziQ (z0 z1 z2 z3 z4 z5:List (List T)) (pf:Nat → List Bs) (hz:z0.length ≤ 1048576) (h:∀ k,k < z0.length → PoAt z0 pf k):CT Tryz.prog 39 [] [.agg [.sl 14 z0,.sl 6 z1,.sl 2 z2,.sl 7 z3,.sl 1 z4,.sl 1 z5]] (.sl 1 (strE (z1W pf z0.length))) []:=by
 refine z01 z03 1 rfl Tryz.func39 rfl rfl rfl ?_
 repeat ((try conv=>whnf); first | (refine stpQ ?_))
 refine z07 0 ⟨[(3,.ref 1)],[(1,some (.row 1 (strE (z1W pf z0.length))))],2⟩ Nat (fun k=>⟨[(3,.ref 1),(7,.sl 14 z0),(8,.int .i64 (z0.length:Int)),(9,.int .i64 (k:Int))],[(1,some (.row 1 (strE (z1W pf k))))],2⟩) (fun k=>k ≤ z0.length) (fun k=>z0.length - k) 0 (by omega) ?_ ?_ ?_
 ·(refine z02 (by rfl) ?_ ?_) <;> (repeat' (first | (exact eqA) | (refine shE ?_) | (refine And.intro ?_ ?_))) <;> first | rfl | decide
 ·intro k hk
  by_cases hlt:k < z0.length
  ·have hlt2:(k:Int) < (z0.length:Int):=by omega
   obtain ⟨n0,n1,b2,y3,y5,y6,n7,b8,y9,y10,y11,y12,y13,g,hl⟩:=h k hlt
   have c1:=z8c (pf k) (by omega)
   have hnx:=z8d pf k
   have hol:=z05 (z1W pf k)
   rw [z4A] at hol
   generalize z1W pf k = o at hnx hol ⊢
   generalize z6g (pf k) = R at c1 hnx
   generalize pf k = po at g c1
   repeat ((try conv=>whnf); first | (refine i_at g ?_) | (refine ccA ([]) (c1) ?_) | (refine And.intro (by simp only [List.length_append,List.length_cons,List.length_nil,List.length_set,List.length_replicate]; omega) ?_) | (refine And.intro (by kernel_rfl) ?_) | (refine stpQ ?_))
   refine ⟨k + 1,by omega,by omega,?_⟩
   rw [hnx]
   (refine z02 (by rfl) ?_ ?_) <;> (repeat' (first | (exact eqA) | (refine shE ?_) | (refine And.intro ?_ ?_)))
   rw [z1k]; rfl
  ·obtain rfl:k = z0.length:=by omega
   repeat ((try conv=>whnf); first | (refine stpQ ?_))
   (refine z02 (by rfl) ?_ ?_) <;> (repeat' (first | (exact eqA) | (refine shE ?_) | (refine And.intro ?_ ?_)))
 ·repeat ((try conv=>whnf); first | (refine stpQ ?_))
  (refine z00 (by rfl) ?_ ?_ (by rfl)) <;> (repeat' (first | (exact eqA) | (refine shE ?_) | (refine And.intro ?_ ?_)))
theorem zg5 (z0 z1 z2 z3 z4 z5:List (List T)) (pf:Nat → List Bs) (hz:z0.length ≤ 1048576) (h:∀ k,k < z0.length → PoAt z0 pf k):CT Tryz.prog 30 [] [.agg [.sl 14 z0,.sl 6 z1,.sl 2 z2,.sl 7 z3,.sl 1 z4,.sl 1 z5]] (.sl 1 (strE (z1W pf z0.length))) []:=by
 refine z01 z03 1 rfl Tryz.func30 rfl rfl rfl ?_
 repeat ((try conv=>whnf); first | (refine stpQ ?_))
 refine z07 0 ⟨[(3,.ref 2)],[(2,some (.row 1 (strE (z1W pf z0.length))))],3⟩ Nat (fun k=>⟨[(1,.ptr 1 0 0),(3,.ref 2),(4,.int .i64 (k:Int))],[(1,some (.box [.sl 14 z0,.sl 6 z1,.sl 2 z2,.sl 7 z3,.sl 1 z4,.sl 1 z5])),(2,some (.row 1 (strE (z1W pf k))))],3⟩) (fun k=>k ≤ z0.length) (fun k=>z0.length - k) 0 (by omega) ?_ ?_ ?_
 ·(refine z02 (by rfl) ?_ ?_) <;> (repeat' (first | (exact eqA) | (refine shE ?_) | (refine And.intro ?_ ?_))) <;> first | rfl | decide
 ·intro k hk
  by_cases hlt:k < z0.length
  ·have hlt2:(k:Int) < (z0.length:Int):=by omega
   obtain ⟨n0,n1,b2,y3,y5,y6,n7,b8,y9,y10,y11,y12,y13,g,hl⟩:=h k hlt
   have c1:=z6w (pf k) (by omega)
   have hnx:=z8d pf k
   have hol:=z05 (z1W pf k)
   rw [z4A] at hol
   generalize z1W pf k = o at hnx hol ⊢
   generalize z6g (pf k) = R at c1 hnx
   generalize pf k = po at g c1
   repeat ((try conv=>whnf); first | (refine i_at g ?_) | (refine ccA ([]) (c1) ?_) | (refine And.intro (by simp only [List.length_append,List.length_cons,List.length_nil,List.length_set,List.length_replicate]; omega) ?_) | (refine And.intro (by kernel_rfl) ?_) | (refine stpQ ?_))
   refine ⟨k + 1,by omega,by omega,?_⟩
   rw [hnx]
   (refine z02 (by rfl) ?_ ?_) <;> (repeat' (first | (exact eqA) | (refine shE ?_) | (refine And.intro ?_ ?_)))
   rw [z1k]; rfl
  ·obtain rfl:k = z0.length:=by omega
   repeat ((try conv=>whnf); first | (refine stpQ ?_))
   (refine z02 (by rfl) ?_ ?_) <;> (repeat' (first | (exact eqA) | (refine shE ?_) | (refine And.intro ?_ ?_)))
 ·repeat ((try conv=>whnf); first | (refine stpQ ?_))
  (refine z00 (by rfl) ?_ ?_ (by rfl)) <;> (repeat' (first | (exact eqA) | (refine shE ?_) | (refine And.intro ?_ ?_)))
theorem z9d (ix w:Nat):∀ (ss:List Bs) (j:Nat) (h s:Bs),(z28 ix w j h (ss ++ [s])).2 = cutB (tagB 3 (z4j ix (j + ss.length) (z28 ix w j h ss).2 s)) w
 | [],j,h,s=>rfl
 | t :: ss,j,h,s=>by
   simp only [List.cons_append,z28,z9d ix w ss (j + 1),List.length_cons]
   rw [show j + 1 + ss.length = j + (ss.length + 1) by omega]
theorem zc7 (root text:Bs) (s:Sg) (g:s.good) (ht:text.length ≤ 200):CT Tryz.prog 84 [] [.str root,.str text,.agg (sgE s)] (.bool (decide (z53 text s = root))) []:=by
 have hk:=zbC g
 have hsb:=zl2 text
 obtain ⟨a,op,sh,si⟩:=s
 obtain ⟨h1,⟨h2,h3⟩,⟨h4,h5⟩,h6,h7⟩:=g
 simp only at h1 h2 h3 h4 h5 h6 h7 hk
 have c1:=z5L (a:Int) op sh si (by omega) (by omega) (by omega)
 rw [hk] at c1
 have c2:=zcV text ht
 have l1:=z05 op
 have l2:=z05 sh
 have l3:=z05 si
 have cT:=z1i 6 (z1O (sbB text) op sh 8) 16 (by omega) (z99 (by rw [z2P]; omega) (z52 h5 (by omega))) (by omega)
 have hkey:z1m 6 (z1O (sbB text) op sh 8) 16 = keyV text ⟨a,op,sh,si⟩:=rfl
 rw [hkey] at cT
 have hrt:z53 text ⟨a,op,sh,si⟩ = (z28 a 16 0 (keyV text ⟨a,op,sh,si⟩) si).2:=rfl
 rw [hrt]
 have hkl:(keyV text ⟨a,op,sh,si⟩).length = 16:=z1e (by omega)
 have hsbit:=fun b (h:b < 8)=>zhZ (sbB text) b hsb h
 have hlk:=fun n=>z51 (sbB text) op sh n
 have hll:=z2P (sbB text) op sh
 clear hkey hrt hk
 generalize keyV text ⟨a,op,sh,si⟩ = KV at cT hkl ⊢
 generalize sbB text = ix at c2 cT hsbit hlk hll hsb
 show CT _ _ _ [.str root,.str text,.agg [.int .i64 (a:Int),.sl 1 (strE op),.sl 1 (strE sh),.sl 1 (strE si)]] _ _
 unfold z1r at c1
 have ht2:¬ (text.length:Int) > 200:=by omega
 refine z01 z03 1 rfl Tryz.func84 rfl rfl rfl ?_
 repeat ((try conv=>whnf); first | (refine ccA ([]) (c1) ?_) | (refine z0e ht2 ?_) | (refine ccA ([]) (c2) ?_) | (refine And.intro (by kernel_rfl) ?_) | (refine stpQ ?_))
 refine z07 0 ⟨[(0,.str root),(5,.ptr 1 0 0),(8,.ref 2)],[(1,some (.box [.int .i64 (a:Int),.sl 1 (strE op),.sl 1 (strE sh),.sl 1 (strE si)])),(2,some (.row 1 (strE (z1O ix op sh 8))))],3⟩ Nat (fun b=>⟨[(0,.str root),(5,.ptr 1 0 0),(7,.int .i64 (ix:Int)),(8,.ref 2),(9,.int .i64 (b:Int))],[(1,some (.box [.int .i64 (a:Int),.sl 1 (strE op),.sl 1 (strE sh),.sl 1 (strE si)])),(2,some (.row 1 (strE (z1O ix op sh b))))],3⟩) (fun b=>b ≤ 8) (fun b=>8 - b) 0 (by omega) ?_ ?_ ?_
 ·(refine z02 (by rfl) ?_ ?_) <;> (repeat' (first | (exact eqA) | (refine shE ?_) | (refine And.intro ?_ ?_))) <;> first | rfl | decide
 ·intro b hb
  by_cases hlt:b < 8
  ·have hb8:(b:Int) < 8:=by omega
   have g1:=z0j (show b < op.length by omega)
   have g2:=z0j (show b < sh.length by omega)
   have w1:(pAt op b).length = 16:=z3T h3 (by omega)
   have cl:=zhX (pAt op b) (by omega)
   have cb:=hsbit b hlt
   have hnx:=hlk b
   have hol:=z05 (z1O ix op sh b)
   rw [hll] at hol
   unfold z7X at hnx
   generalize z1O ix op sh b = o at hnx hol ⊢
   generalize z4l (pAt op b) = lk at cl hnx
   generalize pAt op b = ov at g1 cl
   generalize pAt sh b = sv at g2 hnx
   by_cases hs:sbit ix b = 0
   ·rw [if_pos hs] at hnx
    rw [hs] at cb
    repeat ((try conv=>whnf); first | (refine i_at g1 ?_) | (refine i_at g2 ?_) | (refine ccA ([]) (cl) ?_) | (refine ccA ([]) (cb) ?_) | (refine z0k rfl ?_) | (refine And.intro (by simp only [List.length_append,List.length_cons,List.length_nil,List.length_set,List.length_replicate]; omega) ?_) | (refine And.intro (by kernel_rfl) ?_) | (refine stpQ ?_))
    refine ⟨b + 1,by omega,by omega,?_⟩
    rw [hnx,z35]
    (refine z02 (by rfl) ?_ ?_) <;> (repeat' (first | (exact eqA) | (refine shE ?_) | (refine And.intro ?_ ?_)))
    all_goals rfl
   ·rw [if_neg hs] at hnx
    have hs2:¬ ((sbit ix b:Nat):Int) = 0:=by omega
    generalize sbit ix b = q at cb hs2
    repeat ((try conv=>whnf); first | (refine i_at g1 ?_) | (refine i_at g2 ?_) | (refine ccA ([]) (cl) ?_) | (refine ccA ([]) (cb) ?_) | (refine z0e hs2 ?_) | (refine And.intro (by simp only [List.length_append,List.length_cons,List.length_nil,List.length_set,List.length_replicate]; omega) ?_) | (refine And.intro (by kernel_rfl) ?_) | (refine stpQ ?_))
    refine ⟨b + 1,by omega,by omega,?_⟩
    rw [hnx,z35]
    (refine z02 (by rfl) ?_ ?_) <;> (repeat' (first | (exact eqA) | (refine shE ?_) | (refine And.intro ?_ ?_)))
    all_goals rfl
  ·obtain rfl:b = 8:=by omega
   repeat ((try conv=>whnf); first | (refine stpQ ?_))
   (refine z02 (by rfl) ?_ ?_) <;> (repeat' (first | (exact eqA) | (refine shE ?_) | (refine And.intro ?_ ?_)))
 ·repeat ((try conv=>whnf); first | (refine ccA ([]) (cT) ?_) | (refine And.intro (by kernel_rfl) ?_) | (refine stpQ ?_))
  refine z07 2 ⟨[(0,.str root),(11,.str (z28 a 16 0 KV si).2)],[],1⟩ Nat (fun j=>⟨[(0,.str root),(5,.ptr 1 0 0),(11,.str (z28 a 16 0 KV (si.take j)).2),(12,.int .i64 ((a / 2 ^ j:Nat):Int)),(13,.int .i64 (j:Int))],[(1,some (.box [.int .i64 (a:Int),.sl 1 (strE op),.sl 1 (strE sh),.sl 1 (strE si)]))],2⟩) (fun j=>j ≤ si.length) (fun j=>si.length - j) 0 (by omega) ?_ ?_ ?_
  ·(refine z02 (by rfl) ?_ ?_) <;> (repeat' (first | (exact eqA) | (refine shE ?_) | (refine And.intro ?_ ?_))) <;> first | rfl | (simp; done) | decide
  ·intro j hj
   by_cases hlt:j < si.length
   ·have g1:=z0j hlt
    have w1:(pAt si j).length = 16:=z3T h7 hlt
    have hts:si.take (j + 1) = si.take j ++ [pAt si j]:=by rw [List.take_succ_eq_append_getElem hlt]; simp [pAt,List.getD,List.getElem?_eq_getElem hlt]
    have hnx:=z9d a 16 (si.take j) 0 KV (pAt si j)
    rw [← hts] at hnx
    have hjl:0 + (si.take j).length = j:=by rw [List.length_take]; omega
    rw [hjl] at hnx
    have hvl:(z28 a 16 0 KV (si.take j)).2.length = 16:=zbv (by omega) _ _ _ hkl
    have e2:IntKind.i64.wrap (Int.tdiv ((a / 2 ^ j:Nat):Int) 2) = ((a / 2 ^ (j + 1):Nat):Int):=by
     have q0:a / 2 ^ j / 2 = a / 2 ^ (j + 1):=by rw [Nat.div_div_eq_div_mul,← Nat.pow_succ]
     have q1:Int.tdiv ((a / 2 ^ j:Nat):Int) 2 = ((a / 2 ^ j / 2:Nat):Int):=rfl
     have q2:a / 2 ^ (j + 1) ≤ a:=Nat.div_le_self _ _
     rw [q1,q0]
     generalize a / 2 ^ (j + 1) = z at q2
     exact z08 (by omega) (by omega)
    have e1:Int.tmod ((a / 2 ^ j:Nat):Int) 2 = ((a / 2 ^ j % 2:Nat):Int):=rfl
    have hbit:a / 2 ^ j % 2 = 0 ∨ a / 2 ^ j % 2 = 1:=by omega
    have hbt:bitB a j = a / 2 ^ j % 2:=rfl
    unfold z4j at hnx
    generalize hv2:(z28 a 16 0 KV (si.take (j + 1))).2 = v' at hnx
    generalize (z28 a 16 0 KV (si.take j)).2 = v at hnx hvl ⊢
    generalize pAt si j = sd at g1 w1 hnx
    rcases hbit with hz | hz
    ·have ct:=z1i 3 [v,sd] 16 (by omega) (z1U (by omega) (by omega)) (by omega)
     have hv':v' = z1m 3 [v,sd] 16:=by rw [hnx,if_neg (by rw [hbt,hz]; decide)]; rfl
     rw [← hv'] at ct
     clear hnx hv'
     rw [hz] at e1
     generalize hk2:a / 2 ^ (j + 1) = k2 at e2
     generalize a / 2 ^ j = k1 at e1 e2 ⊢
     repeat ((try conv=>whnf); first | (refine Exists.intro si.length (And.intro l3 ?_)) | (refine Exists.intro _ (And.intro e1.symm ?_)) | (refine z0k rfl ?_) | (refine i_at g1 ?_) | (refine ccA ([]) (ct) ?_) | (refine Exists.intro _ (And.intro e2.symm ?_)) | (refine And.intro (by kernel_rfl) ?_) | (refine stpQ ?_))
     refine ⟨j + 1,by omega,by omega,?_⟩
     (refine z02 (by rfl) ?_ ?_) <;> (repeat' (first | (exact eqA) | (refine shE ?_) | (refine And.intro ?_ ?_)))
     all_goals first
      | exact hv2.symm
      | (rw [hk2]; done)
      | rfl
    ·have ct:=z1i 3 [sd,v] 16 (by omega) (z1U (by omega) (by omega)) (by omega)
     have hv':v' = z1m 3 [sd,v] 16:=by rw [hnx,if_pos (by rw [hbt,hz])]; rfl
     rw [← hv'] at ct
     clear hnx hv'
     rw [hz] at e1
     generalize hk2:a / 2 ^ (j + 1) = k2 at e2
     generalize a / 2 ^ j = k1 at e1 e2 ⊢
     repeat ((try conv=>whnf); first | (refine Exists.intro si.length (And.intro l3 ?_)) | (refine Exists.intro _ (And.intro e1.symm ?_)) | (refine z0e (by decide) ?_) | (refine i_at g1 ?_) | (refine ccA ([]) (ct) ?_) | (refine Exists.intro _ (And.intro e2.symm ?_)) | (refine And.intro (by kernel_rfl) ?_) | (refine stpQ ?_))
     refine ⟨j + 1,by omega,by omega,?_⟩
     (refine z02 (by rfl) ?_ ?_) <;> (repeat' (first | (exact eqA) | (refine shE ?_) | (refine And.intro ?_ ?_)))
     all_goals first
      | exact hv2.symm
      | (rw [hk2]; done)
      | rfl
   ·obtain rfl:j = si.length:=by omega
    rw [List.take_length]
    repeat ((try conv=>whnf); first | (refine Exists.intro si.length (And.intro l3 ?_)) | (refine stpQ ?_))
    (refine z02 (by rfl) ?_ ?_) <;> (repeat' (first | (exact eqA) | (refine shE ?_) | (refine And.intro ?_ ?_)))
  ·repeat ((try conv=>whnf); first | (refine stpQ ?_))
   (refine z00 (by rfl) ?_ ?_ (by rfl)) <;> (repeat' (first | (exact eqA) | (refine shE ?_) | (refine And.intro ?_ ?_)))
end
end Go.Proofs.YthcfalipgnpelaaGreatDoor
