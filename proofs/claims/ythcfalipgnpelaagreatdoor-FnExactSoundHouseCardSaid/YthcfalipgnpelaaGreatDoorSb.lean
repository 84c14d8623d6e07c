/- Functions by content: stamps of any content; the stamps of a world are right. Functions by content: seals that are right in form; the chain of a house is right. -/
import Derived.Test.YthcfalipgnpelaaGreatDoorVd
import Derived.Test.YthcfalipgnpelaaGreatDoorSta
import Derived.Test.YthcfalipgnpelaaGreatDoorCs
import Derived.Test.YthcfalipgnpelaaGreatDoorSp
import Derived.Test.YthcfalipgnpelaaGreatDoorSiR
import Derived.Test.YthcfalipgnpelaaGreatDoorRsp
namespace Go.Proofs.YthcfalipgnpelaaGreatDoor
set_option linter.unusedVariables false
set_option linter.unusedSimpArgs false
open Go.RowKit Pl
section
attribute [local irreducible] z0o z0p z0z AnsP LeP
theorem z9d (ix w:Nat):∀ (ss:List Bs) (j:Nat) (h s:Bs),(z28 ix w j h (ss++[s])).2=cutB (tagB 3 (z4j ix (j+ss.length) (z28 ix w j h ss).2 s)) w
 | [],j,h,s=>rfl
 | t :: ss,j,h,s=>by
   simp only [List.cons_append,z28,z9d ix w ss (j+1),List.length_cons]
   rw [show j+1+ss.length=j+(ss.length+1) by omega]
set_option maxRecDepth 100000 in
set_option maxHeartbeats 8000000 in
theorem zc7 (root text:Bs) (s:Sg) (g:s.good) (ht:text.length≤200):CT Tryz.prog 84 [] [.str root,.str text,.agg (sgE s)] (.bool (decide (z53 text s=root))) []:=by
 have hk:=zbC g
 have hsb:=zl2 text
 obtain ⟨a,op,sh,si⟩:=s
 obtain ⟨h1,⟨h2,h3⟩,⟨h4,h5⟩,h6,h7⟩:=g
 simp only at h1 h2 h3 h4 h5 h6 h7 hk
 have c1:=z5L (a:Int) op sh si (by omega) (by omega) (by omega)
 rw [hk] at c1
 have c2:=zcV text ht
 have l1:=z05 op
 have l2:=z05 sh
 have l3:=z05 si
 have cT:=z1i 6 (z1O (sbB text) op sh 8) 16 (by omega) (z99 (by rw [z2P];omega) (z52 h5 (by omega))) (by omega)
 have hkey:z1m 6 (z1O (sbB text) op sh 8) 16=keyV text ⟨a,op,sh,si⟩:=rfl
 rw [hkey] at cT
 have hrt:z53 text ⟨a,op,sh,si⟩=(z28 a 16 0 (keyV text ⟨a,op,sh,si⟩) si).2:=rfl
 rw [hrt]
 have hkl:(keyV text ⟨a,op,sh,si⟩).length=16:=z1e (by omega)
 have hsbit:=fun b (h:b<8)=>zhZ (sbB text) b hsb h
 have hlk:=fun n=>z51 (sbB text) op sh n
 have hll:=z2P (sbB text) op sh
 clear hkey hrt hk
 generalize keyV text ⟨a,op,sh,si⟩=KV at cT hkl ⊢
 generalize sbB text=ix at c2 cT hsbit hlk hll hsb
 show CT _ _ _ [.str root,.str text,.agg [.int .i64 (a:Int),.sl 1 (strE op),.sl 1 (strE sh),.sl 1 (strE si)]] _ _
 unfold z1r at c1
 have ht2:¬ (text.length:Int) > 200:=by omega
 refine z01 z03 1 rfl Tryz.func84 rfl rfl rfl ?_
 repeat ((try conv=>whnf);first|refine ccA ([]) (c1) ?_|refine z0e ht2 ?_|refine ccA ([]) (c2) ?_|refine And.intro (by kernel_rfl) ?_|refine stpQ ?_)
 refine z07 0 ⟨[(0,.str root),(5,.ptr 1 0 0),(8,.ref 2)],[(1,some (.box [.int .i64 (a:Int),.sl 1 (strE op),.sl 1 (strE sh),.sl 1 (strE si)])),(2,some (.row 1 (strE (z1O ix op sh 8))))],3⟩ Nat (fun b=>⟨[(0,.str root),(5,.ptr 1 0 0),(7,.int .i64 (ix:Int)),(8,.ref 2),(9,.int .i64 (b:Int))],[(1,some (.box [.int .i64 (a:Int),.sl 1 (strE op),.sl 1 (strE sh),.sl 1 (strE si)])),(2,some (.row 1 (strE (z1O ix op sh b))))],3⟩) (fun b=>b≤8) (fun b=>8-b) 0 (by omega) ?_ ?_ ?_
 ·(refine z02 (by rfl) ?_ ?_)<;>(repeat' (first|exact eqA|refine shE ?_|refine And.intro ?_ ?_))<;>first|rfl|decide
 ·intro b hb
  by_cases hlt:b<8
  ·have hb8:(b:Int)<8:=by omega
   have g1:=z0j (show b<op.length by omega)
   have g2:=z0j (show b<sh.length by omega)
   have w1:(pAt op b).length=16:=z3T h3 (by omega)
   have cl:=zhX (pAt op b) (by omega)
   have cb:=hsbit b hlt
   have hnx:=hlk b
   have hol:=z05 (z1O ix op sh b)
   rw [hll] at hol
   unfold z7X at hnx
   generalize z1O ix op sh b=o at hnx hol ⊢
   generalize z4l (pAt op b)=lk at cl hnx
   generalize pAt op b=ov at g1 cl
   generalize pAt sh b=sv at g2 hnx
   by_cases hs:sbit ix b=0
   ·rw [if_pos hs] at hnx
    rw [hs] at cb
    repeat ((try conv=>whnf);first|refine i_at g1 ?_|refine i_at g2 ?_|refine ccA ([]) (cl) ?_|refine ccA ([]) (cb) ?_|refine z0k rfl ?_|refine And.intro (by simp only [List.length_append,List.length_cons,List.length_nil,List.length_set,List.length_replicate];omega) ?_|refine And.intro (by kernel_rfl) ?_|refine stpQ ?_)
    refine ⟨b+1,by omega,by omega,?_⟩
    rw [hnx,z35]
    (refine z02 (by rfl) ?_ ?_)<;>(repeat' (first|exact eqA|refine shE ?_|refine And.intro ?_ ?_))
    all_goals rfl
   ·rw [if_neg hs] at hnx
    have hs2:¬ ((sbit ix b:Nat):Int)=0:=by omega
    generalize sbit ix b=q at cb hs2
    repeat ((try conv=>whnf);first|refine i_at g1 ?_|refine i_at g2 ?_|refine ccA ([]) (cl) ?_|refine ccA ([]) (cb) ?_|refine z0e hs2 ?_|refine And.intro (by simp only [List.length_append,List.length_cons,List.length_nil,List.length_set,List.length_replicate];omega) ?_|refine And.intro (by kernel_rfl) ?_|refine stpQ ?_)
    refine ⟨b+1,by omega,by omega,?_⟩
    rw [hnx,z35]
    (refine z02 (by rfl) ?_ ?_)<;>(repeat' (first|exact eqA|refine shE ?_|refine And.intro ?_ ?_))
    all_goals rfl
  ·obtain rfl:b=8:=by omega
   repeat ((try conv=>whnf);first|refine stpQ ?_)
   (refine z02 (by rfl) ?_ ?_)<;>(repeat' (first|exact eqA|refine shE ?_|refine And.intro ?_ ?_))
 ·repeat ((try conv=>whnf);first|refine ccA ([]) (cT) ?_|refine And.intro (by kernel_rfl) ?_|refine stpQ ?_)
  refine z07 2 ⟨[(0,.str root),(11,.str (z28 a 16 0 KV si).2)],[],1⟩ Nat (fun j=>⟨[(0,.str root),(5,.ptr 1 0 0),(11,.str (z28 a 16 0 KV (si.take j)).2),(12,.int .i64 ((a / 2 ^ j:Nat):Int)),(13,.int .i64 (j:Int))],[(1,some (.box [.int .i64 (a:Int),.sl 1 (strE op),.sl 1 (strE sh),.sl 1 (strE si)]))],2⟩) (fun j=>j≤si.length) (fun j=>si.length-j) 0 (by omega) ?_ ?_ ?_
  ·(refine z02 (by rfl) ?_ ?_)<;>(repeat' (first|exact eqA|refine shE ?_|refine And.intro ?_ ?_))<;>first|rfl|(simp;done)|decide
  ·intro j hj
   by_cases hlt:j<si.length
   ·have g1:=z0j hlt
    have w1:(pAt si j).length=16:=z3T h7 hlt
    have hts:si.take (j+1)=si.take j++[pAt si j]:=by rw [List.take_succ_eq_append_getElem hlt];simp [pAt,List.getD,List.getElem?_eq_getElem hlt]
    have hnx:=z9d a 16 (si.take j) 0 KV (pAt si j)
    rw [← hts] at hnx
    have hjl:0+(si.take j).length=j:=by rw [List.length_take];omega
    rw [hjl] at hnx
    have hvl:(z28 a 16 0 KV (si.take j)).2.length=16:=zbv (by omega) _ _ _ hkl
    have e2:IntKind.i64.wrap (Int.tdiv ((a / 2 ^ j:Nat):Int) 2)=((a / 2 ^ (j+1):Nat):Int):=by
     have q0:a / 2 ^ j / 2=a / 2 ^ (j+1):=by rw [Nat.div_div_eq_div_mul,← Nat.pow_succ]
     have q1:Int.tdiv ((a / 2 ^ j:Nat):Int) 2=((a / 2 ^ j / 2:Nat):Int):=rfl
     have q2:a / 2 ^ (j+1)≤a:=Nat.div_le_self _ _
     rw [q1,q0]
     generalize a / 2 ^ (j+1)=z at q2
     exact z08 (by omega) (by omega)
    have e1:Int.tmod ((a / 2 ^ j:Nat):Int) 2=((a / 2 ^ j % 2:Nat):Int):=rfl
    have hbit:a / 2 ^ j % 2=0 ∨ a / 2 ^ j % 2=1:=by omega
    have hbt:bitB a j=a / 2 ^ j % 2:=rfl
    unfold z4j at hnx
    generalize hv2:(z28 a 16 0 KV (si.take (j+1))).2=v' at hnx
    generalize (z28 a 16 0 KV (si.take j)).2=v at hnx hvl ⊢
    generalize pAt si j=sd at g1 w1 hnx
    rcases hbit with hz|hz
    ·have ct:=z1i 3 [v,sd] 16 (by omega) (z1U (by omega) (by omega)) (by omega)
     have hv':v'=z1m 3 [v,sd] 16:=by rw [hnx,if_neg (by rw [hbt,hz];decide)];rfl
     rw [← hv'] at ct
     clear hnx hv'
     rw [hz] at e1
     generalize hk2:a / 2 ^ (j+1)=k2 at e2
     generalize a / 2 ^ j=k1 at e1 e2 ⊢
     repeat ((try conv=>whnf);first|refine Exists.intro si.length (And.intro l3 ?_)|refine Exists.intro _ (And.intro e1.symm ?_)|refine z0k rfl ?_|refine i_at g1 ?_|refine ccA ([]) (ct) ?_|refine Exists.intro _ (And.intro e2.symm ?_)|refine And.intro (by kernel_rfl) ?_|refine stpQ ?_)
     refine ⟨j+1,by omega,by omega,?_⟩
     (refine z02 (by rfl) ?_ ?_)<;>(repeat' (first|exact eqA|refine shE ?_|refine And.intro ?_ ?_))
     all_goals first
      | exact hv2.symm
      | (rw [hk2];done)
      | rfl
    ·have ct:=z1i 3 [sd,v] 16 (by omega) (z1U (by omega) (by omega)) (by omega)
     have hv':v'=z1m 3 [sd,v] 16:=by rw [hnx,if_pos (by rw [hbt,hz])];rfl
     rw [← hv'] at ct
     clear hnx hv'
     rw [hz] at e1
     generalize hk2:a / 2 ^ (j+1)=k2 at e2
     generalize a / 2 ^ j=k1 at e1 e2 ⊢
     repeat ((try conv=>whnf);first|refine Exists.intro si.length (And.intro l3 ?_)|refine Exists.intro _ (And.intro e1.symm ?_)|refine z0e (by decide) ?_|refine i_at g1 ?_|refine ccA ([]) (ct) ?_|refine Exists.intro _ (And.intro e2.symm ?_)|refine And.intro (by kernel_rfl) ?_|refine stpQ ?_)
     refine ⟨j+1,by omega,by omega,?_⟩
     (refine z02 (by rfl) ?_ ?_)<;>(repeat' (first|exact eqA|refine shE ?_|refine And.intro ?_ ?_))
     all_goals first
      | exact hv2.symm
      | (rw [hk2];done)
      | rfl
   ·obtain rfl:j=si.length:=by omega
    rw [List.take_length]
    repeat ((try conv=>whnf);first|refine Exists.intro si.length (And.intro l3 ?_)|refine stpQ ?_)
    (refine z02 (by rfl) ?_ ?_)<;>(repeat' (first|exact eqA|refine shE ?_|refine And.intro ?_ ?_))
  ·repeat ((try conv=>whnf);first|refine stpQ ?_)
   (refine z00 (by rfl) ?_ ?_ (by rfl))<;>(repeat' (first|exact eqA|refine shE ?_|refine And.intro ?_ ?_))
end
end Go.Proofs.YthcfalipgnpelaaGreatDoor
namespace Go.Proofs.YthcfalipgnpelaaGreatDoor
set_option maxRecDepth 100000
set_option maxHeartbeats 8000000
set_option linter.unusedVariables false
set_option linter.unusedSimpArgs false
open Go.RowKit Pl
section
attribute [local irreducible] z0o z0p z0z AnsP LeP
def sd0:Hd × Sg:=(⟨0,0,[],[]⟩,⟨0,[],[],[]⟩)
def sdAt (l:List (Hd × Sg)) (k:Nat):Hd × Sg:=l.getD k sd0
theorem zmd {l:List (Hd × Sg)} {k:Nat} (h:k<l.length):sdAt l k=l[k]:=by simp [sdAt,List.getD,List.getElem?_eq_getElem h]
theorem zeG {l:List (Hd × Sg)} {k:Nat} (h:k<l.length):(slE l)[k]?=some (hdE (sdAt l k).1++sgE (sdAt l k).2):=by rw [zmd h];exact z9Z h
def slB (root:Bs) (x:Hd × Sg):Bool:=decide ((x.2.a:Int)=((x.1.ep-1:Nat):Int))&&decide (z53 (z2l x.1) x.2=root)
theorem ziU (root:Bs) (x:Hd × Sg) (g:x.1.good) (gs:x.2.good):CT Tryz.prog 117 [] [.str root,.agg (hdE x.1++sgE x.2)] (.bool (slB root x)) []:=by
 obtain ⟨h,s⟩:=x
 have c1:=z6Q h g
 have c2:=z6d h g
 have c3:=zk1 h.ep ⟨g.2.1,g.2.2.1⟩
 have c4:=zhK root (z2l h) s gs (by rw [z54];omega)
 show CT _ _ _ _ (.bool (decide ((s.a:Int)=((h.ep-1:Nat):Int))&&decide (z53 (z2l h) s=root))) _
 generalize decide (z53 (z2l h) s=root)=b at c4 ⊢
 generalize z2l h=t at c2 c4
 obtain ⟨hho,ep,ro,pr⟩:=h
 obtain ⟨a,op,sh,si⟩:=s
 simp only at c1 c2 c3 c4 ⊢
 by_cases ha:(a:Int)=((ep-1:Nat):Int)
 ·rw [decide_eq_true ha,Bool.true_and]
  refine z01 z03 1 rfl Tryz.func117 rfl rfl rfl ?_
  repeat ((try conv=>whnf);first|refine z0k ha ?_|refine ccA ([]) (c1) ?_|refine ccA ([]) (c3) ?_|refine ccA ([]) (c2) ?_|refine ccA ([]) (c4) ?_|refine And.intro (by kernel_rfl) ?_|refine stpQ ?_)
  (refine z00 (by rfl) ?_ ?_ (by rfl))<;>(repeat' (first|exact eqA|refine shE ?_|refine And.intro ?_ ?_))<;>simp [ha]
 ·rw [decide_eq_false ha,Bool.false_and]
  refine z01 z03 1 rfl Tryz.func117 rfl rfl rfl ?_
  repeat ((try conv=>whnf);first|refine z0e ha ?_|refine ccA ([]) (c1) ?_|refine ccA ([]) (c3) ?_|refine And.intro (by kernel_rfl) ?_|refine stpQ ?_)
  (refine z00 (by rfl) ?_ ?_ (by rfl))<;>(repeat' (first|exact eqA|refine shE ?_|refine And.intro ?_ ?_))<;>simp [ha]
theorem zg7 (root:Bs) (x:Hd × Sg) (g:x.1.good) (gs:x.2.good):CT Tryz.prog 110 [] [.str root,.agg (hdE x.1++sgE x.2)] (.bool (slB root x)) []:=by
 obtain ⟨h,s⟩:=x
 have c1:=z84 h g
 have c2:=z3Y h g
 have c3:=zi1 h.ep ⟨g.2.1,g.2.2.1⟩
 have c4:=zc7 root (z2l h) s gs (by rw [z54];omega)
 show CT _ _ _ _ (.bool (decide ((s.a:Int)=((h.ep-1:Nat):Int))&&decide (z53 (z2l h) s=root))) _
 generalize decide (z53 (z2l h) s=root)=b at c4 ⊢
 generalize z2l h=t at c2 c4
 obtain ⟨hho,ep,ro,pr⟩:=h
 obtain ⟨a,op,sh,si⟩:=s
 simp only at c1 c2 c3 c4 ⊢
 by_cases ha:(a:Int)=((ep-1:Nat):Int)
 ·rw [decide_eq_true ha,Bool.true_and]
  refine z01 z03 1 rfl Tryz.func110 rfl rfl rfl ?_
  repeat ((try conv=>whnf);first|refine z0k ha ?_|refine ccA ([]) (c1) ?_|refine ccA ([]) (c3) ?_|refine ccA ([]) (c2) ?_|refine ccA ([]) (c4) ?_|refine And.intro (by kernel_rfl) ?_|refine stpQ ?_)
  (refine z00 (by rfl) ?_ ?_ (by rfl))<;>(repeat' (first|exact eqA|refine shE ?_|refine And.intro ?_ ?_))<;>simp [ha]
 ·rw [decide_eq_false ha,Bool.false_and]
  refine z01 z03 1 rfl Tryz.func110 rfl rfl rfl ?_
  repeat ((try conv=>whnf);first|refine z0e ha ?_|refine ccA ([]) (c1) ?_|refine ccA ([]) (c3) ?_|refine And.intro (by kernel_rfl) ?_|refine stpQ ?_)
  (refine z00 (by rfl) ?_ ?_ (by rfl))<;>(repeat' (first|exact eqA|refine shE ?_|refine And.intro ?_ ?_))<;>simp [ha]
theorem zc8 (ho K:Nat) (b2:Bool) (z3:List (List T)) (po:List Bs) (nse:List (Hd × Sg)) (z6:List (List T)) (n7:Int) (b8:Bool) (z9 z10 z z12 z13:List (List T)) (hpo:po.length≤1048576) (h4:nse.length≤4) (hg:∀ x ∈ nse,x.1.good∧x.2.good) (hc:z6B ho (nse.map fun x=>x.1)) :
 CT Tryz.prog 73 [] [.agg [.int .i64 (ho:Int),.int .i64 (K:Int),.bool b2,.sl 3 z3,.sl 1 (strE po),.sl 8 (slE nse),.sl 1 z6,.int .i64 n7,.bool b8,.sl 1 z9,.sl 1 z10,.sl 11 z,.sl 1 z12,.sl 1 z13]] (.bool (allB (fun k=>slB (z6g po) (sdAt nse k)) nse.length)) []:=by
 have hl:=z3W nse
 have cR:=z8c po (by omega)
 have cH:=zbE nse (by omega)
 have cC:=zbF ho _ hc
 generalize (nse.map fun x=>x.1)=hds at cH cC
 clear hc
 generalize z6g po=R at cR ⊢
 refine z01 z03 1 rfl Tryz.func73 rfl rfl rfl ?_
 repeat ((try conv=>whnf);first|refine ccA ([]) (cR) ?_|refine Exists.intro nse.length (And.intro hl ?_)|refine And.intro (by kernel_rfl) ?_|refine stpQ ?_)
 refine z0K Nat (fun k=>⟨[(1,.ptr 1 0 0),(3,.str R),(12,.sl 8 (slE nse)),(13,.int .i64 (nse.length:Int)),(14,.int .i64 (k:Int))],[(1,some (.box [.int .i64 (ho:Int),.int .i64 (K:Int),.bool b2,.sl 3 z3,.sl 1 (strE po),.sl 8 (slE nse),.sl 1 z6,.int .i64 n7,.bool b8,.sl 1 z9,.sl 1 z10,.sl 11 z,.sl 1 z12,.sl 1 z13]))],2⟩)
  (fun k=>k≤nse.length∧∀ j,j<k→slB R (sdAt nse j)=true) (fun k=>nse.length-k) 0 ⟨by omega,fun j h=>by omega⟩ ?_ ?_
 ·(refine z02 (by rfl) ?_ ?_)<;>(repeat' (first|exact eqA|refine shE ?_|refine And.intro ?_ ?_))<;>first|rfl|decide
 ·intro Q1 hQ1 k hx
  have hk:k≤nse.length:=hx.1
  have hp:=hx.2
  clear hx
  by_cases hlt:k<nse.length
  ·have hlt2:(k:Int)<(nse.length:Int):=by omega
   have g:=zeG hlt
   have gg:=hg _ (List.getElem_mem hlt)
   rw [← zmd hlt] at gg
   have c1:=ziU R (sdAt nse k) gg.1 gg.2
   have hfin:slB R (sdAt nse k)=false→allB (fun k=>slB R (sdAt nse k)) nse.length=false:=fun h=>z2H hlt h
   have hgo:slB R (sdAt nse k)=true→∀ j,j<k+1→slB R (sdAt nse j)=true:=fun h j hj=>by
    rcases Nat.lt_or_ge j k with h1|h1
    ·exact hp j h1
    ·rw [show j=k by omega];exact h
   clear gg hp
   generalize slB R (sdAt nse k)=B at c1 hfin hgo
   generalize sdAt nse k=x at g c1
   obtain ⟨⟨xa,xb,xc,xd⟩,⟨ya,yb,yc,yd⟩⟩:=x
   unfold hdE sgE at g c1
   cases B with
   | true =>
     repeat ((try conv=>whnf);first|refine i_at g ?_|refine ccA ([]) (c1) ?_|refine And.intro (by kernel_rfl) ?_|refine stpQ ?_)
     refine ⟨k+1,⟨by omega,hgo rfl⟩,by omega,?_⟩
     (refine z02 (by rfl) ?_ ?_)<;>repeat' (first|exact eqA|refine shE ?_|refine And.intro ?_ ?_)
   | false =>
     repeat ((try conv=>whnf);first|refine i_at g ?_|refine ccA ([]) (c1) ?_|refine And.intro (by kernel_rfl) ?_|refine stpQ ?_)
     refine hQ1 _ _ ?_
     (try conv=>whnf)
     rw [hfin rfl]
     (refine z00 (by rfl) ?_ ?_ (by rfl))<;>repeat' (first|exact eqA|refine shE ?_|refine And.intro ?_ ?_)
  ·have hke:k=nse.length:=by omega
   subst hke
   have hA:allB (fun k=>slB R (sdAt nse k)) nse.length=true:=z1X hp
   repeat ((try conv=>whnf);first|refine And.intro (by kernel_rfl) ?_|refine stpQ ?_)
   refine hQ1 _ _ ?_
   repeat ((try conv=>whnf);first|refine ccA ([]) (cH) ?_|refine ccA ([]) (cC) ?_|refine And.intro (by kernel_rfl) ?_|refine stpQ ?_)
   rw [hA]
   (refine z00 (by rfl) ?_ ?_ (by rfl))<;>repeat' (first|exact eqA|refine shE ?_|refine And.intro ?_ ?_)
theorem zag (ho K:Nat) (b2:Bool) (z3:List (List T)) (po:List Bs) (nse:List (Hd × Sg)) (z6:List (List T)) (n7:Int) (b8:Bool) (z9 z10 z z12 z13:List (List T)) (hpo:po.length≤1048576) (h4:nse.length≤4) (hg:∀ x ∈ nse,x.1.good∧x.2.good) (hc:z6B ho (nse.map fun x=>x.1)) :
 CT Tryz.prog 68 [] [.agg [.int .i64 (ho:Int),.int .i64 (K:Int),.bool b2,.sl 3 z3,.sl 1 (strE po),.sl 8 (slE nse),.sl 1 z6,.int .i64 n7,.bool b8,.sl 1 z9,.sl 1 z10,.sl 11 z,.sl 1 z12,.sl 1 z13]] (.bool (allB (fun k=>slB (z6g po) (sdAt nse k)) nse.length)) []:=by
 have hl:=z3W nse
 have cR:=z6w po (by omega)
 have cH:=zey nse (by omega)
 have cC:=z9a ho _ hc
 generalize (nse.map fun x=>x.1)=hds at cH cC
 clear hc
 generalize z6g po=R at cR ⊢
 refine z01 z03 1 rfl Tryz.func68 rfl rfl rfl ?_
 repeat ((try conv=>whnf);first|refine ccA ([]) (cR) ?_|refine Exists.intro nse.length (And.intro hl ?_)|refine And.intro (by kernel_rfl) ?_|refine stpQ ?_)
 refine z0K Nat (fun k=>⟨[(1,.ptr 1 0 0),(3,.str R),(4,.int .i64 (k:Int))],[(1,some (.box [.int .i64 (ho:Int),.int .i64 (K:Int),.bool b2,.sl 3 z3,.sl 1 (strE po),.sl 8 (slE nse),.sl 1 z6,.int .i64 n7,.bool b8,.sl 1 z9,.sl 1 z10,.sl 11 z,.sl 1 z12,.sl 1 z13]))],2⟩)
  (fun k=>k≤nse.length∧∀ j,j<k→slB R (sdAt nse j)=true) (fun k=>nse.length-k) 0 ⟨by omega,fun j h=>by omega⟩ ?_ ?_
 ·(refine z02 (by rfl) ?_ ?_)<;>(repeat' (first|exact eqA|refine shE ?_|refine And.intro ?_ ?_))<;>first|rfl|decide
 ·intro Q1 hQ1 k hx
  have hk:k≤nse.length:=hx.1
  have hp:=hx.2
  clear hx
  by_cases hlt:k<nse.length
  ·have hlt2:(k:Int)<(nse.length:Int):=by omega
   have g:=zeG hlt
   have gg:=hg _ (List.getElem_mem hlt)
   rw [← zmd hlt] at gg
   have c1:=zg7 R (sdAt nse k) gg.1 gg.2
   have hfin:slB R (sdAt nse k)=false→allB (fun k=>slB R (sdAt nse k)) nse.length=false:=fun h=>z2H hlt h
   have hgo:slB R (sdAt nse k)=true→∀ j,j<k+1→slB R (sdAt nse j)=true:=fun h j hj=>by
    rcases Nat.lt_or_ge j k with h1|h1
    ·exact hp j h1
    ·rw [show j=k by omega];exact h
   clear gg hp
   generalize slB R (sdAt nse k)=B at c1 hfin hgo
   generalize sdAt nse k=x at g c1
   obtain ⟨⟨xa,xb,xc,xd⟩,⟨ya,yb,yc,yd⟩⟩:=x
   unfold hdE sgE at g c1
   cases B with
   | true =>
     repeat ((try conv=>whnf);first|refine Exists.intro nse.length (And.intro hl ?_)|refine i_at g ?_|refine ccA ([]) (c1) ?_|refine And.intro (by kernel_rfl) ?_|refine stpQ ?_)
     refine ⟨k+1,⟨by omega,hgo rfl⟩,by omega,?_⟩
     (refine z02 (by rfl) ?_ ?_)<;>repeat' (first|exact eqA|refine shE ?_|refine And.intro ?_ ?_)
   | false =>
     repeat ((try conv=>whnf);first|refine Exists.intro nse.length (And.intro hl ?_)|refine i_at g ?_|refine ccA ([]) (c1) ?_|refine And.intro (by kernel_rfl) ?_|refine stpQ ?_)
     refine hQ1 _ _ ?_
     (try conv=>whnf)
     rw [hfin rfl]
     (refine z00 (by rfl) ?_ ?_ (by rfl))<;>repeat' (first|exact eqA|refine shE ?_|refine And.intro ?_ ?_)
  ·have hke:k=nse.length:=by omega
   subst hke
   have hA:allB (fun k=>slB R (sdAt nse k)) nse.length=true:=z1X hp
   repeat ((try conv=>whnf);first|refine Exists.intro nse.length (And.intro hl ?_)|refine And.intro (by kernel_rfl) ?_|refine stpQ ?_)
   refine hQ1 _ _ ?_
   repeat ((try conv=>whnf);first|refine ccA ([]) (cH) ?_|refine ccA ([]) (cC) ?_|refine And.intro (by kernel_rfl) ?_|refine stpQ ?_)
   rw [hA]
   (refine z00 (by rfl) ?_ ?_ (by rfl))<;>repeat' (first|exact eqA|refine shE ?_|refine And.intro ?_ ?_)
end
end Go.Proofs.YthcfalipgnpelaaGreatDoor
