/- Functions by content: the roots of a house are those of the entries. -/
import Derived.Test.YthcfalipgnpelaaGreatDoorSb
import Derived.Test.YthcfalipgnpelaaGreatDoorScq
namespace Go.Proofs.YthcfalipgnpelaaGreatDoor
set_option maxRecDepth 100000
set_option maxHeartbeats 8000000
set_option linter.unusedVariables false
set_option linter.unusedSimpArgs false
open Go.RowKit Pl
section
attribute [local irreducible] z0o z0p z0z AnsP LeP
def vwS (s:Sv) (e:Nat):List Lf:=if e<s.vs.length then vAt s.vs e else z2j s
theorem zl5 {n:Nat} {s:Sv} (g:SvOk n s) (e:Nat):z06 (vwS s e)=true:=by
 unfold vwS
 split
 ·rename_i h
  rw [zd1 h]
  exact g.vo _ (List.getElem_mem h)
 ·exact zb9 s
def rtS (K:Nat) (sv:Nat→Sv) (e n:Nat):List Bs:=(List.range n).map fun k=>z0U (vwS (sv k) e) 16 (8-K) k
theorem zai (K:Nat) (sv:Nat→Sv) (e n:Nat):(rtS K sv e n).length=n:=by simp [rtS]
theorem zeH (K:Nat) (sv:Nat→Sv) (e n:Nat):rtS K sv e (n+1)=rtS K sv e n++[z0U (vwS (sv n) e) 16 (8-K) n]:=by simp [rtS,List.range_succ]
theorem zeI (K:Nat) (sv:Nat→Sv) (e n:Nat):∀ x ∈ rtS K sv e n,x.length=16:=fun x hx=>by
 simp only [rtS,List.mem_map] at hx
 obtain ⟨k,_,rfl⟩:=hx
 exact z4i (by omega) _ _
def SrAt (K:Nat) (z:List (List T)) (sv:Nat→Sv) (k:Nat):Prop:=∃ (up:Bool) (fs:List Fl) (n:Nat),z[k]?=some (svE (k:Int) (K:Int) up fs (vwE (sv k).vs) (sv k))∧SvOk n (sv k)∧n≤30000∧k<2 ^ K
theorem zaj {K:Nat} {z:List (List T)} {sv:Nat→Sv} (hK:K≤2) (h:∀ k,k<z.length→SrAt K z sv k):z.length≤4:=by
 rcases Nat.eq_zero_or_pos z.length with h0|h0
 ·omega
 ·obtain ⟨-,-,-,-,-,-,h1⟩:=h (z.length-1) (by omega)
  rcases (show K=0 ∨ K=1 ∨ K=2 by omega) with rfl|rfl|rfl<;>omega
def rrB (K:Nat) (sv:Nat→Sv) (n:Nat) (nse:List (Hd × Sg)) (i:Nat):Bool:=z6h (rtS K sv (i+1) n)&&decide (z5Q (rtS K sv (i+1) n)=(sdAt nse i).1.ro)
theorem zcc (ho K:Nat) (b2:Bool) (z3:List (List T)) (po:List Bs) (nse:List (Hd × Sg)) (z6:List (List T)) (n7:Int) (b8:Bool) (z9 z10 z z12 z13:List (List T)) (sv:Nat→Sv) (hK:K≤2) (h4:nse.length≤4) (hs:∀ k,k<z.length→SrAt K z sv k) :
 CT Tryz.prog 75 [] [.agg [.int .i64 (ho:Int),.int .i64 (K:Int),.bool b2,.sl 3 z3,.sl 1 (strE po),.sl 8 (slE nse),.sl 1 z6,.int .i64 n7,.bool b8,.sl 1 z9,.sl 1 z10,.sl 11 z,.sl 1 z12,.sl 1 z13]] (.bool (allB (rrB K sv z.length nse) nse.length)) []:=by
 have hl:=z3W nse
 have hz4:=zaj hK hs
 refine z01 z03 1 rfl Tryz.func75 rfl rfl rfl ?_
 repeat ((try conv=>whnf);first|refine Exists.intro nse.length (And.intro hl ?_)|refine stpQ ?_)
 refine z0K Nat (fun i=>⟨[(1,.ptr 1 0 0),(13,.sl 8 (slE nse)),(14,.int .i64 (nse.length:Int)),(15,.int .i64 (i:Int))],[(1,some (.box [.int .i64 (ho:Int),.int .i64 (K:Int),.bool b2,.sl 3 z3,.sl 1 (strE po),.sl 8 (slE nse),.sl 1 z6,.int .i64 n7,.bool b8,.sl 1 z9,.sl 1 z10,.sl 11 z,.sl 1 z12,.sl 1 z13]))],2⟩)
  (fun i=>i≤nse.length∧∀ j,j<i→rrB K sv z.length nse j=true) (fun i=>nse.length-i) 0 ⟨by omega,fun j h=>by omega⟩ ?_ ?_
 ·(refine z02 (by rfl) ?_ ?_)<;>(repeat' (first|exact eqA|refine shE ?_|refine And.intro ?_ ?_))<;>first|rfl|decide
 ·intro Q1 hQ1 i hx
  have hi:i≤nse.length:=hx.1
  have hp:=hx.2
  clear hx
  by_cases hlt:i<nse.length
  ·have hlt2:(i:Int)<(nse.length:Int):=by omega
   have g:=zeG hlt
   have hfin:rrB K sv z.length nse i=false→allB (rrB K sv z.length nse) nse.length=false:=fun h=>z2H hlt h
   have hgo:rrB K sv z.length nse i=true→∀ j,j<i+1→rrB K sv z.length nse j=true:=fun h j hj=>by
    rcases Nat.lt_or_ge j i with h1|h1
    ·exact hp j h1
    ·rw [show j=i by omega];exact h
   have hB:rrB K sv z.length nse i=(z6h (rtS K sv (i+1) z.length)&&decide (z5Q (rtS K sv (i+1) z.length)=(sdAt nse i).1.ro)):=rfl
   have e1:IntKind.i64.wrap (((i+1:Nat):Int)-1)=(i:Int):=by rw [z08 (by omega) (by omega)];omega
   clear hp
   generalize rrB K sv z.length nse i=B at hfin hgo hB
   generalize sdAt nse i=x at g hB
   obtain ⟨⟨xa,xb,xc,xd⟩,⟨ya,yb,yc,yd⟩⟩:=x
   unfold hdE sgE at g
   simp only at hB
   repeat ((try conv=>whnf);first|refine i_at g ?_|refine And.intro (by kernel_rfl) ?_|refine stpQ ?_)
   refine z07 2 ⟨[(1,.ptr 1 0 0),(4,.ptr 2 0 0),(5,.ref 3),(13,.sl 8 (slE nse)),(14,.int .i64 (nse.length:Int)),(15,.int .i64 (i:Int))],[(1,some (.box [.int .i64 (ho:Int),.int .i64 (K:Int),.bool b2,.sl 3 z3,.sl 1 (strE po),.sl 8 (slE nse),.sl 1 z6,.int .i64 n7,.bool b8,.sl 1 z9,.sl 1 z10,.sl 11 z,.sl 1 z12,.sl 1 z13])),(2,some (.box [.int .i64 (xa:Int),.int .i64 (xb:Int),.str xc,.str xd,.int .i64 (ya:Int),.sl 1 (strE yb),.sl 1 (strE yc),.sl 1 (strE yd)])),(3,some (.row 1 (strE (rtS K sv (i+1) z.length))))],4⟩ Nat (fun j=>⟨[(1,.ptr 1 0 0),(3,.int .i64 (i:Int)),(4,.ptr 2 0 0),(5,.ref 3),(13,.sl 8 (slE nse)),(14,.int .i64 (nse.length:Int)),(15,.int .i64 (i:Int)),(21,.sl 11 z),(22,.int .i64 (z.length:Int)),(23,.int .i64 (j:Int))],[(1,some (.box [.int .i64 (ho:Int),.int .i64 (K:Int),.bool b2,.sl 3 z3,.sl 1 (strE po),.sl 8 (slE nse),.sl 1 z6,.int .i64 n7,.bool b8,.sl 1 z9,.sl 1 z10,.sl 11 z,.sl 1 z12,.sl 1 z13])),(2,some (.box [.int .i64 (xa:Int),.int .i64 (xb:Int),.str xc,.str xd,.int .i64 (ya:Int),.sl 1 (strE yb),.sl 1 (strE yc),.sl 1 (strE yd)])),(3,some (.row 1 (strE (rtS K sv (i+1) j))))],4⟩) (fun j=>j≤z.length) (fun j=>z.length-j) 0 (by omega) ?_ ?_ ?_
   ·(refine z02 (by rfl) ?_ ?_)<;>(repeat' (first|exact eqA|refine shE ?_|refine And.intro ?_ ?_))<;>first|rfl|decide
   ·intro j hj
    by_cases hjl:j<z.length
    ·have hjl2:(j:Int)<(z.length:Int):=by omega
     obtain ⟨up,fs,n,g2,gs,hn,hjK⟩:=hs j hjl
     have hnx:=zeH K sv (i+1) j
     have hol:=z05 (rtS K sv (i+1) j)
     rw [zai] at hol
     generalize sv j=s at g2 gs hnx
     have hok:=zl5 gs (i+1)
     have cL:=z5A (j:Int) (K:Int) up fs (vwE s.vs) s ⟨gs.rk,by have:=gs.al;omega⟩ gs.ch
     have cS:=zca (vwS s (i+1)) K j hok hK hjK
     have hvl:=z5y s.vs
     by_cases hv:i+1<s.vs.length
     ·have hv2:((i+1:Nat):Int)<(s.vs.length:Int):=by omega
      have gv:=z4q hv
      rw [show vwS s (i+1)=vAt s.vs (i+1) from if_pos hv] at cS hnx
      generalize vAt s.vs (i+1)=lv at gv cS hnx
      generalize z0U lv 16 (8-K) j=R at cS hnx
      generalize z2j s=rl at cL
      generalize rtS K sv (i+1) j=o at hnx hol ⊢
      clear gs hok
      obtain ⟨sep,svs,stk,sal,sre,srt,srk⟩:=s
      unfold svE at g2 cL
      simp only at g2 cL gv hv2 hvl
      repeat ((try conv=>whnf);first|refine i_at g2 ?_|refine ccA ([]) (cL) ?_|refine Exists.intro svs.length (And.intro hvl ?_)|refine i_at gv ?_|refine ccA ([]) (cS) ?_|refine And.intro (by simp only [List.length_append,List.length_cons,List.length_nil,List.length_set,List.length_replicate];omega) ?_|refine And.intro (by kernel_rfl) ?_|refine stpQ ?_)
      refine ⟨j+1,by omega,by omega,?_⟩
      rw [hnx]
      (refine z02 (by rfl) ?_ ?_)<;>(repeat' (first|exact eqA|refine shE ?_|refine And.intro ?_ ?_))
      all_goals first|rfl|(rw [z1k];rfl)
     ·have hv2:¬ ((i+1:Nat):Int)<(s.vs.length:Int):=by omega
      rw [show vwS s (i+1)=z2j s from if_neg hv] at cS hnx
      generalize z2j s=rl at cL cS hnx
      generalize z0U rl 16 (8-K) j=R at cS hnx
      generalize rtS K sv (i+1) j=o at hnx hol ⊢
      clear gs hok
      obtain ⟨sep,svs,stk,sal,sre,srt,srk⟩:=s
      unfold svE at g2 cL
      simp only at g2 cL hv2 hvl
      repeat ((try conv=>whnf);first|refine i_at g2 ?_|refine ccA ([]) (cL) ?_|refine Exists.intro svs.length (And.intro hvl ?_)|refine ccA ([]) (cS) ?_|refine And.intro (by simp only [List.length_append,List.length_cons,List.length_nil,List.length_set,List.length_replicate];omega) ?_|refine And.intro (by kernel_rfl) ?_|refine stpQ ?_)
      refine ⟨j+1,by omega,by omega,?_⟩
      rw [hnx]
      (refine z02 (by rfl) ?_ ?_)<;>(repeat' (first|exact eqA|refine shE ?_|refine And.intro ?_ ?_))
      all_goals first|rfl|(rw [z1k];rfl)
    ·obtain rfl:j=z.length:=by omega
     repeat ((try conv=>whnf);first|refine stpQ ?_)
     (refine z02 (by rfl) ?_ ?_)<;>(repeat' (first|exact eqA|refine shE ?_|refine And.intro ?_ ?_))
   ·have hrl:=zai K sv (i+1) z.length
    have cC:=z8z (rtS K sv (i+1) z.length) (by omega) (zeI K sv (i+1) z.length)
    unfold zg8 at cC
    generalize rtS K sv (i+1) z.length=RT at cC hB ⊢
    generalize z5Q RT=C at cC hB
    cases hn:z6h RT with
    | false =>
      rw [hn] at cC hB
      rw [Bool.false_and] at hB
      replace cC:CT Tryz.prog 134 [] [.sl 1 (strE RT),.int .i64 16] (.tup [.str [],.bool false]) []:=cC
      repeat ((try conv=>whnf);first|refine ccA ([]) (cC) ?_|refine i_at g ?_|refine And.intro (by kernel_rfl) ?_|refine stpQ ?_)
      refine hQ1 _ _ ?_
      (try conv=>whnf)
      rw [hfin hB]
      (refine z00 (by rfl) ?_ ?_ (by rfl))<;>repeat' (first|exact eqA|refine shE ?_|refine And.intro ?_ ?_)
    | true =>
      rw [hn] at cC hB
      rw [Bool.true_and] at hB
      replace cC:CT Tryz.prog 134 [] [.sl 1 (strE RT),.int .i64 16] (.tup [.str C,.bool true]) []:=cC
      by_cases hq:C=xc
      ·rw [decide_eq_true hq] at hB
       repeat ((try conv=>whnf);first|refine ccA ([]) (cC) ?_|refine i_at g ?_|refine z0A hq ?_|refine And.intro (by kernel_rfl) ?_|refine stpQ ?_)
       refine ⟨i+1,⟨by omega,hgo hB⟩,by omega,?_⟩
       (refine z02 (by rfl) ?_ ?_)<;>repeat' (first|exact eqA|refine shE ?_|refine And.intro ?_ ?_)
      ·rw [decide_eq_false hq] at hB
       repeat ((try conv=>whnf);first|refine ccA ([]) (cC) ?_|refine i_at g ?_|refine z1w hq ?_|refine And.intro (by kernel_rfl) ?_|refine stpQ ?_)
       refine hQ1 _ _ ?_
       (try conv=>whnf)
       rw [hfin hB]
       (refine z00 (by rfl) ?_ ?_ (by rfl))<;>repeat' (first|exact eqA|refine shE ?_|refine And.intro ?_ ?_)
  ·have hke:i=nse.length:=by omega
   subst hke
   have hA:allB (rrB K sv z.length nse) nse.length=true:=z1X hp
   repeat ((try conv=>whnf);first|refine And.intro (by kernel_rfl) ?_|refine stpQ ?_)
   refine hQ1 _ _ ?_
   repeat ((try conv=>whnf);first|refine stpQ ?_)
   rw [hA]
   (refine z00 (by rfl) ?_ ?_ (by rfl))<;>repeat' (first|exact eqA|refine shE ?_|refine And.intro ?_ ?_)
theorem zak (ho K:Nat) (b2:Bool) (z3:List (List T)) (po:List Bs) (nse:List (Hd × Sg)) (z6:List (List T)) (n7:Int) (b8:Bool) (z9 z10 z z12 z13:List (List T)) (sv:Nat→Sv) (hK:K≤2) (h4:nse.length≤4) (hs:∀ k,k<z.length→SrAt K z sv k) :
 CT Tryz.prog 70 [] [.agg [.int .i64 (ho:Int),.int .i64 (K:Int),.bool b2,.sl 3 z3,.sl 1 (strE po),.sl 8 (slE nse),.sl 1 z6,.int .i64 n7,.bool b8,.sl 1 z9,.sl 1 z10,.sl 11 z,.sl 1 z12,.sl 1 z13]] (.bool (allB (rrB K sv z.length nse) nse.length)) []:=by
 have hl:=z3W nse
 have hz4:=zaj hK hs
 refine z01 z03 1 rfl Tryz.func70 rfl rfl rfl ?_
 repeat ((try conv=>whnf);first|refine Exists.intro nse.length (And.intro hl ?_)|refine stpQ ?_)
 refine z0K Nat (fun i=>⟨[(1,.ptr 1 0 0),(3,.int .i64 ((i+1:Nat):Int))],[(1,some (.box [.int .i64 (ho:Int),.int .i64 (K:Int),.bool b2,.sl 3 z3,.sl 1 (strE po),.sl 8 (slE nse),.sl 1 z6,.int .i64 n7,.bool b8,.sl 1 z9,.sl 1 z10,.sl 11 z,.sl 1 z12,.sl 1 z13]))],2⟩)
  (fun i=>i≤nse.length∧∀ j,j<i→rrB K sv z.length nse j=true) (fun i=>nse.length-i) 0 ⟨by omega,fun j h=>by omega⟩ ?_ ?_
 ·(refine z02 (by rfl) ?_ ?_)<;>(repeat' (first|exact eqA|refine shE ?_|refine And.intro ?_ ?_))<;>first|rfl|decide
 ·intro Q1 hQ1 i hx
  have hi:i≤nse.length:=hx.1
  have hp:=hx.2
  clear hx
  by_cases hlt:i<nse.length
  ·have hlt2:((i+1:Nat):Int)≤(nse.length:Int):=by omega
   have g:=zeG hlt
   have hfin:rrB K sv z.length nse i=false→allB (rrB K sv z.length nse) nse.length=false:=fun h=>z2H hlt h
   have hgo:rrB K sv z.length nse i=true→∀ j,j<i+1→rrB K sv z.length nse j=true:=fun h j hj=>by
    rcases Nat.lt_or_ge j i with h1|h1
    ·exact hp j h1
    ·rw [show j=i by omega];exact h
   have hB:rrB K sv z.length nse i=(z6h (rtS K sv (i+1) z.length)&&decide (z5Q (rtS K sv (i+1) z.length)=(sdAt nse i).1.ro)):=rfl
   have e1:IntKind.i64.wrap (((i+1:Nat):Int)-1)=(i:Int):=by rw [z08 (by omega) (by omega)];omega
   clear hp
   generalize rrB K sv z.length nse i=B at hfin hgo hB
   generalize sdAt nse i=x at g hB
   obtain ⟨⟨xa,xb,xc,xd⟩,⟨ya,yb,yc,yd⟩⟩:=x
   unfold hdE sgE at g
   simp only at hB
   repeat ((try conv=>whnf);first|refine Exists.intro nse.length (And.intro hl ?_)|refine And.intro (by kernel_rfl) ?_|refine stpQ ?_)
   refine z07 2 ⟨[(1,.ptr 1 0 0),(3,.int .i64 ((i+1:Nat):Int)),(4,.ref 2)],[(1,some (.box [.int .i64 (ho:Int),.int .i64 (K:Int),.bool b2,.sl 3 z3,.sl 1 (strE po),.sl 8 (slE nse),.sl 1 z6,.int .i64 n7,.bool b8,.sl 1 z9,.sl 1 z10,.sl 11 z,.sl 1 z12,.sl 1 z13])),(2,some (.row 1 (strE (rtS K sv (i+1) z.length))))],3⟩ Nat (fun j=>⟨[(1,.ptr 1 0 0),(3,.int .i64 ((i+1:Nat):Int)),(4,.ref 2),(5,.int .i64 (j:Int))],[(1,some (.box [.int .i64 (ho:Int),.int .i64 (K:Int),.bool b2,.sl 3 z3,.sl 1 (strE po),.sl 8 (slE nse),.sl 1 z6,.int .i64 n7,.bool b8,.sl 1 z9,.sl 1 z10,.sl 11 z,.sl 1 z12,.sl 1 z13])),(2,some (.row 1 (strE (rtS K sv (i+1) j))))],3⟩) (fun j=>j≤z.length) (fun j=>z.length-j) 0 (by omega) ?_ ?_ ?_
   ·(refine z02 (by rfl) ?_ ?_)<;>(repeat' (first|exact eqA|refine shE ?_|refine And.intro ?_ ?_))<;>first|rfl|decide
   ·intro j hj
    by_cases hjl:j<z.length
    ·have hjl2:(j:Int)<(z.length:Int):=by omega
     obtain ⟨up,fs,n,g2,gs,hn,hjK⟩:=hs j hjl
     have hnx:=zeH K sv (i+1) j
     have hol:=z05 (rtS K sv (i+1) j)
     rw [zai] at hol
     generalize sv j=s at g2 gs hnx
     have hok:=zl5 gs (i+1)
     have cL:=z4I (j:Int) (K:Int) up fs (vwE s.vs) s ⟨gs.rk,by have:=gs.al;omega⟩ gs.ch
     have cS:=zah (vwS s (i+1)) K j hok hK hjK
     have hvl:=z5y s.vs
     by_cases hv:i+1<s.vs.length
     ·have hv2:((i+1:Nat):Int)<(s.vs.length:Int):=by omega
      have gv:=z4q hv
      rw [show vwS s (i+1)=vAt s.vs (i+1) from if_pos hv] at cS hnx
      generalize vAt s.vs (i+1)=lv at gv cS hnx
      generalize z0U lv 16 (8-K) j=R at cS hnx
      generalize z2j s=rl at cL
      generalize rtS K sv (i+1) j=o at hnx hol ⊢
      clear gs hok
      obtain ⟨sep,svs,stk,sal,sre,srt,srk⟩:=s
      unfold svE at g2 cL
      simp only at g2 cL gv hv2 hvl
      repeat ((try conv=>whnf);first|refine i_at g2 ?_|refine ccA ([]) (cL) ?_|refine Exists.intro svs.length (And.intro hvl ?_)|refine i_at gv ?_|refine ccA ([]) (cS) ?_|refine And.intro (by simp only [List.length_append,List.length_cons,List.length_nil,List.length_set,List.length_replicate];omega) ?_|refine And.intro (by kernel_rfl) ?_|refine stpQ ?_)
      refine ⟨j+1,by omega,by omega,?_⟩
      rw [hnx]
      (refine z02 (by rfl) ?_ ?_)<;>(repeat' (first|exact eqA|refine shE ?_|refine And.intro ?_ ?_))
      all_goals first|rfl|(rw [z1k];rfl)
     ·have hv2:¬ ((i+1:Nat):Int)<(s.vs.length:Int):=by omega
      rw [show vwS s (i+1)=z2j s from if_neg hv] at cS hnx
      generalize z2j s=rl at cL cS hnx
      generalize z0U rl 16 (8-K) j=R at cS hnx
      generalize rtS K sv (i+1) j=o at hnx hol ⊢
      clear gs hok
      obtain ⟨sep,svs,stk,sal,sre,srt,srk⟩:=s
      unfold svE at g2 cL
      simp only at g2 cL hv2 hvl
      repeat ((try conv=>whnf);first|refine i_at g2 ?_|refine ccA ([]) (cL) ?_|refine Exists.intro svs.length (And.intro hvl ?_)|refine ccA ([]) (cS) ?_|refine And.intro (by simp only [List.length_append,List.length_cons,List.length_nil,List.length_set,List.length_replicate];omega) ?_|refine And.intro (by kernel_rfl) ?_|refine stpQ ?_)
      refine ⟨j+1,by omega,by omega,?_⟩
      rw [hnx]
      (refine z02 (by rfl) ?_ ?_)<;>(repeat' (first|exact eqA|refine shE ?_|refine And.intro ?_ ?_))
      all_goals first|rfl|(rw [z1k];rfl)
    ·obtain rfl:j=z.length:=by omega
     repeat ((try conv=>whnf);first|refine stpQ ?_)
     (refine z02 (by rfl) ?_ ?_)<;>(repeat' (first|exact eqA|refine shE ?_|refine And.intro ?_ ?_))
   ·have hrl:=zai K sv (i+1) z.length
    have cC:=z8f (rtS K sv (i+1) z.length) (by omega) (zeI K sv (i+1) z.length)
    unfold zg8 at cC
    generalize rtS K sv (i+1) z.length=RT at cC hB ⊢
    generalize z5Q RT=C at cC hB
    cases hn:z6h RT with
    | false =>
      rw [hn] at cC hB
      rw [Bool.false_and] at hB
      replace cC:CT Tryz.prog 126 [] [.sl 1 (strE RT),.int .i64 16] (.tup [.str [],.bool false]) []:=cC
      repeat ((try conv=>whnf);first|refine ccA ([]) (cC) ?_|refine Exists.intro nse.length (And.intro hl ?_)|refine Exists.intro _ (And.intro e1.symm ?_)|refine i_at g ?_|refine And.intro (by kernel_rfl) ?_|refine stpQ ?_)
      refine hQ1 _ _ ?_
      (try conv=>whnf)
      rw [hfin hB]
      (refine z00 (by rfl) ?_ ?_ (by rfl))<;>repeat' (first|exact eqA|refine shE ?_|refine And.intro ?_ ?_)
    | true =>
      rw [hn] at cC hB
      rw [Bool.true_and] at hB
      replace cC:CT Tryz.prog 126 [] [.sl 1 (strE RT),.int .i64 16] (.tup [.str C,.bool true]) []:=cC
      by_cases hq:C=xc
      ·rw [decide_eq_true hq] at hB
       repeat ((try conv=>whnf);first|refine ccA ([]) (cC) ?_|refine Exists.intro nse.length (And.intro hl ?_)|refine Exists.intro _ (And.intro e1.symm ?_)|refine i_at g ?_|refine z0A hq ?_|refine And.intro (by kernel_rfl) ?_|refine stpQ ?_)
       refine ⟨i+1,⟨by omega,hgo hB⟩,by omega,?_⟩
       (refine z02 (by rfl) ?_ ?_)<;>repeat' (first|exact eqA|refine shE ?_|refine And.intro ?_ ?_)
      ·rw [decide_eq_false hq] at hB
       repeat ((try conv=>whnf);first|refine ccA ([]) (cC) ?_|refine Exists.intro nse.length (And.intro hl ?_)|refine Exists.intro _ (And.intro e1.symm ?_)|refine i_at g ?_|refine z1w hq ?_|refine And.intro (by kernel_rfl) ?_|refine stpQ ?_)
       refine hQ1 _ _ ?_
       (try conv=>whnf)
       rw [hfin hB]
       (refine z00 (by rfl) ?_ ?_ (by rfl))<;>repeat' (first|exact eqA|refine shE ?_|refine And.intro ?_ ?_)
  ·have hke:i=nse.length:=by omega
   subst hke
   have hA:allB (rrB K sv z.length nse) nse.length=true:=z1X hp
   repeat ((try conv=>whnf);first|refine Exists.intro nse.length (And.intro hl ?_)|refine And.intro (by kernel_rfl) ?_|refine stpQ ?_)
   refine hQ1 _ _ ?_
   repeat ((try conv=>whnf);first|refine stpQ ?_)
   rw [hA]
   (refine z00 (by rfl) ?_ ?_ (by rfl))<;>repeat' (first|exact eqA|refine shE ?_|refine And.intro ?_ ?_)
end
end Go.Proofs.YthcfalipgnpelaaGreatDoor
