/- Functions by content: the views of a house's shards are those of the changes. -/
import Derived.Test.YthcfalipgnpelaaGreatDoorRrtq
namespace Go.Proofs.YthcfalipgnpelaaGreatDoor
set_option maxRecDepth 100000
set_option maxHeartbeats 8000000
set_option linter.unusedVariables false
set_option linter.unusedSimpArgs false
open Go.RowKit Pl
section
attribute [local irreducible] z0o z0p z0z AnsP LeP
def tkN (l:List Nat) (i:Nat):Nat:=l.getD i 0
theorem zmf {l:List Nat} {i:Nat} (h:i<l.length):tkN l i=l[i]:=by simp [tkN,List.getD,List.getElem?_eq_getElem h]
theorem ziY {l:List Nat} {i:Nat} (h:i<l.length):(ntE l)[i]?=some [.int .i64 (tkN l i:Int)]:=by rw [zmf h];exact nt_get h
def tkP (l:List Nat) (i:Nat):Nat:=if i=0 then 0 else tkN l (i-1)
theorem zeJ (l:List Nat) (i:Nat):tkP l (i+1)=tkN l i:=by simp [tkP]
def mdB (s:Sv) (i:Nat):Bool:=decide (tkP s.tk i≤tkN s.tk i)&&decide (vAt s.vs i=(s.al.take (tkN s.tk i)).foldl z1s [])
def mdS (s:Sv):Bool:=allB (mdB s) s.tk.length
theorem ziZ (us:List Ch):(us.foldl z1s []).length≤24:=by
 have:=(z2L (z9L (us:=us) (l:=[]) (by simp [z06]))).1
 omega
theorem zcd (ho K:Nat) (b2:Bool) (z3:List (List T)) (po:List Bs) (nse:List (Hd × Sg)) (z6:List (List T)) (n7:Int) (b8:Bool) (z9 z10 z z12 z13:List (List T)) (sv:Nat→Sv) (hK:K≤2) (hs:∀ k,k<z.length→SrAt K z sv k) :
 CT Tryz.prog 76 [] [.agg [.int .i64 (ho:Int),.int .i64 (K:Int),.bool b2,.sl 3 z3,.sl 1 (strE po),.sl 8 (slE nse),.sl 1 z6,.int .i64 n7,.bool b8,.sl 1 z9,.sl 1 z10,.sl 11 z,.sl 1 z12,.sl 1 z13]] (.bool (allB (fun k=>mdS (sv k)) z.length)) []:=by
 have hz4:=zaj hK hs
 refine z01 z03 1 rfl Tryz.func76 rfl rfl rfl ?_
 repeat ((try conv=>whnf);first|refine stpQ ?_)
 refine z0K Nat (fun k=>⟨[(1,.ptr 1 0 0),(9,.sl 11 z),(10,.int .i64 (z.length:Int)),(11,.int .i64 (k:Int))],[(1,some (.box [.int .i64 (ho:Int),.int .i64 (K:Int),.bool b2,.sl 3 z3,.sl 1 (strE po),.sl 8 (slE nse),.sl 1 z6,.int .i64 n7,.bool b8,.sl 1 z9,.sl 1 z10,.sl 11 z,.sl 1 z12,.sl 1 z13]))],2⟩)
  (fun k=>k≤z.length∧∀ j,j<k→mdS (sv j)=true) (fun k=>z.length-k) 0 ⟨by omega,fun j h=>by omega⟩ ?_ ?_
 ·(refine z02 (by rfl) ?_ ?_)<;>(repeat' (first|exact eqA|refine shE ?_|refine And.intro ?_ ?_))<;>first|rfl|decide
 ·intro Q1 hQ1 k hx
  have hk:k≤z.length:=hx.1
  have hp:=hx.2
  clear hx
  by_cases hlt:k<z.length
  ·have hlt2:(k:Int)<(z.length:Int):=by omega
   obtain ⟨up,fs,n,g,gs,hn,hkK⟩:=hs k hlt
   have hfin2:mdS (sv k)=false→allB (fun k=>mdS (sv k)) z.length=false:=fun h=>z2H (p:=fun k=>mdS (sv k)) hlt h
   have hgo2:mdS (sv k)=true→∀ j,j<k+1→mdS (sv j)=true:=fun h j hj=>by
    rcases Nat.lt_or_ge j k with h1|h1
    ·exact hp j h1
    ·rw [show j=k by omega];exact h
   clear hp hs
   have hM:mdS (sv k)=allB (mdB (sv k)) (sv k).tk.length:=rfl
   generalize mdS (sv k)=M at hfin2 hgo2 hM
   generalize sv k=s at g gs hM
   have hvs:s.vs.length=s.tk.length:=by rw [gs.vl,gs.tl]
   have htk:0<s.tk.length∧s.tk.length≤5:=by have:=gs.tl;have:=gs.ep;omega
   have htb:∀ i,i<s.tk.length→tkN s.tk i≤s.al.length:=fun i hi=>by rw [zmf hi];exact gs.tb _ (List.getElem_mem hi)
   have hal:s.al.length≤30000:=by have:=gs.al;omega
   have hch:=gs.ch
   have hvo:∀ i,i<s.vs.length→z06 (vAt s.vs i)=true:=fun i hi=>by rw [zd1 hi];exact gs.vo _ (List.getElem_mem hi)
   clear gs
   obtain ⟨sep,svs,stk,sal,sre,srt,srk⟩:=s
   unfold svE at g
   simp only at g hvs htk htb hal hch hvo hM
   have hvl:=z5y svs
   have htl:=z7N stk
   have hcl:=z2Z sal
   have q1:(stk.length:Int)=(svs.length:Int):=by omega
   have q2:¬ (stk.length:Int)=0:=by omega
   repeat ((try conv=>whnf);first|refine i_at g ?_|refine Exists.intro stk.length (And.intro htl ?_)|refine Exists.intro svs.length (And.intro hvl ?_)|refine z0A q1 ?_|refine z0e q2 ?_|refine And.intro (by kernel_rfl) ?_|refine stpQ ?_)
   refine z0K Nat (fun i=>⟨[(1,.ptr 1 0 0),(4,.ptr 2 0 0),(5,.int .i64 (tkP stk i:Int)),(9,.sl 11 z),(10,.int .i64 (z.length:Int)),(11,.int .i64 (k:Int)),(29,.sl 1 (ntE stk)),(30,.int .i64 (stk.length:Int)),(31,.int .i64 (i:Int))],[(1,some (.box [.int .i64 (ho:Int),.int .i64 (K:Int),.bool b2,.sl 3 z3,.sl 1 (strE po),.sl 8 (slE nse),.sl 1 z6,.int .i64 n7,.bool b8,.sl 1 z9,.sl 1 z10,.sl 11 z,.sl 1 z12,.sl 1 z13])),(2,some (.box [.int .i64 (k:Int),.int .i64 (K:Int),.bool up,.sl 3 (flE fs),.int .i64 (sep:Int),.sl 1 (vwE svs),.sl 1 (ntE stk),.sl 3 (chE sal),.int .i64 (sre:Int),.int .i64 (srt:Int),.int .i64 (srk:Int)]))],3⟩)
    (fun i=>i≤stk.length∧∀ j,j<i→mdB ⟨sep,svs,stk,sal,sre,srt,srk⟩ j=true) (fun i=>stk.length-i) 0 ⟨by omega,fun j h=>by omega⟩ ?_ ?_
   ·(refine z02 (by rfl) ?_ ?_)<;>(repeat' (first|exact eqA|refine shE ?_|refine And.intro ?_ ?_))<;>first|rfl|decide
   ·intro Q2 hQ2 i hx
    have hi:i≤stk.length:=hx.1
    have hp:=hx.2
    clear hx
    by_cases hil:i<stk.length
    ·have hil2:(i:Int)<(stk.length:Int):=by omega
     have gt:=ziY hil
     have gv:=z4q (show i<svs.length by omega)
     have h0:=htb i hil
     have hfin:mdB ⟨sep,svs,stk,sal,sre,srt,srk⟩ i=false→M=false:=fun h=>by rw [hM];exact z2H hil h
     have hgo:mdB ⟨sep,svs,stk,sal,sre,srt,srk⟩ i=true→∀ j,j<i+1→mdB ⟨sep,svs,stk,sal,sre,srt,srk⟩ j=true:=fun h j hj=>by
      rcases Nat.lt_or_ge j i with h1|h1
      ·exact hp j h1
      ·rw [show j=i by omega];exact h
     have hB:mdB ⟨sep,svs,stk,sal,sre,srt,srk⟩ i=(decide (tkP stk i≤tkN stk i)&&decide (vAt svs i=(sal.take (tkN stk i)).foldl z1s [])):=rfl
     have cA:=z8Y [] (sal.take (tkN stk i)) (by simp [z06]) (by rw [List.length_take];omega) (z9S fun u hu=>hch u (List.mem_of_mem_take hu))
     rw [← z9T] at cA
     have cS:=z5N (vAt svs i) ((sal.take (tkN stk i)).foldl z1s []) (by have:=(z2L (hvo i (by omega))).1;omega) (by have:=ziZ (sal.take (tkN stk i));omega)
     have h3:tkN stk i≤(chE sal).length:=by omega
     have c0:=c_in (tkN stk i:Int) (tkP stk i:Int) (sal.length:Int)
     have hpn:=zeJ stk i
     clear hp
     generalize mdB ⟨sep,svs,stk,sal,sre,srt,srk⟩ i=B at hfin hgo hB
     generalize (sal.take (tkN stk i)).foldl z1s []=AP at hB cA cS
     generalize decide (vAt svs i=AP)=bS at hB cS
     generalize vAt svs i=lv at gv cS
     by_cases hle:tkP stk i≤tkN stk i
     ·rw [decide_eq_true hle] at hB
      rw [z0R (by omega)] at c0
      cases bS with
      | true =>
        rw [Bool.true_and] at hB
        repeat ((try conv=>whnf);first|refine i_at gt ?_|refine i_at gv ?_|refine Exists.intro sal.length (And.intro hcl ?_)|refine ccA ([]) (c0) ?_|refine i_le h3 ?_|refine ccA ([]) (cA) ?_|refine ccA ([]) (cS) ?_|refine And.intro (by kernel_rfl) ?_|refine stpQ ?_)
        refine ⟨i+1,⟨by omega,hgo hB⟩,by omega,?_⟩
        rw [zeJ]
        (refine z02 (by rfl) ?_ ?_)<;>repeat' (first|exact eqA|refine shE ?_|refine And.intro ?_ ?_)
      | false =>
        rw [Bool.true_and] at hB
        repeat ((try conv=>whnf);first|refine i_at gt ?_|refine i_at gv ?_|refine Exists.intro sal.length (And.intro hcl ?_)|refine ccA ([]) (c0) ?_|refine i_le h3 ?_|refine ccA ([]) (cA) ?_|refine ccA ([]) (cS) ?_|refine And.intro (by kernel_rfl) ?_|refine stpQ ?_)
        refine hQ2 _ _ (hQ1 _ _ ?_)
        (try conv=>whnf)
        rw [hfin2 (hfin hB)]
        (refine z00 (by rfl) ?_ ?_ (by rfl))<;>repeat' (first|exact eqA|refine shE ?_|refine And.intro ?_ ?_)
     ·rw [decide_eq_false hle,Bool.false_and] at hB
      rw [z21 (by omega)] at c0
      repeat ((try conv=>whnf);first|refine i_at gt ?_|refine Exists.intro sal.length (And.intro hcl ?_)|refine ccA ([]) (c0) ?_|refine And.intro (by kernel_rfl) ?_|refine stpQ ?_)
      refine hQ2 _ _ (hQ1 _ _ ?_)
      (try conv=>whnf)
      rw [hfin2 (hfin hB)]
      (refine z00 (by rfl) ?_ ?_ (by rfl))<;>repeat' (first|exact eqA|refine shE ?_|refine And.intro ?_ ?_)
    ·have hie:i=stk.length:=by omega
     subst hie
     have hA:M=true:=by rw [hM];exact z1X hp
     clear hp hch htb hvo
     repeat ((try conv=>whnf);first|refine And.intro (by kernel_rfl) ?_|refine stpQ ?_)
     refine hQ2 _ _ ?_
     repeat ((try conv=>whnf);first|refine stpQ ?_)
     refine ⟨k+1,⟨by omega,hgo2 hA⟩,by omega,?_⟩
     (refine z02 (by rfl) ?_ ?_)<;>repeat' (first|exact eqA|refine shE ?_|refine And.intro ?_ ?_)
  ·have hke:k=z.length:=by omega
   subst hke
   have hA:allB (fun k=>mdS (sv k)) z.length=true:=z1X hp
   repeat ((try conv=>whnf);first|refine stpQ ?_)
   refine hQ1 _ _ ?_
   repeat ((try conv=>whnf);first|refine stpQ ?_)
   rw [hA]
   (refine z00 (by rfl) ?_ ?_ (by rfl))<;>repeat' (first|exact eqA|refine shE ?_|refine And.intro ?_ ?_)
theorem zal (ho K:Nat) (b2:Bool) (z3:List (List T)) (po:List Bs) (nse:List (Hd × Sg)) (z6:List (List T)) (n7:Int) (b8:Bool) (z9 z10 z z12 z13:List (List T)) (sv:Nat→Sv) (hK:K≤2) (hs:∀ k,k<z.length→SrAt K z sv k) :
 CT Tryz.prog 71 [] [.agg [.int .i64 (ho:Int),.int .i64 (K:Int),.bool b2,.sl 3 z3,.sl 1 (strE po),.sl 8 (slE nse),.sl 1 z6,.int .i64 n7,.bool b8,.sl 1 z9,.sl 1 z10,.sl 11 z,.sl 1 z12,.sl 1 z13]] (.bool (allB (fun k=>mdS (sv k)) z.length)) []:=by
 have hz4:=zaj hK hs
 refine z01 z03 1 rfl Tryz.func71 rfl rfl rfl ?_
 repeat ((try conv=>whnf);first|refine stpQ ?_)
 refine z0K Nat (fun k=>⟨[(1,.ptr 1 0 0),(3,.int .i64 (k:Int))],[(1,some (.box [.int .i64 (ho:Int),.int .i64 (K:Int),.bool b2,.sl 3 z3,.sl 1 (strE po),.sl 8 (slE nse),.sl 1 z6,.int .i64 n7,.bool b8,.sl 1 z9,.sl 1 z10,.sl 11 z,.sl 1 z12,.sl 1 z13]))],2⟩)
  (fun k=>k≤z.length∧∀ j,j<k→mdS (sv j)=true) (fun k=>z.length-k) 0 ⟨by omega,fun j h=>by omega⟩ ?_ ?_
 ·(refine z02 (by rfl) ?_ ?_)<;>(repeat' (first|exact eqA|refine shE ?_|refine And.intro ?_ ?_))<;>first|rfl|decide
 ·intro Q1 hQ1 k hx
  have hk:k≤z.length:=hx.1
  have hp:=hx.2
  clear hx
  by_cases hlt:k<z.length
  ·have hlt2:(k:Int)<(z.length:Int):=by omega
   obtain ⟨up,fs,n,g,gs,hn,hkK⟩:=hs k hlt
   have hfin2:mdS (sv k)=false→allB (fun k=>mdS (sv k)) z.length=false:=fun h=>z2H (p:=fun k=>mdS (sv k)) hlt h
   have hgo2:mdS (sv k)=true→∀ j,j<k+1→mdS (sv j)=true:=fun h j hj=>by
    rcases Nat.lt_or_ge j k with h1|h1
    ·exact hp j h1
    ·rw [show j=k by omega];exact h
   clear hp hs
   have hM:mdS (sv k)=allB (mdB (sv k)) (sv k).tk.length:=rfl
   generalize mdS (sv k)=M at hfin2 hgo2 hM
   generalize sv k=s at g gs hM
   have hvs:s.vs.length=s.tk.length:=by rw [gs.vl,gs.tl]
   have htk:0<s.tk.length∧s.tk.length≤5:=by have:=gs.tl;have:=gs.ep;omega
   have htb:∀ i,i<s.tk.length→tkN s.tk i≤s.al.length:=fun i hi=>by rw [zmf hi];exact gs.tb _ (List.getElem_mem hi)
   have hal:s.al.length≤30000:=by have:=gs.al;omega
   have hch:=gs.ch
   have hvo:∀ i,i<s.vs.length→z06 (vAt s.vs i)=true:=fun i hi=>by rw [zd1 hi];exact gs.vo _ (List.getElem_mem hi)
   clear gs
   obtain ⟨sep,svs,stk,sal,sre,srt,srk⟩:=s
   unfold svE at g
   simp only at g hvs htk htb hal hch hvo hM
   have hvl:=z5y svs
   have htl:=z7N stk
   have hcl:=z2Z sal
   have q1:(stk.length:Int)=(svs.length:Int):=by omega
   have q2:¬ (stk.length:Int)=0:=by omega
   have hlt3:=hlt2
   repeat ((try conv=>whnf);first|refine i_at g ?_|refine Exists.intro stk.length (And.intro htl ?_)|refine Exists.intro svs.length (And.intro hvl ?_)|refine z0A q1 ?_|refine z0e q2 ?_|refine And.intro (by kernel_rfl) ?_|refine stpQ ?_)
   refine z0K Nat (fun i=>⟨[(1,.ptr 1 0 0),(3,.int .i64 (k:Int)),(4,.ptr 2 0 0),(5,.int .i64 (i:Int))],[(1,some (.box [.int .i64 (ho:Int),.int .i64 (K:Int),.bool b2,.sl 3 z3,.sl 1 (strE po),.sl 8 (slE nse),.sl 1 z6,.int .i64 n7,.bool b8,.sl 1 z9,.sl 1 z10,.sl 11 z,.sl 1 z12,.sl 1 z13])),(2,some (.box [.int .i64 (k:Int),.int .i64 (K:Int),.bool up,.sl 3 (flE fs),.int .i64 (sep:Int),.sl 1 (vwE svs),.sl 1 (ntE stk),.sl 3 (chE sal),.int .i64 (sre:Int),.int .i64 (srt:Int),.int .i64 (srk:Int)]))],3⟩)
    (fun i=>i≤stk.length∧∀ j,j<i→mdB ⟨sep,svs,stk,sal,sre,srt,srk⟩ j=true) (fun i=>stk.length-i) 0 ⟨by omega,fun j h=>by omega⟩ ?_ ?_
   ·(refine z02 (by rfl) ?_ ?_)<;>(repeat' (first|exact eqA|refine shE ?_|refine And.intro ?_ ?_))<;>first|rfl|decide
   ·intro Q2 hQ2 i hx
    have hi:i≤stk.length:=hx.1
    have hp:=hx.2
    clear hx
    by_cases hil:i<stk.length
    ·have hil2:(i:Int)<(stk.length:Int):=by omega
     have gt:=ziY hil
     have gv:=z4q (show i<svs.length by omega)
     have h0:=htb i hil
     have hfin:mdB ⟨sep,svs,stk,sal,sre,srt,srk⟩ i=false→M=false:=fun h=>by rw [hM];exact z2H hil h
     have hgo:mdB ⟨sep,svs,stk,sal,sre,srt,srk⟩ i=true→∀ j,j<i+1→mdB ⟨sep,svs,stk,sal,sre,srt,srk⟩ j=true:=fun h j hj=>by
      rcases Nat.lt_or_ge j i with h1|h1
      ·exact hp j h1
      ·rw [show j=i by omega];exact h
     have hB:mdB ⟨sep,svs,stk,sal,sre,srt,srk⟩ i=(decide (tkP stk i≤tkN stk i)&&decide (vAt svs i=(sal.take (tkN stk i)).foldl z1s [])):=rfl
     have cA:=z7w [] (sal.take (tkN stk i)) (by simp [z06]) (by rw [List.length_take];omega) (z9S fun u hu=>hch u (List.mem_of_mem_take hu))
     rw [← z9T,zem] at cA
     have cS:=z5O (vAt svs i) ((sal.take (tkN stk i)).foldl z1s []) (by have:=(z2L (hvo i (by omega))).1;omega) (by have:=ziZ (sal.take (tkN stk i));omega)
     have h3:tkN stk i≤(chE sal).length:=by omega
     have c0:=z1f (tkN stk i:Int) 0 (sal.length:Int)
     rw [z0R (by omega)] at c0
     clear hp
     generalize mdB ⟨sep,svs,stk,sal,sre,srt,srk⟩ i=B at hfin hgo hB
     generalize (sal.take (tkN stk i)).foldl z1s []=AP at hB cA cS
     generalize decide (vAt svs i=AP)=bS at hB cS
     generalize vAt svs i=lv at gv cS
     rcases Nat.eq_zero_or_pos i with hi0|hi0
     ·subst hi0
      have hle:tkP stk 0≤tkN stk 0:=Nat.zero_le _
      rw [decide_eq_true hle] at hB
      cases bS with
      | true =>
        rw [Bool.true_and] at hB
        repeat ((try conv=>whnf);first|refine Exists.intro stk.length (And.intro htl ?_)|refine i_at gt ?_|refine i_at gv ?_|refine Exists.intro sal.length (And.intro hcl ?_)|refine ccA ([]) (c0) ?_|refine i_le h3 ?_|refine z3K ([_]) ([]) (cA) (by ((repeat' (first|exact trivial|exact rfl|(decide)|refine And.intro ?_ ?_));first|done|fail)) (by ((repeat' (first|exact trivial|exact rfl|(decide)|refine And.intro ?_ ?_));first|done|fail)) (by decide) (by rfl) (by first|exact .inl rfl|(refine .inr ⟨?_,?_⟩<;>simp [own2,own1,own0,ownE])) ?_|refine z7m ([]) (cA) (by ((repeat' (first|exact trivial|exact rfl|(decide)|refine And.intro ?_ ?_));first|done|fail)) (by ((repeat' (first|exact trivial|exact rfl|(decide)|refine And.intro ?_ ?_));first|done|fail)) (by decide) (by rfl) (by first|exact .inl rfl|(refine .inr ⟨?_,?_⟩<;>simp [own2,own1,own0,ownE])) ?_|refine ccA ([]) (cS) ?_|refine And.intro (by kernel_rfl) ?_|refine stpQ ?_)
        refine ⟨0+1,⟨by omega,hgo hB⟩,by omega,?_⟩
        skip
        (refine z02 (by rfl) ?_ ?_)<;>repeat' (first|exact eqA|refine shE ?_|refine And.intro ?_ ?_)
      | false =>
        rw [Bool.true_and] at hB
        repeat ((try conv=>whnf);first|refine Exists.intro stk.length (And.intro htl ?_)|refine i_at gt ?_|refine i_at gv ?_|refine Exists.intro sal.length (And.intro hcl ?_)|refine ccA ([]) (c0) ?_|refine i_le h3 ?_|refine z3K ([_]) ([]) (cA) (by ((repeat' (first|exact trivial|exact rfl|(decide)|refine And.intro ?_ ?_));first|done|fail)) (by ((repeat' (first|exact trivial|exact rfl|(decide)|refine And.intro ?_ ?_));first|done|fail)) (by decide) (by rfl) (by first|exact .inl rfl|(refine .inr ⟨?_,?_⟩<;>simp [own2,own1,own0,ownE])) ?_|refine z7m ([]) (cA) (by ((repeat' (first|exact trivial|exact rfl|(decide)|refine And.intro ?_ ?_));first|done|fail)) (by ((repeat' (first|exact trivial|exact rfl|(decide)|refine And.intro ?_ ?_));first|done|fail)) (by decide) (by rfl) (by first|exact .inl rfl|(refine .inr ⟨?_,?_⟩<;>simp [own2,own1,own0,ownE])) ?_|refine ccA ([]) (cS) ?_|refine And.intro (by kernel_rfl) ?_|refine stpQ ?_)
        refine hQ2 _ _ (hQ1 _ _ ?_)
        (try conv=>whnf)
        rw [hfin2 (hfin hB)]
        (refine z00 (by rfl) ?_ ?_ (by rfl))<;>repeat' (first|exact eqA|refine shE ?_|refine And.intro ?_ ?_)
     ·have hi1:(i:Int) > 0:=by omega
      have gp:=ziY (show i-1<stk.length by omega)
      have e1:IntKind.i64.wrap ((i:Int)-1)=((i-1:Nat):Int):=by rw [z08 (by omega) (by omega)];omega
      have hP:tkP stk i=tkN stk (i-1):=by rw [tkP,if_neg (by omega)]
      rw [hP] at hB
      generalize tkN stk (i-1)=lastv at gp hB
      generalize hi1e:i-1=im at gp e1
      by_cases hle:lastv≤tkN stk i
      ·rw [decide_eq_true hle] at hB
       have hle2:¬ (lastv:Int) > (tkN stk i:Int):=by omega
       cases bS with
       | true =>
         rw [Bool.true_and] at hB
         repeat ((try conv=>whnf);first|refine Exists.intro stk.length (And.intro htl ?_)|refine i_at gt ?_|refine i_at gv ?_|refine Exists.intro sal.length (And.intro hcl ?_)|refine ccA ([]) (c0) ?_|refine Exists.intro _ (And.intro e1.symm ?_)|refine i_at gp ?_|refine z0e hle2 ?_|refine i_le h3 ?_|refine z3K ([_]) ([]) (cA) (by ((repeat' (first|exact trivial|exact rfl|(decide)|refine And.intro ?_ ?_));first|done|fail)) (by ((repeat' (first|exact trivial|exact rfl|(decide)|refine And.intro ?_ ?_));first|done|fail)) (by decide) (by rfl) (by first|exact .inl rfl|(refine .inr ⟨?_,?_⟩<;>simp [own2,own1,own0,ownE])) ?_|refine z7m ([]) (cA) (by ((repeat' (first|exact trivial|exact rfl|(decide)|refine And.intro ?_ ?_));first|done|fail)) (by ((repeat' (first|exact trivial|exact rfl|(decide)|refine And.intro ?_ ?_));first|done|fail)) (by decide) (by rfl) (by first|exact .inl rfl|(refine .inr ⟨?_,?_⟩<;>simp [own2,own1,own0,ownE])) ?_|refine ccA ([]) (cS) ?_|refine And.intro (by kernel_rfl) ?_|refine stpQ ?_)
         refine ⟨i+1,⟨by omega,hgo hB⟩,by omega,?_⟩
         skip
         (refine z02 (by rfl) ?_ ?_)<;>repeat' (first|exact eqA|refine shE ?_|refine And.intro ?_ ?_)
       | false =>
         rw [Bool.true_and] at hB
         repeat ((try conv=>whnf);first|refine Exists.intro stk.length (And.intro htl ?_)|refine i_at gt ?_|refine i_at gv ?_|refine Exists.intro sal.length (And.intro hcl ?_)|refine ccA ([]) (c0) ?_|refine Exists.intro _ (And.intro e1.symm ?_)|refine i_at gp ?_|refine z0e hle2 ?_|refine i_le h3 ?_|refine z3K ([_]) ([]) (cA) (by ((repeat' (first|exact trivial|exact rfl|(decide)|refine And.intro ?_ ?_));first|done|fail)) (by ((repeat' (first|exact trivial|exact rfl|(decide)|refine And.intro ?_ ?_));first|done|fail)) (by decide) (by rfl) (by first|exact .inl rfl|(refine .inr ⟨?_,?_⟩<;>simp [own2,own1,own0,ownE])) ?_|refine z7m ([]) (cA) (by ((repeat' (first|exact trivial|exact rfl|(decide)|refine And.intro ?_ ?_));first|done|fail)) (by ((repeat' (first|exact trivial|exact rfl|(decide)|refine And.intro ?_ ?_));first|done|fail)) (by decide) (by rfl) (by first|exact .inl rfl|(refine .inr ⟨?_,?_⟩<;>simp [own2,own1,own0,ownE])) ?_|refine ccA ([]) (cS) ?_|refine And.intro (by kernel_rfl) ?_|refine stpQ ?_)
         refine hQ2 _ _ (hQ1 _ _ ?_)
         (try conv=>whnf)
         rw [hfin2 (hfin hB)]
         (refine z00 (by rfl) ?_ ?_ (by rfl))<;>repeat' (first|exact eqA|refine shE ?_|refine And.intro ?_ ?_)
      ·rw [decide_eq_false hle,Bool.false_and] at hB
       have hle2:(lastv:Int) > (tkN stk i:Int):=by omega
       repeat ((try conv=>whnf);first|refine Exists.intro stk.length (And.intro htl ?_)|refine i_at gt ?_|refine i_at gv ?_|refine Exists.intro sal.length (And.intro hcl ?_)|refine ccA ([]) (c0) ?_|refine Exists.intro _ (And.intro e1.symm ?_)|refine i_at gp ?_|refine z0k hle2 ?_|refine And.intro (by kernel_rfl) ?_|refine stpQ ?_)
       refine hQ2 _ _ (hQ1 _ _ ?_)
       (try conv=>whnf)
       rw [hfin2 (hfin hB)]
       (refine z00 (by rfl) ?_ ?_ (by rfl))<;>repeat' (first|exact eqA|refine shE ?_|refine And.intro ?_ ?_)
    ·have hie:i=stk.length:=by omega
     subst hie
     have hA:M=true:=by rw [hM];exact z1X hp
     clear hp hch htb hvo
     repeat ((try conv=>whnf);first|refine Exists.intro stk.length (And.intro htl ?_)|refine And.intro (by kernel_rfl) ?_|refine stpQ ?_)
     refine hQ2 _ _ ?_
     repeat ((try conv=>whnf);first|refine stpQ ?_)
     refine ⟨k+1,⟨by omega,hgo2 hA⟩,by omega,?_⟩
     (refine z02 (by rfl) ?_ ?_)<;>repeat' (first|exact eqA|refine shE ?_|refine And.intro ?_ ?_)
  ·have hke:k=z.length:=by omega
   subst hke
   have hA:allB (fun k=>mdS (sv k)) z.length=true:=z1X hp
   repeat ((try conv=>whnf);first|refine stpQ ?_)
   refine hQ1 _ _ ?_
   repeat ((try conv=>whnf);first|refine stpQ ?_)
   rw [hA]
   (refine z00 (by rfl) ?_ ?_ (by rfl))<;>repeat' (first|exact eqA|refine shE ?_|refine And.intro ?_ ?_)
end
end Go.Proofs.YthcfalipgnpelaaGreatDoor
