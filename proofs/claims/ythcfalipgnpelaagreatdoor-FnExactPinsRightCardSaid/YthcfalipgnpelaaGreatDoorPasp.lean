/- Functions by content: an auditor is as its disk tells, by the reference. -/
import Derived.Test.YthcfalipgnpelaaGreatDoorPaap
namespace Go.Proofs.YthcfalipgnpelaaGreatDoor
set_option maxRecDepth 100000
set_option maxHeartbeats 16000000
set_option linter.unusedVariables false
set_option linter.unusedSimpArgs false
set_option linter.unusedSectionVars false
open Go.RowKit Pl
attribute [local irreducible] z0o z0p z0z AnsP LeP
theorem zmZ (l:List (Hd × Sg)) (m:List Sa) (hl:l.length ≤ 1000000) (hm:m.length ≤ 1048576) (gl:∀ x ∈ l,x.1.good ∧ x.2.good) (fm:∀ x ∈ m,z6C x):CT Tryz.prog 52 [] [.sl 8 (slE l),.sl 8 (saL m)] (.bool (decide (m = l.map saOf))) []:=by
 have hll:=z3W l
 have hlm:=z4o m
 have hmap:(l.map saOf).length = l.length:=by simp
 refine z01 z03 1 rfl Tryz.func52 rfl rfl rfl ?_
 by_cases hn:l.length = m.length
 ·repeat ((try conv=>whnf); first | (refine Exists.intro l.length (And.intro hll ?_)) | (refine Exists.intro m.length (And.intro hlm ?_)) | (refine stpQ ?_))
  refine z0K Nat (fun k=>⟨[(0,.sl 8 (slE l)),(1,.sl 8 (saL m)),(5,.int .i64 (k:Int))],[],1⟩) (fun k=>k ≤ l.length ∧ m.take k = (l.map saOf).take k) (fun k=>l.length - k) 0 ⟨by omega,rfl⟩ ?_ ?_
  ·(refine z02 (by rfl) ?_ ?_) <;> repeat' (first | (exact eqA) | (refine shE ?_) | (refine And.intro ?_ ?_))
  ·intro Q1 hQ1 k hkk
   have hk:=hkk.1
   have hp:=hkk.2
   clear hkk
   by_cases hlt:k < l.length
   ·have hlt2:k < m.length:=by omega
    have g1:=z9Z hlt
    have g2:=z81 hlt2
    have ga:=gl _ (List.getElem_mem hlt)
    have c1:=z4p l[k].1 l[k].2 ga.1 ga.2
    have fa:=fm _ (List.getElem_mem hlt2)
    by_cases hq:m[k] = saOf l[k]
    ·have hnx:m.take (k + 1) = (l.map saOf).take (k + 1):=by rw [List.take_succ_eq_append_getElem hlt2,List.take_succ_eq_append_getElem (by omega),hp,hq]; simp
     rw [hq] at g2
     generalize l[k] = x at g1 g2 c1 ga
     clear hq fa
     obtain ⟨⟨ho,ep,ro,pr⟩,⟨a,op,sh,si⟩⟩:=x
     have hqe:(!eqC [.int .i64 (ho:Int),.int .i64 (ep:Int),.str ro,.str pr] [.int .i64 (ho:Int),.int .i64 (ep:Int),.str ro,.str pr]) = false:=by rw [z56]; rfl
     unfold saOf saE z1B z1r at g2
     unfold hdE sgE at g1 c1
     generalize z39 _ _ = t at c1
     repeat ((try conv=>whnf); first | (refine Exists.intro l.length (And.intro hll ?_)) | (refine i_at g1 ?_) | (refine i_at g2 ?_) | (refine ccA ([]) (c1) ?_) | (refine z0A rfl ?_) | (refine cb_f hqe ?_) | (refine And.intro (by kernel_rfl) ?_) | (refine stpQ ?_))
     refine ⟨k + 1,⟨by omega,hnx⟩,by omega,?_⟩
     (refine z02 (by rfl) ?_ ?_) <;> repeat' (first | (exact eqA) | (refine shE ?_) | (refine And.intro ?_ ?_))
    ·have hne:¬ m = l.map saOf:=fun h0=>hq (by subst h0; simp)
     obtain ⟨tb,bb,c2,htb⟩:∃ (tb:Bs) (bb:Bool),CT Tryz.prog 100 [] [.agg (saE m[k])] (.tup [.str tb,.bool bb]) [] ∧ ¬ z39 l[k].1 l[k].2 = tb:=by
      cases hok:saOk m[k] with
      | false=>exact ⟨_,_,z6u _ fa hok,zkh ga.2⟩
      | true =>
        obtain ⟨y,gy1,gy2,ey⟩:=zk7 hok
        have:=z4p y.1 y.2 gy1 gy2
        refine ⟨z39 y.1 y.2,true,?_,fun e=>?_⟩
        ·rw [ey]; exact this
        ·obtain ⟨i1,i2⟩:=zhO ga.1 ga.2 gy1 gy2 e
         exact hq (by rw [ey]; congr 1; exact Prod.ext i1.symm i2.symm)
     generalize l[k] = x at g1 c1 htb
     generalize m[k] = z at g2 c2
     clear hq fa ga
     obtain ⟨⟨ho,ep,ro,pr⟩,⟨a,op,sh,si⟩⟩:=x
     obtain ⟨ho',ep',ro',pr',a',op',sh',si'⟩:=z
     unfold saE z1B z1r at g2 c2
     unfold hdE sgE at g1 c1
     generalize z39 _ _ = t at c1 htb
     repeat ((try conv=>whnf); first | (refine Exists.intro l.length (And.intro hll ?_)) | (refine i_at g1 ?_) | (refine i_at g2 ?_) | (refine ccA ([]) (c1) ?_) | (refine ccA ([]) (c2) ?_) | (refine z1w htb ?_) | (refine And.intro (by kernel_rfl) ?_) | (refine stpQ ?_))
     refine hQ1 _ _ ?_
     (try conv=>whnf)
     rw [decide_eq_false hne]
     (refine z00 (by rfl) ?_ ?_ (by rfl)) <;> repeat' (first | (exact eqA) | (refine shE ?_) | (refine And.intro ?_ ?_))
   ·have he:m = l.map saOf:=by
     rw [List.take_of_length_le (by omega),List.take_of_length_le (by omega)] at hp; exact hp
    have hke:k = l.length:=by omega
    subst hke
    have hlen2:True:=trivial
    repeat ((try conv=>whnf); first | (refine Exists.intro l.length (And.intro hll ?_)) | (refine stpQ ?_))
    refine hQ1 _ _ ?_
    repeat ((try conv=>whnf); first | (refine stpQ ?_))
    rw [decide_eq_true he]
    (refine z00 (by rfl) ?_ ?_ (by rfl)) <;> repeat' (first | (exact eqA) | (refine shE ?_) | (refine And.intro ?_ ?_))
 ·have hne:¬ m = l.map saOf:=fun h0=>hn (by rw [h0,hmap])
  rw [decide_eq_false hne]
  repeat ((try conv=>whnf); first | (refine Exists.intro l.length (And.intro hll ?_)) | (refine Exists.intro m.length (And.intro hlm ?_)) | (refine stpQ ?_))
  (refine z00 (by rfl) ?_ ?_ (by rfl)) <;> repeat' (first | (exact eqA) | (refine shE ?_) | (refine And.intro ?_ ?_))
theorem zn0 (l:List (Hd × Sg)) (m:List Sa) (hl:l.length ≤ 1000000) (hm:m.length ≤ 1048576) (gl:∀ x ∈ l,x.1.good ∧ x.2.good) (fm:∀ x ∈ m,z6C x):CT Tryz.prog 52 [] [.sl 8 (saL m),.sl 8 (slE l)] (.bool (decide (m = l.map saOf))) []:=by
 have hll:=z3W l
 have hlm:=z4o m
 have hmap:(l.map saOf).length = l.length:=by simp
 refine z01 z03 1 rfl Tryz.func52 rfl rfl rfl ?_
 by_cases hn:l.length = m.length
 ·repeat ((try conv=>whnf); first | (refine Exists.intro m.length (And.intro hlm ?_)) | (refine Exists.intro l.length (And.intro hll ?_)) | (refine stpQ ?_))
  refine z0K Nat (fun k=>⟨[(0,.sl 8 (saL m)),(1,.sl 8 (slE l)),(5,.int .i64 (k:Int))],[],1⟩) (fun k=>k ≤ l.length ∧ m.take k = (l.map saOf).take k) (fun k=>l.length - k) 0 ⟨by omega,rfl⟩ ?_ ?_
  ·(refine z02 (by rfl) ?_ ?_) <;> repeat' (first | (exact eqA) | (refine shE ?_) | (refine And.intro ?_ ?_))
  ·intro Q1 hQ1 k hkk
   have hk:=hkk.1
   have hp:=hkk.2
   clear hkk
   by_cases hlt:k < l.length
   ·have hlt2:k < m.length:=by omega
    have g1:=z9Z hlt
    have g2:=z81 hlt2
    have ga:=gl _ (List.getElem_mem hlt)
    have c1:=z4p l[k].1 l[k].2 ga.1 ga.2
    have fa:=fm _ (List.getElem_mem hlt2)
    by_cases hq:m[k] = saOf l[k]
    ·have hnx:m.take (k + 1) = (l.map saOf).take (k + 1):=by rw [List.take_succ_eq_append_getElem hlt2,List.take_succ_eq_append_getElem (by omega),hp,hq]; simp
     rw [hq] at g2
     generalize l[k] = x at g1 g2 c1 ga
     clear hq fa
     obtain ⟨⟨ho,ep,ro,pr⟩,⟨a,op,sh,si⟩⟩:=x
     have hqe:(!eqC [.int .i64 (ho:Int),.int .i64 (ep:Int),.str ro,.str pr] [.int .i64 (ho:Int),.int .i64 (ep:Int),.str ro,.str pr]) = false:=by rw [z56]; rfl
     unfold saOf saE z1B z1r at g2
     unfold hdE sgE at g1 c1
     generalize z39 _ _ = t at c1
     repeat ((try conv=>whnf); first | (refine Exists.intro m.length (And.intro hlm ?_)) | (refine i_at g2 ?_) | (refine i_at g1 ?_) | (refine ccA ([]) (c1) ?_) | (refine z0A rfl ?_) | (refine cb_f hqe ?_) | (refine And.intro (by kernel_rfl) ?_) | (refine stpQ ?_))
     refine ⟨k + 1,⟨by omega,hnx⟩,by omega,?_⟩
     (refine z02 (by rfl) ?_ ?_) <;> repeat' (first | (exact eqA) | (refine shE ?_) | (refine And.intro ?_ ?_))
    ·have hne:¬ m = l.map saOf:=fun h0=>hq (by subst h0; simp)
     obtain ⟨tb,bb,c2,htb⟩:∃ (tb:Bs) (bb:Bool),CT Tryz.prog 100 [] [.agg (saE m[k])] (.tup [.str tb,.bool bb]) [] ∧ ¬ tb = z39 l[k].1 l[k].2:=by
      cases hok:saOk m[k] with
      | false=>exact ⟨_,_,z6u _ fa hok,fun e=>zkh ga.2 e.symm⟩
      | true =>
        obtain ⟨y,gy1,gy2,ey⟩:=zk7 hok
        have:=z4p y.1 y.2 gy1 gy2
        refine ⟨z39 y.1 y.2,true,?_,fun e=>?_⟩
        ·rw [ey]; exact this
        ·obtain ⟨i1,i2⟩:=zhO ga.1 ga.2 gy1 gy2 e.symm
         exact hq (by rw [ey]; congr 1; exact Prod.ext i1.symm i2.symm)
     generalize l[k] = x at g1 c1 htb
     generalize m[k] = z at g2 c2
     clear hq fa ga
     obtain ⟨⟨ho,ep,ro,pr⟩,⟨a,op,sh,si⟩⟩:=x
     obtain ⟨ho',ep',ro',pr',a',op',sh',si'⟩:=z
     unfold saE z1B z1r at g2 c2
     unfold hdE sgE at g1 c1
     generalize z39 _ _ = t at c1 htb
     repeat ((try conv=>whnf); first | (refine Exists.intro m.length (And.intro hlm ?_)) | (refine i_at g2 ?_) | (refine i_at g1 ?_) | (refine ccA ([]) (c1) ?_) | (refine ccA ([]) (c2) ?_) | (refine z1w htb ?_) | (refine And.intro (by kernel_rfl) ?_) | (refine stpQ ?_))
     refine hQ1 _ _ ?_
     (try conv=>whnf)
     rw [decide_eq_false hne]
     (refine z00 (by rfl) ?_ ?_ (by rfl)) <;> repeat' (first | (exact eqA) | (refine shE ?_) | (refine And.intro ?_ ?_))
   ·have he:m = l.map saOf:=by
     rw [List.take_of_length_le (by omega),List.take_of_length_le (by omega)] at hp; exact hp
    have hke:k = l.length:=by omega
    subst hke
    have hlen2:(saL m).length = l.length:=by omega
    repeat ((try conv=>whnf); first | (refine Exists.intro l.length (And.intro hlen2 ?_)) | (refine stpQ ?_))
    refine hQ1 _ _ ?_
    repeat ((try conv=>whnf); first | (refine stpQ ?_))
    rw [decide_eq_true he]
    (refine z00 (by rfl) ?_ ?_ (by rfl)) <;> repeat' (first | (exact eqA) | (refine shE ?_) | (refine And.intro ?_ ?_))
 ·have hne:¬ m = l.map saOf:=fun h0=>hn (by rw [h0,hmap])
  rw [decide_eq_false hne]
  repeat ((try conv=>whnf); first | (refine Exists.intro m.length (And.intro hlm ?_)) | (refine Exists.intro l.length (And.intro hll ?_)) | (refine stpQ ?_))
  (refine z00 (by rfl) ?_ ?_ (by rfl)) <;> repeat' (first | (exact eqA) | (refine shE ?_) | (refine And.intro ?_ ?_))
theorem zn2 (n0:Int) (b1:Bool) (fs:List Fl) (hf:z50 fs) (po:List Bs) (ps:List Sa) (pr:List (Sa × Sa)) (R:List Bs) (h1:po.length ≤ 1048576) (h2:ps.length ≤ 1048576) (h3:∀ x ∈ ps,z6C x) (h4:pr.length ≤ 1048576) (h5:∀ x ∈ pr,z6C x.1 ∧ z6C x.2) (h6:R.length ≤ 1048576) :
 CT Tryz.prog 65 [] [.agg [.int .i64 n0,.bool b1,.sl 3 (flE fs),.sl 1 (strE po),.sl 8 (saL ps),.sl 16 (paL pr)],.sl 1 (strE R)] (.bool (zn7 n0 po ps pr R (avOf (z0i fs zmh)))) []:=by
 have c0:=z1f n0 0 2
 have hRl:=z05 R
 have hql:=zmH pr
 have e1:IntKind.i64.wrap ((R.length:Int) - 1) = (R.length:Int) - 1:=by rw [z08 (by omega) (by omega)]
 unfold zn7
 by_cases hho:0 ≤ n0 ∧ n0 ≤ 2
 ·rw [z0R hho] at c0 ⊢
  rw [Bool.true_and]
  obtain ⟨h,rfl⟩:∃ n:Nat,n0 = n:=⟨n0.toNat,by omega⟩
  have hh:h ≤ 2:=by omega
  have c2:=zmR h hh fs hf
  rw [Int.toNat_natCast h]
  have g:=zmv (z0i fs zmh)
  have hN:=(z1h fs zmh).2
  generalize avOf (z0i fs zmh) = s at c2 g ⊢
  generalize (z0i fs zmh).length = gn at g hN
  have gpl:=g.pl
  have grl:=g.rl
  have gps:=g.pg
  have grs:=g.rg
  have c3:=z8v (z2B (z3U h) 16) po (by rw [z3E]; omega) (by omega)
  rw [show decide (z2B (z3U h) 16 = po) = decide (po = z2B (z3U h) 16) by simp [eq_comm]] at c3
  have c4:=zmZ s.ps ps (by omega) h2 gps h3
  clear g
  obtain ⟨nps,npr⟩:=s
  unfold avE at c2
  unfold auR
  simp only at c2 c3 c4 gpl grl gps grs ⊢
  have hnl:=z3W nps
  have hrl:=zmw npr
  generalize z2B (z3U h) 16 = P at c2 c3 ⊢
  by_cases q3:po = P
  ·rw [decide_eq_true q3] at c3 ⊢
   rw [Bool.true_and]
   by_cases q4:ps = nps.map saOf
   ·rw [decide_eq_true q4] at c4 ⊢
    rw [Bool.true_and]
    by_cases q6:npr.length = pr.length
    ·have q6':(npr.length:Int) = (pr.length:Int):=by omega
     subst q3 q4
     clear h1 h2 h3
     rw [← zhT] at c4 ⊢
     refine z01 z03 1 rfl Tryz.func65 rfl rfl rfl ?_
     repeat ((try conv=>whnf); first | (refine ccA ([]) (c0) ?_) | (refine ccA ([]) (c2) ?_) | (refine ccA ([]) (c3) ?_) | (refine ccA ([]) (c4) ?_) | (refine Exists.intro npr.length (And.intro hrl ?_)) | (refine Exists.intro pr.length (And.intro hql ?_)) | (refine z0A q6' ?_) | (refine And.intro (by kernel_rfl) ?_) | (refine stpQ ?_))
     refine z0K Nat (fun k=>⟨[(1,.sl 1 (strE R)),(2,.ptr 1 0 0),(5,.ptr 2 0 0),(6,.int .i64 (k:Int))],[(1,some (.box [.int .i64 (h:Int),.bool b1,.sl 3 (flE fs),.sl 1 (strE po),.sl 8 (slE nps),.sl 16 (paL pr)])),(2,some (.box [.int .i64 (h:Int),.bool true,.sl 3 (flE fs),.sl 1 (strE po),.sl 8 (slE nps),.sl 16 (prE npr)]))],3⟩)
      (fun k=>k ≤ nps.length ∧ ∀ j,j < k → okP R h (sdAt nps j) = true) (fun k=>nps.length - k) 0 ⟨by omega,fun j h=>by omega⟩ ?_ ?_
     ·(refine z02 (by rfl) ?_ ?_) <;> (repeat' (first | (exact eqA) | (refine shE ?_) | (refine And.intro ?_ ?_))) <;> first | rfl | decide
     ·intro Q1 hQ1 k hx
      have hk:k ≤ nps.length:=hx.1
      have hp:=hx.2
      clear hx
      by_cases hlt:k < nps.length
      ·have g:=zeG hlt
       have gg:=gps _ (List.getElem_mem hlt)
       rw [← zmd hlt] at gg
       have hfin:okP R h (sdAt nps k) = false → allB (fun k=>okP R h (sdAt nps k)) nps.length = false:=fun e=>z2H (p:=fun k=>okP R h (sdAt nps k)) hlt e
       have hgo:okP R h (sdAt nps k) = true → ∀ j,j < k + 1 → okP R h (sdAt nps j) = true:=fun e j hj=>by
        rcases Nat.lt_or_ge j k with h1 | h1
        ·exact hp j h1
        ·rw [show j = k by omega]; exact e
       have cI:=z1f ((sdAt nps k).1.ho:Int) 0 ((R.length:Int) - 1)
       have c1:=zg7 (pAt R (sdAt nps k).1.ho) (sdAt nps k) gg.1 gg.2
       have hB:okP R h (sdAt nps k) = (othB (h:Int) R.length (sdAt nps k).1.ho && slB (pAt R (sdAt nps k).1.ho) (sdAt nps k)):=rfl
       clear hp gg
       generalize okP R h (sdAt nps k) = B at hfin hgo hB
       by_cases w1:((sdAt nps k).1.ho:Int) = (h:Int)
       ·have hBf:B = false:=by rw [hB,othB,decide_eq_true w1]; rfl
        clear c1 cI hB
        generalize sdAt nps k = x at g w1
        obtain ⟨⟨xa,xb,xc,xd⟩,⟨ya,yb,yc,yd⟩⟩:=x
        unfold hdE sgE at g
        dsimp only at g w1
        repeat ((try conv=>whnf); first | (refine Exists.intro nps.length (And.intro hnl ?_)) | (refine i_at g ?_) | (refine z0k w1 ?_) | (refine And.intro (by kernel_rfl) ?_) | (refine stpQ ?_))
        refine hQ1 _ _ ?_
        (try conv=>whnf)
        rw [hfin hBf,Bool.false_and,Bool.and_false]
        (refine z00 (by rfl) ?_ ?_ (by rfl)) <;> repeat' (first | (exact eqA) | (refine shE ?_) | (refine And.intro ?_ ?_))
       ·by_cases w2:(sdAt nps k).1.ho < R.length
        ·rw [z0R (by omega)] at cI
         rw [othB,decide_eq_false w1,decide_eq_true w2] at hB
         simp only [Bool.not_false,Bool.true_and] at hB
         have gR:=z0j w2
         generalize pAt R (sdAt nps k).1.ho = root at gR c1 hB
         generalize slB root (sdAt nps k) = B1 at c1 hB
         subst hB
         clear w2
         generalize sdAt nps k = x at g gR c1 cI w1
         obtain ⟨⟨xa,xb,xc,xd⟩,⟨ya,yb,yc,yd⟩⟩:=x
         unfold hdE sgE at g c1
         dsimp only at g gR c1 cI w1
         cases B with
         | true =>
           repeat ((try conv=>whnf); first | (refine Exists.intro nps.length (And.intro hnl ?_)) | (refine i_at g ?_) | (refine z0e w1 ?_) | (refine Exists.intro R.length (And.intro hRl ?_)) | (refine Exists.intro _ (And.intro e1.symm ?_)) | (refine ccA ([]) (cI) ?_) | (refine i_at gR ?_) | (refine ccA ([]) (c1) ?_) | (refine And.intro (by kernel_rfl) ?_) | (refine stpQ ?_))
           refine ⟨k + 1,⟨by omega,hgo rfl⟩,by omega,?_⟩
           (refine z02 (by rfl) ?_ ?_) <;> repeat' (first | (exact eqA) | (refine shE ?_) | (refine And.intro ?_ ?_))
         | false =>
           repeat ((try conv=>whnf); first | (refine Exists.intro nps.length (And.intro hnl ?_)) | (refine i_at g ?_) | (refine z0e w1 ?_) | (refine Exists.intro R.length (And.intro hRl ?_)) | (refine Exists.intro _ (And.intro e1.symm ?_)) | (refine ccA ([]) (cI) ?_) | (refine i_at gR ?_) | (refine ccA ([]) (c1) ?_) | (refine And.intro (by kernel_rfl) ?_) | (refine stpQ ?_))
           refine hQ1 _ _ ?_
           (try conv=>whnf)
           rw [hfin rfl,Bool.false_and,Bool.and_false]
           (refine z00 (by rfl) ?_ ?_ (by rfl)) <;> repeat' (first | (exact eqA) | (refine shE ?_) | (refine And.intro ?_ ?_))
        ·rw [z21 (by omega)] at cI
         have hBf:B = false:=by rw [hB,othB,decide_eq_false w2]; simp
         clear c1 hB w2
         generalize sdAt nps k = x at g cI w1
         obtain ⟨⟨xa,xb,xc,xd⟩,⟨ya,yb,yc,yd⟩⟩:=x
         unfold hdE sgE at g
         dsimp only at g cI w1
         repeat ((try conv=>whnf); first | (refine Exists.intro nps.length (And.intro hnl ?_)) | (refine i_at g ?_) | (refine z0e w1 ?_) | (refine Exists.intro R.length (And.intro hRl ?_)) | (refine Exists.intro _ (And.intro e1.symm ?_)) | (refine ccA ([]) (cI) ?_) | (refine And.intro (by kernel_rfl) ?_) | (refine stpQ ?_))
         refine hQ1 _ _ ?_
         (try conv=>whnf)
         rw [hfin hBf,Bool.false_and,Bool.and_false]
         (refine z00 (by rfl) ?_ ?_ (by rfl)) <;> repeat' (first | (exact eqA) | (refine shE ?_) | (refine And.intro ?_ ?_))
      ·have hke:k = nps.length:=by omega
       subst hke
       have hA:allB (fun k=>okP R h (sdAt nps k)) nps.length = true:=z1X hp
       clear hp
       repeat ((try conv=>whnf); first | (refine Exists.intro nps.length (And.intro hnl ?_)) | (refine stpQ ?_))
       refine hQ1 _ _ ?_
       repeat ((try conv=>whnf); first | (refine stpQ ?_))
       rw [hA,Bool.true_and]
       refine z0K Nat (fun k=>⟨[(1,.sl 1 (strE R)),(2,.ptr 1 0 0),(5,.ptr 2 0 0),(8,.int .i64 (k:Int))],[(1,some (.box [.int .i64 (h:Int),.bool b1,.sl 3 (flE fs),.sl 1 (strE po),.sl 8 (slE nps),.sl 16 (paL pr)])),(2,some (.box [.int .i64 (h:Int),.bool true,.sl 3 (flE fs),.sl 1 (strE po),.sl 8 (slE nps),.sl 16 (prE npr)]))],3⟩)
        (fun k=>k ≤ npr.length ∧ pr.take k = (npr.map paOf).take k ∧ ∀ j,j < k → okE R h (prAt npr j) = true) (fun k=>npr.length - k) 0 ⟨by omega,rfl,fun j h=>by omega⟩ ?_ ?_
       ·(refine z02 (by rfl) ?_ ?_) <;> (repeat' (first | (exact eqA) | (refine shE ?_) | (refine And.intro ?_ ?_))) <;> first | rfl | decide
       ·intro Q2 hQ2 k hx
        have hk:k ≤ npr.length:=hx.1
        have hpt:=hx.2.1
        have hp:=hx.2.2
        clear hx
        by_cases hlt:k < npr.length
        ·have hlt2:k < pr.length:=by omega
         have gA:=zmI hlt2
         have g:=zn9 hlt
         have gg:=grs _ (List.getElem_mem hlt)
         have fA:=h5 _ (List.getElem_mem hlt2)
         have hmem:(npr.map paOf)[k]? = some (paOf (prAt npr k)):=by rw [List.getElem?_map,List.getElem?_eq_getElem hlt,zn6 hlt]; rfl
         have hne:¬ pr[k] = paOf (prAt npr k) → decide (pr = npr.map paOf) = false:=fun q=>decide_eq_false fun e=>q (by
          have:pr[k]? = some (paOf (prAt npr k)):=by rw [e]; exact hmem
          rw [List.getElem?_eq_getElem hlt2] at this
          exact Option.some.inj this)
         have hnx:pr[k] = paOf (prAt npr k) → pr.take (k + 1) = (npr.map paOf).take (k + 1):=fun q=>by
          rw [List.take_add_one,List.take_add_one,hpt,hmem,List.getElem?_eq_getElem hlt2,q]
         rw [← zn6 hlt] at gg
         have hfin:okE R h (prAt npr k) = false → allB (fun k=>okE R h (prAt npr k)) npr.length = false:=fun e=>z2H (p:=fun k=>okE R h (prAt npr k)) hlt e
         have hgo:okE R h (prAt npr k) = true → ∀ j,j < k + 1 → okE R h (prAt npr j) = true:=fun e j hj=>by
          rcases Nat.lt_or_ge j k with h1 | h1
          ·exact hp j h1
          ·rw [show j = k by omega]; exact e
         have c6:=zn0 [(prAt npr k).1,(prAt npr k).2] [pr[k].1,pr[k].2] (by simp) (by simp) (fun x hx=>by
          simp only [List.mem_cons,List.not_mem_nil,or_false] at hx
          rcases hx with rfl | rfl
          ·exact gg.1
          ·exact gg.2) (fun x hx=>by
          simp only [List.mem_cons,List.not_mem_nil,or_false] at hx
          rcases hx with rfl | rfl
          ·exact fA.1
          ·exact fA.2)
         have hdec:decide ([pr[k].1,pr[k].2] = [(prAt npr k).1,(prAt npr k).2].map saOf) = decide (pr[k] = paOf (prAt npr k)):=by
          rw [Bool.eq_iff_iff,decide_eq_true_eq,decide_eq_true_eq]
          simp [paOf,Prod.ext_iff]
         rw [hdec] at c6
         have cI:=z1f ((prAt npr k).1.1.ho:Int) 0 ((R.length:Int) - 1)
         have c1:=zmT (pAt R (prAt npr k).1.1.ho) (prAt npr k) gg.1 gg.2
         have hB:okE R h (prAt npr k) = (othB (h:Int) R.length (prAt npr k).1.1.ho && evB (pAt R (prAt npr k).1.1.ho) (prAt npr k).1 (prAt npr k).2):=rfl
         clear hp gg fA hpt hdec hmem
         generalize okE R h (prAt npr k) = B at hfin hgo hB
         by_cases w0:pr[k] = paOf (prAt npr k)
         ·rw [decide_eq_true w0] at c6
          rw [w0] at gA c6
          replace hnx:=hnx w0
          clear w0 hne
          by_cases w1:((prAt npr k).1.1.ho:Int) = (h:Int)
          ·have hBf:B = false:=by rw [hB,othB,decide_eq_true w1]; rfl
           clear c1 cI hB
           unfold prC at g
           generalize prAt npr k = x at g gA c6 w1
           obtain ⟨⟨⟨xa,xb,xc,xd⟩,⟨ya,yb,yc,yd⟩⟩,⟨⟨xa',xb',xc',xd'⟩,⟨ya',yb',yc',yd'⟩⟩⟩:=x
           unfold paOf paE saOf saE z1B z1r at gA
           unfold paOf saOf saL saE z1B z1r slE hdE sgE at c6
           dsimp only [List.map_cons,List.map_nil,List.cons_append,List.nil_append] at g gA c6 w1
           repeat ((try conv=>whnf); first | (refine Exists.intro npr.length (And.intro (hql.trans q6.symm) ?_)) | (refine i_at gA ?_) | (refine i_at g ?_) | (refine ccA ([]) (c6) ?_) | (refine z0k w1 ?_) | (refine And.intro (by kernel_rfl) ?_) | (refine stpQ ?_))
           refine hQ2 _ _ ?_
           (try conv=>whnf)
           rw [hfin hBf,Bool.false_and,Bool.and_false]
           (refine z00 (by rfl) ?_ ?_ (by rfl)) <;> repeat' (first | (exact eqA) | (refine shE ?_) | (refine And.intro ?_ ?_))
          ·by_cases w2:(prAt npr k).1.1.ho < R.length
           ·rw [z0R (by omega)] at cI
            rw [othB,decide_eq_false w1,decide_eq_true w2] at hB
            simp only [Bool.not_false,Bool.true_and] at hB
            have gR:=z0j w2
            generalize pAt R (prAt npr k).1.1.ho = root at gR c1 hB
            generalize evB root (prAt npr k).1 (prAt npr k).2 = B1 at c1 hB
            subst hB
            clear w2
            unfold prC at g c1
            generalize prAt npr k = x at g gA gR c1 c6 cI w1
            obtain ⟨⟨⟨xa,xb,xc,xd⟩,⟨ya,yb,yc,yd⟩⟩,⟨⟨xa',xb',xc',xd'⟩,⟨ya',yb',yc',yd'⟩⟩⟩:=x
            unfold paOf paE saOf saE z1B z1r at gA
            unfold paOf saOf saL saE z1B z1r slE hdE sgE at c6
            dsimp only [List.map_cons,List.map_nil,List.cons_append,List.nil_append] at g gA gR c1 c6 cI w1
            cases B with
            | true =>
              repeat ((try conv=>whnf); first | (refine Exists.intro npr.length (And.intro (hql.trans q6.symm) ?_)) | (refine i_at gA ?_) | (refine i_at g ?_) | (refine ccA ([]) (c6) ?_) | (refine z0e w1 ?_) | (refine Exists.intro R.length (And.intro hRl ?_)) | (refine Exists.intro _ (And.intro e1.symm ?_)) | (refine ccA ([]) (cI) ?_) | (refine i_at gR ?_) | (refine ccA ([]) (c1) ?_) | (refine And.intro (by kernel_rfl) ?_) | (refine stpQ ?_))
              refine ⟨k + 1,⟨by omega,hnx,hgo rfl⟩,by omega,?_⟩
              (refine z02 (by rfl) ?_ ?_) <;> repeat' (first | (exact eqA) | (refine shE ?_) | (refine And.intro ?_ ?_))
            | false =>
              repeat ((try conv=>whnf); first | (refine Exists.intro npr.length (And.intro (hql.trans q6.symm) ?_)) | (refine i_at gA ?_) | (refine i_at g ?_) | (refine ccA ([]) (c6) ?_) | (refine z0e w1 ?_) | (refine Exists.intro R.length (And.intro hRl ?_)) | (refine Exists.intro _ (And.intro e1.symm ?_)) | (refine ccA ([]) (cI) ?_) | (refine i_at gR ?_) | (refine ccA ([]) (c1) ?_) | (refine And.intro (by kernel_rfl) ?_) | (refine stpQ ?_))
              refine hQ2 _ _ ?_
              (try conv=>whnf)
              rw [hfin rfl,Bool.false_and,Bool.and_false]
              (refine z00 (by rfl) ?_ ?_ (by rfl)) <;> repeat' (first | (exact eqA) | (refine shE ?_) | (refine And.intro ?_ ?_))
           ·rw [z21 (by omega)] at cI
            have hBf:B = false:=by rw [hB,othB,decide_eq_false w2]; simp
            clear c1 hB w2
            unfold prC at g
            generalize prAt npr k = x at g gA c6 cI w1
            obtain ⟨⟨⟨xa,xb,xc,xd⟩,⟨ya,yb,yc,yd⟩⟩,⟨⟨xa',xb',xc',xd'⟩,⟨ya',yb',yc',yd'⟩⟩⟩:=x
            unfold paOf paE saOf saE z1B z1r at gA
            unfold paOf saOf saL saE z1B z1r slE hdE sgE at c6
            dsimp only [List.map_cons,List.map_nil,List.cons_append,List.nil_append] at g gA c6 cI w1
            repeat ((try conv=>whnf); first | (refine Exists.intro npr.length (And.intro (hql.trans q6.symm) ?_)) | (refine i_at gA ?_) | (refine i_at g ?_) | (refine ccA ([]) (c6) ?_) | (refine z0e w1 ?_) | (refine Exists.intro R.length (And.intro hRl ?_)) | (refine Exists.intro _ (And.intro e1.symm ?_)) | (refine ccA ([]) (cI) ?_) | (refine And.intro (by kernel_rfl) ?_) | (refine stpQ ?_))
            refine hQ2 _ _ ?_
            (try conv=>whnf)
            rw [hfin hBf,Bool.false_and,Bool.and_false]
            (refine z00 (by rfl) ?_ ?_ (by rfl)) <;> repeat' (first | (exact eqA) | (refine shE ?_) | (refine And.intro ?_ ?_))
         ·rw [decide_eq_false w0] at c6
          replace hne:=hne w0
          clear w0 hnx c1 cI hB
          unfold prC at g
          generalize prAt npr k = x at g c6
          generalize pr[k] = y at gA c6
          obtain ⟨⟨⟨xa,xb,xc,xd⟩,⟨ya,yb,yc,yd⟩⟩,⟨⟨xa',xb',xc',xd'⟩,⟨ya',yb',yc',yd'⟩⟩⟩:=x
          obtain ⟨⟨s0,s1,s2,s3,s4,s5,s6,s7⟩,⟨t0,t1,t2,t3,t4,t5,t6,t7⟩⟩:=y
          unfold paE saE z1B z1r at gA
          unfold saL saE z1B z1r slE hdE sgE at c6
          dsimp only [List.map_cons,List.map_nil,List.cons_append,List.nil_append] at g gA c6
          repeat ((try conv=>whnf); first | (refine Exists.intro npr.length (And.intro (hql.trans q6.symm) ?_)) | (refine i_at gA ?_) | (refine i_at g ?_) | (refine ccA ([]) (c6) ?_) | (refine And.intro (by kernel_rfl) ?_) | (refine stpQ ?_))
          refine hQ2 _ _ ?_
          (try conv=>whnf)
          rw [hne,Bool.false_and]
          (refine z00 (by rfl) ?_ ?_ (by rfl)) <;> repeat' (first | (exact eqA) | (refine shE ?_) | (refine And.intro ?_ ?_))
        ·have hke:k = npr.length:=by omega
         subst hke
         have hA:allB (fun k=>okE R h (prAt npr k)) npr.length = true:=z1X hp
         have he:pr = npr.map paOf:=by
          rw [List.take_of_length_le (by omega),List.take_of_length_le (by simp)] at hpt; exact hpt
         clear hp hpt
         repeat ((try conv=>whnf); first | (refine Exists.intro npr.length (And.intro (hql.trans q6.symm) ?_)) | (refine stpQ ?_))
         refine hQ2 _ _ ?_
         repeat ((try conv=>whnf); first | (refine stpQ ?_))
         rw [decide_eq_true he,hA,Bool.true_and,Bool.true_and]
         refine z0K Nat (fun i=>⟨[(1,.sl 1 (strE R)),(2,.ptr 1 0 0),(11,.int .i64 (i:Int))],[(1,some (.box [.int .i64 (h:Int),.bool b1,.sl 3 (flE fs),.sl 1 (strE po),.sl 8 (slE nps),.sl 16 (paL pr)]))],2⟩)
          (fun i=>i ≤ min R.length 3 ∧ ∀ j,j < i → okC nps j = true) (fun i=>min R.length 3 - i) 0 ⟨by omega,fun j h=>by omega⟩ ?_ ?_
         ·(refine z02 (by rfl) ?_ ?_) <;> (repeat' (first | (exact eqA) | (refine shE ?_) | (refine And.intro ?_ ?_))) <;> first | rfl | decide
         ·intro Q3 hQ3 i hx
          have hi:i ≤ min R.length 3:=hx.1
          have hp:=hx.2
          clear hx
          by_cases hlt:i < min R.length 3
          ·have t1:(i:Int) < (R.length:Int):=by omega
           have t2:(i:Int) < 3:=by omega
           have hfin:okC nps i = false → allB (okC nps) (min R.length 3) = false:=fun h=>z2H hlt h
           have hgo:okC nps i = true → ∀ j,j < i + 1 → okC nps j = true:=fun h j hj=>by
            rcases Nat.lt_or_ge j i with h1 | h1
            ·exact hp j h1
            ·rw [show j = i by omega]; exact h
           have cP:=zn5 (h:Int) b1 (flE fs) (strE po) nps (paL pr) i (by omega)
           have cK:=zmX i (zmk nps i) (by have:=zmm nps i; omega) (zmD gps i)
           change CT _ _ _ _ (.bool (okC nps i)) _ at cK
           clear hp
           generalize okC nps i = B at hfin hgo cK
           generalize zmk nps i = PH at cP cK
           cases B with
           | true =>
             repeat ((try conv=>whnf); first | (refine Exists.intro R.length (And.intro hRl ?_)) | (refine z0k t1 ?_) | (refine z0k t2 ?_) | (refine ccA ([]) (cP) ?_) | (refine ccA ([]) (cK) ?_) | (refine And.intro (by kernel_rfl) ?_) | (refine stpQ ?_))
             refine ⟨i + 1,⟨by omega,hgo rfl⟩,by omega,?_⟩
             (refine z02 (by rfl) ?_ ?_) <;> repeat' (first | (exact eqA) | (refine shE ?_) | (refine And.intro ?_ ?_))
           | false =>
             repeat ((try conv=>whnf); first | (refine Exists.intro R.length (And.intro hRl ?_)) | (refine z0k t1 ?_) | (refine z0k t2 ?_) | (refine ccA ([]) (cP) ?_) | (refine ccA ([]) (cK) ?_) | (refine And.intro (by kernel_rfl) ?_) | (refine stpQ ?_))
             refine hQ3 _ _ ?_
             (try conv=>whnf)
             rw [hfin rfl]
             (refine z00 (by rfl) ?_ ?_ (by rfl)) <;> repeat' (first | (exact eqA) | (refine shE ?_) | (refine And.intro ?_ ?_))
          ·have hA:allB (okC nps) (min R.length 3) = true:=by
            have e:i = min R.length 3:=by omega
            rw [← e]
            exact z1X hp
           by_cases t1:(i:Int) < (R.length:Int)
           ·have t2:¬ (i:Int) < 3:=by omega
            repeat ((try conv=>whnf); first | (refine Exists.intro R.length (And.intro hRl ?_)) | (refine z0k t1 ?_) | (refine z0e t2 ?_) | (refine And.intro (by kernel_rfl) ?_) | (refine stpQ ?_))
            refine hQ3 _ _ ?_
            repeat ((try conv=>whnf); first | (refine stpQ ?_))
            rw [hA]
            (refine z00 (by rfl) ?_ ?_ (by rfl)) <;> repeat' (first | (exact eqA) | (refine shE ?_) | (refine And.intro ?_ ?_))
           ·repeat ((try conv=>whnf); first | (refine Exists.intro R.length (And.intro hRl ?_)) | (refine z0e t1 ?_) | (refine And.intro (by kernel_rfl) ?_) | (refine stpQ ?_))
            refine hQ3 _ _ ?_
            repeat ((try conv=>whnf); first | (refine stpQ ?_))
            rw [hA]
            (refine z00 (by rfl) ?_ ?_ (by rfl)) <;> repeat' (first | (exact eqA) | (refine shE ?_) | (refine And.intro ?_ ?_))
    ·have q6':¬ (npr.length:Int) = (pr.length:Int):=by omega
     have hne:¬ pr = npr.map paOf:=fun e=>q6 (by rw [e]; simp)
     rw [decide_eq_false hne,Bool.false_and]
     generalize saL ps = SL at c4 ⊢
     refine z01 z03 1 rfl Tryz.func65 rfl rfl rfl ?_
     repeat ((try conv=>whnf); first | (refine ccA ([]) (c0) ?_) | (refine ccA ([]) (c2) ?_) | (refine ccA ([]) (c3) ?_) | (refine ccA ([]) (c4) ?_) | (refine Exists.intro npr.length (And.intro hrl ?_)) | (refine Exists.intro pr.length (And.intro hql ?_)) | (refine z1w q6' ?_) | (refine And.intro (by kernel_rfl) ?_) | (refine stpQ ?_))
     (refine z00 (by rfl) ?_ ?_ (by rfl)) <;> (repeat' (first | (exact eqA) | (refine shE ?_) | (refine And.intro ?_ ?_)))
   ·rw [decide_eq_false q4] at c4 ⊢
    rw [Bool.false_and]
    generalize saL ps = SL at c4 ⊢
    refine z01 z03 1 rfl Tryz.func65 rfl rfl rfl ?_
    repeat ((try conv=>whnf); first | (refine ccA ([]) (c0) ?_) | (refine ccA ([]) (c2) ?_) | (refine ccA ([]) (c3) ?_) | (refine ccA ([]) (c4) ?_) | (refine And.intro (by kernel_rfl) ?_) | (refine stpQ ?_))
    (refine z00 (by rfl) ?_ ?_ (by rfl)) <;> (repeat' (first | (exact eqA) | (refine shE ?_) | (refine And.intro ?_ ?_)))
  ·rw [decide_eq_false q3] at c3 ⊢
   rw [Bool.false_and]
   generalize saL ps = SL at c4 ⊢
   refine z01 z03 1 rfl Tryz.func65 rfl rfl rfl ?_
   repeat ((try conv=>whnf); first | (refine ccA ([]) (c0) ?_) | (refine ccA ([]) (c2) ?_) | (refine ccA ([]) (c3) ?_) | (refine And.intro (by kernel_rfl) ?_) | (refine stpQ ?_))
   (refine z00 (by rfl) ?_ ?_ (by rfl)) <;> (repeat' (first | (exact eqA) | (refine shE ?_) | (refine And.intro ?_ ?_)))
 ·rw [z21 hho] at c0 ⊢
  rw [Bool.false_and]
  refine z01 z03 1 rfl Tryz.func65 rfl rfl rfl ?_
  repeat ((try conv=>whnf); first | (refine ccA ([]) (c0) ?_) | (refine And.intro (by kernel_rfl) ?_) | (refine stpQ ?_))
  (refine z00 (by rfl) ?_ ?_ (by rfl)) <;> (repeat' (first | (exact eqA) | (refine shE ?_) | (refine And.intro ?_ ?_)))
end Go.Proofs.YthcfalipgnpelaaGreatDoor
