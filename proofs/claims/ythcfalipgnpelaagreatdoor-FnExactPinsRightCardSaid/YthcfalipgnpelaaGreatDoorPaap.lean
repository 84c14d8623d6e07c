/- Functions by content: an auditor is as its disk tells, by the program. -/
import Derived.Test.YthcfalipgnpelaaGreatDoorPokp
namespace Go.Proofs.YthcfalipgnpelaaGreatDoor
set_option linter.unusedVariables false
set_option linter.unusedSimpArgs false
set_option linter.unusedSectionVars false
open Go.RowKit Pl
attribute [local irreducible] z0o z0p z0z AnsP LeP
def okP (R:List Bs) (ho:Nat) (x:Hd × Sg):Bool:=othB (ho:Int) R.length x.1.ho && slB (pAt R x.1.ho) x
def okE (R:List Bs) (ho:Nat) (x:(Hd × Sg) × (Hd × Sg)):Bool:=othB (ho:Int) R.length x.1.1.ho && evB (pAt R x.1.1.ho) x.1 x.2
def okC (ps:List (Hd × Sg)) (h:Nat):Bool:=chnB h (zmk ps h)
def pr0:(Hd × Sg) × (Hd × Sg):=(sd0,sd0)
def prAt (l:List ((Hd × Sg) × (Hd × Sg))) (k:Nat):(Hd × Sg) × (Hd × Sg):=l.getD k pr0
theorem zn6 {l:List ((Hd × Sg) × (Hd × Sg))} {k:Nat} (h:k < l.length):prAt l k = l[k]:=by simp [prAt,List.getD,List.getElem?_eq_getElem h]
theorem zn9 {l:List ((Hd × Sg) × (Hd × Sg))} {k:Nat} (h:k < l.length):(prE l)[k]? = some (prC (prAt l k)):=by rw [zn6 h]; simp [prE,List.getElem?_eq_getElem h]
def auR (R:List Bs) (ho:Nat) (n:Av):Bool:=allB (fun k=>okP R ho (sdAt n.ps k)) n.ps.length && (allB (fun k=>okE R ho (prAt n.pr k)) n.pr.length && allB (okC n.ps) (min R.length 3))
def zn7 (ho:Int) (po:List Bs) (ps:List Sa) (pr:List (Sa × Sa)) (R:List Bs) (n:Av):Bool :=
 inB ho 0 2 && (decide (po = z2B (z3U ho.toNat) 16) && (decide (ps = n.ps.map saOf) && (decide (pr = n.pr.map paOf) && auR R ho.toNat n)))
theorem zmL {l:List (Hd × Sg)} (g:∀ x ∈ l,x.1.good ∧ x.2.good):∀ x ∈ l.map saOf,z6C x:=fun x hx=>by
 obtain ⟨y,hy,rfl⟩:=List.mem_map.1 hx
 have:=(g y hy).2
 exact ⟨by have:=this.2.1.1; simp only [saOf]; omega,by have:=this.2.2.1.1; simp only [saOf]; omega,by have:=this.2.2.2.1; simp only [saOf]; omega⟩
theorem zmM {l:List ((Hd × Sg) × (Hd × Sg))} (g:∀ x ∈ l,(x.1.1.good ∧ x.1.2.good) ∧ (x.2.1.good ∧ x.2.2.good)):∀ x ∈ l.map paOf,z6C x.1 ∧ z6C x.2:=fun x hx=>by
 obtain ⟨y,hy,rfl⟩:=List.mem_map.1 hx
 have h:=g y hy
 have a:=h.1.2
 have b:=h.2.2
 refine ⟨⟨?_,?_,?_⟩,⟨?_,?_,?_⟩⟩
 ·have:=a.2.1.1; simp only [paOf,saOf]; omega
 ·have:=a.2.2.1.1; simp only [paOf,saOf]; omega
 ·have:=a.2.2.2.1; simp only [paOf,saOf]; omega
 ·have:=b.2.1.1; simp only [paOf,saOf]; omega
 ·have:=b.2.2.1.1; simp only [paOf,saOf]; omega
 ·have:=b.2.2.2.1; simp only [paOf,saOf]; omega
theorem zmN {ho:Int} {n h:Nat} (e:othB ho n h = true):h < n ∧ ¬ (h:Int) = ho:=by
 simp only [othB,Bool.and_eq_true,Bool.not_eq_true',decide_eq_true_eq,decide_eq_false_iff_not] at e
 exact ⟨e.2,e.1⟩
set_option maxRecDepth 100000 in
set_option maxHeartbeats 16000000 in
theorem zmY (n0:Int) (b1:Bool) (fs:List Fl) (hf:z50 fs) (po:List Bs) (ps:List Sa) (pr:List (Sa × Sa)) (R:List Bs) (h1:po.length ≤ 1048576) (h2:ps.length ≤ 1048576) (h3:∀ x ∈ ps,z6C x) (h4:pr.length ≤ 1048576) (h5:∀ x ∈ pr,z6C x.1 ∧ z6C x.2) (h6:R.length ≤ 1048576) :
 CT Tryz.prog 66 [] [.agg [.int .i64 n0,.bool b1,.sl 3 (flE fs),.sl 1 (strE po),.sl 8 (saL ps),.sl 16 (paL pr)],.sl 1 (strE R)] (.bool (zn7 n0 po ps pr R (avOf (z0i fs zmh)))) []:=by
 have c0:=z7Y n0
 have hRl:=z05 R
 unfold zn7
 by_cases hho:0 ≤ n0 ∧ n0 ≤ 2
 ·rw [z0R hho] at c0 ⊢
  rw [Bool.true_and]
  obtain ⟨h,rfl⟩:∃ n:Nat,n0 = n:=⟨n0.toNat,by omega⟩
  have hh:h ≤ 2:=by omega
  have c2:=zmr h hh fs hf
  rw [Int.toNat_natCast h]
  have g:=zmv (z0i fs zmh)
  have hN:=(z1h fs zmh).2
  generalize avOf (z0i fs zmh) = s at c2 g ⊢
  generalize (z0i fs zmh).length = gn at g hN
  have gpl:=g.pl
  have grl:=g.rl
  have gps:=g.pg
  have grs:=g.rg
  have c3:=z3k po (z2B (z3U h) 16) (by omega) (by rw [z3E]; omega)
  have c4:=zd7 ps (s.ps.map saOf) h2 (by simp; omega) h3 (zmL gps)
  have c5:=zmA pr (s.pr.map paOf) h4 (by simp; omega) h5 (zmM grs)
  rw [← zhT] at c4
  rw [← zmJ] at c5
  clear g
  obtain ⟨nps,npr⟩:=s
  unfold avE at c2
  unfold auR
  simp only at c2 c3 c4 c5 gpl grl gps grs ⊢
  generalize z2B (z3U h) 16 = P at c2 c3 ⊢
  by_cases q3:po = P
  ·rw [decide_eq_true q3] at c3 ⊢
   rw [Bool.true_and]
   by_cases q4:ps = nps.map saOf
   ·rw [decide_eq_true q4] at c4 ⊢
    rw [Bool.true_and]
    by_cases q5:pr = npr.map paOf
    ·rw [decide_eq_true q5] at c5 ⊢
     rw [Bool.true_and]
     subst q3 q4 q5
     clear h1 h2 h3 h4 h5
     rw [← zhT] at c4 ⊢
     rw [← zmJ] at c5 ⊢
     have hnl:=z3W nps
     have hrl:=zmw npr
     refine z01 z03 1 rfl Tryz.func66 rfl rfl rfl ?_
     repeat ((try conv=>whnf); first | (refine ccA ([]) (c0) ?_) | (refine ccA ([]) (c2) ?_) | (refine ccA ([]) (c3) ?_) | (refine ccA ([]) (c4) ?_) | (refine ccA ([]) (c5) ?_) | (refine Exists.intro nps.length (And.intro hnl ?_)) | (refine And.intro (by kernel_rfl) ?_) | (refine stpQ ?_))
     refine z0K Nat (fun k=>⟨[(2,.ptr 1 0 0),(3,.ptr 2 0 0),(6,.fnq 116 1 2),(47,.sl 8 (slE nps)),(48,.int .i64 (nps.length:Int)),(49,.int .i64 (k:Int))],[(1,some (.box [.int .i64 (h:Int),.bool b1,.sl 3 (flE fs),.sl 1 (strE po),.sl 8 (slE nps),.sl 16 (prE npr)])),(2,some (.box [.sl 1 (strE R)]))],3⟩)
      (fun k=>k ≤ nps.length ∧ ∀ j,j < k → okP R h (sdAt nps j) = true) (fun k=>nps.length - k) 0 ⟨by omega,fun j h=>by omega⟩ ?_ ?_
     ·(refine z02 (by rfl) ?_ ?_) <;> (repeat' (first | (exact eqA) | (refine shE ?_) | (refine And.intro ?_ ?_))) <;> first | rfl | decide
     ·intro Q1 hQ1 k hx
      have hk:k ≤ nps.length:=hx.1
      have hp:=hx.2
      clear hx
      by_cases hlt:k < nps.length
      ·have hlt2:(k:Int) < (nps.length:Int):=by omega
       have g:=zeG hlt
       have gg:=gps _ (List.getElem_mem hlt)
       rw [← zmd hlt] at gg
       have hfin:okP R h (sdAt nps k) = false → allB (fun k=>okP R h (sdAt nps k)) nps.length = false:=fun e=>z2H (p:=fun k=>okP R h (sdAt nps k)) hlt e
       have hgo:okP R h (sdAt nps k) = true → ∀ j,j < k + 1 → okP R h (sdAt nps j) = true:=fun e j hj=>by
        rcases Nat.lt_or_ge j k with h1 | h1
        ·exact hp j h1
        ·rw [show j = k by omega]; exact e
       have cO:=zmK (h:Int) b1 (flE fs) (strE po) (slE nps) (prE npr) R h6 (sdAt nps k).1.ho (by have:=gg.1.1; omega)
       have c1:=ziU (pAt R (sdAt nps k).1.ho) (sdAt nps k) gg.1 gg.2
       have hB:okP R h (sdAt nps k) = (othB (h:Int) R.length (sdAt nps k).1.ho && slB (pAt R (sdAt nps k).1.ho) (sdAt nps k)):=rfl
       clear hp gg
       generalize okP R h (sdAt nps k) = B at hfin hgo hB
       cases hO:othB (h:Int) R.length (sdAt nps k).1.ho with
       | true =>
         rw [hO] at cO hB
         rw [Bool.true_and] at hB
         have gR:=z0j (zmN hO).1
         clear hO
         generalize pAt R (sdAt nps k).1.ho = root at gR c1 hB
         generalize slB root (sdAt nps k) = B1 at c1 hB
         subst hB
         generalize sdAt nps k = x at g gR c1 cO
         obtain ⟨⟨xa,xb,xc,xd⟩,⟨ya,yb,yc,yd⟩⟩:=x
         unfold hdE sgE at g c1
         dsimp only at g gR c1 cO
         cases B with
         | true =>
           repeat ((try conv=>whnf); first | (refine i_at g ?_) | (refine ccB ([1,2]) (cO) ?_) | (refine i_at gR ?_) | (refine ccA ([]) (c1) ?_) | (refine And.intro (by kernel_rfl) ?_) | (refine stpQ ?_))
           refine ⟨k + 1,⟨by omega,hgo rfl⟩,by omega,?_⟩
           (refine z02 (by rfl) ?_ ?_) <;> repeat' (first | (exact eqA) | (refine shE ?_) | (refine And.intro ?_ ?_))
         | false =>
           repeat ((try conv=>whnf); first | (refine i_at g ?_) | (refine ccB ([1,2]) (cO) ?_) | (refine i_at gR ?_) | (refine ccA ([]) (c1) ?_) | (refine And.intro (by kernel_rfl) ?_) | (refine stpQ ?_))
           refine hQ1 _ _ ?_
           (try conv=>whnf)
           rw [hfin rfl,Bool.false_and]
           (refine z00 (by rfl) ?_ ?_ (by rfl)) <;> repeat' (first | (exact eqA) | (refine shE ?_) | (refine And.intro ?_ ?_))
       | false =>
         rw [hO] at cO hB
         rw [Bool.false_and] at hB
         clear c1 hO
         generalize sdAt nps k = x at g cO
         obtain ⟨⟨xa,xb,xc,xd⟩,⟨ya,yb,yc,yd⟩⟩:=x
         unfold hdE sgE at g
         dsimp only at g cO
         repeat ((try conv=>whnf); first | (refine i_at g ?_) | (refine ccB ([1,2]) (cO) ?_) | (refine And.intro (by kernel_rfl) ?_) | (refine stpQ ?_))
         refine hQ1 _ _ ?_
         (try conv=>whnf)
         rw [hfin hB,Bool.false_and]
         (refine z00 (by rfl) ?_ ?_ (by rfl)) <;> repeat' (first | (exact eqA) | (refine shE ?_) | (refine And.intro ?_ ?_))
      ·have hke:k = nps.length:=by omega
       subst hke
       have hA:allB (fun k=>okP R h (sdAt nps k)) nps.length = true:=z1X hp
       clear hp
       repeat ((try conv=>whnf); first | (refine stpQ ?_))
       refine hQ1 _ _ ?_
       repeat ((try conv=>whnf); first | (refine Exists.intro npr.length (And.intro hrl ?_)) | (refine And.intro (by kernel_rfl) ?_) | (refine stpQ ?_))
       rw [hA,Bool.true_and]
       refine z0K Nat (fun k=>⟨[(2,.ptr 1 0 0),(3,.ptr 2 0 0),(6,.fnq 116 1 2),(71,.sl 16 (prE npr)),(72,.int .i64 (npr.length:Int)),(73,.int .i64 (k:Int))],[(1,some (.box [.int .i64 (h:Int),.bool b1,.sl 3 (flE fs),.sl 1 (strE po),.sl 8 (slE nps),.sl 16 (prE npr)])),(2,some (.box [.sl 1 (strE R)]))],3⟩)
        (fun k=>k ≤ npr.length ∧ ∀ j,j < k → okE R h (prAt npr j) = true) (fun k=>npr.length - k) 0 ⟨by omega,fun j h=>by omega⟩ ?_ ?_
       ·(refine z02 (by rfl) ?_ ?_) <;> (repeat' (first | (exact eqA) | (refine shE ?_) | (refine And.intro ?_ ?_))) <;> first | rfl | decide
       ·intro Q2 hQ2 k hx
        have hk:k ≤ npr.length:=hx.1
        have hp:=hx.2
        clear hx
        by_cases hlt:k < npr.length
        ·have hlt2:(k:Int) < (npr.length:Int):=by omega
         have g:=zn9 hlt
         have gg:=grs _ (List.getElem_mem hlt)
         rw [← zn6 hlt] at gg
         have hfin:okE R h (prAt npr k) = false → allB (fun k=>okE R h (prAt npr k)) npr.length = false:=fun e=>z2H (p:=fun k=>okE R h (prAt npr k)) hlt e
         have hgo:okE R h (prAt npr k) = true → ∀ j,j < k + 1 → okE R h (prAt npr j) = true:=fun e j hj=>by
          rcases Nat.lt_or_ge j k with h1 | h1
          ·exact hp j h1
          ·rw [show j = k by omega]; exact e
         have cO:=zmK (h:Int) b1 (flE fs) (strE po) (slE nps) (prE npr) R h6 (prAt npr k).1.1.ho (by have:=gg.1.1.1; omega)
         have c1:=zmt (pAt R (prAt npr k).1.1.ho) (prAt npr k) gg.1 gg.2
         have hB:okE R h (prAt npr k) = (othB (h:Int) R.length (prAt npr k).1.1.ho && evB (pAt R (prAt npr k).1.1.ho) (prAt npr k).1 (prAt npr k).2):=rfl
         clear hp gg
         generalize okE R h (prAt npr k) = B at hfin hgo hB
         cases hO:othB (h:Int) R.length (prAt npr k).1.1.ho with
         | true =>
           rw [hO] at cO hB
           rw [Bool.true_and] at hB
           have gR:=z0j (zmN hO).1
           clear hO
           generalize pAt R (prAt npr k).1.1.ho = root at gR c1 hB
           generalize evB root (prAt npr k).1 (prAt npr k).2 = B1 at c1 hB
           subst hB
           unfold prC at g c1
           generalize prAt npr k = x at g gR c1 cO
           obtain ⟨⟨⟨xa,xb,xc,xd⟩,⟨ya,yb,yc,yd⟩⟩,⟨⟨xa',xb',xc',xd'⟩,⟨ya',yb',yc',yd'⟩⟩⟩:=x
           dsimp only at g gR c1 cO
           cases B with
           | true =>
             repeat ((try conv=>whnf); first | (refine i_at g ?_) | (refine ccB ([1,2]) (cO) ?_) | (refine i_at gR ?_) | (refine ccA ([]) (c1) ?_) | (refine And.intro (by kernel_rfl) ?_) | (refine stpQ ?_))
             refine ⟨k + 1,⟨by omega,hgo rfl⟩,by omega,?_⟩
             (refine z02 (by rfl) ?_ ?_) <;> repeat' (first | (exact eqA) | (refine shE ?_) | (refine And.intro ?_ ?_))
           | false =>
             repeat ((try conv=>whnf); first | (refine i_at g ?_) | (refine ccB ([1,2]) (cO) ?_) | (refine i_at gR ?_) | (refine ccA ([]) (c1) ?_) | (refine And.intro (by kernel_rfl) ?_) | (refine stpQ ?_))
             refine hQ2 _ _ ?_
             (try conv=>whnf)
             rw [hfin rfl,Bool.false_and]
             (refine z00 (by rfl) ?_ ?_ (by rfl)) <;> repeat' (first | (exact eqA) | (refine shE ?_) | (refine And.intro ?_ ?_))
         | false =>
           rw [hO] at cO hB
           rw [Bool.false_and] at hB
           clear c1 hO
           unfold prC at g
           generalize prAt npr k = x at g cO
           obtain ⟨⟨⟨xa,xb,xc,xd⟩,⟨ya,yb,yc,yd⟩⟩,⟨⟨xa',xb',xc',xd'⟩,⟨ya',yb',yc',yd'⟩⟩⟩:=x
           dsimp only at g cO
           repeat ((try conv=>whnf); first | (refine i_at g ?_) | (refine ccB ([1,2]) (cO) ?_) | (refine And.intro (by kernel_rfl) ?_) | (refine stpQ ?_))
           refine hQ2 _ _ ?_
           (try conv=>whnf)
           rw [hfin hB,Bool.false_and]
           (refine z00 (by rfl) ?_ ?_ (by rfl)) <;> repeat' (first | (exact eqA) | (refine shE ?_) | (refine And.intro ?_ ?_))
        ·have hke:k = npr.length:=by omega
         subst hke
         have hA:allB (fun k=>okE R h (prAt npr k)) npr.length = true:=z1X hp
         clear hp
         repeat ((try conv=>whnf); first | (refine stpQ ?_))
         refine hQ2 _ _ ?_
         repeat ((try conv=>whnf); first | (refine stpQ ?_))
         rw [hA,Bool.true_and]
         refine z0K Nat (fun i=>⟨[(2,.ptr 1 0 0),(3,.ptr 2 0 0),(13,.int .i64 (i:Int))],[(1,some (.box [.int .i64 (h:Int),.bool b1,.sl 3 (flE fs),.sl 1 (strE po),.sl 8 (slE nps),.sl 16 (prE npr)])),(2,some (.box [.sl 1 (strE R)]))],3⟩)
          (fun i=>i ≤ min R.length 3 ∧ ∀ j,j < i → okC nps j = true) (fun i=>min R.length 3 - i) 0 ⟨by omega,fun j h=>by omega⟩ ?_ ?_
         ·(refine z02 (by rfl) ?_ ?_) <;> (repeat' (first | (exact eqA) | (refine shE ?_) | (refine And.intro ?_ ?_))) <;> first | rfl | decide
         ·intro Q3 hQ3 i hx
          have hi:i ≤ min R.length 3:=hx.1
          have hp:=hx.2
          clear hx
          by_cases hlt:i < min R.length 3
          ·have t1:(i:Int) < (R.length:Int):=by omega
           have t2:(i:Int) < 3:=by omega
           have hfin:okC nps i = false → allB (okC nps) (min R.length 3) = false:=fun h=>z2H hlt h
           have hgo:okC nps i = true → ∀ j,j < i + 1 → okC nps j = true:=fun h j hj=>by
            rcases Nat.lt_or_ge j i with h1 | h1
            ·exact hp j h1
            ·rw [show j = i by omega]; exact h
           have cP:=zmS (h:Int) b1 (flE fs) (strE po) nps (prE npr) i (by omega)
           have cK:=zmC i (zmk nps i) (by have:=zmm nps i; omega) (zmD gps i)
           change CT _ _ _ _ (.bool (okC nps i)) _ at cK
           clear hp
           generalize okC nps i = B at hfin hgo cK
           generalize zmk nps i = PH at cP cK
           cases B with
           | true =>
             repeat ((try conv=>whnf); first | (refine Exists.intro R.length (And.intro hRl ?_)) | (refine z0k t1 ?_) | (refine z0k t2 ?_) | (refine ccA ([]) (cP) ?_) | (refine ccA ([]) (cK) ?_) | (refine And.intro (by kernel_rfl) ?_) | (refine stpQ ?_))
             refine ⟨i + 1,⟨by omega,hgo rfl⟩,by omega,?_⟩
             (refine z02 (by rfl) ?_ ?_) <;> repeat' (first | (exact eqA) | (refine shE ?_) | (refine And.intro ?_ ?_))
           | false =>
             repeat ((try conv=>whnf); first | (refine Exists.intro R.length (And.intro hRl ?_)) | (refine z0k t1 ?_) | (refine z0k t2 ?_) | (refine ccA ([]) (cP) ?_) | (refine ccA ([]) (cK) ?_) | (refine And.intro (by kernel_rfl) ?_) | (refine stpQ ?_))
             refine hQ3 _ _ ?_
             (try conv=>whnf)
             rw [hfin rfl]
             (refine z00 (by rfl) ?_ ?_ (by rfl)) <;> repeat' (first | (exact eqA) | (refine shE ?_) | (refine And.intro ?_ ?_))
          ·have hA:allB (okC nps) (min R.length 3) = true:=by
            have e:i = min R.length 3:=by omega
            rw [← e]
            exact z1X hp
           by_cases t1:(i:Int) < (R.length:Int)
           ·have t2:¬ (i:Int) < 3:=by omega
            repeat ((try conv=>whnf); first | (refine Exists.intro R.length (And.intro hRl ?_)) | (refine z0k t1 ?_) | (refine z0e t2 ?_) | (refine And.intro (by kernel_rfl) ?_) | (refine stpQ ?_))
            refine hQ3 _ _ ?_
            repeat ((try conv=>whnf); first | (refine stpQ ?_))
            rw [hA]
            (refine z00 (by rfl) ?_ ?_ (by rfl)) <;> repeat' (first | (exact eqA) | (refine shE ?_) | (refine And.intro ?_ ?_))
           ·repeat ((try conv=>whnf); first | (refine Exists.intro R.length (And.intro hRl ?_)) | (refine z0e t1 ?_) | (refine And.intro (by kernel_rfl) ?_) | (refine stpQ ?_))
            refine hQ3 _ _ ?_
            repeat ((try conv=>whnf); first | (refine stpQ ?_))
            rw [hA]
            (refine z00 (by rfl) ?_ ?_ (by rfl)) <;> repeat' (first | (exact eqA) | (refine shE ?_) | (refine And.intro ?_ ?_))
    ·rw [decide_eq_false q5] at c5 ⊢
     rw [Bool.false_and]
     generalize saL ps = SL at c4 ⊢
     generalize paL pr = PL at c5 ⊢
     refine z01 z03 1 rfl Tryz.func66 rfl rfl rfl ?_
     repeat ((try conv=>whnf); first | (refine ccA ([]) (c0) ?_) | (refine ccA ([]) (c2) ?_) | (refine ccA ([]) (c3) ?_) | (refine ccA ([]) (c4) ?_) | (refine ccA ([]) (c5) ?_) | (refine And.intro (by kernel_rfl) ?_) | (refine stpQ ?_))
     (refine z00 (by rfl) ?_ ?_ (by rfl)) <;> (repeat' (first | (exact eqA) | (refine shE ?_) | (refine And.intro ?_ ?_)))
   ·rw [decide_eq_false q4] at c4 ⊢
    rw [Bool.false_and]
    generalize saL ps = SL at c4 ⊢
    generalize paL pr = PL at c5 ⊢
    refine z01 z03 1 rfl Tryz.func66 rfl rfl rfl ?_
    repeat ((try conv=>whnf); first | (refine ccA ([]) (c0) ?_) | (refine ccA ([]) (c2) ?_) | (refine ccA ([]) (c3) ?_) | (refine ccA ([]) (c4) ?_) | (refine And.intro (by kernel_rfl) ?_) | (refine stpQ ?_))
    (refine z00 (by rfl) ?_ ?_ (by rfl)) <;> (repeat' (first | (exact eqA) | (refine shE ?_) | (refine And.intro ?_ ?_)))
  ·rw [decide_eq_false q3] at c3 ⊢
   rw [Bool.false_and]
   generalize saL ps = SL at c4 ⊢
   generalize paL pr = PL at c5 ⊢
   refine z01 z03 1 rfl Tryz.func66 rfl rfl rfl ?_
   repeat ((try conv=>whnf); first | (refine ccA ([]) (c0) ?_) | (refine ccA ([]) (c2) ?_) | (refine ccA ([]) (c3) ?_) | (refine And.intro (by kernel_rfl) ?_) | (refine stpQ ?_))
   (refine z00 (by rfl) ?_ ?_ (by rfl)) <;> (repeat' (first | (exact eqA) | (refine shE ?_) | (refine And.intro ?_ ?_)))
 ·rw [z21 hho] at c0 ⊢
  rw [Bool.false_and]
  refine z01 z03 1 rfl Tryz.func66 rfl rfl rfl ?_
  repeat ((try conv=>whnf); first | (refine ccA ([]) (c0) ?_) | (refine And.intro (by kernel_rfl) ?_) | (refine stpQ ?_))
  (refine z00 (by rfl) ?_ ?_ (by rfl)) <;> (repeat' (first | (exact eqA) | (refine shE ?_) | (refine And.intro ?_ ?_)))
end Go.Proofs.YthcfalipgnpelaaGreatDoor
