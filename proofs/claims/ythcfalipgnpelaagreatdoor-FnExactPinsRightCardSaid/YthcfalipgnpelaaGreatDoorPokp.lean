/- Functions by content: chains of right heads; pins of a house; evidence; pairs compared. -/
import Derived.Test.YthcfalipgnpelaaGreatDoorPanp
import Derived.Test.YthcfalipgnpelaaGreatDoorChrp
import Derived.Test.YthcfalipgnpelaaGreatDoorCbsp
import Derived.Test.YthcfalipgnpelaaGreatDoorCsp
namespace Go.Proofs.YthcfalipgnpelaaGreatDoor
set_option maxRecDepth 100000
set_option maxHeartbeats 8000000
set_option linter.unusedVariables false
set_option linter.unusedSimpArgs false
set_option linter.unusedSectionVars false
open Go.RowKit Pl
attribute [local irreducible] z0o z0p z0z AnsP LeP
def hd0:Hd:=⟨0,0,[],[]⟩
def hAt (l:List Hd) (k:Nat):Hd:=l.getD k hd0
theorem h_at {l:List Hd} {k:Nat} (h:k < l.length):hAt l k = l[k]:=by simp [hAt,List.getD,List.getElem?_eq_getElem h]
theorem zmy {l:List Hd} {k:Nat} (h:k < l.length):(hdsE l)[k]? = some (hdE (hAt l k)):=by rw [h_at h]; exact z5I h
def chB (ho:Nat) (l:List Hd) (k:Nat):Bool:=decide (hAt l k = z1V ho (l.take k) (hAt l k).ro)
def chnB (ho:Nat) (l:List Hd):Bool:=allB (chB ho l) l.length
theorem zms {l:List Hd} {k:Nat} (h0:0 < k) (h:k ≤ l.length):z3V (l.take k) = z2l (hAt l (k - 1)):=by
 have hl2:0 < (l.take k).length:=by simp; omega
 rw [z5H hl2,List.getElem_take,h_at (by omega)]
 congr 1
 congr 1
 simp
 omega
theorem zmW {ho:Nat} {l:List Hd} {k:Nat} (h:k < l.length) (g:(hAt l k).good):chB ho l k = (decide ((hAt l k).ho = ho) && (decide ((hAt l k).ep = k + 1) && (decide (k = 0) || decide ((hAt l k).pr = z2l (hAt l (k - 1)))))):=by
 unfold chB
 rw [Bool.eq_iff_iff]
 simp only [Bool.and_eq_true,Bool.or_eq_true,decide_eq_true_eq]
 have hk:(l.take k).length = k:=by rw [List.length_take]; omega
 constructor
 ·intro e
  have e1:=congrArg Hd.ho e
  have e2:=congrArg Hd.ep e
  have e3:=congrArg Hd.pr e
  simp only [z1V,hk] at e1 e2 e3
  refine ⟨e1,e2,?_⟩
  rcases Nat.eq_zero_or_pos k with h0 | h0
  ·exact .inl h0
  ·exact .inr (by rw [e3,zms h0 (by omega)])
 ·rintro ⟨e1,e2,e3⟩
  have hp:(hAt l k).pr = z3V (l.take k):=by
   rcases e3 with e3 | e3
   ·subst e3
    have h5:=g.2.2.2.2
    rw [if_pos e2] at h5
    rw [h5]
    rfl
   ·rcases Nat.eq_zero_or_pos k with h0 | h0
    ·subst h0
     have h5:=g.2.2.2.2
     rw [if_pos e2] at h5
     rw [h5]
     rfl
    ·rw [e3,zms h0 (by omega)]
  have:hAt l k = ⟨(hAt l k).ho,(hAt l k).ep,(hAt l k).ro,(hAt l k).pr⟩:=rfl
  rw [this,z1V,hk,e1,e2,hp]
theorem zmz (ho:Nat) (l:List Hd) (ro:Bs) (hl:l.length ≤ 1000000) (hg:∀ (i:Nat) (h:i < l.length),l[i].good):CT Tryz.prog 185 [] [.sl 4 (hdsE l),.int .i64 (ho:Int),.str ro] (.agg (hdE (z1V ho l ro))) []:=by
 have hlen:=z6S l
 rcases Nat.eq_zero_or_pos l.length with h0 | h0
 ·have:l = []:=List.length_eq_zero_iff.1 h0
  subst this
  show CT _ _ _ _ (.agg [.int .i64 (ho:Int),.int .i64 ((0 + 1:Nat):Int),.str ro,.str []]) _
  refine z01 z03 1 rfl Tryz.func185 rfl rfl rfl ?_
  repeat ((try conv=>whnf); first | (refine Exists.intro 0 (And.intro rfl ?_)) | (refine And.intro (by kernel_rfl) ?_) | (refine stpQ ?_))
  (refine z00 (by rfl) ?_ ?_ (by rfl)) <;> (repeat' (first | (exact eqA) | (refine shE ?_) | (refine And.intro ?_ ?_)))
 ·have hlt:l.length - 1 < l.length:=by omega
  have g:=z5I hlt
  have c1:=z6d _ (hg _ hlt)
  have hp:=z5H h0
  show CT _ _ _ _ (.agg [.int .i64 (ho:Int),.int .i64 ((l.length + 1:Nat):Int),.str ro,.str (z3V l)]) _
  rw [hp]
  have e1:IntKind.i64.wrap ((l.length:Int) - 1) = ((l.length - 1:Nat):Int):=by rw [z08 (by omega) (by omega)]; omega
  have h1:(l.length:Int) > 0:=by omega
  generalize z2l l[l.length - 1] = R at c1 ⊢
  generalize l[l.length - 1] = x at g c1
  obtain ⟨a,b,c,d⟩:=x
  unfold hdE at g c1
  refine z01 z03 1 rfl Tryz.func185 rfl rfl rfl ?_
  repeat ((try conv=>whnf); first | (refine Exists.intro l.length (And.intro hlen ?_)) | (refine Exists.intro _ (And.intro e1.symm ?_)) | (refine i_at g ?_) | (refine ccA ([]) (c1) ?_) | (refine And.intro (by kernel_rfl) ?_) | (refine stpQ ?_))
  (refine z00 (by rfl) ?_ ?_ (by rfl)) <;> (repeat' (first | (exact eqA) | (refine shE ?_) | (refine And.intro ?_ ?_)))
theorem zmC (ho:Nat) (l:List Hd) (hl:l.length ≤ 1000000) (hg:∀ (i:Nat) (h:i < l.length),l[i].good):CT Tryz.prog 119 [] [.sl 4 (hdsE l),.int .i64 (ho:Int)] (.bool (chnB ho l)) []:=by
 have hlen:=z6S l
 unfold chnB
 refine z01 z03 1 rfl Tryz.func119 rfl rfl rfl ?_
 repeat ((try conv=>whnf); first | (refine stpQ ?_))
 refine z0K Nat (fun k=>⟨[(0,.sl 4 (hdsE l)),(1,.int .i64 (ho:Int)),(7,.sl 4 (hdsE l)),(8,.int .i64 ((hdsE l).length:Int)),(9,.int .i64 (k:Int))],[],1⟩) (fun k=>k ≤ l.length ∧ ∀ j,j < k → chB ho l j = true) (fun k=>l.length - k) 0 ⟨by omega,fun j h=>by omega⟩ ?_ ?_
 ·(refine z02 (by rfl) ?_ ?_) <;> (repeat' (first | (exact eqA) | (refine shE ?_) | (refine And.intro ?_ ?_)))
 ·intro Q1 hQ1 k hx
  have hk:k ≤ l.length:=hx.1
  have hp:=hx.2
  clear hx
  by_cases hlt:k < l.length
  ·have hlt2:(k:Int) < ((hdsE l).length:Int):=by omega
   have g:=zmy hlt
   have gg:=hg k hlt
   rw [← h_at hlt] at gg
   have c1:=z6Q _ gg
   have c2:=zmz ho (l.take k) (hAt l k).ro (by simp; omega) (fun i hi=>by rw [List.getElem_take]; exact hg i (by simp at hi; omega))
   rw [← zk8] at c2
   have hkl:k ≤ (hdsE l).length:=by omega
   have hfin:chB ho l k = false → allB (chB ho l) l.length = false:=fun h=>z2H hlt h
   have hgo:chB ho l k = true → ∀ j,j < k + 1 → chB ho l j = true:=fun h j hj=>by
    rcases Nat.lt_or_ge j k with h1 | h1
    ·exact hp j h1
    ·rw [show j = k by omega]; exact h
   have hB:chB ho l k = decide (hAt l k = z1V ho (l.take k) (hAt l k).ro):=rfl
   have hq:eqC (hdE (hAt l k)) (hdE (z1V ho (l.take k) (hAt l k).ro)) = decide (hAt l k = z1V ho (l.take k) (hAt l k).ro):=zhV _ _
   rw [← hB] at hq
   clear gg hp hB
   generalize chB ho l k = B at hfin hgo hq
   generalize hN:z1V ho (l.take k) (hAt l k).ro = y at c2 hq
   clear hN
   generalize hAt l k = x at g c1 c2 hq
   obtain ⟨a,b,c,d⟩:=x
   obtain ⟨a',b',c',d'⟩:=y
   unfold hdE at g c1 c2 hq
   cases B with
   | true =>
     have hq2:(!eqC [T.int .i64 (a:Int),.int .i64 (b:Int),.str c,.str d] [.int .i64 (a':Int),.int .i64 (b':Int),.str c',.str d']) = false:=by rw [hq]; rfl
     repeat ((try conv=>whnf); first | (refine i_at g ?_) | (refine ccA ([]) (c1) ?_) | (refine i_le hkl ?_) | (refine ccA ([]) (c2) ?_) | (refine cb_f hq2 ?_) | (refine And.intro (by kernel_rfl) ?_) | (refine stpQ ?_))
     refine ⟨k + 1,⟨by omega,hgo rfl⟩,by omega,?_⟩
     (refine z02 (by rfl) ?_ ?_) <;> (repeat' (first | (exact eqA) | (refine shE ?_) | (refine And.intro ?_ ?_)))
   | false =>
     have hq2:(!eqC [T.int .i64 (a:Int),.int .i64 (b:Int),.str c,.str d] [.int .i64 (a':Int),.int .i64 (b':Int),.str c',.str d']) = true:=by rw [hq]; rfl
     repeat ((try conv=>whnf); first | (refine i_at g ?_) | (refine ccA ([]) (c1) ?_) | (refine i_le hkl ?_) | (refine ccA ([]) (c2) ?_) | (refine cb_t hq2 ?_) | (refine And.intro (by kernel_rfl) ?_) | (refine stpQ ?_))
     refine hQ1 _ _ ?_
     (try conv=>whnf)
     rw [hfin rfl]
     (refine z00 (by rfl) ?_ ?_ (by rfl)) <;> (repeat' (first | (exact eqA) | (refine shE ?_) | (refine And.intro ?_ ?_)))
  ·have hke:k = l.length:=by omega
   subst hke
   have hA:=z1X hp
   repeat ((try conv=>whnf); first | (refine stpQ ?_))
   refine hQ1 _ _ ?_
   repeat ((try conv=>whnf); first | (refine stpQ ?_))
   rw [hA]
   (refine z00 (by rfl) ?_ ?_ (by rfl)) <;> (repeat' (first | (exact eqA) | (refine shE ?_) | (refine And.intro ?_ ?_)))
theorem zmX (ho:Nat) (l:List Hd) (hl:l.length ≤ 1000000) (hg:∀ (i:Nat) (h:i < l.length),l[i].good):CT Tryz.prog 112 [] [.sl 4 (hdsE l),.int .i64 (ho:Int)] (.bool (chnB ho l)) []:=by
 have hlen:=z6S l
 unfold chnB
 refine z01 z03 1 rfl Tryz.func112 rfl rfl rfl ?_
 repeat ((try conv=>whnf); first | (refine stpQ ?_))
 refine z0K Nat (fun k=>⟨[(0,.sl 4 (hdsE l)),(1,.int .i64 (ho:Int)),(5,.int .i64 (k:Int))],[],1⟩) (fun k=>k ≤ l.length ∧ ∀ j,j < k → chB ho l j = true) (fun k=>l.length - k) 0 ⟨by omega,fun j h=>by omega⟩ ?_ ?_
 ·(refine z02 (by rfl) ?_ ?_) <;> (repeat' (first | (exact eqA) | (refine shE ?_) | (refine And.intro ?_ ?_)))
 ·intro Q1 hQ1 k hx
  have hk:k ≤ l.length:=hx.1
  have hp:=hx.2
  clear hx
  by_cases hlt:k < l.length
  ·have g:=zmy hlt
   have gg:=hg k hlt
   rw [← h_at hlt] at gg
   have c1:=z84 _ gg
   have hfin:chB ho l k = false → allB (chB ho l) l.length = false:=fun h=>z2H hlt h
   have hgo:chB ho l k = true → ∀ j,j < k + 1 → chB ho l j = true:=fun h j hj=>by
    rcases Nat.lt_or_ge j k with h1 | h1
    ·exact hp j h1
    ·rw [show j = k by omega]; exact h
   have hB:=zmW (ho:=ho) hlt gg
   clear hp gg
   generalize chB ho l k = B at hfin hgo hB
   by_cases q1:(hAt l k).ho = ho
   ·by_cases q2:(hAt l k).ep = k + 1
    ·rcases Nat.eq_zero_or_pos k with hk0 | hk0
     ·subst hk0
      have hBt:B = true:=by rw [hB,decide_eq_true q1,decide_eq_true q2]; rfl
      clear hB
      generalize hAt l 0 = x at g c1 q1 q2
      obtain ⟨a,b,x3,d⟩:=x
      simp only at q1 q2
      subst q1 q2
      unfold hdE at g c1
      dsimp only at g c1
      repeat ((try conv=>whnf); first | (refine Exists.intro l.length (And.intro hlen ?_)) | (refine i_at g ?_) | (refine ccA ([]) (c1) ?_) | (refine z0A rfl ?_) | (refine And.intro (by kernel_rfl) ?_) | (refine stpQ ?_))
      refine ⟨0 + 1,⟨by omega,hgo hBt⟩,by omega,?_⟩
      (refine z02 (by rfl) ?_ ?_) <;> (repeat' (first | (exact eqA) | (refine shE ?_) | (refine And.intro ?_ ?_)))
     ·have hlt1:k - 1 < l.length:=by omega
      have g1:=zmy hlt1
      have gg1:=hg (k - 1) hlt1
      rw [← h_at hlt1] at gg1
      have c2:=z3Y _ gg1
      have hk1:(k:Int) > 0:=by omega
      have e1:IntKind.i64.wrap ((k:Int) - 1) = ((k - 1:Nat):Int):=by rw [z08 (by omega) (by omega)]; omega
      have hk0':¬ k = 0:=by omega
      rw [decide_eq_true q1,decide_eq_true q2,decide_eq_false hk0',Bool.true_and,Bool.true_and,Bool.false_or] at hB
      clear gg1
      generalize z2l (hAt l (k - 1)) = HH at c2 hB
      generalize hAt l (k - 1) = y at g1 c2
      generalize hAt l k = x at g c1 hB q1 q2
      obtain ⟨a,b,x3,d⟩:=x
      obtain ⟨ya,yb,y3,yd⟩:=y
      simp only at q1 q2 hB
      subst q1 q2
      unfold hdE at g c1 g1 c2
      dsimp only at g c1 g1 c2
      generalize k - 1 = k1 at g1 e1
      by_cases q3:d = HH
      ·rw [decide_eq_true q3] at hB
       repeat ((try conv=>whnf); first | (refine Exists.intro l.length (And.intro hlen ?_)) | (refine i_at g ?_) | (refine Exists.intro _ (And.intro e1.symm ?_)) | (refine i_at g1 ?_) | (refine ccA ([]) (c1) ?_) | (refine ccA ([]) (c2) ?_) | (refine z0A q3 ?_) | (refine z0A rfl ?_) | (refine And.intro (by kernel_rfl) ?_) | (refine stpQ ?_))
       refine ⟨k + 1,⟨by omega,hgo hB⟩,by omega,?_⟩
       (refine z02 (by rfl) ?_ ?_) <;> (repeat' (first | (exact eqA) | (refine shE ?_) | (refine And.intro ?_ ?_)))
      ·rw [decide_eq_false q3] at hB
       repeat ((try conv=>whnf); first | (refine Exists.intro l.length (And.intro hlen ?_)) | (refine i_at g ?_) | (refine Exists.intro _ (And.intro e1.symm ?_)) | (refine i_at g1 ?_) | (refine ccA ([]) (c1) ?_) | (refine ccA ([]) (c2) ?_) | (refine z1w q3 ?_) | (refine z0A rfl ?_) | (refine And.intro (by kernel_rfl) ?_) | (refine stpQ ?_))
       refine hQ1 _ _ ?_
       (try conv=>whnf)
       rw [hfin hB]
       (refine z00 (by rfl) ?_ ?_ (by rfl)) <;> (repeat' (first | (exact eqA) | (refine shE ?_) | (refine And.intro ?_ ?_)))
    ·rw [decide_eq_false q2,Bool.false_and,Bool.and_false] at hB
     have q2':¬ ((hAt l k).ep:Int) = ((k + 1:Nat):Int):=by omega
     have q1':((hAt l k).ho:Int) = (ho:Int):=by omega
     generalize hAt l k = x at g c1 q1' q2'
     obtain ⟨a,b,x3,d⟩:=x
     simp only at q1' q2'
     unfold hdE at g c1
     dsimp only at g c1
     repeat ((try conv=>whnf); first | (refine Exists.intro l.length (And.intro hlen ?_)) | (refine i_at g ?_) | (refine ccA ([]) (c1) ?_) | (refine z0A q1' ?_) | (refine z1w q2' ?_) | (refine And.intro (by kernel_rfl) ?_) | (refine stpQ ?_))
     refine hQ1 _ _ ?_
     (try conv=>whnf)
     rw [hfin hB]
     (refine z00 (by rfl) ?_ ?_ (by rfl)) <;> (repeat' (first | (exact eqA) | (refine shE ?_) | (refine And.intro ?_ ?_)))
   ·rw [decide_eq_false q1,Bool.false_and] at hB
    have q1':¬ ((hAt l k).ho:Int) = (ho:Int):=by omega
    generalize hAt l k = x at g c1 q1'
    obtain ⟨a,b,x3,d⟩:=x
    simp only at q1'
    unfold hdE at g c1
    dsimp only at g c1
    repeat ((try conv=>whnf); first | (refine Exists.intro l.length (And.intro hlen ?_)) | (refine i_at g ?_) | (refine ccA ([]) (c1) ?_) | (refine z1w q1' ?_) | (refine And.intro (by kernel_rfl) ?_) | (refine stpQ ?_))
    refine hQ1 _ _ ?_
    (try conv=>whnf)
    rw [hfin hB]
    (refine z00 (by rfl) ?_ ?_ (by rfl)) <;> (repeat' (first | (exact eqA) | (refine shE ?_) | (refine And.intro ?_ ?_)))
  ·have hke:k = l.length:=by omega
   subst hke
   have hA:=z1X hp
   repeat ((try conv=>whnf); first | (refine Exists.intro l.length (And.intro hlen ?_)) | (refine stpQ ?_))
   refine hQ1 _ _ ?_
   repeat ((try conv=>whnf); first | (refine stpQ ?_))
   rw [hA]
   (refine z00 (by rfl) ?_ ?_ (by rfl)) <;> (repeat' (first | (exact eqA) | (refine shE ?_) | (refine And.intro ?_ ?_)))
def zmk (ps:List (Hd × Sg)) (h:Nat):List Hd:=(ps.filter fun x=>decide (x.1.ho = h)).map fun x=>x.1
theorem zmn {ps:List (Hd × Sg)} {h k:Nat} (hk:k < ps.length):zmk (ps.take (k + 1)) h = if (sdAt ps k).1.ho = h then zmk (ps.take k) h ++ [(sdAt ps k).1] else zmk (ps.take k) h:=by
 unfold zmk
 rw [zmd hk,List.take_succ_eq_append_getElem hk,List.filter_append,List.map_append]
 by_cases e:ps[k].1.ho = h
 ·rw [if_pos e]; simp [e]
 ·rw [if_neg e]; simp [e]
theorem zmm (ps:List (Hd × Sg)) (h:Nat):(zmk ps h).length ≤ ps.length:=by
 unfold zmk
 rw [List.length_map]
 exact List.length_filter_le _ _
theorem zmD {ps:List (Hd × Sg)} (hg:∀ x ∈ ps,x.1.good ∧ x.2.good) (h:Nat):∀ (i:Nat) (hi:i < (zmk ps h).length),(zmk ps h)[i].good:=fun i hi=>by
 have hm:(zmk ps h)[i] ∈ (ps.filter fun x=>decide (x.1.ho = h)).map fun x=>x.1:=List.getElem_mem hi
 generalize (zmk ps h)[i] = y at hm ⊢
 obtain ⟨x,hx,e⟩:=List.mem_map.1 hm
 rw [← e]
 exact (hg x (List.mem_filter.1 hx).1).1
theorem zmS (n0:Int) (b1:Bool) (z2 z3:List (List T)) (ps:List (Hd × Sg)) (z5:List (List T)) (h:Nat) (hl:ps.length ≤ 1000000) :
 CT Tryz.prog 120 [] [.agg [.int .i64 n0,.bool b1,.sl 3 z2,.sl 1 z3,.sl 8 (slE ps),.sl 16 z5],.int .i64 (h:Int)] (.ref 1) [.row 4 (hdsE (zmk ps h))]:=by
 have hpl:=z3W ps
 refine z01 z03 1 rfl Tryz.func120 rfl rfl rfl ?_
 repeat ((try conv=>whnf); first | (refine Exists.intro ps.length (And.intro hpl ?_)) | (refine stpQ ?_))
 refine z07 0 ⟨[(5,.ref 1)],[(1,some (.row 4 (hdsE (zmk ps h))))],2⟩ Nat (fun k=>⟨[(1,.int .i64 (h:Int)),(5,.ref 1),(9,.sl 8 (slE ps)),(10,.int .i64 (ps.length:Int)),(11,.int .i64 (k:Int))],[(1,some (.row 4 (hdsE (zmk (ps.take k) h))))],2⟩) (fun k=>k ≤ ps.length) (fun k=>ps.length - k) 0 (by omega) ?_ ?_ ?_
 ·(refine z02 (by rfl) ?_ ?_) <;> (repeat' (first | (exact eqA) | (refine shE ?_) | (refine And.intro ?_ ?_))) <;> first | rfl | decide
 ·intro k hk
  by_cases hlt:k < ps.length
  ·have hlt2:(k:Int) < (ps.length:Int):=by omega
   have g:=zeG hlt
   have hnx:=zmn (h:=h) hlt
   have hol:=zmm (ps.take k) h
   rw [List.length_take,Nat.min_eq_left hk] at hol
   generalize zmk (ps.take k) h = o at hnx hol ⊢
   have hoe:=z6S o
   generalize sdAt ps k = x at g hnx
   obtain ⟨⟨a,b,c,d⟩,⟨e,f,i,j⟩⟩:=x
   unfold hdE sgE at g
   simp only at hnx
   by_cases hq:a = h
   ·rw [if_pos hq] at hnx
    have hq2:(a:Int) = (h:Int):=by omega
    repeat ((try conv=>whnf); first | (refine i_at g ?_) | (refine z0k hq2 ?_) | (refine And.intro (by simp only [List.length_append,List.length_cons,List.length_nil,List.length_set,List.length_replicate]; omega) ?_) | (refine And.intro (by kernel_rfl) ?_) | (refine stpQ ?_))
    refine ⟨k + 1,by omega,by omega,?_⟩
    rw [hnx,zev]
    (refine z02 (by rfl) ?_ ?_) <;> (repeat' (first | (exact eqA) | (refine shE ?_) | (refine And.intro ?_ ?_)))
    all_goals rfl
   ·rw [if_neg hq] at hnx
    have hq2:¬ (a:Int) = (h:Int):=by omega
    repeat ((try conv=>whnf); first | (refine i_at g ?_) | (refine z0e hq2 ?_) | (refine And.intro (by kernel_rfl) ?_) | (refine stpQ ?_))
    refine ⟨k + 1,by omega,by omega,?_⟩
    rw [hnx]
    (refine z02 (by rfl) ?_ ?_) <;> (repeat' (first | (exact eqA) | (refine shE ?_) | (refine And.intro ?_ ?_)))
  ·obtain rfl:k = ps.length:=by omega
   rw [List.take_length]
   repeat ((try conv=>whnf); first | (refine Exists.intro ps.length (And.intro hpl ?_)) | (refine stpQ ?_))
   (refine z02 (by rfl) ?_ ?_) <;> (repeat' (first | (exact eqA) | (refine shE ?_) | (refine And.intro ?_ ?_)))
 ·repeat ((try conv=>whnf); first | (refine stpQ ?_))
  (refine z00 (by rfl) ?_ ?_ (by rfl)) <;> (repeat' (first | (exact eqA) | (refine shE ?_) | (refine And.intro ?_ ?_)))
theorem zn5 (n0:Int) (b1:Bool) (z2 z3:List (List T)) (ps:List (Hd × Sg)) (z5:List (List T)) (h:Nat) (hl:ps.length ≤ 1000000) :
 CT Tryz.prog 113 [] [.agg [.int .i64 n0,.bool b1,.sl 3 z2,.sl 1 z3,.sl 8 (slE ps),.sl 16 z5],.int .i64 (h:Int)] (.ref 1) [.row 4 (hdsE (zmk ps h))]:=by
 have hpl:=z3W ps
 refine z01 z03 1 rfl Tryz.func113 rfl rfl rfl ?_
 repeat ((try conv=>whnf); first | (refine Exists.intro ps.length (And.intro hpl ?_)) | (refine stpQ ?_))
 refine z07 0 ⟨[(5,.ref 1)],[(1,some (.row 4 (hdsE (zmk ps h))))],2⟩ Nat (fun k=>⟨[(1,.int .i64 (h:Int)),(2,.ptr 1 0 0),(5,.ref 2),(6,.int .i64 (k:Int))],[(1,some (.box [.int .i64 n0,.bool b1,.sl 3 z2,.sl 1 z3,.sl 8 (slE ps),.sl 16 z5])),(2,some (.row 4 (hdsE (zmk (ps.take k) h))))],3⟩) (fun k=>k ≤ ps.length) (fun k=>ps.length - k) 0 (by omega) ?_ ?_ ?_
 ·(refine z02 (by rfl) ?_ ?_) <;> (repeat' (first | (exact eqA) | (refine shE ?_) | (refine And.intro ?_ ?_))) <;> first | rfl | decide
 ·intro k hk
  by_cases hlt:k < ps.length
  ·have hlt2:(k:Int) < (ps.length:Int):=by omega
   have g:=zeG hlt
   have hnx:=zmn (h:=h) hlt
   have hol:=zmm (ps.take k) h
   rw [List.length_take,Nat.min_eq_left hk] at hol
   generalize zmk (ps.take k) h = o at hnx hol ⊢
   have hoe:=z6S o
   generalize sdAt ps k = x at g hnx
   obtain ⟨⟨a,b,c,d⟩,⟨e,f,i,j⟩⟩:=x
   unfold hdE sgE at g
   simp only at hnx
   by_cases hq:a = h
   ·rw [if_pos hq] at hnx
    have hq2:(a:Int) = (h:Int):=by omega
    repeat ((try conv=>whnf); first | (refine Exists.intro ps.length (And.intro hpl ?_)) | (refine i_at g ?_) | (refine z0k hq2 ?_) | (refine And.intro (by simp only [List.length_append,List.length_cons,List.length_nil,List.length_set,List.length_replicate]; omega) ?_) | (refine And.intro (by kernel_rfl) ?_) | (refine stpQ ?_))
    refine ⟨k + 1,by omega,by omega,?_⟩
    rw [hnx,zev]
    (refine z02 (by rfl) ?_ ?_) <;> (repeat' (first | (exact eqA) | (refine shE ?_) | (refine And.intro ?_ ?_)))
    all_goals rfl
   ·rw [if_neg hq] at hnx
    have hq2:¬ (a:Int) = (h:Int):=by omega
    repeat ((try conv=>whnf); first | (refine Exists.intro ps.length (And.intro hpl ?_)) | (refine i_at g ?_) | (refine z0e hq2 ?_) | (refine And.intro (by kernel_rfl) ?_) | (refine stpQ ?_))
    refine ⟨k + 1,by omega,by omega,?_⟩
    rw [hnx]
    (refine z02 (by rfl) ?_ ?_) <;> (repeat' (first | (exact eqA) | (refine shE ?_) | (refine And.intro ?_ ?_)))
  ·obtain rfl:k = ps.length:=by omega
   rw [List.take_length]
   repeat ((try conv=>whnf); first | (refine Exists.intro ps.length (And.intro hpl ?_)) | (refine stpQ ?_))
   (refine z02 (by rfl) ?_ ?_) <;> (repeat' (first | (exact eqA) | (refine shE ?_) | (refine And.intro ?_ ?_)))
 ·repeat ((try conv=>whnf); first | (refine stpQ ?_))
  (refine z00 (by rfl) ?_ ?_ (by rfl)) <;> (repeat' (first | (exact eqA) | (refine shE ?_) | (refine And.intro ?_ ?_)))
def evB (root:Bs) (x y:Hd × Sg):Bool:=slB root x && (slB root y && (decide (x.1.ho = y.1.ho) && (decide (x.1.ep = y.1.ep) && !decide (x.1 = y.1))))
theorem zmt (root:Bs) (x:(Hd × Sg) × (Hd × Sg)) (g:x.1.1.good ∧ x.1.2.good) (g':x.2.1.good ∧ x.2.2.good):CT Tryz.prog 118 [] [.str root,.agg (prC x)] (.bool (evB root x.1 x.2)) []:=by
 obtain ⟨x,y⟩:=x
 have c1:=ziU root x g.1 g.2
 have c2:=ziU root y g'.1 g'.2
 have hq:=zhV x.1 y.1
 unfold evB prC
 simp only
 clear g g'
 generalize slB root x = B1 at c1 ⊢
 generalize slB root y = B2 at c2 ⊢
 generalize decide (x.1 = y.1) = B3 at hq ⊢
 obtain ⟨⟨a,b,c,d⟩,⟨e,f,h,i⟩⟩:=x
 obtain ⟨⟨a',b',c',d'⟩,⟨e',f',h',i'⟩⟩:=y
 unfold hdE sgE at c1 c2
 unfold hdE at hq
 simp only at c1 c2 hq ⊢
 refine z01 z03 1 rfl Tryz.func118 rfl rfl rfl ?_
 cases B1 with
 | false =>
   rw [Bool.false_and]
   repeat ((try conv=>whnf); first | (refine ccA ([]) (c1) ?_) | (refine And.intro (by kernel_rfl) ?_) | (refine stpQ ?_))
   (refine z00 (by rfl) ?_ ?_ (by rfl)) <;> (repeat' (first | (exact eqA) | (refine shE ?_) | (refine And.intro ?_ ?_)))
 | true =>
   rw [Bool.true_and]
   cases B2 with
   | false =>
     rw [Bool.false_and]
     repeat ((try conv=>whnf); first | (refine ccA ([]) (c1) ?_) | (refine ccA ([]) (c2) ?_) | (refine And.intro (by kernel_rfl) ?_) | (refine stpQ ?_))
     (refine z00 (by rfl) ?_ ?_ (by rfl)) <;> (repeat' (first | (exact eqA) | (refine shE ?_) | (refine And.intro ?_ ?_)))
   | true =>
     rw [Bool.true_and]
     by_cases q1:a = a'
     ·have q1':(a:Int) = (a':Int):=by omega
      rw [decide_eq_true q1,Bool.true_and]
      by_cases q2:b = b'
      ·have q2':(b:Int) = (b':Int):=by omega
       rw [decide_eq_true q2,Bool.true_and]
       cases B3 with
       | true =>
         have hq2:(!eqC [T.int .i64 (a:Int),.int .i64 (b:Int),.str c,.str d] [.int .i64 (a':Int),.int .i64 (b':Int),.str c',.str d']) = false:=by rw [hq]; rfl
         repeat ((try conv=>whnf); first | (refine ccA ([]) (c1) ?_) | (refine ccA ([]) (c2) ?_) | (refine z0k q1' ?_) | (refine z0k q2' ?_) | (refine And.intro (by kernel_rfl) ?_) | (refine stpQ ?_))
         (refine z00 (by rfl) ?_ ?_ (by rfl)) <;> (repeat' (first | (exact eqA) | (refine shE ?_) | (refine And.intro ?_ ?_))) <;> first | exact hq2.symm | exact hq2 | simp [hq2]
       | false =>
         have hq2:(!eqC [T.int .i64 (a:Int),.int .i64 (b:Int),.str c,.str d] [.int .i64 (a':Int),.int .i64 (b':Int),.str c',.str d']) = true:=by rw [hq]; rfl
         repeat ((try conv=>whnf); first | (refine ccA ([]) (c1) ?_) | (refine ccA ([]) (c2) ?_) | (refine z0k q1' ?_) | (refine z0k q2' ?_) | (refine And.intro (by kernel_rfl) ?_) | (refine stpQ ?_))
         (refine z00 (by rfl) ?_ ?_ (by rfl)) <;> (repeat' (first | (exact eqA) | (refine shE ?_) | (refine And.intro ?_ ?_))) <;> first | exact hq2.symm | exact hq2 | simp [hq2]
      ·have q2':¬ (b:Int) = (b':Int):=by omega
       rw [decide_eq_false q2,Bool.false_and]
       repeat ((try conv=>whnf); first | (refine ccA ([]) (c1) ?_) | (refine ccA ([]) (c2) ?_) | (refine z0k q1' ?_) | (refine z0e q2' ?_) | (refine And.intro (by kernel_rfl) ?_) | (refine stpQ ?_))
       (refine z00 (by rfl) ?_ ?_ (by rfl)) <;> (repeat' (first | (exact eqA) | (refine shE ?_) | (refine And.intro ?_ ?_))) <;> simp [q2']
     ·have q1':¬ (a:Int) = (a':Int):=by omega
      rw [decide_eq_false q1,Bool.false_and]
      repeat ((try conv=>whnf); first | (refine ccA ([]) (c1) ?_) | (refine ccA ([]) (c2) ?_) | (refine z0e q1' ?_) | (refine And.intro (by kernel_rfl) ?_) | (refine stpQ ?_))
      (refine z00 (by rfl) ?_ ?_ (by rfl)) <;> (repeat' (first | (exact eqA) | (refine shE ?_) | (refine And.intro ?_ ?_))) <;> simp [q1']
theorem zmT (root:Bs) (x:(Hd × Sg) × (Hd × Sg)) (g:x.1.1.good ∧ x.1.2.good) (g':x.2.1.good ∧ x.2.2.good):CT Tryz.prog 111 [] [.str root,.agg (prC x)] (.bool (evB root x.1 x.2)) []:=by
 obtain ⟨x,y⟩:=x
 have c1:=zg7 root x g.1 g.2
 have c2:=zg7 root y g'.1 g'.2
 have hq:=zhV x.1 y.1
 unfold evB prC
 simp only
 clear g g'
 generalize slB root x = B1 at c1 ⊢
 generalize slB root y = B2 at c2 ⊢
 generalize decide (x.1 = y.1) = B3 at hq ⊢
 obtain ⟨⟨a,b,c,d⟩,⟨e,f,h,i⟩⟩:=x
 obtain ⟨⟨a',b',c',d'⟩,⟨e',f',h',i'⟩⟩:=y
 unfold hdE sgE at c1 c2
 unfold hdE at hq
 simp only at c1 c2 hq ⊢
 refine z01 z03 1 rfl Tryz.func111 rfl rfl rfl ?_
 cases B1 with
 | false =>
   rw [Bool.false_and]
   repeat ((try conv=>whnf); first | (refine ccA ([]) (c1) ?_) | (refine And.intro (by kernel_rfl) ?_) | (refine stpQ ?_))
   (refine z00 (by rfl) ?_ ?_ (by rfl)) <;> (repeat' (first | (exact eqA) | (refine shE ?_) | (refine And.intro ?_ ?_)))
 | true =>
   rw [Bool.true_and]
   cases B2 with
   | false =>
     rw [Bool.false_and]
     repeat ((try conv=>whnf); first | (refine ccA ([]) (c1) ?_) | (refine ccA ([]) (c2) ?_) | (refine And.intro (by kernel_rfl) ?_) | (refine stpQ ?_))
     (refine z00 (by rfl) ?_ ?_ (by rfl)) <;> (repeat' (first | (exact eqA) | (refine shE ?_) | (refine And.intro ?_ ?_)))
   | true =>
     rw [Bool.true_and]
     by_cases q1:a = a'
     ·have q1':(a:Int) = (a':Int):=by omega
      rw [decide_eq_true q1,Bool.true_and]
      by_cases q2:b = b'
      ·have q2':(b:Int) = (b':Int):=by omega
       rw [decide_eq_true q2,Bool.true_and]
       cases B3 with
       | true =>
         have hq2:(!eqC [T.int .i64 (a:Int),.int .i64 (b:Int),.str c,.str d] [.int .i64 (a':Int),.int .i64 (b':Int),.str c',.str d']) = false:=by rw [hq]; rfl
         repeat ((try conv=>whnf); first | (refine ccA ([]) (c1) ?_) | (refine ccA ([]) (c2) ?_) | (refine z0k q1' ?_) | (refine z0k q2' ?_) | (refine And.intro (by kernel_rfl) ?_) | (refine stpQ ?_))
         (refine z00 (by rfl) ?_ ?_ (by rfl)) <;> (repeat' (first | (exact eqA) | (refine shE ?_) | (refine And.intro ?_ ?_))) <;> first | exact hq2.symm | exact hq2 | simp [hq2]
       | false =>
         have hq2:(!eqC [T.int .i64 (a:Int),.int .i64 (b:Int),.str c,.str d] [.int .i64 (a':Int),.int .i64 (b':Int),.str c',.str d']) = true:=by rw [hq]; rfl
         repeat ((try conv=>whnf); first | (refine ccA ([]) (c1) ?_) | (refine ccA ([]) (c2) ?_) | (refine z0k q1' ?_) | (refine z0k q2' ?_) | (refine And.intro (by kernel_rfl) ?_) | (refine stpQ ?_))
         (refine z00 (by rfl) ?_ ?_ (by rfl)) <;> (repeat' (first | (exact eqA) | (refine shE ?_) | (refine And.intro ?_ ?_))) <;> first | exact hq2.symm | exact hq2 | simp [hq2]
      ·have q2':¬ (b:Int) = (b':Int):=by omega
       rw [decide_eq_false q2,Bool.false_and]
       repeat ((try conv=>whnf); first | (refine ccA ([]) (c1) ?_) | (refine ccA ([]) (c2) ?_) | (refine z0k q1' ?_) | (refine z0e q2' ?_) | (refine And.intro (by kernel_rfl) ?_) | (refine stpQ ?_))
       (refine z00 (by rfl) ?_ ?_ (by rfl)) <;> (repeat' (first | (exact eqA) | (refine shE ?_) | (refine And.intro ?_ ?_))) <;> simp [q2']
     ·have q1':¬ (a:Int) = (a':Int):=by omega
      rw [decide_eq_false q1,Bool.false_and]
      repeat ((try conv=>whnf); first | (refine ccA ([]) (c1) ?_) | (refine ccA ([]) (c2) ?_) | (refine z0e q1' ?_) | (refine And.intro (by kernel_rfl) ?_) | (refine stpQ ?_))
      (refine z00 (by rfl) ?_ ?_ (by rfl)) <;> (repeat' (first | (exact eqA) | (refine shE ?_) | (refine And.intro ?_ ?_))) <;> simp [q1']
def paE (x:Sa × Sa):List T:=saE x.1 ++ saE x.2
def paL (l:List (Sa × Sa)):List (List T):=l.map paE
theorem zmH (l:List (Sa × Sa)):(paL l).length = l.length:=by simp [paL]
theorem zmI {l:List (Sa × Sa)} {k:Nat} (h:k < l.length):(paL l)[k]? = some (paE l[k]):=by simp [paL,List.getElem?_eq_getElem h]
def paOf (x:(Hd × Sg) × (Hd × Sg)):Sa × Sa:=(saOf x.1,saOf x.2)
theorem zmJ (l:List ((Hd × Sg) × (Hd × Sg))):prE l = paL (l.map paOf):=by
 simp only [prE,paL,List.map_map]
 rfl
theorem zmA (l m:List (Sa × Sa)) (hl:l.length ≤ 1048576) (hm:m.length ≤ 1048576) (fl:∀ x ∈ l,z6C x.1 ∧ z6C x.2) (fm:∀ x ∈ m,z6C x.1 ∧ z6C x.2):CT Tryz.prog 115 [] [.sl 16 (paL l),.sl 16 (paL m)] (.bool (decide (l = m))) []:=by
 have hll:=zmH l
 have hlm:=zmH m
 refine z01 z03 1 rfl Tryz.func115 rfl rfl rfl ?_
 by_cases hn:l.length = m.length
 ·repeat ((try conv=>whnf); first | (refine Exists.intro l.length (And.intro hll ?_)) | (refine Exists.intro m.length (And.intro hlm ?_)) | (refine stpQ ?_))
  refine z0K Nat (fun k=>⟨[(0,.sl 16 (paL l)),(1,.sl 16 (paL m)),(12,.int .i64 (l.length:Int)),(13,.int .i64 (k:Int))],[],1⟩) (fun k=>k ≤ l.length ∧ l.take k = m.take k) (fun k=>l.length - k) 0 ⟨by omega,rfl⟩ ?_ ?_
  ·(refine z02 (by rfl) ?_ ?_) <;> repeat' (first | (exact eqA) | (refine shE ?_) | (refine And.intro ?_ ?_))
  ·intro Q1 hQ1 k hkk
   have hk:=hkk.1
   have hp:=hkk.2
   clear hkk
   by_cases hlt:k < l.length
   ·have hlt2:k < m.length:=by omega
    have g1:=zmI hlt
    have g2:=zmI hlt2
    have f1:=fl _ (List.getElem_mem hlt)
    have f2:=fm _ (List.getElem_mem hlt2)
    have c1:=zfH l[k].1 m[k].1 f1.1 f2.1
    have c2:=zfH l[k].2 m[k].2 f1.2 f2.2
    have hnx:l[k] = m[k] → l.take (k + 1) = m.take (k + 1):=fun hq=>by rw [List.take_succ_eq_append_getElem hlt,List.take_succ_eq_append_getElem hlt2,hp,hq]
    have hne:¬ l[k] = m[k] → ¬ l = m:=fun hq e=>hq (by subst e; rfl)
    clear f1 f2 hp
    generalize l[k] = x at g1 c1 c2 hnx hne
    generalize m[k] = y at g2 c1 c2 hnx hne
    obtain ⟨x1,x2⟩:=x
    obtain ⟨y1,y2⟩:=y
    simp only at c1 c2
    have hd:(x1,x2) = (y1,y2) ↔ x1 = y1 ∧ x2 = y2:=by simp
    rw [hd] at hnx hne
    clear hd
    by_cases q1:x1 = y1
    ·rw [decide_eq_true q1] at c1
     by_cases q2:x2 = y2
     ·rw [decide_eq_true q2] at c2
      replace hnx:=hnx ⟨q1,q2⟩
      clear q1 q2 hne
      obtain ⟨s0,s1,s2,s3,s4,s5,s6,s7⟩:=x1
      obtain ⟨t0,t1,t2,t3,t4,t5,t6,t7⟩:=x2
      obtain ⟨u0,u1,u2,u3,u4,u5,u6,u7⟩:=y1
      obtain ⟨v0,v1,v2,v3,v4,v5,v6,v7⟩:=y2
      change (paL l)[k]? = some [.int .i64 s0,.int .i64 s1,.str s2,.str s3,.int .i64 s4,.sl 1 (strE s5),.sl 1 (strE s6),.sl 1 (strE s7),.int .i64 t0,.int .i64 t1,.str t2,.str t3,.int .i64 t4,.sl 1 (strE t5),.sl 1 (strE t6),.sl 1 (strE t7)] at g1
      change (paL m)[k]? = some [.int .i64 u0,.int .i64 u1,.str u2,.str u3,.int .i64 u4,.sl 1 (strE u5),.sl 1 (strE u6),.sl 1 (strE u7),.int .i64 v0,.int .i64 v1,.str v2,.str v3,.int .i64 v4,.sl 1 (strE v5),.sl 1 (strE v6),.sl 1 (strE v7)] at g2
      change CT _ _ _ [.agg [.int .i64 s0,.int .i64 s1,.str s2,.str s3,.int .i64 s4,.sl 1 (strE s5),.sl 1 (strE s6),.sl 1 (strE s7)],.agg [.int .i64 u0,.int .i64 u1,.str u2,.str u3,.int .i64 u4,.sl 1 (strE u5),.sl 1 (strE u6),.sl 1 (strE u7)]] _ _ at c1
      change CT _ _ _ [.agg [.int .i64 t0,.int .i64 t1,.str t2,.str t3,.int .i64 t4,.sl 1 (strE t5),.sl 1 (strE t6),.sl 1 (strE t7)],.agg [.int .i64 v0,.int .i64 v1,.str v2,.str v3,.int .i64 v4,.sl 1 (strE v5),.sl 1 (strE v6),.sl 1 (strE v7)]] _ _ at c2
      repeat ((try conv=>whnf); first | (refine i_at g1 ?_) | (refine i_at g2 ?_) | (refine ccA ([]) (c1) ?_) | (refine ccA ([]) (c2) ?_) | (refine And.intro (by kernel_rfl) ?_) | (refine stpQ ?_))
      refine ⟨k + 1,⟨by omega,hnx⟩,by omega,?_⟩
      (refine z02 (by rfl) ?_ ?_) <;> repeat' (first | (exact eqA) | (refine shE ?_) | (refine And.intro ?_ ?_))
     ·rw [decide_eq_false q2] at c2
      replace hne:=hne (fun h=>q2 h.2)
      clear q1 q2 hnx
      obtain ⟨s0,s1,s2,s3,s4,s5,s6,s7⟩:=x1
      obtain ⟨t0,t1,t2,t3,t4,t5,t6,t7⟩:=x2
      obtain ⟨u0,u1,u2,u3,u4,u5,u6,u7⟩:=y1
      obtain ⟨v0,v1,v2,v3,v4,v5,v6,v7⟩:=y2
      change (paL l)[k]? = some [.int .i64 s0,.int .i64 s1,.str s2,.str s3,.int .i64 s4,.sl 1 (strE s5),.sl 1 (strE s6),.sl 1 (strE s7),.int .i64 t0,.int .i64 t1,.str t2,.str t3,.int .i64 t4,.sl 1 (strE t5),.sl 1 (strE t6),.sl 1 (strE t7)] at g1
      change (paL m)[k]? = some [.int .i64 u0,.int .i64 u1,.str u2,.str u3,.int .i64 u4,.sl 1 (strE u5),.sl 1 (strE u6),.sl 1 (strE u7),.int .i64 v0,.int .i64 v1,.str v2,.str v3,.int .i64 v4,.sl 1 (strE v5),.sl 1 (strE v6),.sl 1 (strE v7)] at g2
      change CT _ _ _ [.agg [.int .i64 s0,.int .i64 s1,.str s2,.str s3,.int .i64 s4,.sl 1 (strE s5),.sl 1 (strE s6),.sl 1 (strE s7)],.agg [.int .i64 u0,.int .i64 u1,.str u2,.str u3,.int .i64 u4,.sl 1 (strE u5),.sl 1 (strE u6),.sl 1 (strE u7)]] _ _ at c1
      change CT _ _ _ [.agg [.int .i64 t0,.int .i64 t1,.str t2,.str t3,.int .i64 t4,.sl 1 (strE t5),.sl 1 (strE t6),.sl 1 (strE t7)],.agg [.int .i64 v0,.int .i64 v1,.str v2,.str v3,.int .i64 v4,.sl 1 (strE v5),.sl 1 (strE v6),.sl 1 (strE v7)]] _ _ at c2
      repeat ((try conv=>whnf); first | (refine i_at g1 ?_) | (refine i_at g2 ?_) | (refine ccA ([]) (c1) ?_) | (refine ccA ([]) (c2) ?_) | (refine And.intro (by kernel_rfl) ?_) | (refine stpQ ?_))
      refine hQ1 _ _ ?_
      (try conv=>whnf)
      rw [decide_eq_false hne]
      (refine z00 (by rfl) ?_ ?_ (by rfl)) <;> repeat' (first | (exact eqA) | (refine shE ?_) | (refine And.intro ?_ ?_))
    ·rw [decide_eq_false q1] at c1
     replace hne:=hne (fun h=>q1 h.1)
     clear q1 hnx c2
     obtain ⟨s0,s1,s2,s3,s4,s5,s6,s7⟩:=x1
     obtain ⟨t0,t1,t2,t3,t4,t5,t6,t7⟩:=x2
     obtain ⟨u0,u1,u2,u3,u4,u5,u6,u7⟩:=y1
     obtain ⟨v0,v1,v2,v3,v4,v5,v6,v7⟩:=y2
     change (paL l)[k]? = some [.int .i64 s0,.int .i64 s1,.str s2,.str s3,.int .i64 s4,.sl 1 (strE s5),.sl 1 (strE s6),.sl 1 (strE s7),.int .i64 t0,.int .i64 t1,.str t2,.str t3,.int .i64 t4,.sl 1 (strE t5),.sl 1 (strE t6),.sl 1 (strE t7)] at g1
     change (paL m)[k]? = some [.int .i64 u0,.int .i64 u1,.str u2,.str u3,.int .i64 u4,.sl 1 (strE u5),.sl 1 (strE u6),.sl 1 (strE u7),.int .i64 v0,.int .i64 v1,.str v2,.str v3,.int .i64 v4,.sl 1 (strE v5),.sl 1 (strE v6),.sl 1 (strE v7)] at g2
     change CT _ _ _ [.agg [.int .i64 s0,.int .i64 s1,.str s2,.str s3,.int .i64 s4,.sl 1 (strE s5),.sl 1 (strE s6),.sl 1 (strE s7)],.agg [.int .i64 u0,.int .i64 u1,.str u2,.str u3,.int .i64 u4,.sl 1 (strE u5),.sl 1 (strE u6),.sl 1 (strE u7)]] _ _ at c1
     repeat ((try conv=>whnf); first | (refine i_at g1 ?_) | (refine i_at g2 ?_) | (refine ccA ([]) (c1) ?_) | (refine And.intro (by kernel_rfl) ?_) | (refine stpQ ?_))
     refine hQ1 _ _ ?_
     (try conv=>whnf)
     rw [decide_eq_false hne]
     (refine z00 (by rfl) ?_ ?_ (by rfl)) <;> repeat' (first | (exact eqA) | (refine shE ?_) | (refine And.intro ?_ ?_))
   ·have he:l = m:=by
     rw [List.take_of_length_le (by omega),List.take_of_length_le (by omega)] at hp; exact hp
    have hke:k = l.length:=by omega
    subst hke
    repeat ((try conv=>whnf); first | (refine stpQ ?_))
    refine hQ1 _ _ ?_
    repeat ((try conv=>whnf); first | (refine stpQ ?_))
    rw [decide_eq_true he]
    (refine z00 (by rfl) ?_ ?_ (by rfl)) <;> repeat' (first | (exact eqA) | (refine shE ?_) | (refine And.intro ?_ ?_))
 ·have hne:¬ l = m:=fun h0=>hn (by rw [h0])
  rw [decide_eq_false hne]
  repeat ((try conv=>whnf); first | (refine Exists.intro l.length (And.intro hll ?_)) | (refine Exists.intro m.length (And.intro hlm ?_)) | (refine stpQ ?_))
  (refine z00 (by rfl) ?_ ?_ (by rfl)) <;> repeat' (first | (exact eqA) | (refine shE ?_) | (refine And.intro ?_ ?_))
def othB (ho:Int) (n:Nat) (h:Nat):Bool:=!decide ((h:Int) = ho) && decide (h < n)
theorem zmK (ho:Int) (b1:Bool) (z2 z3 z4 z5:List (List T)) (R:List Bs) (hR:R.length ≤ 1048576) (h:Nat) (hh:h ≤ 1000) :
 CT Tryz.prog 116 [.box [.int .i64 ho,.bool b1,.sl 3 z2,.sl 1 z3,.sl 8 z4,.sl 16 z5],.box [.sl 1 (strE R)]] [.int .i64 (h:Int),.ptr 1 0 0,.ptr 2 0 0] (.bool (othB ho R.length h)) [.box [.int .i64 ho,.bool b1,.sl 3 z2,.sl 1 z3,.sl 8 z4,.sl 16 z5],.box [.sl 1 (strE R)]]:=by
 have hl:=z05 R
 have e1:IntKind.i64.wrap ((R.length:Int) - 1) = (R.length:Int) - 1:=by rw [z08 (by omega) (by omega)]
 have c1:=c_in (h:Int) 0 ((R.length:Int) - 1)
 have hi:inB (h:Int) 0 ((R.length:Int) - 1) = decide (h < R.length):=by
  by_cases q:h < R.length
  ·rw [decide_eq_true q,z0R (by omega)]
  ·rw [decide_eq_false q,z21 (by omega)]
 rw [hi] at c1
 unfold othB
 clear hi
 generalize decide (h < R.length) = B at c1 ⊢
 refine z01 z03 3 rfl Tryz.func116 rfl rfl rfl ?_
 by_cases q:(h:Int) = ho
 ·rw [decide_eq_true q]
  repeat ((try conv=>whnf); first | (refine z0A q ?_) | (refine Exists.intro R.length (And.intro hl ?_)) | (refine Exists.intro _ (And.intro e1.symm ?_)) | (refine ccA ([]) (c1) ?_) | (refine And.intro (by kernel_rfl) ?_) | (refine stpQ ?_))
  (refine z00 (by rfl) ?_ ?_ (by rfl)) <;> (repeat' (first | (exact eqA) | (refine shE ?_) | (refine And.intro ?_ ?_))) <;> first | rfl | simp [q]
 ·rw [decide_eq_false q]
  cases B
  ·repeat ((try conv=>whnf); first | (refine z1w q ?_) | (refine Exists.intro R.length (And.intro hl ?_)) | (refine Exists.intro _ (And.intro e1.symm ?_)) | (refine ccA ([]) (c1) ?_) | (refine And.intro (by kernel_rfl) ?_) | (refine stpQ ?_))
   (refine z00 (by rfl) ?_ ?_ (by rfl)) <;> (repeat' (first | (exact eqA) | (refine shE ?_) | (refine And.intro ?_ ?_))) <;> first | rfl | simp [q]
  ·repeat ((try conv=>whnf); first | (refine z1w q ?_) | (refine Exists.intro R.length (And.intro hl ?_)) | (refine Exists.intro _ (And.intro e1.symm ?_)) | (refine ccA ([]) (c1) ?_) | (refine And.intro (by kernel_rfl) ?_) | (refine stpQ ?_))
   (refine z00 (by rfl) ?_ ?_ (by rfl)) <;> (repeat' (first | (exact eqA) | (refine shE ?_) | (refine And.intro ?_ ?_))) <;> first | rfl | simp [q]
end Go.Proofs.YthcfalipgnpelaaGreatDoor
