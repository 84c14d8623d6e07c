/- Functions by content: auditors are made from their disks. -/
import Derived.Test.YthcfalipgnpelaaGreatDoorPaup
import Derived.Test.YthcfalipgnpelaaGreatDoorCsnp
namespace Go.Proofs.YthcfalipgnpelaaGreatDoor
set_option maxRecDepth 100000
set_option maxHeartbeats 8000000
set_option linter.unusedVariables false
set_option linter.unusedSimpArgs false
set_option linter.unusedSectionVars false
open Go.RowKit Pl
attribute [local irreducible] z0o z0p z0z AnsP LeP
theorem zmV (t:Bs):∃ w1 w2 w3 w4 w5 w6 w7 w8 w9,slR t = [.agg [.int .i64 w1,.int .i64 w2,.str w3,.str w4,.int .i64 w5,.sl 1 w6,.sl 1 w7,.sl 1 w8],.bool w9]:=by
 cases hs:z2C t with
 | none=>exact ⟨_,_,_,_,_,_,_,_,_,zmi hs⟩
 | some y=>exact ⟨_,_,_,_,_,_,_,_,_,zmj (h:=y.1) (g:=y.2) hs⟩
theorem zmx (ho:Int) (fs:List Fl) (po:List Bs) (s:Av) {n:Nat} (ok:AvOk n s) (hn:n ≤ 30000) (b:UInt8) (r:Bs) (hr:r.length ≤ 9000) :
 CT Tryz.prog 238 (avH ho fs po s .no) [.ptr 1 0 0,.str (b :: r)] (.tup []) (avH ho fs po s (akOf (b :: r))):=by
 have hl:(b :: r).length = r.length + 1:=rfl
 have h0:0 < (b :: r).length:=by simp
 have hbl:=b.toNat_lt
 have hpl:=ok.pl
 have hrl:=ok.rl
 have sl1:(slE s.ps).length = s.ps.length:=z3W _
 have sl2:(prE s.pr).length = s.pr.length:=zmw _
 have h1l:1 ≤ (b :: r).length:=by omega
 have hne:¬ (b :: r = []):=by simp
 by_cases k1:b.toNat = 1
 ·have k1':((b.toNat:Nat):Int) = 1:=by omega
  rw [akOf,if_pos k1]
  have c1:CT Tryz.prog 223 [] [.str ((b :: r).drop 1)] (.tup (slR r)) []:=zbI r (by omega)
  cases hs:z2C r with
  | none =>
    rw [zmi hs] at c1
    unfold avH avB
    refine z01 z03 4 rfl Tryz.func238 rfl rfl rfl ?_
    repeat ((try conv=>whnf); first | (refine z0e hne ?_) | (refine Exists.intro 0 (And.intro rfl (And.intro h0 ?_))) | (refine z0k k1' ?_) | (refine Exists.intro 1 (And.intro rfl (And.intro h1l ?_))) | (refine ccA ([]) (c1) ?_) | (refine And.intro (by kernel_rfl) ?_) | (refine stpQ ?_))
    (refine z00 (by rfl) ?_ ?_ (by rfl)) <;> (repeat' (first | (exact eqA) | (refine shE ?_) | (refine And.intro ?_ ?_)))
  | some y =>
    obtain ⟨h,g⟩:=y
    rw [zmj hs] at c1
    have happ:=zhS s.ps (h,g)
    obtain ⟨xa,xb,xc,xd⟩:=h
    obtain ⟨ya,yb,yc,yd⟩:=g
    unfold avH avB
    dsimp only at c1 happ ⊢
    rw [happ]
    refine z01 z03 4 rfl Tryz.func238 rfl rfl rfl ?_
    repeat ((try conv=>whnf); first | (refine z0e hne ?_) | (refine Exists.intro 0 (And.intro rfl (And.intro h0 ?_))) | (refine z0k k1' ?_) | (refine Exists.intro 1 (And.intro rfl (And.intro h1l ?_))) | (refine ccA ([]) (c1) ?_) | (refine And.intro (by simp only [List.length_append,List.length_cons,List.length_nil,List.length_set,List.length_replicate]; omega) ?_) | (refine And.intro (by kernel_rfl) ?_) | (refine stpQ ?_))
    (refine z00 (by rfl) ?_ ?_ (by rfl)) <;> (repeat' (first | (exact eqA) | (refine shE ?_) | (refine And.intro ?_ ?_)))
    all_goals rfl
 ·have k1':¬ ((b.toNat:Nat):Int) = 1:=by omega
  rw [akOf,if_neg k1]
  by_cases k2:b.toNat = 2
  ·have k2':((b.toNat:Nat):Int) = 2:=by omega
   rw [if_pos k2]
   have c0:CT Tryz.prog 286 [] [.str (b :: r),.int .i64 1] (rsT (z0g (b :: r) 1)) []:=zbc (b :: r) 1 (by omega) (by omega)
   have l0:=z3s (t:=b :: r) (p:=1) (bad:=false) (by omega)
   unfold z0G at l0 ⊢
   cases hS:z0g (b :: r) 1 with
   | none =>
     rw [hS] at c0
     simp only
     unfold rsT at c0
     simp only at c0
     rw [if_pos trivial]
     clear l0
     unfold avH avB
     refine z01 z03 4 rfl Tryz.func238 rfl rfl rfl ?_
     repeat ((try conv=>whnf); first | (refine z0e hne ?_) | (refine Exists.intro 0 (And.intro rfl (And.intro h0 ?_))) | (refine z0e k1' ?_) | (refine z0k k2' ?_) | (refine ccA ([]) (c0) ?_) | (refine And.intro (by kernel_rfl) ?_) | (refine stpQ ?_))
     (refine z00 (by rfl) ?_ ?_ (by rfl)) <;> (repeat' (first | (exact eqA) | (refine shE ?_) | (refine And.intro ?_ ?_)))
   | some A =>
     obtain ⟨x,q⟩:=A
     rw [hS] at c0 l0
     simp only at l0 ⊢
     unfold rsT at c0
     simp only at c0
     have c1:=zbI x (by omega)
     have c2:=zbI ((b :: r).drop q) (by simp; omega)
     have lq:=l0.1
     rw [if_neg (by decide)]
     unfold zmE
     clear hS
     cases hs:z2C x with
     | none =>
       rw [zmi hs] at c1
       simp only
       obtain ⟨w1,w2,w3,w4,w5,w6,w7,w8,w9,hR⟩:=zmV ((b :: r).drop q)
       rw [hR] at c2
       clear hR
       unfold avH avB
       refine z01 z03 4 rfl Tryz.func238 rfl rfl rfl ?_
       repeat ((try conv=>whnf); first | (refine z0e hne ?_) | (refine Exists.intro 0 (And.intro rfl (And.intro h0 ?_))) | (refine z0e k1' ?_) | (refine z0k k2' ?_) | (refine ccA ([]) (c0) ?_) | (refine ccA ([]) (c1) ?_) | (refine i_le lq ?_) | (refine ccA ([]) (c2) ?_) | (refine And.intro (by kernel_rfl) ?_) | (refine stpQ ?_))
       (refine z00 (by rfl) ?_ ?_ (by rfl)) <;> (repeat' (first | (exact eqA) | (refine shE ?_) | (refine And.intro ?_ ?_)))
     | some y =>
       obtain ⟨h,g⟩:=y
       rw [zmj hs] at c1
       cases hs2:z2C ((b :: r).drop q) with
       | none =>
         rw [zmi hs2] at c2
         simp only
         unfold avH avB
         refine z01 z03 4 rfl Tryz.func238 rfl rfl rfl ?_
         repeat ((try conv=>whnf); first | (refine z0e hne ?_) | (refine Exists.intro 0 (And.intro rfl (And.intro h0 ?_))) | (refine z0e k1' ?_) | (refine z0k k2' ?_) | (refine ccA ([]) (c0) ?_) | (refine ccA ([]) (c1) ?_) | (refine i_le lq ?_) | (refine ccA ([]) (c2) ?_) | (refine And.intro (by kernel_rfl) ?_) | (refine stpQ ?_))
         (refine z00 (by rfl) ?_ ?_ (by rfl)) <;> (repeat' (first | (exact eqA) | (refine shE ?_) | (refine And.intro ?_ ?_)))
       | some y' =>
         obtain ⟨h',g'⟩:=y'
         rw [zmj hs2] at c2
         have happ:=zmG s.pr ((h,g),(h',g'))
         unfold prC at happ
         obtain ⟨xa,xb,xc,xd⟩:=h
         obtain ⟨ya,yb,yc,yd⟩:=g
         obtain ⟨xa',xb',xc',xd'⟩:=h'
         obtain ⟨ya',yb',yc',yd'⟩:=g'
         unfold avH avB
         dsimp only at c1 c2 happ ⊢
         rw [happ]
         refine z01 z03 4 rfl Tryz.func238 rfl rfl rfl ?_
         repeat ((try conv=>whnf); first | (refine z0e hne ?_) | (refine Exists.intro 0 (And.intro rfl (And.intro h0 ?_))) | (refine z0e k1' ?_) | (refine z0k k2' ?_) | (refine ccA ([]) (c0) ?_) | (refine ccA ([]) (c1) ?_) | (refine i_le lq ?_) | (refine ccA ([]) (c2) ?_) | (refine And.intro (by simp only [List.length_append,List.length_cons,List.length_nil,List.length_set,List.length_replicate]; omega) ?_) | (refine And.intro (by kernel_rfl) ?_) | (refine stpQ ?_))
         (refine z00 (by rfl) ?_ ?_ (by rfl)) <;> (repeat' (first | (exact eqA) | (refine shE ?_) | (refine And.intro ?_ ?_)))
         all_goals rfl
  ·have k2':¬ ((b.toNat:Nat):Int) = 2:=by omega
   rw [if_neg k2]
   unfold avH avB
   refine z01 z03 4 rfl Tryz.func238 rfl rfl rfl ?_
   repeat ((try conv=>whnf); first | (refine z0e hne ?_) | (refine Exists.intro 0 (And.intro rfl (And.intro h0 ?_))) | (refine z0e k1' ?_) | (refine z0e k2' ?_) | (refine And.intro (by kernel_rfl) ?_) | (refine stpQ ?_))
   (refine z00 (by rfl) ?_ ?_ (by rfl)) <;> (repeat' (first | (exact eqA) | (refine shE ?_) | (refine And.intro ?_ ?_)))
theorem zmo (ho:Int) (fs:List Fl) (hf:z50 fs) (po:List Bs) (hpo:(po.length:Int) ≤ 100000000) :
 CT Tryz.prog 182 [] [.int .i64 ho,.agg [.sl 3 (flE fs)],.sl 1 (strE po)] (.agg (avE ho fs po (avOf (z0i fs zmh)))) []:=by
 have c1:=z9b fs hf.1
 have c2:=z92 fs zmh hf
 have c3:=zbL po hpo
 have hfacts:=z1h fs zmh
 generalize z0i fs zmh = ts at c2 hfacts ⊢
 have hts:=z05 ts
 have hts2:(ts.length:Int) ≤ 20001:=by omega
 unfold zmh at c2
 refine z01 z03 1 rfl Tryz.func182 rfl rfl rfl ?_
 repeat ((try conv=>whnf); first | (refine ccA ([]) (c1) ?_) | (refine ccA ([]) (c2) ?_) | (refine ccA ([]) (c3) ?_) | (refine And.intro (by kernel_rfl) ?_) | (refine stpQ ?_))
 refine z0K Nat (fun i=>⟨[(6,.ptr 1 0 0),(7,.ptr 2 0 0),(17,.sl 1 (strE ts)),(18,.int .i64 ((strE ts).length:Int)),(19,.int .i64 (i:Int))],
  [(1,some (.box [.int .i64 0,.bool false,.val nilV,.val nilV,.val nilV,.val nilV])),(2,some (avB ho fs po 3 4)),(3,some (.row 8 (slE (avOf (ts.take i)).ps))),(4,some (.row 16 (prE (avOf (ts.take i)).pr)))],5⟩) (fun i=>i ≤ ts.length) (fun i=>ts.length - i) 0 (by omega) ?_ ?_
 ·(refine z02 (by rfl) ?_ ?_)
  all_goals (repeat' (first | (exact trivial) | ((try conv=>whnf); first | (exact trivial) | (refine And.intro ?_ ?_))))
  all_goals first
   | rfl
   | decide
 ·intro Q1 hQ1 i hi
  by_cases hlt:i < ts.length
  ·have hlt2:(i:Int) < ((strE ts).length:Int):=by omega
   have hnx:=zmF hlt
   have g:=zmv (ts.take i)
   have hg:(ts.take i).length ≤ 30000:=by rw [List.length_take]; omega
   generalize (ts.take i).length = gn at g hg
   have hmem:=hfacts.1 _ (List.getElem_mem hlt)
   have gt:=zeB (ps:=ts) hlt
   generalize ts[i] = t at hnx hmem gt
   obtain ⟨b,r,rfl⟩:∃ b r,t = b :: r:=by
    cases t with
    | nil=>simp at hmem
    | cons b r=>exact ⟨b,r,rfl⟩
   have hr:r.length ≤ 9000:=by have:=hmem.2; simp at this; omega
   generalize avOf (ts.take i) = s at hnx g ⊢
   have cA:=zmP ho fs po s g hg b r hr
   have hs':zmu s (b :: r) = akDo s (akOf (b :: r)):=rfl
   rw [hs'] at hnx
   generalize akOf (b :: r) = rk at cA hnx
   clear hs' g hfacts hmem
   cases rk with
   | no =>
     unfold avH avB at cA
     unfold avB
     repeat ((try conv=>whnf); first | (refine i_at gt ?_) | (refine z16 ([2,3,4]) (cA) (by ((repeat' (first | (exact trivial) | (exact rfl) | (decide) | (refine And.intro ?_ ?_))); first | done | fail)) (by ((repeat' (first | (exact trivial) | (exact rfl) | (decide) | (refine And.intro ?_ ?_))); first | done | fail)) (by decide) (by rfl) (by first | exact .inl rfl | (refine .inr ⟨by simp [own2,own1,own0],fun e he=>?_⟩; simp only [List.mem_cons,List.not_mem_nil,or_false] at he <;> first | exact he.elim | (subst he; (first | exact z0b | exact z0a | exact z0c _ | exact z09 _)) | (rcases he with rfl | rfl <;> (first | exact z0b | exact z0a | exact z0c _ | exact z09 _)) | (rcases he with rfl | rfl | rfl <;> (first | exact z0b | exact z0a | exact z0c _ | exact z09 _)))) ?_) | (refine ccB ([2,3,4]) (cA) ?_) | (refine stpQ ?_))
     refine ⟨i + 1,by omega,by omega,?_⟩
     rw [hnx]
     (refine z02 (by rfl) ?_ ?_) <;> (repeat' (first | (exact eqA) | (refine shE ?_) | (refine And.intro ?_ ?_)))
     all_goals rfl
   | pin h g =>
     unfold avH avB at cA
     unfold avB
     repeat ((try conv=>whnf); first | (refine i_at gt ?_) | (refine z16 ([2,3,4]) (cA) (by ((repeat' (first | (exact trivial) | (exact rfl) | (decide) | (refine And.intro ?_ ?_))); first | done | fail)) (by ((repeat' (first | (exact trivial) | (exact rfl) | (decide) | (refine And.intro ?_ ?_))); first | done | fail)) (by decide) (by rfl) (by first | exact .inl rfl | (refine .inr ⟨by simp [own2,own1,own0],fun e he=>?_⟩; simp only [List.mem_cons,List.not_mem_nil,or_false] at he <;> first | exact he.elim | (subst he; (first | exact z0b | exact z0a | exact z0c _ | exact z09 _)) | (rcases he with rfl | rfl <;> (first | exact z0b | exact z0a | exact z0c _ | exact z09 _)) | (rcases he with rfl | rfl | rfl <;> (first | exact z0b | exact z0a | exact z0c _ | exact z09 _)))) ?_) | (refine ccB ([2,3,4]) (cA) ?_) | (refine stpQ ?_))
     refine ⟨i + 1,by omega,by omega,?_⟩
     rw [hnx]
     (refine z02 (by rfl) ?_ ?_) <;> (repeat' (first | (exact eqA) | (refine shE ?_) | (refine And.intro ?_ ?_)))
     all_goals rfl
   | two h g h' g' =>
     unfold avH avB at cA
     unfold avB
     repeat ((try conv=>whnf); first | (refine i_at gt ?_) | (refine z16 ([2,3,4]) (cA) (by ((repeat' (first | (exact trivial) | (exact rfl) | (decide) | (refine And.intro ?_ ?_))); first | done | fail)) (by ((repeat' (first | (exact trivial) | (exact rfl) | (decide) | (refine And.intro ?_ ?_))); first | done | fail)) (by decide) (by rfl) (by first | exact .inl rfl | (refine .inr ⟨by simp [own2,own1,own0],fun e he=>?_⟩; simp only [List.mem_cons,List.not_mem_nil,or_false] at he <;> first | exact he.elim | (subst he; (first | exact z0b | exact z0a | exact z0c _ | exact z09 _)) | (rcases he with rfl | rfl <;> (first | exact z0b | exact z0a | exact z0c _ | exact z09 _)) | (rcases he with rfl | rfl | rfl <;> (first | exact z0b | exact z0a | exact z0c _ | exact z09 _)))) ?_) | (refine ccB ([2,3,4]) (cA) ?_) | (refine stpQ ?_))
     refine ⟨i + 1,by omega,by omega,?_⟩
     rw [hnx]
     (refine z02 (by rfl) ?_ ?_) <;> (repeat' (first | (exact eqA) | (refine shE ?_) | (refine And.intro ?_ ?_)))
     all_goals rfl
  ·have hie:i = ts.length:=by omega
   subst hie
   rw [List.take_length]
   unfold avB
   repeat ((try conv=>whnf); first | (refine stpQ ?_))
   refine hQ1 _ _ ?_
   repeat ((try conv=>whnf); first | (refine And.intro (by kernel_rfl) ?_) | (refine stpQ ?_))
   (refine z00 (by rfl) ?_ ?_ (by rfl)) <;> (repeat' (first | (exact eqA) | (refine shE ?_) | (refine And.intro ?_ ?_)))
theorem zmQ (ho:Int) (fs:List Fl) (hf:z50 fs) (po:List Bs) (hpo:(po.length:Int) ≤ 100000000) :
 CT Tryz.prog 180 [] [.int .i64 ho,.agg [.sl 3 (flE fs)],.sl 1 (strE po)] (.agg (avE ho fs po (avOf (z0i fs zmh)))) []:=by
 have hfl:=z4F fs
 have hfl2:=hf.1
 have hpl:=z05 po
 have c2:=z7L fs zmh hf
 have hfacts:=z1h fs zmh
 generalize z0i fs zmh = ts at c2 hfacts ⊢
 have hts:=z05 ts
 have hts2:(ts.length:Int) ≤ 20001:=by omega
 unfold zmh at c2
 refine z01 z03 1 rfl Tryz.func180 rfl rfl rfl ?_
 repeat ((try conv=>whnf); first | (refine ccA ([]) (c2) ?_) | (refine And.intro (by simp only [List.length_append,List.length_cons,List.length_nil,List.nil_append,List.length_replicate,List.length_set]; omega) ?_) | (refine And.intro (by kernel_rfl) ?_) | (refine stpQ ?_))
 refine z0K Nat (fun i=>⟨[(6,.ptr 1 0 0),(7,.ptr 2 0 0),(8,.sl 1 (strE ts)),(9,.int .i64 (i:Int))],
  [(1,some (.box [.int .i64 0,.bool false,.val nilV,.val nilV,.val nilV,.val nilV])),(2,some (avB ho fs po 3 4)),(3,some (.row 8 (slE (avOf (ts.take i)).ps))),(4,some (.row 16 (prE (avOf (ts.take i)).pr)))],5⟩) (fun i=>i ≤ ts.length) (fun i=>ts.length - i) 0 (by omega) ?_ ?_
 ·(refine z02 (by rfl) ?_ ?_)
  all_goals (repeat' (first | (exact trivial) | ((try conv=>whnf); first | (exact trivial) | (refine And.intro ?_ ?_))))
  all_goals first
   | rfl
   | decide
 ·intro Q1 hQ1 i hi
  by_cases hlt:i < ts.length
  ·have hlt2:(i:Int) < ((strE ts).length:Int):=by omega
   have hnx:=zmF hlt
   have g:=zmv (ts.take i)
   have hg:(ts.take i).length ≤ 30000:=by rw [List.length_take]; omega
   generalize (ts.take i).length = gn at g hg
   have hmem:=hfacts.1 _ (List.getElem_mem hlt)
   have gt:=zeB (ps:=ts) hlt
   generalize ts[i] = t at hnx hmem gt
   obtain ⟨b,r,rfl⟩:∃ b r,t = b :: r:=by
    cases t with
    | nil=>simp at hmem
    | cons b r=>exact ⟨b,r,rfl⟩
   have hr:r.length ≤ 9000:=by have:=hmem.2; simp at this; omega
   generalize avOf (ts.take i) = s at hnx g ⊢
   have cA:=zmx ho fs po s g hg b r hr
   have hs':zmu s (b :: r) = akDo s (akOf (b :: r)):=rfl
   rw [hs'] at hnx
   generalize akOf (b :: r) = rk at cA hnx
   clear hs' g hfacts hmem
   cases rk with
   | no =>
     unfold avH avB at cA
     unfold avB
     repeat ((try conv=>whnf); first | (refine i_at gt ?_) | (refine z16 ([2,3,4]) (cA) (by ((repeat' (first | (exact trivial) | (exact rfl) | (decide) | (refine And.intro ?_ ?_))); first | done | fail)) (by ((repeat' (first | (exact trivial) | (exact rfl) | (decide) | (refine And.intro ?_ ?_))); first | done | fail)) (by decide) (by rfl) (by first | exact .inl rfl | (refine .inr ⟨by simp [own2,own1,own0],fun e he=>?_⟩; simp only [List.mem_cons,List.not_mem_nil,or_false] at he <;> first | exact he.elim | (subst he; (first | exact z0b | exact z0a | exact z0c _ | exact z09 _)) | (rcases he with rfl | rfl <;> (first | exact z0b | exact z0a | exact z0c _ | exact z09 _)) | (rcases he with rfl | rfl | rfl <;> (first | exact z0b | exact z0a | exact z0c _ | exact z09 _)))) ?_) | (refine ccB ([2,3,4]) (cA) ?_) | (refine stpQ ?_))
     refine ⟨i + 1,by omega,by omega,?_⟩
     rw [hnx]
     (refine z02 (by rfl) ?_ ?_) <;> (repeat' (first | (exact eqA) | (refine shE ?_) | (refine And.intro ?_ ?_)))
     all_goals rfl
   | pin h g =>
     unfold avH avB at cA
     unfold avB
     repeat ((try conv=>whnf); first | (refine i_at gt ?_) | (refine z16 ([2,3,4]) (cA) (by ((repeat' (first | (exact trivial) | (exact rfl) | (decide) | (refine And.intro ?_ ?_))); first | done | fail)) (by ((repeat' (first | (exact trivial) | (exact rfl) | (decide) | (refine And.intro ?_ ?_))); first | done | fail)) (by decide) (by rfl) (by first | exact .inl rfl | (refine .inr ⟨by simp [own2,own1,own0],fun e he=>?_⟩; simp only [List.mem_cons,List.not_mem_nil,or_false] at he <;> first | exact he.elim | (subst he; (first | exact z0b | exact z0a | exact z0c _ | exact z09 _)) | (rcases he with rfl | rfl <;> (first | exact z0b | exact z0a | exact z0c _ | exact z09 _)) | (rcases he with rfl | rfl | rfl <;> (first | exact z0b | exact z0a | exact z0c _ | exact z09 _)))) ?_) | (refine ccB ([2,3,4]) (cA) ?_) | (refine stpQ ?_))
     refine ⟨i + 1,by omega,by omega,?_⟩
     rw [hnx]
     (refine z02 (by rfl) ?_ ?_) <;> (repeat' (first | (exact eqA) | (refine shE ?_) | (refine And.intro ?_ ?_)))
     all_goals rfl
   | two h g h' g' =>
     unfold avH avB at cA
     unfold avB
     repeat ((try conv=>whnf); first | (refine i_at gt ?_) | (refine z16 ([2,3,4]) (cA) (by ((repeat' (first | (exact trivial) | (exact rfl) | (decide) | (refine And.intro ?_ ?_))); first | done | fail)) (by ((repeat' (first | (exact trivial) | (exact rfl) | (decide) | (refine And.intro ?_ ?_))); first | done | fail)) (by decide) (by rfl) (by first | exact .inl rfl | (refine .inr ⟨by simp [own2,own1,own0],fun e he=>?_⟩; simp only [List.mem_cons,List.not_mem_nil,or_false] at he <;> first | exact he.elim | (subst he; (first | exact z0b | exact z0a | exact z0c _ | exact z09 _)) | (rcases he with rfl | rfl <;> (first | exact z0b | exact z0a | exact z0c _ | exact z09 _)) | (rcases he with rfl | rfl | rfl <;> (first | exact z0b | exact z0a | exact z0c _ | exact z09 _)))) ?_) | (refine ccB ([2,3,4]) (cA) ?_) | (refine stpQ ?_))
     refine ⟨i + 1,by omega,by omega,?_⟩
     rw [hnx]
     (refine z02 (by rfl) ?_ ?_) <;> (repeat' (first | (exact eqA) | (refine shE ?_) | (refine And.intro ?_ ?_)))
     all_goals rfl
  ·have hie:i = ts.length:=by omega
   subst hie
   rw [List.take_length]
   unfold avB
   repeat ((try conv=>whnf); first | (refine stpQ ?_))
   refine hQ1 _ _ ?_
   repeat ((try conv=>whnf); first | (refine And.intro (by kernel_rfl) ?_) | (refine stpQ ?_))
   (refine z00 (by rfl) ?_ ?_ (by rfl)) <;> (repeat' (first | (exact eqA) | (refine shE ?_) | (refine And.intro ?_ ?_)))
theorem zmr (ho:Nat) (hho:ho ≤ 2) (fs:List Fl) (hf:z50 fs) :
 CT Tryz.prog 114 [] [.int .i64 (ho:Int),.agg [.sl 3 (flE fs)]] (.agg (avE (ho:Int) fs (z2B (z3U ho) 16) (avOf (z0i fs zmh)))) []:=by
 have c1:=zkc ho hho
 have c2:=zmU (z3U ho) (zet ho)
 have c3:=zmo (ho:Int) fs hf (z2B (z3U ho) 16) (by rw [z3E]; omega)
 generalize z2B (z3U ho) 16 = P at c2 c3 ⊢
 generalize z3U ho = S at c1 c2
 unfold avE at c3 ⊢
 refine z01 z03 1 rfl Tryz.func114 rfl rfl rfl ?_
 repeat ((try conv=>whnf); first | (refine ccA ([]) (c1) ?_) | (refine ccA ([]) (c2) ?_) | (refine ccA ([]) (c3) ?_) | (refine And.intro (by kernel_rfl) ?_) | (refine stpQ ?_))
 (refine z00 (by rfl) ?_ ?_ (by rfl)) <;> (repeat' (first | (exact eqA) | (refine shE ?_) | (refine And.intro ?_ ?_)))
theorem zmR (ho:Nat) (hho:ho ≤ 2) (fs:List Fl) (hf:z50 fs) :
 CT Tryz.prog 109 [] [.int .i64 (ho:Int),.agg [.sl 3 (flE fs)]] (.agg (avE (ho:Int) fs (z2B (z3U ho) 16) (avOf (z0i fs zmh)))) []:=by
 have c1:=zi3 ho hho
 have c2:=zkg (z3U ho) (zet ho)
 have c3:=zmQ (ho:Int) fs hf (z2B (z3U ho) 16) (by rw [z3E]; omega)
 generalize z2B (z3U ho) 16 = P at c2 c3 ⊢
 generalize z3U ho = S at c1 c2
 unfold avE at c3 ⊢
 refine z01 z03 1 rfl Tryz.func109 rfl rfl rfl ?_
 repeat ((try conv=>whnf); first | (refine ccA ([]) (c1) ?_) | (refine ccA ([]) (c2) ?_) | (refine ccA ([]) (c3) ?_) | (refine And.intro (by kernel_rfl) ?_) | (refine stpQ ?_))
 (refine z00 (by rfl) ?_ ?_ (by rfl)) <;> (repeat' (first | (exact eqA) | (refine shE ?_) | (refine And.intro ?_ ?_)))
end Go.Proofs.YthcfalipgnpelaaGreatDoor
