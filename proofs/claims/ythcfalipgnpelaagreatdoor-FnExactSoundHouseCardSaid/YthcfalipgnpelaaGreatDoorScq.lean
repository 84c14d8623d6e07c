/- Functions by content: the hash of a shard. Functions by content: the common root of shards. -/
import Derived.Test.YthcfalipgnpelaaGreatDoorVd
import Derived.Test.YthcfalipgnpelaaGreatDoorSta
import Derived.Test.YthcfalipgnpelaaGreatDoorSzd
namespace Go.Proofs.YthcfalipgnpelaaGreatDoor
set_option maxRecDepth 100000
set_option maxHeartbeats 4000000
set_option linter.unusedVariables false
set_option linter.unusedSimpArgs false
open Go.RowKit Pl
section
attribute [local irreducible] z0o z0p z0z AnsP LeP
theorem ziV {k p:Nat} (hk:k≤2) (hp:p<2 ^ k):(p:Int)≤2 ^ k-1:=by
 rcases (show k=0 ∨ k=1 ∨ k=2 by omega) with rfl|rfl|rfl
 ·have:p<1:=hp
  have e:(2:Int) ^ 0=1:=rfl
  omega
 ·have:p<2:=hp
  have e:(2:Int) ^ 1=2:=rfl
  omega
 ·have:p<4:=hp
  have e:(2:Int) ^ 2=4:=rfl
  omega
theorem zdm (l:List Lf) (k p:Nat) (h:z06 l=true) (hk:k≤2) (hp:p<2 ^ k):CT Tryz.prog 200 [] [.sl 2 (lvE l),.int .i64 (k:Int),.int .i64 (p:Int),.int .i64 16] (.str (z0U l 16 (8-k) p)) []:=by
 have hs:=z2L h
 have c1:=z3w l (by omega) hs.2
 rw [h] at c1
 have c2:=c_in (k:Int) 0 8
 rw [z0R (by omega)] at c2
 have hpw:=zi8 hk
 have hpI:=ziV hk hp
 have e1:=shl1 hk
 have e2:IntKind.i64.wrap ((2:Int) ^ k-1)=2 ^ k-1:=by rw [z08 (by omega) (by omega)]
 have c3:=c_in (p:Int) 0 (2 ^ k-1)
 rw [z0R (by omega)] at c3
 have c4:CT Tryz.prog 255 [] [.int .i64 16] (.bool true) []:=c_isW 16 (by omega)
 have c5:CT Tryz.prog 256 [] [.sl 2 (lvE l),.int .i64 16] (.agg [.sl 2 (lvE l),.ref 1,.int .i64 16]) [.row 1 (ixE l)]:=zfn l 16 h
 have c6:CT Tryz.prog 257 [] [.agg [.sl 2 (lvE l),.sl 1 (ixE l),.int .i64 16],.int .i64 (8-((8-k:Nat):Int)),.int .i64 (p:Int)] (.str (z0U l 16 (8-k) p)) []:=zhA l 16 h (by omega) (8-k) p (by omega) (by rw [show 8-(8-k)=k by omega];exact hp)
 rw [show (8:Int)-((8-k:Nat):Int)=(k:Int) by omega] at c6
 generalize z0U l 16 (8-k) p=R at c6 ⊢
 generalize (2:Int) ^ k=pk at e1 e2 c3
 refine z01 z03 1 rfl Tryz.func200 rfl rfl rfl ?_
 repeat ((try conv=>whnf);first|refine ccA ([]) (c1) ?_|refine ccA ([]) (c2) ?_|refine And.intro (show _≤(64:Int) from by omega) ?_|refine Exists.intro _ (And.intro e1.symm ?_)|refine Exists.intro _ (And.intro e2.symm ?_)|refine ccA ([]) (c3) ?_|refine ccA ([]) (c4) ?_|refine ccA ([]) (c5) ?_|refine ccA ([]) (c6) ?_|refine And.intro (by kernel_rfl) ?_|refine stpQ ?_)
 (refine z00 (by rfl) ?_ ?_ (by rfl))<;>(repeat' (first|exact eqA|refine shE ?_|refine And.intro ?_ ?_))
theorem zc9 (l:List Lf) (k p:Nat) (h:z06 l=true) (hk:k≤2) (hp:p<2 ^ k):CT Tryz.prog 190 [] [.sl 2 (lvE l),.int .i64 (k:Int),.int .i64 (p:Int),.int .i64 16] (.str (z0U l 16 (8-k) p)) []:=by
 have hs:=z2L h
 have c1:=z2V l (by omega) hs.2
 rw [h] at c1
 have c2:=z1f (k:Int) 0 8
 rw [z0R (by omega)] at c2
 have hpI:=ziV hk hp
 have e1:=shl1 hk
 have e1u:IntKind.u64.wrap ((k:Nat):Int)=((k:Nat):Int):=z7U (by omega)
 have ha1:¬ (p:Int)<0:=by omega
 have ha2:¬ (p:Int) ≥ 2 ^ k:=by omega
 have c3:CT Tryz.prog 31 [] [.int .i64 16,.int .i64 1,.int .i64 32] (.bool true) []:=z1f 16 1 32
 have c4:=zm1 l h
 have c5:CT Tryz.prog 247 [] [.int .i64 16] (.ref 1) [.row 1 (strE (empJ 16 8))]:=zhF 16 (by omega)
 have c6:CT Tryz.prog 245 [] [.sl 3 (spE l),.int .i64 (8-((8-k:Nat):Int)),.int .i64 (p:Int),.int .i64 16,.sl 1 (strE (empJ 16 8))] (.str (z0U l 16 (8-k) p)) []:=zcR 16 (by omega) (8-k) p l h (by omega) (by rw [show 8-(8-k)=k by omega];exact hp)
 rw [show (8:Int)-((8-k:Nat):Int)=(k:Int) by omega] at c6
 generalize z0U l 16 (8-k) p=R at c6 ⊢
 generalize empJ 16 8=em at c5 c6
 generalize (2:Int) ^ k=pk at e1 ha2 hpI
 refine z01 z03 1 rfl Tryz.func190 rfl rfl rfl ?_
 repeat ((try conv=>whnf);first|refine ccA ([]) (c1) ?_|refine ccA ([]) (c2) ?_|refine And.intro (show _≤(64:Int) from by omega) ?_|refine Exists.intro _ (And.intro e1.symm ?_)|refine Exists.intro _ (And.intro e1u.symm ?_)|refine ccA ([]) (c3) ?_|refine ccA ([]) (c4) ?_|refine ccA ([]) (c5) ?_|refine ccA ([]) (c6) ?_|refine And.intro (by kernel_rfl) ?_|refine stpQ ?_)
 (refine z00 (by rfl) ?_ ?_ (by rfl))<;>(repeat' (first|exact eqA|refine shE ?_|refine And.intro ?_ ?_))
theorem zca (l:List Lf) (k p:Nat) (h:z06 l=true) (hk:k≤2) (hp:p<2 ^ k):CT Tryz.prog 133 [] [.sl 2 (lvE l),.int .i64 (k:Int),.int .i64 (p:Int),.int .i64 16] (.str (z0U l 16 (8-k) p)) []:=by
 have c0:=z68 (k:Int)
 rw [z0R (by omega)] at c0
 have c1:=zdm l k p h hk hp
 generalize z0U l 16 (8-k) p=R at c1 ⊢
 refine z01 z03 1 rfl Tryz.func133 rfl rfl rfl ?_
 repeat ((try conv=>whnf);first|refine ccA ([]) (c0) ?_|refine ccA ([]) (c1) ?_|refine And.intro (by kernel_rfl) ?_|refine stpQ ?_)
 (refine z00 (by rfl) ?_ ?_ (by rfl))<;>(repeat' (first|exact eqA|refine shE ?_|refine And.intro ?_ ?_))
theorem zah (l:List Lf) (k p:Nat) (h:z06 l=true) (hk:k≤2) (hp:p<2 ^ k):CT Tryz.prog 125 [] [.sl 2 (lvE l),.int .i64 (k:Int),.int .i64 (p:Int),.int .i64 16] (.str (z0U l 16 (8-k) p)) []:=by
 have c0:=z1f (k:Int) 0 2
 rw [z0R (by omega)] at c0
 have c1:=zc9 l k p h hk hp
 generalize z0U l 16 (8-k) p=R at c1 ⊢
 refine z01 z03 1 rfl Tryz.func125 rfl rfl rfl ?_
 repeat ((try conv=>whnf);first|refine ccA ([]) (c0) ?_|refine ccA ([]) (c1) ?_|refine And.intro (by kernel_rfl) ?_|refine stpQ ?_)
 (refine z00 (by rfl) ?_ ?_ (by rfl))<;>(repeat' (first|exact eqA|refine shE ?_|refine And.intro ?_ ?_))
end
end Go.Proofs.YthcfalipgnpelaaGreatDoor
namespace Go.Proofs.YthcfalipgnpelaaGreatDoor
set_option maxRecDepth 100000
set_option maxHeartbeats 4000000
set_option linter.unusedVariables false
set_option linter.unusedSimpArgs false
open Go.RowKit Pl
section
attribute [local irreducible] z0o z0p z0z AnsP LeP
theorem z8e {l:List Bs} {d:Nat} (h:l.length=2 ^ d):∀ j,j≤d→(lvlA l j).length=2 ^ (d-j)
 | 0,_=>h
 | j+1,hj=>by
   rw [show lvlA l (j+1)=upA (lvlA l j) ((lvlA l j).length / 2) from rfl,z8a,z8e h j (by omega),show d-j=(d-(j+1))+1 by omega,Nat.pow_succ]
   exact Nat.mul_div_cancel _ (by decide)
def ziW (n:Nat):Nat:=if n=4 then 2 else if n=2 then 1 else 0
def z5Q (l:List Bs):Bs:=pAt (lvlA l (ziW l.length)) 0
def z6h (l:List Bs):Bool:=decide (l.length=1 ∨ l.length=2 ∨ l.length=4)
def zg8 (l:List Bs):T:=bif z6h l then .tup [.str (z5Q l),.bool true] else .tup [.str [],.bool false]
theorem zcb {l:List Bs} (h:z6h l=true):l.length=2 ^ ziW l.length∧ziW l.length≤2:=by
 have h:=of_decide_eq_true h
 rcases h with h|h|h<;>rw [h]<;>decide
theorem ziX (l:List Bs) (hl:l.length≤10) (hw:∀ x ∈ l,x.length=16):CT Tryz.prog 201 [] [.sl 1 (strE l),.int .i64 16] (.bool (z6h l)) []:=by
 have hlen:=z05 l
 have hall:(l.all fun x=>decide ((x.length:Int)=16))=true:=List.all_eq_true.2 fun x hx=>decide_eq_true (by have:=hw x hx;omega)
 have c1:CT Tryz.prog 255 [] [.int .i64 16] (.bool true) []:=c_isW 16 (by omega)
 have c2:=zhB l 16 (by omega)
 rw [hall] at c2
 unfold z6h
 refine z01 z03 1 rfl Tryz.func201 rfl rfl rfl ?_
 by_cases q1:l.length=1
 ·rw [decide_eq_true (.inl q1)]
  have p1:(l.length:Int)=1:=by omega
  repeat ((try conv=>whnf);first|refine Exists.intro l.length (And.intro hlen ?_)|refine z0k p1 ?_|refine ccA ([]) (c1) ?_|refine ccA ([]) (c2) ?_|refine And.intro (by kernel_rfl) ?_|refine stpQ ?_)
  (refine z00 (by rfl) ?_ ?_ (by rfl))<;>(repeat' (first|exact eqA|refine shE ?_|refine And.intro ?_ ?_))<;>simp [p1]
 ·have p1:¬ (l.length:Int)=1:=by omega
  by_cases q2:l.length=2
  ·rw [decide_eq_true (.inr (.inl q2))]
   have p2:(l.length:Int)=2:=by omega
   repeat ((try conv=>whnf);first|refine Exists.intro l.length (And.intro hlen ?_)|refine z0e p1 ?_|refine z0k p2 ?_|refine ccA ([]) (c1) ?_|refine ccA ([]) (c2) ?_|refine And.intro (by kernel_rfl) ?_|refine stpQ ?_)
   (refine z00 (by rfl) ?_ ?_ (by rfl))<;>(repeat' (first|exact eqA|refine shE ?_|refine And.intro ?_ ?_))<;>simp [p2]
  ·have p2:¬ (l.length:Int)=2:=by omega
   by_cases q4:l.length=4
   ·rw [decide_eq_true (.inr (.inr q4))]
    have p4:(l.length:Int)=4:=by omega
    repeat ((try conv=>whnf);first|refine Exists.intro l.length (And.intro hlen ?_)|refine z0e p1 ?_|refine z0e p2 ?_|refine z0k p4 ?_|refine ccA ([]) (c1) ?_|refine ccA ([]) (c2) ?_|refine And.intro (by kernel_rfl) ?_|refine stpQ ?_)
    (refine z00 (by rfl) ?_ ?_ (by rfl))<;>(repeat' (first|exact eqA|refine shE ?_|refine And.intro ?_ ?_))<;>simp [p4]
   ·rw [decide_eq_false (by omega)]
    have p4:¬ (l.length:Int)=4:=by omega
    repeat ((try conv=>whnf);first|refine Exists.intro l.length (And.intro hlen ?_)|refine z0e p1 ?_|refine z0e p2 ?_|refine z0e p4 ?_|refine ccA ([]) (c1) ?_|refine ccA ([]) (c2) ?_|refine And.intro (by kernel_rfl) ?_|refine stpQ ?_)
    (refine z00 (by rfl) ?_ ?_ (by rfl))<;>(repeat' (first|exact eqA|refine shE ?_|refine And.intro ?_ ?_))<;>simp [p1,p2,p4]
theorem zg9 (l:List Bs) (hl:l.length≤10) (hw:∀ x ∈ l,x.length=16):CT Tryz.prog 191 [] [.sl 1 (strE l),.int .i64 16] (.bool (z6h l)) []:=by
 have hlen:=z05 l
 have c2:=c_wide l 16 (by omega)
 have hall:Pl.wideB l 16=true:=by
  unfold Pl.wideB
  rw [Bool.and_eq_true]
  exact ⟨List.all_eq_true.2 fun x hx=>decide_eq_true (by have:=hw x hx;omega),rfl⟩
 rw [hall] at c2
 unfold z6h
 refine z01 z03 1 rfl Tryz.func191 rfl rfl rfl ?_
 by_cases q1:l.length=1
 ·rw [decide_eq_true (.inl q1)]
  have p1:(l.length:Int)=1:=by omega
  repeat ((try conv=>whnf);first|refine Exists.intro l.length (And.intro hlen ?_)|refine z0k p1 ?_|refine ccA ([]) (c2) ?_|refine And.intro (by kernel_rfl) ?_|refine stpQ ?_)
  (refine z00 (by rfl) ?_ ?_ (by rfl))<;>(repeat' (first|exact eqA|refine shE ?_|refine And.intro ?_ ?_))<;>simp [p1]
 ·have p1:¬ (l.length:Int)=1:=by omega
  by_cases q2:l.length=2
  ·rw [decide_eq_true (.inr (.inl q2))]
   have p2:(l.length:Int)=2:=by omega
   repeat ((try conv=>whnf);first|refine Exists.intro l.length (And.intro hlen ?_)|refine z0e p1 ?_|refine z0k p2 ?_|refine ccA ([]) (c2) ?_|refine And.intro (by kernel_rfl) ?_|refine stpQ ?_)
   (refine z00 (by rfl) ?_ ?_ (by rfl))<;>(repeat' (first|exact eqA|refine shE ?_|refine And.intro ?_ ?_))<;>simp [p2]
  ·have p2:¬ (l.length:Int)=2:=by omega
   by_cases q4:l.length=4
   ·rw [decide_eq_true (.inr (.inr q4))]
    have p4:(l.length:Int)=4:=by omega
    repeat ((try conv=>whnf);first|refine Exists.intro l.length (And.intro hlen ?_)|refine z0e p1 ?_|refine z0e p2 ?_|refine z0k p4 ?_|refine ccA ([]) (c2) ?_|refine And.intro (by kernel_rfl) ?_|refine stpQ ?_)
    (refine z00 (by rfl) ?_ ?_ (by rfl))<;>(repeat' (first|exact eqA|refine shE ?_|refine And.intro ?_ ?_))<;>simp [p4]
   ·rw [decide_eq_false (by omega)]
    have p4:¬ (l.length:Int)=4:=by omega
    repeat ((try conv=>whnf);first|refine Exists.intro l.length (And.intro hlen ?_)|refine z0e p1 ?_|refine z0e p2 ?_|refine z0e p4 ?_|refine ccA ([]) (c2) ?_|refine And.intro (by kernel_rfl) ?_|refine stpQ ?_)
    (refine z00 (by rfl) ?_ ?_ (by rfl))<;>(repeat' (first|exact eqA|refine shE ?_|refine And.intro ?_ ?_))<;>simp [p1,p2,p4]
theorem zme (l:List Bs) (hl:l.length≤60):CT Tryz.prog 192 [] [.sl 1 (strE l),.int .i64 16] (.sl 1 (strE (upA l (l.length / 2)))) []:=by
 have hlen:=z05 l
 refine z01 z0q 1 rfl Tryz.func192 rfl rfl rfl ?_
 repeat ((try conv=>whnf);first|refine stpQ ?_)
 refine z07 0 ⟨[(5,.ref 1)],[(1,some (.row 1 (strE (upA l (l.length / 2)))))],2⟩ Nat (fun k=>⟨[(0,.sl 1 (strE l)),(1,.int .i64 16),(5,.ref 1),(6,.int .i64 ((2 * k:Nat):Int))],[(1,some (.row 1 (strE (upA l k))))],2⟩) (fun k=>k≤l.length / 2) (fun k=>l.length / 2-k) 0 (by omega) ?_ ?_ ?_
 ·(refine z02 (by rfl) ?_ ?_)<;>(repeat' (first|exact eqA|refine shE ?_|refine And.intro ?_ ?_))<;>first|rfl|decide
 ·intro k hk
  by_cases hlt:k<l.length / 2
  ·have h0:2 * k<l.length:=by omega
   have h1:2 * k+1<l.length:=by omega
   have g0:=z0j h0
   have g1:=z0j h1
   have cs:=z8b 3 [pAt l (2 * k),pAt l (2 * k+1)] 16 (by omega) (by simp) (by omega)
   have hnx:=zae l k
   have hll:=z8a l k
   generalize upA l k=o at hnx hll ⊢
   generalize z8y 3 [pAt l (2 * k),pAt l (2 * k+1)] 16=r at cs hnx
   generalize pAt l (2 * k)=u0 at g0 cs
   generalize pAt l (2 * k+1)=u1 at g1 cs
   have hol:=z05 o
   have e1:IntKind.i64.wrap (((2 * k:Nat):Int)+1)=((2 * k+1:Nat):Int):=by rw [z08 (by omega) (by omega)];omega
   have e2:IntKind.i64.wrap (((2 * k:Nat):Int)+2)=((2 * (k+1):Nat):Int):=by rw [z08 (by omega) (by omega)];omega
   have h2:((2 * k+1:Nat):Int)<(l.length:Int):=by omega
   repeat ((try conv=>whnf);first|refine Exists.intro _ (And.intro e1.symm ?_)|refine Exists.intro l.length (And.intro hlen ?_)|refine i_at g0 ?_|refine i_at g1 ?_|refine ccA ([]) (cs) ?_|refine And.intro (by simp [z05];omega) ?_|refine Exists.intro _ (And.intro e2.symm ?_)|refine And.intro (by kernel_rfl) ?_|refine stpQ ?_)
   refine ⟨k+1,by omega,by omega,?_⟩
   rw [hnx]
   (refine z02 (by rfl) ?_ ?_)<;>(repeat' (first|exact eqA|refine shE ?_|refine And.intro ?_ ?_))
   rw [z1k];rfl
  ·obtain rfl:k=l.length / 2:=by omega
   have e1:IntKind.i64.wrap (((2 * (l.length / 2):Nat):Int)+1)=((2 * (l.length / 2)+1:Nat):Int):=by rw [z08 (by omega) (by omega)];omega
   have h2:¬ ((2 * (l.length / 2)+1:Nat):Int)<(l.length:Int):=by omega
   repeat ((try conv=>whnf);first|refine Exists.intro _ (And.intro e1.symm ?_)|refine Exists.intro l.length (And.intro hlen ?_)|refine stpQ ?_)
   (refine z02 (by rfl) ?_ ?_)<;>(repeat' (first|exact eqA|refine shE ?_|refine And.intro ?_ ?_))
 ·repeat ((try conv=>whnf);first|refine stpQ ?_)
  (refine z00 (by rfl) ?_ ?_ (by rfl))<;>(repeat' (first|exact eqA|refine shE ?_|refine And.intro ?_ ?_))
theorem z8z (l:List Bs) (hl:l.length≤10) (hw:∀ x ∈ l,x.length=16):CT Tryz.prog 134 [] [.sl 1 (strE l),.int .i64 16] (zg8 l) []:=by
 have c1:=ziX l hl hw
 unfold zg8
 cases hc:z6h l with
 | false =>
   rw [hc] at c1
   rw [show (bif false then T.tup [.str (z5Q l),.bool true] else T.tup [.str [],.bool false])=.tup [.str [],.bool false] from rfl]
   refine z01 z03 1 rfl Tryz.func134 rfl rfl rfl ?_
   repeat ((try conv=>whnf);first|refine ccA ([]) (c1) ?_|refine And.intro (by kernel_rfl) ?_|refine stpQ ?_)
   (refine z00 (by rfl) ?_ ?_ (by rfl))<;>(repeat' (first|exact eqA|refine shE ?_|refine And.intro ?_ ?_))
 | true =>
   rw [hc] at c1
   rw [show (bif true then T.tup [.str (z5Q l),.bool true] else T.tup [.str [],.bool false])=.tup [.str (z5Q l),.bool true] from rfl]
   obtain ⟨hp,hd⟩:=zcb hc
   have hL:=z8e hp
   unfold z5Q
   generalize ziW l.length=d at hp hd hL ⊢
   refine z01 z03 1 rfl Tryz.func134 rfl rfl rfl ?_
   repeat ((try conv=>whnf);first|refine ccA ([]) (c1) ?_|refine And.intro (by kernel_rfl) ?_|refine stpQ ?_)
   refine z07 0 ⟨[(6,.sl 1 (strE (lvlA l d)))],[],1⟩ Nat (fun j=>⟨[(1,.int .i64 16),(6,.sl 1 (strE (lvlA l j)))],[],1⟩) (fun j=>j≤d) (fun j=>d-j) 0 (by omega) ?_ ?_ ?_
   ·(refine z02 (by rfl) ?_ ?_)<;>(repeat' (first|exact eqA|refine shE ?_|refine And.intro ?_ ?_))<;>first|rfl|decide
   ·intro j hj
    have hj2:=hL j hj
    by_cases hlt:j<d
    ·have h2:2≤2 ^ (d-j)∧2 ^ (d-j)≤4:=by
      rcases (by omega:d-j=1 ∨ d-j=2) with e|e<;>rw [e]<;>decide
     have hnx:lvlA l (j+1)=upA (lvlA l j) ((lvlA l j).length / 2):=rfl
     have cu:=zeF (lvlA l j) (by omega)
     generalize 2 ^ (d-j)=pw at h2 hj2
     generalize lvlA l j=o at hj2 cu hnx ⊢
     have ho:=z05 o
     have h3:(o.length:Int) > 1:=by omega
     repeat ((try conv=>whnf);first|refine Exists.intro o.length (And.intro ho ?_)|refine ccA ([]) (cu) ?_|refine stpQ ?_)
     refine ⟨j+1,by omega,by omega,?_⟩
     rw [hnx]
     (refine z02 (by rfl) ?_ ?_)<;>(repeat' (first|exact eqA|refine shE ?_|refine And.intro ?_ ?_))
    ·obtain rfl:j=d:=by omega
     rw [Nat.sub_self] at hj2
     generalize lvlA l j=o at hj2 ⊢
     have ho:=z05 o
     repeat ((try conv=>whnf);first|refine Exists.intro 1 (And.intro (ho.trans hj2) ?_)|refine stpQ ?_)
     (refine z02 (by rfl) ?_ ?_)<;>(repeat' (first|exact eqA|refine shE ?_|refine And.intro ?_ ?_))
   ·have hj2:=hL d (Nat.le_refl d)
    rw [Nat.sub_self] at hj2
    generalize lvlA l d=o at hj2 ⊢
    have g:=z0j (ps:=o) (k:=0) (by omega)
    repeat ((try conv=>whnf);first|refine i_at g ?_|refine Exists.intro 0 (Exists.intro _ (And.intro rfl (And.intro g ?_)))|refine stpQ ?_)
    (refine z00 (by rfl) ?_ ?_ (by rfl))<;>(repeat' (first|exact eqA|refine shE ?_|refine And.intro ?_ ?_))
theorem z8f (l:List Bs) (hl:l.length≤10) (hw:∀ x ∈ l,x.length=16):CT Tryz.prog 126 [] [.sl 1 (strE l),.int .i64 16] (zg8 l) []:=by
 have c1:=zg9 l hl hw
 have hlen:=z05 l
 unfold zg8
 cases hc:z6h l with
 | false =>
   rw [hc] at c1
   rw [show (bif false then T.tup [.str (z5Q l),.bool true] else T.tup [.str [],.bool false])=.tup [.str [],.bool false] from rfl]
   refine z01 z03 1 rfl Tryz.func126 rfl rfl rfl ?_
   repeat ((try conv=>whnf);first|refine ccA ([]) (c1) ?_|refine And.intro (by kernel_rfl) ?_|refine stpQ ?_)
   (refine z00 (by rfl) ?_ ?_ (by rfl))<;>(repeat' (first|exact eqA|refine shE ?_|refine And.intro ?_ ?_))
 | true =>
   rw [hc] at c1
   rw [show (bif true then T.tup [.str (z5Q l),.bool true] else T.tup [.str [],.bool false])=.tup [.str (z5Q l),.bool true] from rfl]
   obtain ⟨hp,hd⟩:=zcb hc
   have hL:=z8e hp
   unfold z5Q
   generalize ziW l.length=d at hp hd hL ⊢
   refine z01 z03 1 rfl Tryz.func126 rfl rfl rfl ?_
   repeat ((try conv=>whnf);first|refine ccA ([]) (c1) ?_|refine And.intro (by rw [List.length_append,hlen];simp;omega) ?_|refine And.intro (by kernel_rfl) ?_|refine stpQ ?_)
   refine z07 0 ⟨[(6,.sl 1 (strE (lvlA l d)))],[],1⟩ Nat (fun j=>⟨[(1,.int .i64 16),(6,.sl 1 (strE (lvlA l j)))],[],1⟩) (fun j=>j≤d) (fun j=>d-j) 0 (by omega) ?_ ?_ ?_
   ·(refine z02 (by rfl) ?_ ?_)<;>(repeat' (first|exact eqA|refine shE ?_|refine And.intro ?_ ?_))<;>first|rfl|decide
   ·intro j hj
    have hj2:=hL j hj
    by_cases hlt:j<d
    ·have h2:2≤2 ^ (d-j)∧2 ^ (d-j)≤4:=by
      rcases (by omega:d-j=1 ∨ d-j=2) with e|e<;>rw [e]<;>decide
     have hnx:lvlA l (j+1)=upA (lvlA l j) ((lvlA l j).length / 2):=rfl
     have cu:=zme (lvlA l j) (by omega)
     generalize 2 ^ (d-j)=pw at h2 hj2
     generalize lvlA l j=o at hj2 cu hnx ⊢
     have ho:=z05 o
     have h3:(o.length:Int) > 1:=by omega
     repeat ((try conv=>whnf);first|refine Exists.intro o.length (And.intro ho ?_)|refine ccA ([]) (cu) ?_|refine stpQ ?_)
     refine ⟨j+1,by omega,by omega,?_⟩
     rw [hnx]
     (refine z02 (by rfl) ?_ ?_)<;>(repeat' (first|exact eqA|refine shE ?_|refine And.intro ?_ ?_))
    ·obtain rfl:j=d:=by omega
     rw [Nat.sub_self] at hj2
     generalize lvlA l j=o at hj2 ⊢
     have ho:=z05 o
     repeat ((try conv=>whnf);first|refine Exists.intro 1 (And.intro (ho.trans hj2) ?_)|refine stpQ ?_)
     (refine z02 (by rfl) ?_ ?_)<;>(repeat' (first|exact eqA|refine shE ?_|refine And.intro ?_ ?_))
   ·have hj2:=hL d (Nat.le_refl d)
    rw [Nat.sub_self] at hj2
    generalize lvlA l d=o at hj2 ⊢
    have g:=z0j (ps:=o) (k:=0) (by omega)
    repeat ((try conv=>whnf);first|refine i_at g ?_|refine Exists.intro 0 (Exists.intro _ (And.intro rfl (And.intro g ?_)))|refine stpQ ?_)
    (refine z00 (by rfl) ?_ ?_ (by rfl))<;>(repeat' (first|exact eqA|refine shE ?_|refine And.intro ?_ ?_))
end
end Go.Proofs.YthcfalipgnpelaaGreatDoor
