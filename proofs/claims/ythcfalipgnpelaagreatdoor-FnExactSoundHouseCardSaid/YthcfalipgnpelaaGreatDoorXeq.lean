/- The exact laws compare values: what is compared with itself is alike. The types of the exact laws are of their shapes. -/
import Derived.Test.YthcfalipgnpelaaGreatDoorXt
namespace Go.Proofs.YthcfalipgnpelaaGreatDoor
set_option maxRecDepth 100000
set_option maxHeartbeats 2000000
set_option linter.unusedVariables false
set_option linter.unusedSimpArgs false
open Go.RowKit Pl
attribute [local irreducible] z0o z0p z0z AnsP LeP
theorem zku (e:List T) (h:Fits 1048576 z0y e):CT Tryz.prog 312 [] [.agg e,.agg e] (.bool true) []:=by
 obtain ⟨s0,s1,rfl,qs0,qs1,-⟩:=z2W h
 clear h
 refine z01 z03 1 rfl Tryz.func312 rfl rfl rfl ?_
 repeat ((try conv=>whnf);first|refine z0A rfl ?_|refine And.intro (by kernel_rfl) ?_|refine stpQ ?_)
 (refine z00 (by rfl) ?_ ?_ (by rfl))<;>(repeat' (first|exact eqA|refine shE ?_|refine And.intro ?_ ?_))
theorem zfT (e:List T) (h:Fits 1048576 z0B e):CT Tryz.prog 262 [] [.agg e,.agg e] (.bool true) []:=by
 obtain ⟨n0,s1,s2,rfl,qn0,qs1,qs2,-⟩:=z1Z h
 clear h
 refine z01 z03 1 rfl Tryz.func262 rfl rfl rfl ?_
 repeat ((try conv=>whnf);first|refine z0A rfl ?_|refine And.intro (by kernel_rfl) ?_|refine stpQ ?_)
 (refine z00 (by rfl) ?_ ?_ (by rfl))<;>(repeat' (first|exact eqA|refine shE ?_|refine And.intro ?_ ?_))
theorem zix (e:List T) (h:Fits 1048576 z3g e):CT Tryz.prog 206 [] [.agg e,.agg e] (.bool true) []:=by
 obtain ⟨n0,n1,n2,rfl,qn0,qn1,qn2,-⟩:=z65 h
 clear h
 refine z01 z03 1 rfl Tryz.func206 rfl rfl rfl ?_
 repeat ((try conv=>whnf);first|refine z0A rfl ?_|refine And.intro (by kernel_rfl) ?_|refine stpQ ?_)
 (refine z00 (by rfl) ?_ ?_ (by rfl))<;>(repeat' (first|exact eqA|refine shE ?_|refine And.intro ?_ ?_))
theorem zkv (e:List T) (h:Fits 1048576 z0L e):CT Tryz.prog 177 [] [.agg e,.agg e] (.bool true) []:=by
 obtain ⟨s0,s1,n2,rfl,qs0,qs1,qn2,-⟩:=z2X h
 clear h
 refine z01 z03 1 rfl Tryz.func177 rfl rfl rfl ?_
 repeat ((try conv=>whnf);first|refine z0A rfl ?_|refine And.intro (by kernel_rfl) ?_|refine stpQ ?_)
 (refine z00 (by rfl) ?_ ?_ (by rfl))<;>(repeat' (first|exact eqA|refine shE ?_|refine And.intro ?_ ?_))
theorem ziy (z:List (List T)) (h:z.length≤1048576∧∀ e ∈ z,Fits 1048576 z0L e):CT Tryz.prog 107 [] [.sl 3 z,.sl 3 z] (.bool true) []:=by
 obtain ⟨hn,hz⟩:=h
 refine z01 z03 1 rfl Tryz.func107 rfl rfl rfl ?_
 repeat ((try conv=>whnf);first|refine stpQ ?_)
 refine z0f Nat (fun i=>⟨[(0,.sl 3 z),(1,.sl 3 z),(5,.int .i64 (i:Int))],[],1⟩) (fun i=>i≤z.length) (fun i=>z.length-i) 0 (Nat.zero_le _) ?_ ?_
 ·(refine z02 (by rfl) ?_ ?_)<;>(repeat' (first|exact eqA|refine shE ?_|refine And.intro ?_ ?_))<;>first|rfl|decide
 ·intro i hi
  by_cases hlt:i<z.length
  ·have hi2:(i:Int)<(z.length:Int):=by omega
   have gi:z[i]?=some z[i]:=List.getElem?_eq_getElem hlt
   have hf:=hz _ (List.getElem_mem hlt)
   generalize z[i]=e at hf gi
   obtain ⟨s0,s1,n2,rfl,-⟩:=z2X hf
   have cE:=zkv [.str s0,.str s1,.int .i64 n2] hf
   repeat ((try conv=>whnf);first|refine i_at gi ?_|refine ccA ([]) (cE) ?_|refine stpQ ?_)
   refine ⟨i+1,hlt,by omega,?_⟩
   (refine z02 (by rfl) ?_ ?_)<;>(repeat' (first|exact eqA|refine shE ?_|refine And.intro ?_ ?_))
  ·obtain rfl:i=z.length:=by omega
   repeat ((try conv=>whnf);first|refine stpQ ?_)
   (refine z00 (by rfl) ?_ ?_ (by rfl))<;>(repeat' (first|exact eqA|refine shE ?_|refine And.intro ?_ ?_))
theorem zaa (e:List T) (h:Fits 1048576 z1M e):CT Tryz.prog 62 [] [.agg e,.agg e] (.bool true) []:=by
 obtain ⟨z0,rfl,qz0,-⟩:=z3x h
 clear h
 have c0:=ziy z0 qz0
 refine z01 z03 1 rfl Tryz.func62 rfl rfl rfl ?_
 repeat ((try conv=>whnf);first|refine ccA ([]) (c0) ?_|refine z0A rfl ?_|refine And.intro (by kernel_rfl) ?_|refine stpQ ?_)
 (refine z00 (by rfl) ?_ ?_ (by rfl))<;>(repeat' (first|exact eqA|refine shE ?_|refine And.intro ?_ ?_))
theorem zkw (e:List T) (h:Fits 1048576 z2Y e):CT Tryz.prog 178 [] [.agg e,.agg e] (.bool true) []:=by
 obtain ⟨n0,n1,s2,s3,rfl,qn0,qn1,qs2,qs3,-⟩:=z5t h
 clear h
 refine z01 z03 1 rfl Tryz.func178 rfl rfl rfl ?_
 repeat ((try conv=>whnf);first|refine z0A rfl ?_|refine And.intro (by kernel_rfl) ?_|refine stpQ ?_)
 (refine z00 (by rfl) ?_ ?_ (by rfl))<;>(repeat' (first|exact eqA|refine shE ?_|refine And.intro ?_ ?_))
theorem z25 (z:List (List T)) (h:z.length≤1048576∧∀ e ∈ z,Fits 1048576 .str e):CT Tryz.prog 63 [] [.sl 1 z,.sl 1 z] (.bool true) []:=by
 obtain ⟨hn,hz⟩:=h
 refine z01 z03 1 rfl Tryz.func63 rfl rfl rfl ?_
 repeat ((try conv=>whnf);first|refine stpQ ?_)
 refine z0f Nat (fun i=>⟨[(0,.sl 1 z),(1,.sl 1 z),(5,.int .i64 (i:Int))],[],1⟩) (fun i=>i≤z.length) (fun i=>z.length-i) 0 (Nat.zero_le _) ?_ ?_
 ·(refine z02 (by rfl) ?_ ?_)<;>(repeat' (first|exact eqA|refine shE ?_|refine And.intro ?_ ?_))<;>first|rfl|decide
 ·intro i hi
  by_cases hlt:i<z.length
  ·have hi2:(i:Int)<(z.length:Int):=by omega
   have gi:z[i]?=some z[i]:=List.getElem?_eq_getElem hlt
   have hf:=hz _ (List.getElem_mem hlt)
   generalize z[i]=e at hf gi
   obtain ⟨s,rfl,hf1⟩:=hf
   repeat ((try conv=>whnf);first|refine i_at gi ?_|refine z0A rfl ?_|refine stpQ ?_)
   refine ⟨i+1,hlt,by omega,?_⟩
   (refine z02 (by rfl) ?_ ?_)<;>(repeat' (first|exact eqA|refine shE ?_|refine And.intro ?_ ?_))
  ·obtain rfl:i=z.length:=by omega
   repeat ((try conv=>whnf);first|refine stpQ ?_)
   (refine z00 (by rfl) ?_ ?_ (by rfl))<;>(repeat' (first|exact eqA|refine shE ?_|refine And.intro ?_ ?_))
theorem ziz (e:List T) (h:Fits 1048576 z3h e):CT Tryz.prog 179 [] [.agg e,.agg e] (.bool true) []:=by
 obtain ⟨n0,z1,z2,z3,rfl,qn0,qz1,qz2,qz3,-⟩:=z5u h
 clear h
 have c1:=z25 z1 qz1
 have c2:=z25 z2 qz2
 have c3:=z25 z3 qz3
 refine z01 z03 1 rfl Tryz.func179 rfl rfl rfl ?_
 repeat ((try conv=>whnf);first|refine ccA ([]) (c1) ?_|refine ccA ([]) (c2) ?_|refine ccA ([]) (c3) ?_|refine z0A rfl ?_|refine And.intro (by kernel_rfl) ?_|refine stpQ ?_)
 (refine z00 (by rfl) ?_ ?_ (by rfl))<;>(repeat' (first|exact eqA|refine shE ?_|refine And.intro ?_ ?_))
theorem zab (e:List T) (h:Fits 1048576 z0F e):CT Tryz.prog 108 [] [.agg e,.agg e] (.bool true) []:=by
 obtain ⟨n0,n1,s2,s3,n4,z5,z6,z7,rfl,qn0,qn1,qs2,qs3,qn4,qz5,qz6,qz7,-⟩:=z2g h
 clear h
 have c0:=zkw [.int .i64 n0,.int .i64 n1,.str s2,.str s3] (z9H qn0 qn1 qs2 qs3)
 have c1:=ziz [.int .i64 n4,.sl 1 z5,.sl 1 z6,.sl 1 z7] (z6r qn4 qz5 qz6 qz7)
 refine z01 z03 1 rfl Tryz.func108 rfl rfl rfl ?_
 repeat ((try conv=>whnf);first|refine ccA ([]) (c0) ?_|refine ccA ([]) (c1) ?_|refine z0A rfl ?_|refine And.intro (by kernel_rfl) ?_|refine stpQ ?_)
 (refine z00 (by rfl) ?_ ?_ (by rfl))<;>(repeat' (first|exact eqA|refine shE ?_|refine And.intro ?_ ?_))
theorem ziB (z:List (List T)) (h:z.length≤1048576∧∀ e ∈ z,Fits 1048576 z0y e):CT Tryz.prog 261 [] [.sl 2 z,.sl 2 z] (.bool true) []:=by
 obtain ⟨hn,hz⟩:=h
 refine z01 z03 1 rfl Tryz.func261 rfl rfl rfl ?_
 repeat ((try conv=>whnf);first|refine stpQ ?_)
 refine z0f Nat (fun i=>⟨[(0,.sl 2 z),(1,.sl 2 z),(5,.int .i64 (i:Int))],[],1⟩) (fun i=>i≤z.length) (fun i=>z.length-i) 0 (Nat.zero_le _) ?_ ?_
 ·(refine z02 (by rfl) ?_ ?_)<;>(repeat' (first|exact eqA|refine shE ?_|refine And.intro ?_ ?_))<;>first|rfl|decide
 ·intro i hi
  by_cases hlt:i<z.length
  ·have hi2:(i:Int)<(z.length:Int):=by omega
   have gi:z[i]?=some z[i]:=List.getElem?_eq_getElem hlt
   have hf:=hz _ (List.getElem_mem hlt)
   generalize z[i]=e at hf gi
   obtain ⟨s0,s1,rfl,-⟩:=z2W hf
   have cE:=zku [.str s0,.str s1] hf
   repeat ((try conv=>whnf);first|refine i_at gi ?_|refine ccA ([]) (cE) ?_|refine stpQ ?_)
   refine ⟨i+1,hlt,by omega,?_⟩
   (refine z02 (by rfl) ?_ ?_)<;>(repeat' (first|exact eqA|refine shE ?_|refine And.intro ?_ ?_))
  ·obtain rfl:i=z.length:=by omega
   repeat ((try conv=>whnf);first|refine stpQ ?_)
   (refine z00 (by rfl) ?_ ?_ (by rfl))<;>(repeat' (first|exact eqA|refine shE ?_|refine And.intro ?_ ?_))
theorem zfU (z:List (List T)) (h:z.length≤1048576∧∀ e ∈ z,Fits 1048576 (.sl 2 z0y) e):CT Tryz.prog 204 [] [.sl 1 z,.sl 1 z] (.bool true) []:=by
 obtain ⟨hn,hz⟩:=h
 refine z01 z03 1 rfl Tryz.func204 rfl rfl rfl ?_
 repeat ((try conv=>whnf);first|refine stpQ ?_)
 refine z0f Nat (fun i=>⟨[(0,.sl 1 z),(1,.sl 1 z),(5,.int .i64 (i:Int))],[],1⟩) (fun i=>i≤z.length) (fun i=>z.length-i) 0 (Nat.zero_le _) ?_ ?_
 ·(refine z02 (by rfl) ?_ ?_)<;>(repeat' (first|exact eqA|refine shE ?_|refine And.intro ?_ ?_))<;>first|rfl|decide
 ·intro i hi
  by_cases hlt:i<z.length
  ·have hi2:(i:Int)<(z.length:Int):=by omega
   have gi:z[i]?=some z[i]:=List.getElem?_eq_getElem hlt
   have hf:=hz _ (List.getElem_mem hlt)
   generalize z[i]=e at hf gi
   obtain ⟨es,rfl,hf1⟩:=hf
   have cE:=ziB es hf1
   repeat ((try conv=>whnf);first|refine i_at gi ?_|refine ccA ([]) (cE) ?_|refine stpQ ?_)
   refine ⟨i+1,hlt,by omega,?_⟩
   (refine z02 (by rfl) ?_ ?_)<;>(repeat' (first|exact eqA|refine shE ?_|refine And.intro ?_ ?_))
  ·obtain rfl:i=z.length:=by omega
   repeat ((try conv=>whnf);first|refine stpQ ?_)
   (refine z00 (by rfl) ?_ ?_ (by rfl))<;>(repeat' (first|exact eqA|refine shE ?_|refine And.intro ?_ ?_))
theorem z6V (z:List (List T)) (h:z.length≤1048576∧∀ e ∈ z,Fits 1048576 .int e):CT Tryz.prog 46 [] [.sl 1 z,.sl 1 z] (.bool true) []:=by
 obtain ⟨hn,hz⟩:=h
 refine z01 z03 1 rfl Tryz.func46 rfl rfl rfl ?_
 repeat ((try conv=>whnf);first|refine stpQ ?_)
 refine z0f Nat (fun i=>⟨[(0,.sl 1 z),(1,.sl 1 z),(5,.int .i64 (i:Int))],[],1⟩) (fun i=>i≤z.length) (fun i=>z.length-i) 0 (Nat.zero_le _) ?_ ?_
 ·(refine z02 (by rfl) ?_ ?_)<;>(repeat' (first|exact eqA|refine shE ?_|refine And.intro ?_ ?_))<;>first|rfl|decide
 ·intro i hi
  by_cases hlt:i<z.length
  ·have hi2:(i:Int)<(z.length:Int):=by omega
   have gi:z[i]?=some z[i]:=List.getElem?_eq_getElem hlt
   have hf:=hz _ (List.getElem_mem hlt)
   generalize z[i]=e at hf gi
   obtain ⟨n,rfl,hf1⟩:=hf
   repeat ((try conv=>whnf);first|refine i_at gi ?_|refine z0A rfl ?_|refine stpQ ?_)
   refine ⟨i+1,hlt,by omega,?_⟩
   (refine z02 (by rfl) ?_ ?_)<;>(repeat' (first|exact eqA|refine shE ?_|refine And.intro ?_ ?_))
  ·obtain rfl:i=z.length:=by omega
   repeat ((try conv=>whnf);first|refine stpQ ?_)
   (refine z00 (by rfl) ?_ ?_ (by rfl))<;>(repeat' (first|exact eqA|refine shE ?_|refine And.intro ?_ ?_))
theorem zde (z:List (List T)) (h:z.length≤1048576∧∀ e ∈ z,Fits 1048576 z0B e):CT Tryz.prog 205 [] [.sl 3 z,.sl 3 z] (.bool true) []:=by
 obtain ⟨hn,hz⟩:=h
 refine z01 z03 1 rfl Tryz.func205 rfl rfl rfl ?_
 repeat ((try conv=>whnf);first|refine stpQ ?_)
 refine z0f Nat (fun i=>⟨[(0,.sl 3 z),(1,.sl 3 z),(5,.int .i64 (i:Int))],[],1⟩) (fun i=>i≤z.length) (fun i=>z.length-i) 0 (Nat.zero_le _) ?_ ?_
 ·(refine z02 (by rfl) ?_ ?_)<;>(repeat' (first|exact eqA|refine shE ?_|refine And.intro ?_ ?_))<;>first|rfl|decide
 ·intro i hi
  by_cases hlt:i<z.length
  ·have hi2:(i:Int)<(z.length:Int):=by omega
   have gi:z[i]?=some z[i]:=List.getElem?_eq_getElem hlt
   have hf:=hz _ (List.getElem_mem hlt)
   generalize z[i]=e at hf gi
   obtain ⟨n0,s1,s2,rfl,-⟩:=z1Z hf
   have cE:=zfT [.int .i64 n0,.str s1,.str s2] hf
   repeat ((try conv=>whnf);first|refine i_at gi ?_|refine ccA ([]) (cE) ?_|refine stpQ ?_)
   refine ⟨i+1,hlt,by omega,?_⟩
   (refine z02 (by rfl) ?_ ?_)<;>(repeat' (first|exact eqA|refine shE ?_|refine And.intro ?_ ?_))
  ·obtain rfl:i=z.length:=by omega
   repeat ((try conv=>whnf);first|refine stpQ ?_)
   (refine z00 (by rfl) ?_ ?_ (by rfl))<;>(repeat' (first|exact eqA|refine shE ?_|refine And.intro ?_ ?_))
theorem zfV (e:List T) (h:Fits 1048576 z0C e):CT Tryz.prog 137 [] [.agg e,.agg e] (.bool true) []:=by
 obtain ⟨n0,n1,b2,z3,n4,z5,z6,z7,n8,n9,n10,rfl,qn0,qn1,qb2,qz3,qn4,qz5,qz6,qz7,qn8,qn9,qn10,-⟩:=z20 h
 clear h
 have c3:=zaa [.sl 3 z3] (z3o qz3)
 have c5:=zfU z5 qz5
 have c6:=z6V z6 qz6
 have c7:=zde z7 qz7
 have c8:=zix [.int .i64 n8,.int .i64 n9,.int .i64 n10] (zeb qn8 qn9 qn10)
 refine z01 z03 1 rfl Tryz.func137 rfl rfl rfl ?_
 cases b2
 all_goals
  repeat ((try conv=>whnf);first|refine ccA ([]) (c3) ?_|refine ccA ([]) (c5) ?_|refine ccA ([]) (c6) ?_|refine ccA ([]) (c7) ?_|refine ccA ([]) (c8) ?_|refine z0A rfl ?_|refine And.intro (by kernel_rfl) ?_|refine stpQ ?_)
  (refine z00 (by rfl) ?_ ?_ (by rfl))<;>(repeat' (first|exact eqA|refine shE ?_|refine And.intro ?_ ?_))
theorem zbX (z:List (List T)) (h:z.length≤1048576∧∀ e ∈ z,Fits 1048576 z0F e):CT Tryz.prog 64 [] [.sl 8 z,.sl 8 z] (.bool true) []:=by
 obtain ⟨hn,hz⟩:=h
 refine z01 z03 1 rfl Tryz.func64 rfl rfl rfl ?_
 repeat ((try conv=>whnf);first|refine stpQ ?_)
 refine z0f Nat (fun i=>⟨[(0,.sl 8 z),(1,.sl 8 z),(5,.int .i64 (i:Int))],[],1⟩) (fun i=>i≤z.length) (fun i=>z.length-i) 0 (Nat.zero_le _) ?_ ?_
 ·(refine z02 (by rfl) ?_ ?_)<;>(repeat' (first|exact eqA|refine shE ?_|refine And.intro ?_ ?_))<;>first|rfl|decide
 ·intro i hi
  by_cases hlt:i<z.length
  ·have hi2:(i:Int)<(z.length:Int):=by omega
   have gi:z[i]?=some z[i]:=List.getElem?_eq_getElem hlt
   have hf:=hz _ (List.getElem_mem hlt)
   generalize z[i]=e at hf gi
   obtain ⟨n0,n1,s2,s3,n4,z5,z6,z7,rfl,-⟩:=z2g hf
   have cE:=zab [.int .i64 n0,.int .i64 n1,.str s2,.str s3,.int .i64 n4,.sl 1 z5,.sl 1 z6,.sl 1 z7] hf
   repeat ((try conv=>whnf);first|refine i_at gi ?_|refine ccA ([]) (cE) ?_|refine stpQ ?_)
   refine ⟨i+1,hlt,by omega,?_⟩
   (refine z02 (by rfl) ?_ ?_)<;>(repeat' (first|exact eqA|refine shE ?_|refine And.intro ?_ ?_))
  ·obtain rfl:i=z.length:=by omega
   repeat ((try conv=>whnf);first|refine stpQ ?_)
   (refine z00 (by rfl) ?_ ?_ (by rfl))<;>(repeat' (first|exact eqA|refine shE ?_|refine And.intro ?_ ?_))
theorem zbY (z:List (List T)) (h:z.length≤1048576∧∀ e ∈ z,Fits 1048576 .bool e):CT Tryz.prog 45 [] [.sl 1 z,.sl 1 z] (.bool true) []:=by
 obtain ⟨hn,hz⟩:=h
 refine z01 z03 1 rfl Tryz.func45 rfl rfl rfl ?_
 repeat ((try conv=>whnf);first|refine stpQ ?_)
 refine z0f Nat (fun i=>⟨[(0,.sl 1 z),(1,.sl 1 z),(5,.int .i64 (i:Int))],[],1⟩) (fun i=>i≤z.length) (fun i=>z.length-i) 0 (Nat.zero_le _) ?_ ?_
 ·(refine z02 (by rfl) ?_ ?_)<;>(repeat' (first|exact eqA|refine shE ?_|refine And.intro ?_ ?_))<;>first|rfl|decide
 ·intro i hi
  by_cases hlt:i<z.length
  ·have hi2:(i:Int)<(z.length:Int):=by omega
   have gi:z[i]?=some z[i]:=List.getElem?_eq_getElem hlt
   have hf:=hz _ (List.getElem_mem hlt)
   generalize z[i]=e at hf gi
   obtain ⟨b,rfl⟩:=hf
   cases b
   all_goals
    repeat ((try conv=>whnf);first|refine i_at gi ?_|refine stpQ ?_)
    refine ⟨i+1,hlt,by omega,?_⟩
    (refine z02 (by rfl) ?_ ?_)<;>(repeat' (first|exact eqA|refine shE ?_|refine And.intro ?_ ?_))
  ·obtain rfl:i=z.length:=by omega
   repeat ((try conv=>whnf);first|refine stpQ ?_)
   (refine z00 (by rfl) ?_ ?_ (by rfl))<;>(repeat' (first|exact eqA|refine shE ?_|refine And.intro ?_ ?_))
theorem zbZ (e:List T) (h:Fits 1048576 z1g e):CT Tryz.prog 16 [] [.agg e,.agg e] (.bool true) []:=by
 obtain ⟨n0,n1,b2,z3,z4,z5,z6,n7,b8,z9,z10,rfl,qn0,qn1,qb2,qz3,qz4,qz5,qz6,qn7,qb8,qz9,qz10,-⟩:=z2O h
 clear h
 have c3:=zaa [.sl 3 z3] (z3o qz3)
 have c4:=z25 z4 qz4
 have c5:=zbX z5 qz5
 have c6:=z6V z6 qz6
 have c9:=z25 z9 qz9
 have c10:=zbY z10 qz10
 refine z01 z03 1 rfl Tryz.func16 rfl rfl rfl ?_
 cases b2
 cases b8
 all_goals
  repeat ((try conv=>whnf);first|refine ccA ([]) (c3) ?_|refine ccA ([]) (c4) ?_|refine ccA ([]) (c5) ?_|refine ccA ([]) (c6) ?_|refine ccA ([]) (c9) ?_|refine ccA ([]) (c10) ?_|refine z0A rfl ?_|refine And.intro (by kernel_rfl) ?_|refine stpQ ?_)
  (refine z00 (by rfl) ?_ ?_ (by rfl))<;>(repeat' (first|exact eqA|refine shE ?_|refine And.intro ?_ ?_))
theorem zdf (z:List (List T)) (h:z.length≤1048576∧∀ e ∈ z,Fits 1048576 z0C e):CT Tryz.prog 77 [] [.sl 11 z,.sl 11 z] (.bool true) []:=by
 obtain ⟨hn,hz⟩:=h
 refine z01 z03 1 rfl Tryz.func77 rfl rfl rfl ?_
 repeat ((try conv=>whnf);first|refine stpQ ?_)
 refine z0f Nat (fun i=>⟨[(0,.sl 11 z),(1,.sl 11 z),(5,.int .i64 (i:Int))],[],1⟩) (fun i=>i≤z.length) (fun i=>z.length-i) 0 (Nat.zero_le _) ?_ ?_
 ·(refine z02 (by rfl) ?_ ?_)<;>(repeat' (first|exact eqA|refine shE ?_|refine And.intro ?_ ?_))<;>first|rfl|decide
 ·intro i hi
  by_cases hlt:i<z.length
  ·have hi2:(i:Int)<(z.length:Int):=by omega
   have gi:z[i]?=some z[i]:=List.getElem?_eq_getElem hlt
   have hf:=hz _ (List.getElem_mem hlt)
   generalize z[i]=e at hf gi
   obtain ⟨n0,n1,b2,z3,n4,z5,z6,z7,n8,n9,n10,rfl,-⟩:=z20 hf
   have cE:=zfV [.int .i64 n0,.int .i64 n1,.bool b2,.sl 3 z3,.int .i64 n4,.sl 1 z5,.sl 1 z6,.sl 3 z7,.int .i64 n8,.int .i64 n9,.int .i64 n10] hf
   repeat ((try conv=>whnf);first|refine i_at gi ?_|refine ccA ([]) (cE) ?_|refine stpQ ?_)
   refine ⟨i+1,hlt,by omega,?_⟩
   (refine z02 (by rfl) ?_ ?_)<;>(repeat' (first|exact eqA|refine shE ?_|refine And.intro ?_ ?_))
  ·obtain rfl:i=z.length:=by omega
   repeat ((try conv=>whnf);first|refine stpQ ?_)
   (refine z00 (by rfl) ?_ ?_ (by rfl))<;>(repeat' (first|exact eqA|refine shE ?_|refine And.intro ?_ ?_))
theorem zc0 (e:List T) (h:Fits 1048576 z0t e):CT Tryz.prog 23 [] [.agg e,.agg e] (.bool true) []:=by
 obtain ⟨n0,n1,b2,z3,z4,z5,z6,n7,b8,z9,z10,z11,z12,z13,rfl,qn0,qn1,qb2,qz3,qz4,qz5,qz6,qn7,qb8,qz9,qz10,qz11,qz12,qz13,-⟩:=z1P h
 clear h
 have c0:=zbZ [.int .i64 n0,.int .i64 n1,.bool b2,.sl 3 z3,.sl 1 z4,.sl 8 z5,.sl 1 z6,.int .i64 n7,.bool b8,.sl 1 z9,.sl 1 z10] (z9J qn0 qn1 qb2 qz3 qz4 qz5 qz6 qn7 qb8 qz9 qz10)
 have c1:=zdf z11 qz11
 have c2:=z25 z12 qz12
 have c3:=z6V z13 qz13
 refine z01 z03 1 rfl Tryz.func23 rfl rfl rfl ?_
 repeat ((try conv=>whnf);first|refine ccA ([]) (c0) ?_|refine ccA ([]) (c1) ?_|refine ccA ([]) (c2) ?_|refine ccA ([]) (c3) ?_|refine z0A rfl ?_|refine And.intro (by kernel_rfl) ?_|refine stpQ ?_)
 (refine z00 (by rfl) ?_ ?_ (by rfl))<;>(repeat' (first|exact eqA|refine shE ?_|refine And.intro ?_ ?_))
end Go.Proofs.YthcfalipgnpelaaGreatDoor
namespace Go.Proofs.YthcfalipgnpelaaGreatDoor
set_option linter.unusedVariables false
set_option linter.unusedSimpArgs false
open Go.RowKit Pl
theorem zkz:TOk Tryz.prog 312 z0y:=.st Tryz.underlying312 (by kernel_rfl) (.cons (by kernel_rfl) (.str Tryz.underlying9) (.cons (by kernel_rfl) (.str Tryz.underlying9) .nil))
theorem zfY:TOk Tryz.prog 274 z0B:=.st Tryz.underlying274 (by kernel_rfl) (.cons (by kernel_rfl) (.int Tryz.underlying3) (.cons (by kernel_rfl) (.str Tryz.underlying9) (.cons (by kernel_rfl) (.str Tryz.underlying9) .nil)))
theorem ziG:TOk Tryz.prog 172 z3g:=.st Tryz.underlying172 (by kernel_rfl) (.cons (by kernel_rfl) (.int Tryz.underlying3) (.cons (by kernel_rfl) (.int Tryz.underlying3) (.cons (by kernel_rfl) (.int Tryz.underlying3) .nil)))
theorem zkA:TOk Tryz.prog 202 z0L:=.st Tryz.underlying202 (by kernel_rfl) (.cons (by kernel_rfl) (.str Tryz.underlying9) (.cons (by kernel_rfl) (.str Tryz.underlying9) (.cons (by kernel_rfl) (.int Tryz.underlying3) .nil)))
theorem ziH:TOk Tryz.prog 41 (.sl 3 z0L):=.sl Tryz.underlying41 (by kernel_rfl) rfl (by decide) zkA
theorem zac:TOk Tryz.prog 43 z1M:=.st Tryz.underlying43 (by kernel_rfl) (.cons (by kernel_rfl) ziH .nil)
theorem zkB:TOk Tryz.prog 147 z2Y:=.st Tryz.underlying147 (by kernel_rfl) (.cons (by kernel_rfl) (.int Tryz.underlying3) (.cons (by kernel_rfl) (.int Tryz.underlying3) (.cons (by kernel_rfl) (.str Tryz.underlying9) (.cons (by kernel_rfl) (.str Tryz.underlying9) .nil))))
theorem z26:TOk Tryz.prog 44 (.sl 1 .str):=.sl Tryz.underlying44 (by kernel_rfl) rfl (by decide) (.str Tryz.underlying9)
theorem ziI:TOk Tryz.prog 128 z3h:=.st Tryz.underlying128 (by kernel_rfl) (.cons (by kernel_rfl) (.int Tryz.underlying3) (.cons (by kernel_rfl) z26 (.cons (by kernel_rfl) z26 (.cons (by kernel_rfl) z26 .nil))))
theorem zad:TOk Tryz.prog 149 z0F:=.st Tryz.underlying149 (by kernel_rfl) (.cons (by kernel_rfl) zkB (.cons (by kernel_rfl) ziI .nil))
theorem ziK:TOk Tryz.prog 272 (.sl 2 z0y):=.sl Tryz.underlying272 (by kernel_rfl) rfl (by decide) zkz
theorem zfZ:TOk Tryz.prog 169 (.sl 1 (.sl 2 z0y)):=.sl Tryz.underlying169 (by kernel_rfl) rfl (by decide) ziK
theorem z6W:TOk Tryz.prog 27 (.sl 1 .int):=.sl Tryz.underlying27 (by kernel_rfl) rfl (by decide) (.int Tryz.underlying3)
theorem zdh:TOk Tryz.prog 170 (.sl 3 z0B):=.sl Tryz.underlying170 (by kernel_rfl) rfl (by decide) zfY
theorem zg0:TOk Tryz.prog 174 z0C:=.st Tryz.underlying174 (by kernel_rfl) (.cons (by kernel_rfl) (.int Tryz.underlying3) (.cons (by kernel_rfl) (.int Tryz.underlying3) (.cons (by kernel_rfl) (.bool Tryz.underlying4) (.cons (by kernel_rfl) zac (.cons (by kernel_rfl) (.int Tryz.underlying3) (.cons (by kernel_rfl) zfZ (.cons (by kernel_rfl) z6W (.cons (by kernel_rfl) zdh (.cons (by kernel_rfl) ziG .nil)))))))))
theorem zc2:TOk Tryz.prog 45 (.sl 8 z0F):=.sl Tryz.underlying45 (by kernel_rfl) rfl (by decide) zad
theorem zc3:TOk Tryz.prog 26 (.sl 1 .bool):=.sl Tryz.underlying26 (by kernel_rfl) rfl (by decide) (.bool Tryz.underlying4)
theorem zc4:TOk Tryz.prog 47 z1g:=.st Tryz.underlying47 (by kernel_rfl) (.cons (by kernel_rfl) (.int Tryz.underlying3) (.cons (by kernel_rfl) (.int Tryz.underlying3) (.cons (by kernel_rfl) (.bool Tryz.underlying4) (.cons (by kernel_rfl) zac (.cons (by kernel_rfl) z26 (.cons (by kernel_rfl) zc2 (.cons (by kernel_rfl) z6W (.cons (by kernel_rfl) (.int Tryz.underlying3) (.cons (by kernel_rfl) (.bool Tryz.underlying4) (.cons (by kernel_rfl) z26 (.cons (by kernel_rfl) zc3 .nil)))))))))))
theorem zdi:TOk Tryz.prog 59 (.sl 11 z0C):=.sl Tryz.underlying59 (by kernel_rfl) rfl (by decide) zg0
theorem zc5:TOk Tryz.prog 61 z0t:=.st Tryz.underlying61 (by kernel_rfl) (.cons (by kernel_rfl) zc4 (.cons (by kernel_rfl) zdi (.cons (by kernel_rfl) z26 (.cons (by kernel_rfl) z6W .nil))))
end Go.Proofs.YthcfalipgnpelaaGreatDoor
