/- The exact laws copy their arguments: what the functions to.. answer is alike. -/
import Derived.Test.YthcfalipgnpelaaGreatDoorXt
namespace Go.Proofs.YthcfalipgnpelaaGreatDoor
set_option maxRecDepth 100000
set_option maxHeartbeats 2000000
set_option linter.unusedVariables false
set_option linter.unusedSimpArgs false
open Go.RowKit Pl
attribute [local irreducible] z0o z0p z0z AnsP LeP
theorem z1H {α:Type} {z:List α} {zero:α} {i:Nat} {e:α} (h:z[i]?=some e):(z.take i++List.replicate (z.length-i) zero).set i e=z.take (i+1)++List.replicate (z.length-(i+1)) zero:=by
 obtain ⟨hi,rfl⟩:=List.getElem?_eq_some_iff.1 h
 have hl:(z.take i).length=i:=by rw [List.length_take];omega
 obtain ⟨m,hm⟩:∃ m,z.length-i=m+1:=⟨z.length-i-1,by omega⟩
 rw [hm,List.set_append_right _ _ (by omega),hl,Nat.sub_self,List.replicate_succ,List.set_cons_zero,List.take_succ_eq_append_getElem hi,List.append_assoc,show z.length-(i+1)=m by omega]
 rfl
theorem z1I {s:Shp} {N k i m:Nat} {z:List (List T)} {zr:List T} (hw:s.wd=k) (hr:zr.length=k) (hz:∀ e ∈ z,Fits N s e):∀ e ∈ z.take i++List.replicate m zr,e.length=k:=fun e he=>by
 rcases List.mem_append.1 he with h|h
 ·rw [(hz e (List.mem_of_mem_take h)).len,hw]
 ·rw [(List.mem_replicate.1 h).2,hr]
theorem z2k {oe cs:List T} (h:oe.length=cs.length):ovl oe 0 cs=cs:=by
 rw [zdq _ _ _ (by omega),List.take_zero,List.nil_append,Nat.zero_add,List.drop_eq_nil_of_le (by omega),List.append_nil]
theorem z1J {α:Type} (z:List α) (zero:α):z.take z.length++List.replicate (z.length-z.length) zero=z:=by simp
theorem zkp (e:List T) (h:Fits 1048576 z0y e):CT Tryz.prog 300 [] [.agg e] (.agg e) []:=by
 obtain ⟨s0,s1,rfl,qs0,qs1,-⟩:=z2W h
 clear h
 refine z01 z03 1 rfl Tryz.func300 rfl rfl rfl ?_
 repeat ((try conv=>whnf);first|refine And.intro (by kernel_rfl) ?_|refine stpQ ?_)
 (refine z00 (by rfl) ?_ ?_ (by rfl))<;>(repeat' (first|exact eqA|refine shE ?_|refine And.intro ?_ ?_))
theorem zfO (e:List T) (h:Fits 1048576 z0B e):CT Tryz.prog 252 [] [.agg e] (.agg e) []:=by
 obtain ⟨n0,s1,s2,rfl,qn0,qs1,qs2,-⟩:=z1Z h
 clear h
 refine z01 z03 1 rfl Tryz.func252 rfl rfl rfl ?_
 repeat ((try conv=>whnf);first|refine And.intro (by kernel_rfl) ?_|refine stpQ ?_)
 (refine z00 (by rfl) ?_ ?_ (by rfl))<;>(repeat' (first|exact eqA|refine shE ?_|refine And.intro ?_ ?_))
theorem zio (e:List T) (h:Fits 1048576 z3g e):CT Tryz.prog 196 [] [.agg e] (.agg e) []:=by
 obtain ⟨n0,n1,n2,rfl,qn0,qn1,qn2,-⟩:=z65 h
 clear h
 refine z01 z03 1 rfl Tryz.func196 rfl rfl rfl ?_
 repeat ((try conv=>whnf);first|refine And.intro (by kernel_rfl) ?_|refine stpQ ?_)
 (refine z00 (by rfl) ?_ ?_ (by rfl))<;>(repeat' (first|exact eqA|refine shE ?_|refine And.intro ?_ ?_))
theorem zkq (e:List T) (h:Fits 1048576 z0L e):CT Tryz.prog 167 [] [.agg e] (.agg e) []:=by
 obtain ⟨s0,s1,n2,rfl,qs0,qs1,qn2,-⟩:=z2X h
 clear h
 refine z01 z03 1 rfl Tryz.func167 rfl rfl rfl ?_
 repeat ((try conv=>whnf);first|refine And.intro (by kernel_rfl) ?_|refine stpQ ?_)
 (refine z00 (by rfl) ?_ ?_ (by rfl))<;>(repeat' (first|exact eqA|refine shE ?_|refine And.intro ?_ ?_))
theorem zip (z:List (List T)) (h:z.length≤1048576∧∀ e ∈ z,Fits 1048576 z0L e):CT Tryz.prog 101 [] [.sl 3 z] (.sl 3 z) []:=by
 obtain ⟨hn,hz⟩:=h
 refine z01 z03 1 rfl Tryz.func101 rfl rfl rfl ?_
 repeat ((try conv=>whnf);first|refine stpQ ?_)
 refine z07 0 ⟨[(3,.ref 1)],[(1,some (.row 3 z))],2⟩ Nat (fun i=>⟨[(0,.sl 3 z),(3,.ref 1),(4,.int .i64 (i:Int))],[(1,some (.row 3 (z.take i++List.replicate (z.length-i) ([.str [],.str [],.int .i64 0]:List T))))],2⟩) (fun i=>i≤z.length) (fun i=>z.length-i) 0 (by omega) ?_ ?_ ?_
 ·(refine z02 (by rfl) ?_ ?_)<;>(repeat' (first|exact eqA|refine shE ?_|refine And.intro ?_ ?_))<;>first|rfl|decide
 ·intro i hi
  by_cases hlt:i<z.length
  ·have hi2:(i:Int)<(z.length:Int):=by omega
   have gi:z[i]?=some z[i]:=List.getElem?_eq_getElem hlt
   have hf:=hz _ (List.getElem_mem hlt)
   have hnx:=z1H (zero:=([.str [],.str [],.int .i64 0]:List T)) gi
   have hle:∀ e ∈ z.take i++List.replicate (z.length-i) ([.str [],.str [],.int .i64 0]:List T),e.length=3:=z1I (s:=z0L) (N:=1048576) rfl rfl hz
   have hlo:(z.take i++List.replicate (z.length-i) ([.str [],.str [],.int .i64 0]:List T)).length=z.length:=by rw [List.length_append,List.length_take,List.length_replicate];omega
   generalize z.take i++List.replicate (z.length-i) ([.str [],.str [],.int .i64 0]:List T)=o at hnx hlo hle ⊢
   have hio:i<o.length:=by omega
   have gio:o[i]?=some o[i]:=List.getElem?_eq_getElem hio
   have hoe:=hle _ (List.getElem_mem hio)
   generalize o[i]=oe at gio hoe
   generalize z[i]=e at hf gi hnx
   obtain ⟨s0,s1,n2,rfl,-⟩:=z2X hf
   have cE:=zkq [.str s0,.str s1,.int .i64 n2] hf
   repeat ((try conv=>whnf);first|refine i_at gi ?_|refine ccA ([]) (cE) ?_|refine Exists.intro _ (And.intro gio ?_)|refine stpQ ?_)
   refine ⟨i+1,hlt,by omega,?_⟩
   rw [← hnx]
   (refine z02 (by rfl) ?_ ?_)<;>(repeat' (first|exact eqA|refine shE ?_|refine And.intro ?_ ?_))
   all_goals exact congrArg (List.set o i) (z2k hoe)
  ·obtain rfl:i=z.length:=by omega
   rw [z1J]
   repeat ((try conv=>whnf);first|refine stpQ ?_)
   (refine z02 (by rfl) ?_ ?_)<;>(repeat' (first|exact eqA|refine shE ?_|refine And.intro ?_ ?_))
 ·repeat ((try conv=>whnf);first|refine stpQ ?_)
  (refine z00 (by rfl) ?_ ?_ (by rfl))<;>(repeat' (first|exact eqA|refine shE ?_|refine And.intro ?_ ?_))
theorem za8 (e:List T) (h:Fits 1048576 z1M e):CT Tryz.prog 53 [] [.agg e] (.agg e) []:=by
 obtain ⟨z0,rfl,qz0,-⟩:=z3x h
 clear h
 have c0:=zip z0 qz0
 refine z01 z03 1 rfl Tryz.func53 rfl rfl rfl ?_
 repeat ((try conv=>whnf);first|refine ccA ([]) (c0) ?_|refine And.intro (by kernel_rfl) ?_|refine stpQ ?_)
 (refine z00 (by rfl) ?_ ?_ (by rfl))<;>(repeat' (first|exact eqA|refine shE ?_|refine And.intro ?_ ?_))
theorem zkr (e:List T) (h:Fits 1048576 z2Y e):CT Tryz.prog 168 [] [.agg e] (.agg e) []:=by
 obtain ⟨n0,n1,s2,s3,rfl,qn0,qn1,qs2,qs3,-⟩:=z5t h
 clear h
 refine z01 z03 1 rfl Tryz.func168 rfl rfl rfl ?_
 repeat ((try conv=>whnf);first|refine And.intro (by kernel_rfl) ?_|refine stpQ ?_)
 (refine z00 (by rfl) ?_ ?_ (by rfl))<;>(repeat' (first|exact eqA|refine shE ?_|refine And.intro ?_ ?_))
theorem z24 (z:List (List T)) (h:z.length≤1048576∧∀ e ∈ z,Fits 1048576 .str e):CT Tryz.prog 54 [] [.sl 1 z] (.sl 1 z) []:=by
 obtain ⟨hn,hz⟩:=h
 refine z01 z03 1 rfl Tryz.func54 rfl rfl rfl ?_
 repeat ((try conv=>whnf);first|refine stpQ ?_)
 refine z07 0 ⟨[(3,.ref 1)],[(1,some (.row 1 z))],2⟩ Nat (fun i=>⟨[(0,.sl 1 z),(3,.ref 1),(4,.int .i64 (i:Int))],[(1,some (.row 1 (z.take i++List.replicate (z.length-i) ([.str []]:List T))))],2⟩) (fun i=>i≤z.length) (fun i=>z.length-i) 0 (by omega) ?_ ?_ ?_
 ·(refine z02 (by rfl) ?_ ?_)<;>(repeat' (first|exact eqA|refine shE ?_|refine And.intro ?_ ?_))<;>first|rfl|decide
 ·intro i hi
  by_cases hlt:i<z.length
  ·have hi2:(i:Int)<(z.length:Int):=by omega
   have gi:z[i]?=some z[i]:=List.getElem?_eq_getElem hlt
   have hf:=hz _ (List.getElem_mem hlt)
   have hnx:=z1H (zero:=([.str []]:List T)) gi
   have hle:∀ e ∈ z.take i++List.replicate (z.length-i) ([.str []]:List T),e.length=1:=z1I (s:=.str) (N:=1048576) rfl rfl hz
   have hlo:(z.take i++List.replicate (z.length-i) ([.str []]:List T)).length=z.length:=by rw [List.length_append,List.length_take,List.length_replicate];omega
   generalize z.take i++List.replicate (z.length-i) ([.str []]:List T)=o at hnx hlo hle ⊢
   have hio:i<o.length:=by omega
   have gio:o[i]?=some o[i]:=List.getElem?_eq_getElem hio
   have hoe:=hle _ (List.getElem_mem hio)
   generalize o[i]=oe at gio hoe
   generalize z[i]=e at hf gi hnx
   obtain ⟨s,rfl,hf1⟩:=hf
   repeat ((try conv=>whnf);first|refine i_at gi ?_|refine Exists.intro _ (And.intro gio ?_)|refine stpQ ?_)
   refine ⟨i+1,hlt,by omega,?_⟩
   rw [← hnx]
   (refine z02 (by rfl) ?_ ?_)<;>(repeat' (first|exact eqA|refine shE ?_|refine And.intro ?_ ?_))
   all_goals exact congrArg (List.set o i) (z2k hoe)
  ·obtain rfl:i=z.length:=by omega
   rw [z1J]
   repeat ((try conv=>whnf);first|refine stpQ ?_)
   (refine z02 (by rfl) ?_ ?_)<;>(repeat' (first|exact eqA|refine shE ?_|refine And.intro ?_ ?_))
 ·repeat ((try conv=>whnf);first|refine stpQ ?_)
  (refine z00 (by rfl) ?_ ?_ (by rfl))<;>(repeat' (first|exact eqA|refine shE ?_|refine And.intro ?_ ?_))
theorem ziq (e:List T) (h:Fits 1048576 z3h e):CT Tryz.prog 169 [] [.agg e] (.agg e) []:=by
 obtain ⟨n0,z1,z2,z3,rfl,qn0,qz1,qz2,qz3,-⟩:=z5u h
 clear h
 have c1:=z24 z1 qz1
 have c2:=z24 z2 qz2
 have c3:=z24 z3 qz3
 refine z01 z03 1 rfl Tryz.func169 rfl rfl rfl ?_
 repeat ((try conv=>whnf);first|refine ccA ([]) (c1) ?_|refine ccA ([]) (c2) ?_|refine ccA ([]) (c3) ?_|refine And.intro (by kernel_rfl) ?_|refine stpQ ?_)
 (refine z00 (by rfl) ?_ ?_ (by rfl))<;>(repeat' (first|exact eqA|refine shE ?_|refine And.intro ?_ ?_))
theorem za9 (e:List T) (h:Fits 1048576 z0F e):CT Tryz.prog 102 [] [.agg e] (.agg e) []:=by
 obtain ⟨n0,n1,s2,s3,n4,z5,z6,z7,rfl,qn0,qn1,qs2,qs3,qn4,qz5,qz6,qz7,-⟩:=z2g h
 clear h
 have c0:=zkr [.int .i64 n0,.int .i64 n1,.str s2,.str s3] (z9H qn0 qn1 qs2 qs3)
 have c1:=ziq [.int .i64 n4,.sl 1 z5,.sl 1 z6,.sl 1 z7] (z6r qn4 qz5 qz6 qz7)
 refine z01 z03 1 rfl Tryz.func102 rfl rfl rfl ?_
 repeat ((try conv=>whnf);first|refine ccA ([]) (c0) ?_|refine ccA ([]) (c1) ?_|refine And.intro (by kernel_rfl) ?_|refine stpQ ?_)
 (refine z00 (by rfl) ?_ ?_ (by rfl))<;>(repeat' (first|exact eqA|refine shE ?_|refine And.intro ?_ ?_))
theorem zis (z:List (List T)) (h:z.length≤1048576∧∀ e ∈ z,Fits 1048576 z0y e):CT Tryz.prog 251 [] [.sl 2 z] (.sl 2 z) []:=by
 obtain ⟨hn,hz⟩:=h
 refine z01 z03 1 rfl Tryz.func251 rfl rfl rfl ?_
 repeat ((try conv=>whnf);first|refine stpQ ?_)
 refine z07 0 ⟨[(3,.ref 1)],[(1,some (.row 2 z))],2⟩ Nat (fun i=>⟨[(0,.sl 2 z),(3,.ref 1),(4,.int .i64 (i:Int))],[(1,some (.row 2 (z.take i++List.replicate (z.length-i) ([.str [],.str []]:List T))))],2⟩) (fun i=>i≤z.length) (fun i=>z.length-i) 0 (by omega) ?_ ?_ ?_
 ·(refine z02 (by rfl) ?_ ?_)<;>(repeat' (first|exact eqA|refine shE ?_|refine And.intro ?_ ?_))<;>first|rfl|decide
 ·intro i hi
  by_cases hlt:i<z.length
  ·have hi2:(i:Int)<(z.length:Int):=by omega
   have gi:z[i]?=some z[i]:=List.getElem?_eq_getElem hlt
   have hf:=hz _ (List.getElem_mem hlt)
   have hnx:=z1H (zero:=([.str [],.str []]:List T)) gi
   have hle:∀ e ∈ z.take i++List.replicate (z.length-i) ([.str [],.str []]:List T),e.length=2:=z1I (s:=z0y) (N:=1048576) rfl rfl hz
   have hlo:(z.take i++List.replicate (z.length-i) ([.str [],.str []]:List T)).length=z.length:=by rw [List.length_append,List.length_take,List.length_replicate];omega
   generalize z.take i++List.replicate (z.length-i) ([.str [],.str []]:List T)=o at hnx hlo hle ⊢
   have hio:i<o.length:=by omega
   have gio:o[i]?=some o[i]:=List.getElem?_eq_getElem hio
   have hoe:=hle _ (List.getElem_mem hio)
   generalize o[i]=oe at gio hoe
   generalize z[i]=e at hf gi hnx
   obtain ⟨s0,s1,rfl,-⟩:=z2W hf
   have cE:=zkp [.str s0,.str s1] hf
   repeat ((try conv=>whnf);first|refine i_at gi ?_|refine ccA ([]) (cE) ?_|refine Exists.intro _ (And.intro gio ?_)|refine stpQ ?_)
   refine ⟨i+1,hlt,by omega,?_⟩
   rw [← hnx]
   (refine z02 (by rfl) ?_ ?_)<;>(repeat' (first|exact eqA|refine shE ?_|refine And.intro ?_ ?_))
   all_goals exact congrArg (List.set o i) (z2k hoe)
  ·obtain rfl:i=z.length:=by omega
   rw [z1J]
   repeat ((try conv=>whnf);first|refine stpQ ?_)
   (refine z02 (by rfl) ?_ ?_)<;>(repeat' (first|exact eqA|refine shE ?_|refine And.intro ?_ ?_))
 ·repeat ((try conv=>whnf);first|refine stpQ ?_)
  (refine z00 (by rfl) ?_ ?_ (by rfl))<;>(repeat' (first|exact eqA|refine shE ?_|refine And.intro ?_ ?_))
theorem zfP (z:List (List T)) (h:z.length≤1048576∧∀ e ∈ z,Fits 1048576 (.sl 2 z0y) e):CT Tryz.prog 194 [] [.sl 1 z] (.sl 1 z) []:=by
 obtain ⟨hn,hz⟩:=h
 refine z01 z03 1 rfl Tryz.func194 rfl rfl rfl ?_
 repeat ((try conv=>whnf);first|refine stpQ ?_)
 refine z07 0 ⟨[(3,.ref 1)],[(1,some (.row 1 z))],2⟩ Nat (fun i=>⟨[(0,.sl 1 z),(3,.ref 1),(4,.int .i64 (i:Int))],[(1,some (.row 1 (z.take i++List.replicate (z.length-i) ([.val nilV]:List T))))],2⟩) (fun i=>i≤z.length) (fun i=>z.length-i) 0 (by omega) ?_ ?_ ?_
 ·(refine z02 (by rfl) ?_ ?_)<;>(repeat' (first|exact eqA|refine shE ?_|refine And.intro ?_ ?_))<;>first|rfl|decide
 ·intro i hi
  by_cases hlt:i<z.length
  ·have hi2:(i:Int)<(z.length:Int):=by omega
   have gi:z[i]?=some z[i]:=List.getElem?_eq_getElem hlt
   have hf:=hz _ (List.getElem_mem hlt)
   have hnx:=z1H (zero:=([.val nilV]:List T)) gi
   have hle:∀ e ∈ z.take i++List.replicate (z.length-i) ([.val nilV]:List T),e.length=1:=z1I (s:=(.sl 2 z0y)) (N:=1048576) rfl rfl hz
   have hlo:(z.take i++List.replicate (z.length-i) ([.val nilV]:List T)).length=z.length:=by rw [List.length_append,List.length_take,List.length_replicate];omega
   generalize z.take i++List.replicate (z.length-i) ([.val nilV]:List T)=o at hnx hlo hle ⊢
   have hio:i<o.length:=by omega
   have gio:o[i]?=some o[i]:=List.getElem?_eq_getElem hio
   have hoe:=hle _ (List.getElem_mem hio)
   generalize o[i]=oe at gio hoe
   generalize z[i]=e at hf gi hnx
   obtain ⟨es,rfl,hf1⟩:=hf
   have cE:=zis es hf1
   repeat ((try conv=>whnf);first|refine i_at gi ?_|refine ccA ([]) (cE) ?_|refine Exists.intro _ (And.intro gio ?_)|refine stpQ ?_)
   refine ⟨i+1,hlt,by omega,?_⟩
   rw [← hnx]
   (refine z02 (by rfl) ?_ ?_)<;>(repeat' (first|exact eqA|refine shE ?_|refine And.intro ?_ ?_))
   all_goals exact congrArg (List.set o i) (z2k hoe)
  ·obtain rfl:i=z.length:=by omega
   rw [z1J]
   repeat ((try conv=>whnf);first|refine stpQ ?_)
   (refine z02 (by rfl) ?_ ?_)<;>(repeat' (first|exact eqA|refine shE ?_|refine And.intro ?_ ?_))
 ·repeat ((try conv=>whnf);first|refine stpQ ?_)
  (refine z00 (by rfl) ?_ ?_ (by rfl))<;>(repeat' (first|exact eqA|refine shE ?_|refine And.intro ?_ ?_))
theorem z6U (z:List (List T)) (h:z.length≤1048576∧∀ e ∈ z,Fits 1048576 .int e):CT Tryz.prog 38 [] [.sl 1 z] (.sl 1 z) []:=by
 obtain ⟨hn,hz⟩:=h
 refine z01 z03 1 rfl Tryz.func38 rfl rfl rfl ?_
 repeat ((try conv=>whnf);first|refine stpQ ?_)
 refine z07 0 ⟨[(3,.ref 1)],[(1,some (.row 1 z))],2⟩ Nat (fun i=>⟨[(0,.sl 1 z),(3,.ref 1),(4,.int .i64 (i:Int))],[(1,some (.row 1 (z.take i++List.replicate (z.length-i) ([.int .i64 0]:List T))))],2⟩) (fun i=>i≤z.length) (fun i=>z.length-i) 0 (by omega) ?_ ?_ ?_
 ·(refine z02 (by rfl) ?_ ?_)<;>(repeat' (first|exact eqA|refine shE ?_|refine And.intro ?_ ?_))<;>first|rfl|decide
 ·intro i hi
  by_cases hlt:i<z.length
  ·have hi2:(i:Int)<(z.length:Int):=by omega
   have gi:z[i]?=some z[i]:=List.getElem?_eq_getElem hlt
   have hf:=hz _ (List.getElem_mem hlt)
   have hnx:=z1H (zero:=([.int .i64 0]:List T)) gi
   have hle:∀ e ∈ z.take i++List.replicate (z.length-i) ([.int .i64 0]:List T),e.length=1:=z1I (s:=.int) (N:=1048576) rfl rfl hz
   have hlo:(z.take i++List.replicate (z.length-i) ([.int .i64 0]:List T)).length=z.length:=by rw [List.length_append,List.length_take,List.length_replicate];omega
   generalize z.take i++List.replicate (z.length-i) ([.int .i64 0]:List T)=o at hnx hlo hle ⊢
   have hio:i<o.length:=by omega
   have gio:o[i]?=some o[i]:=List.getElem?_eq_getElem hio
   have hoe:=hle _ (List.getElem_mem hio)
   generalize o[i]=oe at gio hoe
   generalize z[i]=e at hf gi hnx
   obtain ⟨n,rfl,hf1⟩:=hf
   repeat ((try conv=>whnf);first|refine i_at gi ?_|refine Exists.intro _ (And.intro gio ?_)|refine stpQ ?_)
   refine ⟨i+1,hlt,by omega,?_⟩
   rw [← hnx]
   (refine z02 (by rfl) ?_ ?_)<;>(repeat' (first|exact eqA|refine shE ?_|refine And.intro ?_ ?_))
   all_goals exact congrArg (List.set o i) (z2k hoe)
  ·obtain rfl:i=z.length:=by omega
   rw [z1J]
   repeat ((try conv=>whnf);first|refine stpQ ?_)
   (refine z02 (by rfl) ?_ ?_)<;>(repeat' (first|exact eqA|refine shE ?_|refine And.intro ?_ ?_))
 ·repeat ((try conv=>whnf);first|refine stpQ ?_)
  (refine z00 (by rfl) ?_ ?_ (by rfl))<;>(repeat' (first|exact eqA|refine shE ?_|refine And.intro ?_ ?_))
theorem zdb (z:List (List T)) (h:z.length≤1048576∧∀ e ∈ z,Fits 1048576 z0B e):CT Tryz.prog 195 [] [.sl 3 z] (.sl 3 z) []:=by
 obtain ⟨hn,hz⟩:=h
 refine z01 z03 1 rfl Tryz.func195 rfl rfl rfl ?_
 repeat ((try conv=>whnf);first|refine stpQ ?_)
 refine z07 0 ⟨[(3,.ref 1)],[(1,some (.row 3 z))],2⟩ Nat (fun i=>⟨[(0,.sl 3 z),(3,.ref 1),(4,.int .i64 (i:Int))],[(1,some (.row 3 (z.take i++List.replicate (z.length-i) ([.int .i64 0,.str [],.str []]:List T))))],2⟩) (fun i=>i≤z.length) (fun i=>z.length-i) 0 (by omega) ?_ ?_ ?_
 ·(refine z02 (by rfl) ?_ ?_)<;>(repeat' (first|exact eqA|refine shE ?_|refine And.intro ?_ ?_))<;>first|rfl|decide
 ·intro i hi
  by_cases hlt:i<z.length
  ·have hi2:(i:Int)<(z.length:Int):=by omega
   have gi:z[i]?=some z[i]:=List.getElem?_eq_getElem hlt
   have hf:=hz _ (List.getElem_mem hlt)
   have hnx:=z1H (zero:=([.int .i64 0,.str [],.str []]:List T)) gi
   have hle:∀ e ∈ z.take i++List.replicate (z.length-i) ([.int .i64 0,.str [],.str []]:List T),e.length=3:=z1I (s:=z0B) (N:=1048576) rfl rfl hz
   have hlo:(z.take i++List.replicate (z.length-i) ([.int .i64 0,.str [],.str []]:List T)).length=z.length:=by rw [List.length_append,List.length_take,List.length_replicate];omega
   generalize z.take i++List.replicate (z.length-i) ([.int .i64 0,.str [],.str []]:List T)=o at hnx hlo hle ⊢
   have hio:i<o.length:=by omega
   have gio:o[i]?=some o[i]:=List.getElem?_eq_getElem hio
   have hoe:=hle _ (List.getElem_mem hio)
   generalize o[i]=oe at gio hoe
   generalize z[i]=e at hf gi hnx
   obtain ⟨n0,s1,s2,rfl,-⟩:=z1Z hf
   have cE:=zfO [.int .i64 n0,.str s1,.str s2] hf
   repeat ((try conv=>whnf);first|refine i_at gi ?_|refine ccA ([]) (cE) ?_|refine Exists.intro _ (And.intro gio ?_)|refine stpQ ?_)
   refine ⟨i+1,hlt,by omega,?_⟩
   rw [← hnx]
   (refine z02 (by rfl) ?_ ?_)<;>(repeat' (first|exact eqA|refine shE ?_|refine And.intro ?_ ?_))
   all_goals exact congrArg (List.set o i) (z2k hoe)
  ·obtain rfl:i=z.length:=by omega
   rw [z1J]
   repeat ((try conv=>whnf);first|refine stpQ ?_)
   (refine z02 (by rfl) ?_ ?_)<;>(repeat' (first|exact eqA|refine shE ?_|refine And.intro ?_ ?_))
 ·repeat ((try conv=>whnf);first|refine stpQ ?_)
  (refine z00 (by rfl) ?_ ?_ (by rfl))<;>(repeat' (first|exact eqA|refine shE ?_|refine And.intro ?_ ?_))
theorem zfQ (e:List T) (h:Fits 1048576 z0C e):CT Tryz.prog 129 [] [.agg e] (.agg e) []:=by
 obtain ⟨n0,n1,b2,z3,n4,z5,z6,z7,n8,n9,n10,rfl,qn0,qn1,qb2,qz3,qn4,qz5,qz6,qz7,qn8,qn9,qn10,-⟩:=z20 h
 clear h
 have c3:=za8 [.sl 3 z3] (z3o qz3)
 have c5:=zfP z5 qz5
 have c6:=z6U z6 qz6
 have c7:=zdb z7 qz7
 have c8:=zio [.int .i64 n8,.int .i64 n9,.int .i64 n10] (zeb qn8 qn9 qn10)
 refine z01 z03 1 rfl Tryz.func129 rfl rfl rfl ?_
 repeat ((try conv=>whnf);first|refine ccA ([]) (c3) ?_|refine ccA ([]) (c5) ?_|refine ccA ([]) (c6) ?_|refine ccA ([]) (c7) ?_|refine ccA ([]) (c8) ?_|refine And.intro (by kernel_rfl) ?_|refine stpQ ?_)
 (refine z00 (by rfl) ?_ ?_ (by rfl))<;>(repeat' (first|exact eqA|refine shE ?_|refine And.intro ?_ ?_))
theorem zbS (z:List (List T)) (h:z.length≤1048576∧∀ e ∈ z,Fits 1048576 z0F e):CT Tryz.prog 55 [] [.sl 8 z] (.sl 8 z) []:=by
 obtain ⟨hn,hz⟩:=h
 refine z01 z03 1 rfl Tryz.func55 rfl rfl rfl ?_
 repeat ((try conv=>whnf);first|refine stpQ ?_)
 refine z07 0 ⟨[(3,.ref 1)],[(1,some (.row 8 z))],2⟩ Nat (fun i=>⟨[(0,.sl 8 z),(3,.ref 1),(4,.int .i64 (i:Int))],[(1,some (.row 8 (z.take i++List.replicate (z.length-i) ([.int .i64 0,.int .i64 0,.str [],.str [],.int .i64 0,.val nilV,.val nilV,.val nilV]:List T))))],2⟩) (fun i=>i≤z.length) (fun i=>z.length-i) 0 (by omega) ?_ ?_ ?_
 ·(refine z02 (by rfl) ?_ ?_)<;>(repeat' (first|exact eqA|refine shE ?_|refine And.intro ?_ ?_))<;>first|rfl|decide
 ·intro i hi
  by_cases hlt:i<z.length
  ·have hi2:(i:Int)<(z.length:Int):=by omega
   have gi:z[i]?=some z[i]:=List.getElem?_eq_getElem hlt
   have hf:=hz _ (List.getElem_mem hlt)
   have hnx:=z1H (zero:=([.int .i64 0,.int .i64 0,.str [],.str [],.int .i64 0,.val nilV,.val nilV,.val nilV]:List T)) gi
   have hle:∀ e ∈ z.take i++List.replicate (z.length-i) ([.int .i64 0,.int .i64 0,.str [],.str [],.int .i64 0,.val nilV,.val nilV,.val nilV]:List T),e.length=8:=z1I (s:=z0F) (N:=1048576) rfl rfl hz
   have hlo:(z.take i++List.replicate (z.length-i) ([.int .i64 0,.int .i64 0,.str [],.str [],.int .i64 0,.val nilV,.val nilV,.val nilV]:List T)).length=z.length:=by rw [List.length_append,List.length_take,List.length_replicate];omega
   generalize z.take i++List.replicate (z.length-i) ([.int .i64 0,.int .i64 0,.str [],.str [],.int .i64 0,.val nilV,.val nilV,.val nilV]:List T)=o at hnx hlo hle ⊢
   have hio:i<o.length:=by omega
   have gio:o[i]?=some o[i]:=List.getElem?_eq_getElem hio
   have hoe:=hle _ (List.getElem_mem hio)
   generalize o[i]=oe at gio hoe
   generalize z[i]=e at hf gi hnx
   obtain ⟨n0,n1,s2,s3,n4,z5,z6,z7,rfl,-⟩:=z2g hf
   have cE:=za9 [.int .i64 n0,.int .i64 n1,.str s2,.str s3,.int .i64 n4,.sl 1 z5,.sl 1 z6,.sl 1 z7] hf
   repeat ((try conv=>whnf);first|refine i_at gi ?_|refine ccA ([]) (cE) ?_|refine Exists.intro _ (And.intro gio ?_)|refine stpQ ?_)
   refine ⟨i+1,hlt,by omega,?_⟩
   rw [← hnx]
   (refine z02 (by rfl) ?_ ?_)<;>(repeat' (first|exact eqA|refine shE ?_|refine And.intro ?_ ?_))
   all_goals exact congrArg (List.set o i) (z2k hoe)
  ·obtain rfl:i=z.length:=by omega
   rw [z1J]
   repeat ((try conv=>whnf);first|refine stpQ ?_)
   (refine z02 (by rfl) ?_ ?_)<;>(repeat' (first|exact eqA|refine shE ?_|refine And.intro ?_ ?_))
 ·repeat ((try conv=>whnf);first|refine stpQ ?_)
  (refine z00 (by rfl) ?_ ?_ (by rfl))<;>(repeat' (first|exact eqA|refine shE ?_|refine And.intro ?_ ?_))
theorem zbT (z:List (List T)) (h:z.length≤1048576∧∀ e ∈ z,Fits 1048576 .bool e):CT Tryz.prog 37 [] [.sl 1 z] (.sl 1 z) []:=by
 obtain ⟨hn,hz⟩:=h
 refine z01 z03 1 rfl Tryz.func37 rfl rfl rfl ?_
 repeat ((try conv=>whnf);first|refine stpQ ?_)
 refine z07 0 ⟨[(3,.ref 1)],[(1,some (.row 1 z))],2⟩ Nat (fun i=>⟨[(0,.sl 1 z),(3,.ref 1),(4,.int .i64 (i:Int))],[(1,some (.row 1 (z.take i++List.replicate (z.length-i) ([.bool false]:List T))))],2⟩) (fun i=>i≤z.length) (fun i=>z.length-i) 0 (by omega) ?_ ?_ ?_
 ·(refine z02 (by rfl) ?_ ?_)<;>(repeat' (first|exact eqA|refine shE ?_|refine And.intro ?_ ?_))<;>first|rfl|decide
 ·intro i hi
  by_cases hlt:i<z.length
  ·have hi2:(i:Int)<(z.length:Int):=by omega
   have gi:z[i]?=some z[i]:=List.getElem?_eq_getElem hlt
   have hf:=hz _ (List.getElem_mem hlt)
   have hnx:=z1H (zero:=([.bool false]:List T)) gi
   have hle:∀ e ∈ z.take i++List.replicate (z.length-i) ([.bool false]:List T),e.length=1:=z1I (s:=.bool) (N:=1048576) rfl rfl hz
   have hlo:(z.take i++List.replicate (z.length-i) ([.bool false]:List T)).length=z.length:=by rw [List.length_append,List.length_take,List.length_replicate];omega
   generalize z.take i++List.replicate (z.length-i) ([.bool false]:List T)=o at hnx hlo hle ⊢
   have hio:i<o.length:=by omega
   have gio:o[i]?=some o[i]:=List.getElem?_eq_getElem hio
   have hoe:=hle _ (List.getElem_mem hio)
   generalize o[i]=oe at gio hoe
   generalize z[i]=e at hf gi hnx
   obtain ⟨b,rfl⟩:=hf
   repeat ((try conv=>whnf);first|refine i_at gi ?_|refine Exists.intro _ (And.intro gio ?_)|refine stpQ ?_)
   refine ⟨i+1,hlt,by omega,?_⟩
   rw [← hnx]
   (refine z02 (by rfl) ?_ ?_)<;>(repeat' (first|exact eqA|refine shE ?_|refine And.intro ?_ ?_))
   all_goals exact congrArg (List.set o i) (z2k hoe)
  ·obtain rfl:i=z.length:=by omega
   rw [z1J]
   repeat ((try conv=>whnf);first|refine stpQ ?_)
   (refine z02 (by rfl) ?_ ?_)<;>(repeat' (first|exact eqA|refine shE ?_|refine And.intro ?_ ?_))
 ·repeat ((try conv=>whnf);first|refine stpQ ?_)
  (refine z00 (by rfl) ?_ ?_ (by rfl))<;>(repeat' (first|exact eqA|refine shE ?_|refine And.intro ?_ ?_))
theorem zbU (e:List T) (h:Fits 1048576 z1g e):CT Tryz.prog 14 [] [.agg e] (.agg e) []:=by
 obtain ⟨n0,n1,b2,z3,z4,z5,z6,n7,b8,z9,z10,rfl,qn0,qn1,qb2,qz3,qz4,qz5,qz6,qn7,qb8,qz9,qz10,-⟩:=z2O h
 clear h
 have c3:=za8 [.sl 3 z3] (z3o qz3)
 have c4:=z24 z4 qz4
 have c5:=zbS z5 qz5
 have c6:=z6U z6 qz6
 have c9:=z24 z9 qz9
 have c10:=zbT z10 qz10
 refine z01 z03 1 rfl Tryz.func14 rfl rfl rfl ?_
 repeat ((try conv=>whnf);first|refine ccA ([]) (c3) ?_|refine ccA ([]) (c4) ?_|refine ccA ([]) (c5) ?_|refine ccA ([]) (c6) ?_|refine ccA ([]) (c9) ?_|refine ccA ([]) (c10) ?_|refine And.intro (by kernel_rfl) ?_|refine stpQ ?_)
 (refine z00 (by rfl) ?_ ?_ (by rfl))<;>(repeat' (first|exact eqA|refine shE ?_|refine And.intro ?_ ?_))
theorem zdc (z:List (List T)) (h:z.length≤1048576∧∀ e ∈ z,Fits 1048576 z0C e):CT Tryz.prog 72 [] [.sl 11 z] (.sl 11 z) []:=by
 obtain ⟨hn,hz⟩:=h
 refine z01 z03 1 rfl Tryz.func72 rfl rfl rfl ?_
 repeat ((try conv=>whnf);first|refine stpQ ?_)
 refine z07 0 ⟨[(3,.ref 1)],[(1,some (.row 11 z))],2⟩ Nat (fun i=>⟨[(0,.sl 11 z),(3,.ref 1),(4,.int .i64 (i:Int))],[(1,some (.row 11 (z.take i++List.replicate (z.length-i) ([.int .i64 0,.int .i64 0,.bool false,.val nilV,.int .i64 0,.val nilV,.val nilV,.val nilV,.int .i64 0,.int .i64 0,.int .i64 0]:List T))))],2⟩) (fun i=>i≤z.length) (fun i=>z.length-i) 0 (by omega) ?_ ?_ ?_
 ·(refine z02 (by rfl) ?_ ?_)<;>(repeat' (first|exact eqA|refine shE ?_|refine And.intro ?_ ?_))<;>first|rfl|decide
 ·intro i hi
  by_cases hlt:i<z.length
  ·have hi2:(i:Int)<(z.length:Int):=by omega
   have gi:z[i]?=some z[i]:=List.getElem?_eq_getElem hlt
   have hf:=hz _ (List.getElem_mem hlt)
   have hnx:=z1H (zero:=([.int .i64 0,.int .i64 0,.bool false,.val nilV,.int .i64 0,.val nilV,.val nilV,.val nilV,.int .i64 0,.int .i64 0,.int .i64 0]:List T)) gi
   have hle:∀ e ∈ z.take i++List.replicate (z.length-i) ([.int .i64 0,.int .i64 0,.bool false,.val nilV,.int .i64 0,.val nilV,.val nilV,.val nilV,.int .i64 0,.int .i64 0,.int .i64 0]:List T),e.length=11:=z1I (s:=z0C) (N:=1048576) rfl rfl hz
   have hlo:(z.take i++List.replicate (z.length-i) ([.int .i64 0,.int .i64 0,.bool false,.val nilV,.int .i64 0,.val nilV,.val nilV,.val nilV,.int .i64 0,.int .i64 0,.int .i64 0]:List T)).length=z.length:=by rw [List.length_append,List.length_take,List.length_replicate];omega
   generalize z.take i++List.replicate (z.length-i) ([.int .i64 0,.int .i64 0,.bool false,.val nilV,.int .i64 0,.val nilV,.val nilV,.val nilV,.int .i64 0,.int .i64 0,.int .i64 0]:List T)=o at hnx hlo hle ⊢
   have hio:i<o.length:=by omega
   have gio:o[i]?=some o[i]:=List.getElem?_eq_getElem hio
   have hoe:=hle _ (List.getElem_mem hio)
   generalize o[i]=oe at gio hoe
   generalize z[i]=e at hf gi hnx
   obtain ⟨n0,n1,b2,z3,n4,z5,z6,z7,n8,n9,n10,rfl,-⟩:=z20 hf
   have cE:=zfQ [.int .i64 n0,.int .i64 n1,.bool b2,.sl 3 z3,.int .i64 n4,.sl 1 z5,.sl 1 z6,.sl 3 z7,.int .i64 n8,.int .i64 n9,.int .i64 n10] hf
   repeat ((try conv=>whnf);first|refine i_at gi ?_|refine ccA ([]) (cE) ?_|refine Exists.intro _ (And.intro gio ?_)|refine stpQ ?_)
   refine ⟨i+1,hlt,by omega,?_⟩
   rw [← hnx]
   (refine z02 (by rfl) ?_ ?_)<;>(repeat' (first|exact eqA|refine shE ?_|refine And.intro ?_ ?_))
   all_goals exact congrArg (List.set o i) (z2k hoe)
  ·obtain rfl:i=z.length:=by omega
   rw [z1J]
   repeat ((try conv=>whnf);first|refine stpQ ?_)
   (refine z02 (by rfl) ?_ ?_)<;>(repeat' (first|exact eqA|refine shE ?_|refine And.intro ?_ ?_))
 ·repeat ((try conv=>whnf);first|refine stpQ ?_)
  (refine z00 (by rfl) ?_ ?_ (by rfl))<;>(repeat' (first|exact eqA|refine shE ?_|refine And.intro ?_ ?_))
theorem zbV (e:List T) (h:Fits 1048576 z0t e):CT Tryz.prog 21 [] [.agg e] (.agg e) []:=by
 obtain ⟨n0,n1,b2,z3,z4,z5,z6,n7,b8,z9,z10,z11,z12,z13,rfl,qn0,qn1,qb2,qz3,qz4,qz5,qz6,qn7,qb8,qz9,qz10,qz11,qz12,qz13,-⟩:=z1P h
 clear h
 have c0:=zbU [.int .i64 n0,.int .i64 n1,.bool b2,.sl 3 z3,.sl 1 z4,.sl 8 z5,.sl 1 z6,.int .i64 n7,.bool b8,.sl 1 z9,.sl 1 z10] (z9J qn0 qn1 qb2 qz3 qz4 qz5 qz6 qn7 qb8 qz9 qz10)
 have c1:=zdc z11 qz11
 have c2:=z24 z12 qz12
 have c3:=z6U z13 qz13
 refine z01 z03 1 rfl Tryz.func21 rfl rfl rfl ?_
 repeat ((try conv=>whnf);first|refine ccA ([]) (c0) ?_|refine ccA ([]) (c1) ?_|refine ccA ([]) (c2) ?_|refine ccA ([]) (c3) ?_|refine And.intro (by kernel_rfl) ?_|refine stpQ ?_)
 (refine z00 (by rfl) ?_ ?_ (by rfl))<;>(repeat' (first|exact eqA|refine shE ?_|refine And.intro ?_ ?_))
end Go.Proofs.YthcfalipgnpelaaGreatDoor
