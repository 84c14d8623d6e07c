/- Functions by content: the shards of a house are right, by the reference. Functions by content: a house is sound; both checks agree. -/
import Derived.Test.YthcfalipgnpelaaGreatDoorRa
import Derived.Test.YthcfalipgnpelaaGreatDoorRsb
import Derived.Test.YthcfalipgnpelaaGreatDoorRsc
import Derived.Test.YthcfalipgnpelaaGreatDoorRsd
import Derived.Test.YthcfalipgnpelaaGreatDoorMdrq
import Derived.Test.YthcfalipgnpelaaGreatDoorCok
namespace Go.Proofs.YthcfalipgnpelaaGreatDoor
set_option linter.unusedVariables false
set_option linter.unusedSimpArgs false
open Go.RowKit Pl
theorem z14 {p:Nat→Bool}:∀ n,(∀ j,j<n→p j=true) ∨ ∃ m,m<n∧(∀ j,j<m→p j=true)∧p m=false
 | 0=>.inl fun j h=>by omega
 | n+1=>by
   rcases z14 (p:=p) n with h|⟨m,h1,h2,h3⟩
   ·by_cases hp:p n=true
    ·refine .inl fun j hj=>?_
     rcases Nat.lt_or_ge j n with h1|h1
     ·exact h j h1
     ·rw [show j=n by omega];exact hp
    ·exact .inr ⟨n,by omega,h,by simpa using hp⟩
   ·exact .inr ⟨m,by omega,h2,h3⟩
theorem z8x (n0 K:Int) (b2:Bool) (z3 z4 z5:List (List T)) (tr:List Int) (n7:Int) (b8:Bool) (z9 z10 z z12 z13:List (List T)) (f:Nat→Bool) (hf:∀ k,k<z.length→zki z f k) (h5:z5.length≤1048576) (ht:tr.length≤1048576) (hz:z.length≤1048576) :
 CT Tryz.prog 69 [] [.agg [.int .i64 n0,.int .i64 K,.bool b2,.sl 3 z3,.sl 1 z4,.sl 8 z5,.sl 1 (isE tr),.int .i64 n7,.bool b8,.sl 1 z9,.sl 1 z10,.sl 11 z,.sl 1 z12,.sl 1 z13]] (.bool (allB (shB z5.length K tr f z) z.length)) []:=by
 rcases z14 (p:=shB z5.length K tr f z) z.length with hgood|⟨m,hm,hgood,hbad⟩
 ·rw [z1X hgood]
  exact c_sSh0 n0 K b2 z3 z4 z5 tr n7 b8 z9 z10 z z12 z13 f hf h5 ht hz hgood
 ·rw [z2H hm hbad]
  obtain ⟨a,Ks,u2,y3,ep,y5,y6,y7,re,rt,rk,g,-,-,-⟩:=hf m hm
  have gd:z.getD m []=[.int .i64 a,.int .i64 Ks,.bool u2,.sl 3 y3,.int .i64 ep,.sl 1 y5,.sl 1 y6,.sl 3 y7,.int .i64 re,.int .i64 rt,.int .i64 rk]:=by rw [List.getD,g];rfl
  have hS:shB z5.length K tr f z m=(decide (a=(m:Int))&&(decide (Ks=K)&&(f m&&(decide (ep=(z5.length:Int)) || (decide (ep=(z5.length:Int)-1)&&(decide (tr.length=z5.length)&&(decide (re=(z5.length:Int))&&decide (rt=isAt tr (z5.length-1))))))))):=by
   unfold shB
   rw [gd]
   rfl
  rw [hS] at hbad
  clear hS gd
  have key:∀ (a' Ks':Int) (u2':Bool) (y3':List (List T)) (ep':Int) (y5' y6' y7':List (List T)) (re' rt' rk':Int),z[m]?=some [.int .i64 a',.int .i64 Ks',.bool u2',.sl 3 y3',.int .i64 ep',.sl 1 y5',.sl 1 y6',.sl 3 y7',.int .i64 re',.int .i64 rt',.int .i64 rk']→a'=a∧Ks'=Ks∧ep'=ep∧re'=re∧rt'=rt:=by
   intro a' Ks' u2' y3' ep' y5' y6' y7' re' rt' rk' g'
   rw [g] at g'
   have g':=Option.some.inj g'
   simp only [List.cons.injEq,T.int.injEq,true_and,and_true] at g'
   exact ⟨g'.1.symm,g'.2.1.symm,g'.2.2.2.2.1.symm,g'.2.2.2.2.2.2.2.2.1.symm,g'.2.2.2.2.2.2.2.2.2.1.symm⟩
  clear g
  by_cases q:a=(m:Int)∧Ks=K∧f m=true
  ·obtain ⟨q1,q2,q3⟩:=q
   rw [q3] at hbad
   simp only [q1,q2,decide_true,Bool.true_and,Bool.or_eq_false_iff,decide_eq_false_iff_not] at hbad
   obtain ⟨q4,hbad⟩:=hbad
   by_cases q5:ep=(z5.length:Int)-1∧tr.length=z5.length
   ·exact c_sSh3 n0 K b2 z3 z4 z5 tr n7 b8 z9 z10 z z12 z13 f hf h5 ht hz m hm hgood (fun _ _ _ _ _ _ _ _ _ _ _ g'=>by
     obtain ⟨rfl,rfl,rfl,rfl,rfl⟩:=key _ _ _ _ _ _ _ _ _ _ _ g'
     refine ⟨q1,q2,q3,q5.1,q5.2,fun c=>?_⟩
     simp [q5.1,q5.2,c.1,c.2] at hbad)
   ·exact c_sSh2 n0 K b2 z3 z4 z5 tr n7 b8 z9 z10 z z12 z13 f hf h5 ht hz m hm hgood (fun _ _ _ _ _ _ _ _ _ _ _ g'=>by
     obtain ⟨rfl,rfl,rfl,rfl,rfl⟩:=key _ _ _ _ _ _ _ _ _ _ _ g'
     exact ⟨q1,q2,q3,q4,fun c d=>q5 ⟨c,d⟩⟩)
  ·exact c_sSh1 n0 K b2 z3 z4 z5 tr n7 b8 z9 z10 z z12 z13 f hf h5 ht hz m hm hgood (fun _ _ _ _ _ _ _ _ _ _ _ g'=>by
    obtain ⟨rfl,rfl,rfl,rfl,rfl⟩:=key _ _ _ _ _ _ _ _ _ _ _ g'
    exact q)
end Go.Proofs.YthcfalipgnpelaaGreatDoor
namespace Go.Proofs.YthcfalipgnpelaaGreatDoor
set_option maxRecDepth 100000
set_option maxHeartbeats 8000000
set_option linter.unusedVariables false
set_option linter.unusedSimpArgs false
open Go.RowKit Pl
def SvIs (z:List (List T)) (s:Sv) (k:Nat):Prop:=∃ (a K:Int) (up:Bool) (fs:List Fl) (n:Nat),z[k]?=some (svE a K up fs (vwE s.vs) s)∧SvOk n s∧n≤30000∧(0≤K∧K≤2)∧0≤a∧a≤2 ^ K.toNat-1
theorem sok2 (z:List (List T)) (hz:∀ e ∈ z,Fits 1048576 z0C e):∃ (f:Nat→Bool) (sv:Nat→Sv),∀ k,k<z.length→zki z f k∧(f k=true→SvIs z (sv k) k):=by
 have key:∀ k,∃ (x:Bool × Sv),k<z.length→zki z (fun _=>x.1) k∧(x.1=true→SvIs z x.2 k):=fun k=>by
  by_cases h:k<z.length
  ·have hq:=hz _ (List.getElem_mem h)
   have hg:=List.getElem?_eq_getElem h
   generalize z[k]=e at hq hg
   obtain ⟨n0,n1,b2,z3,n4,z5,z6,z7,n8,n9,n10,rfl,-,-,-,q3,-,q5,q6,q7,-,-,-,-⟩:=z20 hq
   obtain ⟨fs,rfl,h3⟩:=zi9 q3.2
   obtain ⟨vs,rfl,h5⟩:=dec_vw q5.2
   obtain ⟨tk,rfl⟩:=zia q6.2
   obtain ⟨al,rfl,h7⟩:=dec_ch q7.2
   have a3:=q3.1
   have a5:=q5.1
   have a6:=q6.1
   have a7:=q7.1
   rw [z4F] at a3
   rw [z5y] at a5
   rw [z5M] at a6
   rw [z2Z] at a7
   have f:=zib (by omega) a3 h3
   have v:=vw_fit (by omega) a5 h5
   refine ⟨(z89 n0 n1 n4 vs tk al n8 n9 n10 (svOf n0 n1 (z0i fs z0v)),svOf n0 n1 (z0i fs z0v)),fun _=>⟨⟨n0,n1,b2,_,n4,_,_,_,n8,n9,n10,hg,zd3 n0 n1 b2 fs n4 vs tk al n8 n9 n10 f v (by omega) (by omega),zfD n0 n1 b2 fs n4 vs tk al n8 n9 n10 f v (by omega) (by omega),fun hb=>?_⟩,fun hb=>?_⟩⟩
   ·simp only [z89,Bool.and_eq_true,decide_eq_true_eq] at hb
    omega
   ·simp only [z89,Bool.and_eq_true,decide_eq_true_eq] at hb
    obtain ⟨hK,ha,r1,r2,r3,r4,r5,r6,r7⟩:=hb
    have hK:=z0x.1 hK
    have ha:=z0x.1 ha
    have hok:=z7H n0 n1 (z0i fs z0v)
    have hlt:=(z1h fs z0v).2
    generalize svOf n0 n1 (z0i fs z0v)=s at r1 r2 r3 r4 r5 r6 r7 hok ⊢
    refine ⟨n0,n1,b2,fs,_,?_,hok,by omega,⟨by omega,by omega⟩,ha.1,ha.2⟩
    rw [hg,svE,r1,r2,r3,r4,r5,r6,r7]
    have e:=zbK s.tk
    unfold tkI
    rw [e]
  ·exact ⟨(true,sv0),fun c=>absurd c h⟩
 exact ⟨fun k=>(Classical.choose (key k)).1,fun k=>(Classical.choose (key k)).2,fun k hk=>Classical.choose_spec (key k) hk⟩
section
attribute [local irreducible] z0o z0p z0z AnsP LeP
theorem z40 (n0 n1:Int) (b2:Bool) (z3 z4 z5 z6:List (List T)) (n7:Int) (b8:Bool) (z9 z10 z11 z12 z13:List (List T)) (p1 p2 p3 p4 p5:Bool) (H:List T) (hH:H=[.int .i64 n0,.int .i64 n1,.bool b2,.sl 3 z3,.sl 1 z4,.sl 8 z5,.sl 1 z6,.int .i64 n7,.bool b8,.sl 1 z9,.sl 1 z10,.sl 11 z11,.sl 1 z12,.sl 1 z13])
 (c1:CT Tryz.prog 15 [] [.agg [.int .i64 n0,.int .i64 n1,.bool b2,.sl 3 z3,.sl 1 z4,.sl 8 z5,.sl 1 z6,.int .i64 n7,.bool b8,.sl 1 z9,.sl 1 z10]] (.bool p1) [])
 (c2:p1=true→CT Tryz.prog 73 [] [.agg H] (.bool p2) [])
 (c3:p1=true→p2=true→CT Tryz.prog 74 [] [.agg H] (.bool p3) [])
 (c4:p1=true→p2=true→p3=true→CT Tryz.prog 75 [] [.agg H] (.bool p4) [])
 (c5:p1=true→p2=true→p3=true→CT Tryz.prog 76 [] [.agg H] (.bool p5) []) :
 CT Tryz.prog 22 [] [.agg H] (.bool (p1&&p2&&p3&&p4&&p5)) []:=by
 subst hH
 refine z01 z03 1 rfl Tryz.func22 rfl rfl rfl ?_
 cases p1 with
 | false =>
   repeat ((try conv=>whnf);first|refine ccA ([]) (c1) ?_|refine And.intro (by kernel_rfl) ?_|refine stpQ ?_)
   (refine z00 (by rfl) ?_ ?_ (by rfl))<;>(try simp only [Bool.false_and,Bool.true_and,Bool.and_false])<;>(repeat' (first|exact eqA|refine shE ?_|refine And.intro ?_ ?_))
 | true =>
   replace c2:=c2 rfl
   cases p2 with
   | false =>
     repeat ((try conv=>whnf);first|refine ccA ([]) (c1) ?_|refine ccA ([]) (c2) ?_|refine And.intro (by kernel_rfl) ?_|refine stpQ ?_)
     (refine z00 (by rfl) ?_ ?_ (by rfl))<;>(try simp only [Bool.false_and,Bool.true_and,Bool.and_false])<;>(repeat' (first|exact eqA|refine shE ?_|refine And.intro ?_ ?_))
   | true =>
     replace c3:=c3 rfl rfl
     cases p3 with
     | false =>
       repeat ((try conv=>whnf);first|refine ccA ([]) (c1) ?_|refine ccA ([]) (c2) ?_|refine ccA ([]) (c3) ?_|refine And.intro (by kernel_rfl) ?_|refine stpQ ?_)
       (refine z00 (by rfl) ?_ ?_ (by rfl))<;>(try simp only [Bool.false_and,Bool.true_and,Bool.and_false])<;>(repeat' (first|exact eqA|refine shE ?_|refine And.intro ?_ ?_))
     | true =>
       replace c4:=c4 rfl rfl rfl
       replace c5:=c5 rfl rfl rfl
       cases p4 with
       | false =>
         repeat ((try conv=>whnf);first|refine ccA ([]) (c1) ?_|refine ccA ([]) (c2) ?_|refine ccA ([]) (c3) ?_|refine ccA ([]) (c4) ?_|refine And.intro (by kernel_rfl) ?_|refine stpQ ?_)
         (refine z00 (by rfl) ?_ ?_ (by rfl))<;>(try simp only [Bool.false_and,Bool.true_and,Bool.and_false])<;>(repeat' (first|exact eqA|refine shE ?_|refine And.intro ?_ ?_))
       | true =>
         repeat ((try conv=>whnf);first|refine ccA ([]) (c1) ?_|refine ccA ([]) (c2) ?_|refine ccA ([]) (c3) ?_|refine ccA ([]) (c4) ?_|refine ccA ([]) (c5) ?_|refine And.intro (by kernel_rfl) ?_|refine stpQ ?_)
         (refine z00 (by rfl) ?_ ?_ (by rfl))<;>(try simp only [Bool.false_and,Bool.true_and,Bool.and_false])<;>(repeat' (first|exact eqA|refine shE ?_|refine And.intro ?_ ?_))
theorem z3r (n0 n1:Int) (b2:Bool) (z3 z4 z5 z6:List (List T)) (n7:Int) (b8:Bool) (z9 z10 z11 z12 z13:List (List T)) (p1 p2 p3 p4 p5:Bool) (H:List T) (hH:H=[.int .i64 n0,.int .i64 n1,.bool b2,.sl 3 z3,.sl 1 z4,.sl 8 z5,.sl 1 z6,.int .i64 n7,.bool b8,.sl 1 z9,.sl 1 z10,.sl 11 z11,.sl 1 z12,.sl 1 z13])
 (c1:CT Tryz.prog 13 [] [.agg [.int .i64 n0,.int .i64 n1,.bool b2,.sl 3 z3,.sl 1 z4,.sl 8 z5,.sl 1 z6,.int .i64 n7,.bool b8,.sl 1 z9,.sl 1 z10]] (.bool p1) [])
 (c2:p1=true→CT Tryz.prog 68 [] [.agg H] (.bool p2) [])
 (c3:p1=true→p2=true→CT Tryz.prog 69 [] [.agg H] (.bool p3) [])
 (c4:p1=true→p2=true→p3=true→CT Tryz.prog 70 [] [.agg H] (.bool p4) [])
 (c5:p1=true→p2=true→p3=true→CT Tryz.prog 71 [] [.agg H] (.bool p5) []) :
 CT Tryz.prog 20 [] [.agg H] (.bool (p1&&p2&&p3&&p4&&p5)) []:=by
 subst hH
 refine z01 z03 1 rfl Tryz.func20 rfl rfl rfl ?_
 cases p1 with
 | false =>
   repeat ((try conv=>whnf);first|refine ccA ([]) (c1) ?_|refine And.intro (by kernel_rfl) ?_|refine stpQ ?_)
   (refine z00 (by rfl) ?_ ?_ (by rfl))<;>(try simp only [Bool.false_and,Bool.true_and,Bool.and_false])<;>(repeat' (first|exact eqA|refine shE ?_|refine And.intro ?_ ?_))
 | true =>
   replace c2:=c2 rfl
   cases p2 with
   | false =>
     repeat ((try conv=>whnf);first|refine ccA ([]) (c1) ?_|refine ccA ([]) (c2) ?_|refine And.intro (by kernel_rfl) ?_|refine stpQ ?_)
     (refine z00 (by rfl) ?_ ?_ (by rfl))<;>(try simp only [Bool.false_and,Bool.true_and,Bool.and_false])<;>(repeat' (first|exact eqA|refine shE ?_|refine And.intro ?_ ?_))
   | true =>
     replace c3:=c3 rfl rfl
     cases p3 with
     | false =>
       repeat ((try conv=>whnf);first|refine ccA ([]) (c1) ?_|refine ccA ([]) (c2) ?_|refine ccA ([]) (c3) ?_|refine And.intro (by kernel_rfl) ?_|refine stpQ ?_)
       (refine z00 (by rfl) ?_ ?_ (by rfl))<;>(try simp only [Bool.false_and,Bool.true_and,Bool.and_false])<;>(repeat' (first|exact eqA|refine shE ?_|refine And.intro ?_ ?_))
     | true =>
       replace c4:=c4 rfl rfl rfl
       replace c5:=c5 rfl rfl rfl
       cases p4 with
       | false =>
         repeat ((try conv=>whnf);first|refine ccA ([]) (c1) ?_|refine ccA ([]) (c2) ?_|refine ccA ([]) (c3) ?_|refine ccA ([]) (c4) ?_|refine And.intro (by kernel_rfl) ?_|refine stpQ ?_)
         (refine z00 (by rfl) ?_ ?_ (by rfl))<;>(try simp only [Bool.false_and,Bool.true_and,Bool.and_false])<;>(repeat' (first|exact eqA|refine shE ?_|refine And.intro ?_ ?_))
       | true =>
         repeat ((try conv=>whnf);first|refine ccA ([]) (c1) ?_|refine ccA ([]) (c2) ?_|refine ccA ([]) (c3) ?_|refine ccA ([]) (c4) ?_|refine ccA ([]) (c5) ?_|refine And.intro (by kernel_rfl) ?_|refine stpQ ?_)
         (refine z00 (by rfl) ?_ ?_ (by rfl))<;>(try simp only [Bool.false_and,Bool.true_and,Bool.and_false])<;>(repeat' (first|exact eqA|refine shE ?_|refine And.intro ?_ ?_))
end
theorem zmg {p:Nat→Bool} {n k:Nat} (h:allB p n=true) (hk:k<n):p k=true:=List.all_eq_true.1 h k (List.mem_range.2 hk)
theorem z6D (e:List T) (q:Fits 1048576 z0t e):∃ b,CT Tryz.prog 20 [] [.agg e] (.bool b) []∧CT Tryz.prog 22 [] [.agg e] (.bool b) []:=by
 obtain ⟨n0,n1,b2,z3,z4,z5,z6,n7,b8,z9,z10,z11,z12,z13,rfl,-,-,-,q3,q4,q5,q6,-,-,q9,q10,q11,-,-,-⟩:=z1P q
 obtain ⟨fs,rfl,h3⟩:=zi9 q3.2
 obtain ⟨po,rfl,-⟩:=z36 q4.2
 obtain ⟨se,rfl,h5⟩:=zie q5.2
 obtain ⟨tr,rfl⟩:=zia q6.2
 obtain ⟨vo,rfl,-⟩:=z36 q9.2
 have a3:=q3.1
 have a4:=q4.1
 have a5:=q5.1
 have a6:=q6.1
 have a9:=q9.1
 have a5':=q5.1
 rw [z4F] at a3
 rw [z05] at a4 a9
 rw [z4o] at a5
 rw [z5M] at a6
 have f:=zib (by omega) a3 h3
 have cS:=z9c n0 n1 b2 fs po se tr n7 b8 vo z10 f a4 a5 h5 a6 a9 q10.1
 have cI:=zbM n0 n1 b2 fs po se tr n7 b8 vo z10 f a4 a5 h5 a6 a9 q10.1
 cases hb:zfI n0 n1 po se tr n7 b8 vo z10.length (cvOf n0.toNat (z0i fs z0M)) with
 | false =>
   rw [hb] at cS cI
   exact ⟨_,z3r _ _ _ _ _ _ _ _ _ _ _ _ _ _ false false false false false _ rfl cS (fun h=>by cases h) (fun h=>by cases h) (fun h=>by cases h) (fun h=>by cases h),z40 _ _ _ _ _ _ _ _ _ _ _ _ _ _ false false false false false _ rfl cI (fun h=>by cases h) (fun h=>by cases h) (fun h=>by cases h) (fun h=>by cases h)⟩
 | true =>
   rw [hb] at cS cI
   obtain ⟨sf,sv,hf⟩:=sok2 z11 q11.2
   have cS3:=z8x n0 n1 b2 (flE fs) (strE po) (saL se) tr n7 b8 (strE vo) z10 z11 z12 z13 sf (fun k hk=>(hf k hk).1) a5' a6 q11.1
   have cI3:=za3 n0 n1 b2 (flE fs) (strE po) (saL se) tr n7 b8 (strE vo) z10 z11 z12 z13 sf (fun k hk=>(hf k hk).1) a5' a6 q11.1
   simp only [zfI,Bool.and_eq_true,decide_eq_true_eq] at hb
   obtain ⟨i0,i1,-,-,-,r5,-,-,-⟩:=hb
   have i0:=z0x.1 i0
   have i1:=z0x.1 i1
   obtain ⟨h,rfl⟩:∃ n:Nat,n0=n:=⟨n0.toNat,by omega⟩
   obtain ⟨k,rfl⟩:∃ n:Nat,n1=n:=⟨n1.toNat,by omega⟩
   have hh:h≤2:=by omega
   have hk:k≤2:=by omega
   rw [Int.toNat_natCast] at r5
   have g:=z80 hh (z0i fs z0M)
   have gl:=zbA g
   have gc:=g.ch
   have gsg:=g.sg
   generalize cvOf h (z0i fs z0M)=s at r5 gl gc gsg
   have hse:saL se=slE s.se:=by rw [r5,zhT]
   unfold cHds at gc
   rw [hse] at cS cI cS3 cI3 ⊢
   generalize s.se=nse at gl gc gsg cS cI cS3 cI3 ⊢
   have cS2:=zag h k b2 (flE fs) po nse (isE tr) n7 b8 (strE vo) z10 z11 z12 z13 a4 gl gsg gc
   have cI2:=zc8 h k b2 (flE fs) po nse (isE tr) n7 b8 (strE vo) z10 z11 z12 z13 a4 gl gsg gc
   generalize allB (fun k=>slB (z6g po) (sdAt nse k)) nse.length=p2 at cS2 cI2
   cases hb3:allB (shB (slE nse).length (k:Int) tr sf z11) z11.length with
   | false =>
     rw [hb3] at cS3 cI3
     exact ⟨_,z3r _ _ _ _ _ _ _ _ _ _ _ _ _ _ true p2 false false false _ rfl cS (fun _=>cS2) (fun _ _=>cS3) (fun _ _ h=>by cases h) (fun _ _ h=>by cases h),z40 _ _ _ _ _ _ _ _ _ _ _ _ _ _ true p2 false false false _ rfl cI (fun _=>cI2) (fun _ _=>cI3) (fun _ _ h=>by cases h) (fun _ _ h=>by cases h)⟩
   | true =>
     have hs:∀ i,i<z11.length→SrAt k z11 sv i:=fun i hi=>by
      have hB:=zmg hb3 hi
      obtain ⟨-,hV⟩:=hf i hi
      simp only [shB,Bool.and_eq_true,decide_eq_true_eq] at hB
      obtain ⟨e0,e1,e2,-⟩:=hB
      obtain ⟨a,K',up,fs',n,hg,hok,hn,hK,ha⟩:=hV e2
      have gd:z11.getD i []=svE a K' up fs' (vwE (sv i).vs) (sv i):=by rw [List.getD,hg];rfl
      rw [gd] at e0 e1
      have e0:a=(i:Int):=e0
      have e1:K'=(k:Int):=e1
      subst e0 e1
      refine ⟨up,fs',n,hg,hok,hn,?_⟩
      have ha2:=ha.2
      rw [Int.toNat_natCast] at ha2
      rcases (show k=0 ∨ k=1 ∨ k=2 by omega) with rfl|rfl|rfl
      ·have:(i:Int)≤1-1:=ha2
       show i<1
       omega
      ·have:(i:Int)≤2-1:=ha2
       show i<2
       omega
      ·have:(i:Int)≤4-1:=ha2
       show i<4
       omega
     rw [hb3] at cS3 cI3
     have cS4:=zak h k b2 (flE fs) po nse (isE tr) n7 b8 (strE vo) z10 z11 z12 z13 sv hk gl hs
     have cI4:=zcc h k b2 (flE fs) po nse (isE tr) n7 b8 (strE vo) z10 z11 z12 z13 sv hk gl hs
     have cS5:=zal h k b2 (flE fs) po nse (isE tr) n7 b8 (strE vo) z10 z11 z12 z13 sv hk hs
     have cI5:=zcd h k b2 (flE fs) po nse (isE tr) n7 b8 (strE vo) z10 z11 z12 z13 sv hk hs
     exact ⟨_,z3r _ _ _ _ _ _ _ _ _ _ _ _ _ _ true p2 true _ _ _ rfl cS (fun _=>cS2) (fun _ _=>cS3) (fun _ _ _=>cS4) (fun _ _ _=>cS5),z40 _ _ _ _ _ _ _ _ _ _ _ _ _ _ true p2 true _ _ _ rfl cI (fun _=>cI2) (fun _ _=>cI3) (fun _ _ _=>cI4) (fun _ _ _=>cI5)⟩
end Go.Proofs.YthcfalipgnpelaaGreatDoor
