/- Functions by content: the program reads seals of any text; what an auditor makes of its records. -/
import Derived.Test.YthcfalipgnpelaaGreatDoorVd
import Derived.Test.YthcfalipgnpelaaGreatDoorCi
import Derived.Test.YthcfalipgnpelaaGreatDoorCsp
namespace Go.Proofs.YthcfalipgnpelaaGreatDoor
set_option maxRecDepth 100000
set_option maxHeartbeats 8000000
set_option linter.unusedVariables false
set_option linter.unusedSimpArgs false
set_option linter.unusedSectionVars false
open Go.RowKit Pl
attribute [local irreducible] z0o z0p z0z AnsP LeP
theorem zmi {t:Bs} (h:z2C t = none):slR t = [.agg [.int .i64 0,.int .i64 0,.str [],.str [],.int .i64 0,.sl 1 [],.sl 1 [],.sl 1 []],.bool false]:=by
 unfold slR
 rw [h]
 rfl
theorem zmj {t:Bs} {h:Hd} {g:Sg} (e:z2C t = some (h,g)):slR t = [.agg [.int .i64 (h.ho:Int),.int .i64 (h.ep:Int),.str h.ro,.str h.pr,.int .i64 (g.a:Int),.sl 1 (strE g.op),.sl 1 (strE g.sh),.sl 1 (strE g.si)],.bool true]:=by
 unfold slR
 rw [e]
 rfl
theorem zml (t:Bs) (ht:t.length ≤ 1000000):CT Tryz.prog 287 [] [.str t] (.tup (slR t)) []:=by
 cases hr:z2C t with
 | some x =>
   obtain ⟨h,s⟩:=x
   rw [zmj hr]
   obtain ⟨g,gs,e⟩:=z2u.1 hr
   subst e
   exact zmB h s g gs
 | none =>
   obtain ⟨ho,ep,ro,pr,a,op,sh,si,q,b',hd,c1⟩:=zm9 t 0 false (by omega) (Nat.zero_le _) (fun _=>by rw [List.drop_zero]; exact hr)
   have c2:=z8X t q b'
   rw [hd] at c2
   rw [zmi hr]
   change CT Tryz.prog 232 [fldB t 0 false] [.ptr 1 0 0] (.agg [.int .i64 ho,.int .i64 ep,.str ro,.str pr,.int .i64 a,.sl 1 (strE op),.sl 1 (strE sh),.sl 1 (strE si)]) [fldB t q b'] at c1
   unfold fldB at c1 c2
   refine z01 z03 1 rfl Tryz.func287 rfl rfl rfl ?_
   repeat ((try conv=>whnf); first | (refine ccB ([_]) (c1) ?_) | (refine ccB ([_]) (c2) ?_) | (refine And.intro (by kernel_rfl) ?_) | (refine stpQ ?_))
   (refine z00 (by rfl) ?_ ?_ (by rfl)) <;> (repeat' (first | (exact eqA) | (refine shE ?_) | (refine And.intro ?_ ?_)))
structure Av where
 ps:List (Hd × Sg)
 pr:List ((Hd × Sg) × (Hd × Sg))
def av0:Av:=⟨[],[]⟩
inductive Ak where
 | no | pin (h:Hd) (g:Sg) | two (h:Hd) (g:Sg) (h':Hd) (g':Sg)
def zmE (t x:Bs) (q:Nat):Ak:=match z2C x,z2C (t.drop q) with
 | some (h,g),some (h',g')=>.two h g h' g'
 | _,_=>.no
def akOf:Bs → Ak
 | []=>.no
 | b :: r =>
   if b.toNat = 1 then match z2C r with
    | some (h,g)=>.pin h g
    | none=>.no
   else if b.toNat = 2 then
    if (z0G (b :: r) 1 false).2.2 = true then .no else zmE (b :: r) (z0G (b :: r) 1 false).1 (z0G (b :: r) 1 false).2.1
   else .no
def akDo (s:Av):Ak → Av
 | .no=>s
 | .pin h g=>{ s with ps:=s.ps ++ [(h,g)] }
 | .two h g h' g'=>{ s with pr:=s.pr ++ [((h,g),(h',g'))] }
def zmu (s:Av) (t:Bs):Av:=akDo s (akOf t)
def avOf (ts:List Bs):Av:=ts.foldl zmu av0
theorem zmF {ts:List Bs} {k:Nat} (h:k < ts.length):avOf (ts.take (k + 1)) = zmu (avOf (ts.take k)) ts[k]:=by
 unfold avOf
 rw [List.take_succ_eq_append_getElem h,List.foldl_append]; rfl
structure AvOk (n:Nat) (s:Av):Prop where
 pl:s.ps.length ≤ n
 rl:s.pr.length ≤ n
 pg:∀ x ∈ s.ps,x.1.good ∧ x.2.good
 rg:∀ x ∈ s.pr,(x.1.1.good ∧ x.1.2.good) ∧ (x.2.1.good ∧ x.2.2.good)
theorem ak_pin {t:Bs} {h:Hd} {g:Sg} (e:akOf t = .pin h g):h.good ∧ g.good:=by
 cases t with
 | nil=>cases e
 | cons b r =>
   rw [akOf] at e
   split at e
   ·split at e
    ·rename_i h' g' hr
     injection e with e1 e2
     subst e1 e2
     obtain ⟨a,b,-⟩:=z2u.1 hr
     exact ⟨a,b⟩
    ·cases e
   ·split at e
    ·split at e
     ·cases e
     ·unfold zmE at e
      split at e <;> cases e
    ·cases e
theorem ak_two {t:Bs} {h:Hd} {g:Sg} {h':Hd} {g':Sg} (e:akOf t = .two h g h' g'):(h.good ∧ g.good) ∧ (h'.good ∧ g'.good):=by
 cases t with
 | nil=>cases e
 | cons b r =>
   rw [akOf] at e
   split at e
   ·split at e <;> cases e
   ·split at e
    ·split at e
     ·cases e
     ·unfold zmE at e
      split at e
      ·rename_i x1 x2 x3 x4 e1 e2
       injection e with q1 q2 q3 q4
       subst q1 q2 q3 q4
       obtain ⟨a,b,-⟩:=z2u.1 e1
       obtain ⟨c,d,-⟩:=z2u.1 e2
       exact ⟨⟨a,b⟩,⟨c,d⟩⟩
      ·cases e
    ·cases e
theorem zmO {n:Nat} {s:Av} {t:Bs} (h:AvOk n s):AvOk (n + 1) (zmu s t):=by
 have hp:=h.pl
 have hr:=h.rl
 unfold zmu
 cases hk:akOf t with
 | no=>exact ⟨by simp only [akDo]; omega,by simp only [akDo]; omega,h.pg,h.rg⟩
 | pin x g =>
   refine ⟨by simp only [akDo,List.length_append,List.length_singleton]; omega,by simp only [akDo]; omega,fun y hy=>?_,h.rg⟩
   simp only [akDo,List.mem_append,List.mem_singleton] at hy
   rcases hy with hy | rfl
   ·exact h.pg y hy
   ·exact ak_pin hk
 | two x g x' g' =>
   refine ⟨by simp only [akDo]; omega,by simp only [akDo,List.length_append,List.length_singleton]; omega,h.pg,fun y hy=>?_⟩
   simp only [akDo,List.mem_append,List.mem_singleton] at hy
   rcases hy with hy | rfl
   ·exact h.rg y hy
   ·exact ak_two hk
theorem zmq:∀ (ts:List Bs) (s:Av) (n:Nat),AvOk n s → AvOk (n + ts.length) (ts.foldl zmu s)
 | [],s,n,h=>h
 | t :: ts,s,n,h=>by
   have:=zmq ts _ (n + 1) (zmO (t:=t) h)
   rw [show n + (t :: ts).length = n + 1 + ts.length by simp; omega]
   exact this
theorem zmv (ts:List Bs):AvOk ts.length (avOf ts):=by
 have:=zmq ts av0 0 ⟨Nat.le_refl _,Nat.le_refl _,by simp [av0],by simp [av0]⟩
 rwa [Nat.zero_add] at this
def prC (x:(Hd × Sg) × (Hd × Sg)):List T:=[.int .i64 (x.1.1.ho:Int),.int .i64 (x.1.1.ep:Int),.str x.1.1.ro,.str x.1.1.pr,.int .i64 (x.1.2.a:Int),.sl 1 (strE x.1.2.op),.sl 1 (strE x.1.2.sh),.sl 1 (strE x.1.2.si),.int .i64 (x.2.1.ho:Int),.int .i64 (x.2.1.ep:Int),.str x.2.1.ro,.str x.2.1.pr,.int .i64 (x.2.2.a:Int),.sl 1 (strE x.2.2.op),.sl 1 (strE x.2.2.sh),.sl 1 (strE x.2.2.si)]
def prE (l:List ((Hd × Sg) × (Hd × Sg))):List (List T):=l.map prC
theorem zmw (l:List ((Hd × Sg) × (Hd × Sg))):(prE l).length = l.length:=by simp [prE]
theorem zmG (l:List ((Hd × Sg) × (Hd × Sg))) (x:(Hd × Sg) × (Hd × Sg)):prE (l ++ [x]) = prE l ++ [prC x]:=by simp [prE]
def avB (ho:Int) (fs:List Fl) (po:List Bs) (a b:Nat):Ent:=.box [.int .i64 ho,.bool true,.sl 3 (flE fs),.sl 1 (strE po),.ref a,.ref b]
def avE (ho:Int) (fs:List Fl) (po:List Bs) (s:Av):List T:=[.int .i64 ho,.bool true,.sl 3 (flE fs),.sl 1 (strE po),.sl 8 (slE s.ps),.sl 16 (prE s.pr)]
def avH (ho:Int) (fs:List Fl) (po:List Bs) (s:Av):Ak → List Ent
 | .no=>[avB ho fs po 2 3,.row 8 (slE s.ps),.row 16 (prE s.pr)]
 | .pin h g=>[avB ho fs po 4 3,.row 0 [],.row 16 (prE s.pr),.row 8 (slE (s.ps ++ [(h,g)]))]
 | .two h g h' g'=>[avB ho fs po 2 4,.row 8 (slE s.ps),.row 0 [],.row 16 (prE (s.pr ++ [((h,g),(h',g'))]))]
def zmh:Bs:=[112,105,110,115]
theorem zmP (ho:Int) (fs:List Fl) (po:List Bs) (s:Av) {n:Nat} (ok:AvOk n s) (hn:n ≤ 30000) (b:UInt8) (r:Bs) (hr:r.length ≤ 9000) :
 CT Tryz.prog 239 (avH ho fs po s .no) [.ptr 1 0 0,.str (b :: r)] (.tup []) (avH ho fs po s (akOf (b :: r))):=by
 have hl:(b :: r).length = r.length + 1:=rfl
 have h0:0 < (b :: r).length:=by simp
 have hbl:=b.toNat_lt
 have hpl:=ok.pl
 have hrl:=ok.rl
 have sl1:(slE s.ps).length = s.ps.length:=z3W _
 have sl2:(prE s.pr).length = s.pr.length:=zmw _
 have h1l:1 ≤ (b :: r).length:=by omega
 by_cases k1:b.toNat = 1
 ·have k1':((b.toNat:Nat):Int) = 1:=by omega
  rw [akOf,if_pos k1]
  have c1:CT Tryz.prog 287 [] [.str ((b :: r).drop 1)] (.tup (slR r)) []:=zml r (by omega)
  cases hs:z2C r with
  | none =>
    rw [zmi hs] at c1
    unfold avH avB
    refine z01 z03 4 rfl Tryz.func239 rfl rfl rfl ?_
    repeat ((try conv=>whnf); first | (refine Exists.intro 0 (And.intro rfl (And.intro h0 ?_))) | (refine z0k k1' ?_) | (refine Exists.intro 1 (And.intro rfl (And.intro h1l ?_))) | (refine ccA ([]) (c1) ?_) | (refine And.intro (by kernel_rfl) ?_) | (refine stpQ ?_))
    (refine z00 (by rfl) ?_ ?_ (by rfl)) <;> (repeat' (first | (exact eqA) | (refine shE ?_) | (refine And.intro ?_ ?_)))
  | some y =>
    obtain ⟨h,g⟩:=y
    rw [zmj hs] at c1
    have happ:=zhS s.ps (h,g)
    obtain ⟨xa,xb,xc,xd⟩:=h
    obtain ⟨ya,yb,yc,yd⟩:=g
    unfold avH avB
    dsimp only at c1 happ ⊢
    rw [happ]
    refine z01 z03 4 rfl Tryz.func239 rfl rfl rfl ?_
    repeat ((try conv=>whnf); first | (refine Exists.intro 0 (And.intro rfl (And.intro h0 ?_))) | (refine z0k k1' ?_) | (refine Exists.intro 1 (And.intro rfl (And.intro h1l ?_))) | (refine ccA ([]) (c1) ?_) | (refine And.intro (by simp only [List.length_append,List.length_cons,List.length_nil,List.length_set,List.length_replicate]; omega) ?_) | (refine And.intro (by kernel_rfl) ?_) | (refine stpQ ?_))
    (refine z00 (by rfl) ?_ ?_ (by rfl)) <;> (repeat' (first | (exact eqA) | (refine shE ?_) | (refine And.intro ?_ ?_)))
    all_goals rfl
 ·have k1':¬ ((b.toNat:Nat):Int) = 1:=by omega
  rw [akOf,if_neg k1]
  by_cases k2:b.toNat = 2
  ·have k2':((b.toNat:Nat):Int) = 2:=by omega
   rw [if_pos k2]
   have c0:=zh9 (b :: r) 1 false (by omega) (by omega)
   have l0:=z3s (t:=b :: r) (p:=1) (bad:=false) (by omega)
   generalize z0G (b :: r) 1 false = A at c0 l0 ⊢
   obtain ⟨x,q,bd⟩:=A
   simp only at c0 l0 ⊢
   have c1:=zml x (by omega)
   have c2:=zml ((b :: r).drop q) (by simp; omega)
   have lq:=l0.1
   unfold fldB at c0
   cases bd with
   | true =>
     rw [if_pos rfl]
     obtain ⟨w1,w2,w3,w4,w5,w6,w7,w8,w9,hR⟩:∃ w1 w2 w3 w4 w5 w6 w7 w8 w9,slR x = [.agg [.int .i64 w1,.int .i64 w2,.str w3,.str w4,.int .i64 w5,.sl 1 w6,.sl 1 w7,.sl 1 w8],.bool w9]:=by
      cases hs:z2C x with
      | none=>exact ⟨_,_,_,_,_,_,_,_,_,zmi hs⟩
      | some y=>exact ⟨_,_,_,_,_,_,_,_,_,zmj (h:=y.1) (g:=y.2) hs⟩
     rw [hR] at c1
     clear hR c2
     unfold avH avB
     refine z01 z03 4 rfl Tryz.func239 rfl rfl rfl ?_
     repeat ((try conv=>whnf); first | (refine Exists.intro 0 (And.intro rfl (And.intro h0 ?_))) | (refine z0e k1' ?_) | (refine z0k k2' ?_) | (refine ccB ([_]) (c0) ?_) | (refine ccA ([]) (c1) ?_) | (refine And.intro (by kernel_rfl) ?_) | (refine stpQ ?_))
     (refine z00 (by rfl) ?_ ?_ (by rfl)) <;> (repeat' (first | (exact eqA) | (refine shE ?_) | (refine And.intro ?_ ?_)))
   | false =>
     rw [if_neg (by decide)]
     unfold zmE
     cases hs:z2C x with
     | none =>
       rw [zmi hs] at c1
       simp only
       obtain ⟨w1,w2,w3,w4,w5,w6,w7,w8,w9,hR⟩:∃ w1 w2 w3 w4 w5 w6 w7 w8 w9,slR ((b :: r).drop q) = [.agg [.int .i64 w1,.int .i64 w2,.str w3,.str w4,.int .i64 w5,.sl 1 w6,.sl 1 w7,.sl 1 w8],.bool w9]:=by
        cases hs:z2C ((b :: r).drop q) with
        | none=>exact ⟨_,_,_,_,_,_,_,_,_,zmi hs⟩
        | some y=>exact ⟨_,_,_,_,_,_,_,_,_,zmj (h:=y.1) (g:=y.2) hs⟩
       rw [hR] at c2
       clear hR
       unfold avH avB
       refine z01 z03 4 rfl Tryz.func239 rfl rfl rfl ?_
       repeat ((try conv=>whnf); first | (refine Exists.intro 0 (And.intro rfl (And.intro h0 ?_))) | (refine z0e k1' ?_) | (refine z0k k2' ?_) | (refine ccB ([_]) (c0) ?_) | (refine ccA ([]) (c1) ?_) | (refine i_le lq ?_) | (refine ccA ([]) (c2) ?_) | (refine And.intro (by kernel_rfl) ?_) | (refine stpQ ?_))
       (refine z00 (by rfl) ?_ ?_ (by rfl)) <;> (repeat' (first | (exact eqA) | (refine shE ?_) | (refine And.intro ?_ ?_)))
     | some y =>
       obtain ⟨h,g⟩:=y
       rw [zmj hs] at c1
       cases hs2:z2C ((b :: r).drop q) with
       | none =>
         rw [zmi hs2] at c2
         simp only
         unfold avH avB
         refine z01 z03 4 rfl Tryz.func239 rfl rfl rfl ?_
         repeat ((try conv=>whnf); first | (refine Exists.intro 0 (And.intro rfl (And.intro h0 ?_))) | (refine z0e k1' ?_) | (refine z0k k2' ?_) | (refine ccB ([_]) (c0) ?_) | (refine ccA ([]) (c1) ?_) | (refine i_le lq ?_) | (refine ccA ([]) (c2) ?_) | (refine And.intro (by kernel_rfl) ?_) | (refine stpQ ?_))
         (refine z00 (by rfl) ?_ ?_ (by rfl)) <;> (repeat' (first | (exact eqA) | (refine shE ?_) | (refine And.intro ?_ ?_)))
       | some y' =>
         obtain ⟨h',g'⟩:=y'
         rw [zmj hs2] at c2
         have happ:=zmG s.pr ((h,g),(h',g'))
         unfold prC at happ
         obtain ⟨xa,xb,xc,xd⟩:=h
         obtain ⟨ya,yb,yc,yd⟩:=g
         obtain ⟨xa',xb',xc',xd'⟩:=h'
         obtain ⟨ya',yb',yc',yd'⟩:=g'
         unfold avH avB
         dsimp only at c1 c2 happ ⊢
         rw [happ]
         refine z01 z03 4 rfl Tryz.func239 rfl rfl rfl ?_
         repeat ((try conv=>whnf); first | (refine Exists.intro 0 (And.intro rfl (And.intro h0 ?_))) | (refine z0e k1' ?_) | (refine z0k k2' ?_) | (refine ccB ([_]) (c0) ?_) | (refine ccA ([]) (c1) ?_) | (refine i_le lq ?_) | (refine ccA ([]) (c2) ?_) | (refine And.intro (by simp only [List.length_append,List.length_cons,List.length_nil,List.length_set,List.length_replicate]; omega) ?_) | (refine And.intro (by kernel_rfl) ?_) | (refine stpQ ?_))
         (refine z00 (by rfl) ?_ ?_ (by rfl)) <;> (repeat' (first | (exact eqA) | (refine shE ?_) | (refine And.intro ?_ ?_)))
         all_goals rfl
  ·have k2':¬ ((b.toNat:Nat):Int) = 2:=by omega
   rw [if_neg k2]
   unfold avH avB
   refine z01 z03 4 rfl Tryz.func239 rfl rfl rfl ?_
   repeat ((try conv=>whnf); first | (refine Exists.intro 0 (And.intro rfl (And.intro h0 ?_))) | (refine z0e k1' ?_) | (refine z0e k2' ?_) | (refine And.intro (by kernel_rfl) ?_) | (refine stpQ ?_))
   (refine z00 (by rfl) ?_ ?_ (by rfl)) <;> (repeat' (first | (exact eqA) | (refine shE ?_) | (refine And.intro ?_ ?_)))
end Go.Proofs.YthcfalipgnpelaaGreatDoor
