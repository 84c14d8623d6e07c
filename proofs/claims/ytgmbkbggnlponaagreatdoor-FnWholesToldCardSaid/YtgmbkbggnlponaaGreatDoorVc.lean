/- What an operation looks at settles what it gives. Regions that draw their order: the order of the text serves, if what two operations share is ordered. -/
import Derived.Test.YtgmbkbggnlponaaGreatDoorVb
import Derived.Orders
namespace Go.Proofs.YtgmbkbggnlponaaGreatDoor
set_option linter.unusedVariables false
set_option linter.unusedSimpArgs false
set_option linter.unusedSectionVars false
open Go.RowKit Pl
def z1w:T→List Nat
 | .ref r=>[r]
 | .ptr r _ _=>[r]
 | .fnp _ r=>[r]
 | .fnq _ r s=>[r,s]
 | _=>[]
def z1F:T→List Nat
 | .agg cs=>cs.flatMap z1w
 | x=>z1w x
def z0L (xs:List T):List Nat:=xs.flatMap z1F
def Agr (H H':Hp) (l:List Nat):Prop:=∀ r,r ∈ l→H' r=H r
def Det (E:Hp→Kon→Prop) (H:Hp) (l:List Nat) (K:Kon):Prop:=∃ x u,K x u∧∀ H',Agr H H' l→E H' fun x' u'=>x'=x∧u'=u
theorem z3Z {x:T} {K:T→Prop} (h:z24 x K):∃ r,K r∧z24 x fun r'=>r'=r:=by cases x<;>exact ⟨_,h,rfl⟩
theorem z6t {y:Ty} {cs:List T} {j:Nat} {K:T→Prop} (h:z7q y cs j K):∃ r,K r∧z7q y cs j fun r'=>r'=r:=by
 unfold z7q at h ⊢
 cases ha:y.d.agg with
 | true=>rw [ha] at h;exact ⟨_,(z2h h).2,z7C ⟨(z2h h).1,rfl⟩⟩
 | false =>
   rw [ha] at h;obtain ⟨c,a,b⟩:=h
   obtain ⟨r,q1,q2⟩:=z3Z (K:=K) b
   exact ⟨r,q1,c,a,q2⟩
theorem zfW {op:BinOp} {x y:T} {K:T→Prop} (h:binT op x y K):∃ r,K r∧binT op x y fun r'=>r'=r:=by
 cases x<;>cases y<;>simp only [binT] at h
 case int.int k a k' b =>
  cases op<;>simp only [binT] at h ⊢
  case shl=>obtain ⟨h1,h2,r,h3,h4⟩:=h;exact ⟨_,h4,h1,h2,r,h3,rfl⟩
  case shr=>obtain ⟨h1,h2,r,h3,h4⟩:=h;exact ⟨_,h4,h1,h2,r,h3,rfl⟩
  all_goals first
   | (obtain ⟨h1,r,h3,h4⟩:=h;exact ⟨_,h4,h1,r,h3,rfl⟩)
   | (obtain ⟨h1,h2,r,h3,h4⟩:=h;exact ⟨_,h4,h1,h2,r,h3,rfl⟩)
   | (obtain ⟨h1,h4⟩:=h;exact ⟨_,h4,h1,rfl⟩)
 case str.str a b =>
  cases op<;>simp only [binT] at h ⊢
  case add=>exact ⟨_,h.2,h.1,rfl⟩
  all_goals exact ⟨_,h,rfl⟩
theorem zht {tt:TT} {op:BinOp} {t:TypeId} {xs ys:List T} {K:T→Prop} (h:eqT tt op t xs ys K):∃ r,K r∧eqT tt op t xs ys fun r'=>r'=r:=by
 unfold eqT at h ⊢
 cases ht:tt t with
 | none=>rw [ht] at h;exact h.elim
 | some y =>
   rw [ht] at h
   obtain ⟨h1,h2,h3,h4⟩:=h
   cases op<;>simp only at h4<;>first|exact h4.elim|exact ⟨_,h4,h1,h2,h3,rfl⟩
theorem zhu {tt:TT} {op:BinOp} {t:TypeId} {a b:Bool} {K:T→Prop} (h:eqB tt op t a b K):∃ r,K r∧eqB tt op t a b fun r'=>r'=r:=by
 unfold eqB at h ⊢
 cases ht:tt t with
 | none=>rw [ht] at h;exact h.elim
 | some y =>
   rw [ht] at h
   simp only at h ⊢
   cases hd:y.d<;>rw [hd] at h<;>simp only at h ⊢<;>try exact h.elim
   cases op<;>simp only at h ⊢<;>first|exact h.elim|exact ⟨_,h,rfl⟩
theorem zhv {op:UnOp} {x:T} {K:T→Prop} (h:unT op x K):∃ r,K r∧unT op x fun r'=>r'=r:=by
 cases op<;>cases x<;>simp only [unT] at h ⊢
 case not.bool b=>exact ⟨_,h,rfl⟩
 all_goals (obtain ⟨r,h1,h2⟩:=h;exact ⟨_,h2,r,h1,rfl⟩)
theorem zb6 {H H':Hp}:∀ {cs:List T},Agr H H' (cs.flatMap z1w)→frz H' cs=frz H cs
 | [],_=>rfl
 | c :: cs,h=>by
   have ih:=zb6 (cs:=cs) (fun r hr=>h r (by simp [hr]))
   cases c<;>simp only [frz,ih]
   case ref r=>rw [h r (by simp [z1w])]
theorem z3l {x:T} {cs:List T} (h:z4a x=some cs):cs.flatMap z1w=z1F x:=by
 cases x<;>simp [z4a] at h<;>subst h<;>simp [z1F,z1w]
theorem z6u {H H':Hp} {sz:Nat}:∀ {l:List (Nat × T)} {es:List (List T)} {g:List Nat},Agr H H' (z0L (l.map (·.2)))→z65 H' sz es g l=z65 H sz es g l
 | [],_,_,_=>rfl
 | (i,x) :: l,es,g,h=>by
   simp only [z65]
   cases hc:z4a x with
   | none=>rfl
   | some xs =>
     simp only [zb6 (cs:=xs) (H:=H) (H':=H') (fun r hr=>h r (by rw [z3l hc] at hr;simp [z0L,hr]))]
     cases frz H xs with
     | none=>rfl
     | some q =>
       obtain ⟨ys,rs⟩:=q
       simp only
       rw [z6u (fun r hr=>h r (by simp [z0L] at hr ⊢;exact .inr hr))]
theorem z5W:∀ {ps:List (Nat × Operand)} {xs:List T} {r:Nat},r ∈ z0L ((z2o ps xs).map (·.2))→r ∈ z0L xs
 | [],_,r,h=>by simp [z2o,z0L] at h
 | _ :: _,[],r,h=>by simp [z2o,z0L] at h
 | (i,_) :: ps,x :: xs,r,h=>by
   simp only [z2o,List.map_cons,z0L,List.flatMap_cons,List.mem_append] at h ⊢
   exact h.imp id z5W
theorem z5g {tt:TT} {H:Hp} {ye yu:Ty} {z:T} {K K':Nat→List (List T)→Prop} (h:z67 tt H ye yu z K) (hk:∀ k es,K k es→K' k es):z67 tt H ye yu z K':=by
 cases z<;>simp only [z67] at h ⊢
 case ref s =>
  cases hH:H s with
  | none=>simp only [hH] at h
  | some e=>cases e with
    | box cs=>simp only [hH] at h
    | row k es=>simp only [hH] at h ⊢;exact ⟨h.1,hk _ _ h.2⟩
    | deep k es l=>simp only [hH] at h
 case sl k es=>exact ⟨h.1,hk _ _ h.2⟩
 case val v=>exact ⟨h.1,h.2.1,hk _ _ h.2.2⟩
 case str b=>exact ⟨h.1,h.2.1,hk _ _ h.2.2⟩
 case int kk n =>
  obtain ⟨h1,h2,h3,m,h4,h5,h6⟩:=h
  exact ⟨h1,h2,h3,m,h4,h5,hk _ _ h6⟩
theorem z9G {tt:TT} {H:Hp} {ye yu:Ty} {z:T} {K:Nat→List (List T)→Prop} (h:z67 tt H ye yu z K):∃ k es,K k es∧∀ H',Agr H H' (z1F z)→z67 tt H' ye yu z fun k' es'=>k'=k∧es'=es:=by
 cases z<;>simp only [z67] at h
 case ref s =>
  cases hH:H s with
  | none=>simp only [hH] at h
  | some e=>cases e with
    | box cs=>simp only [hH] at h
    | row k es =>
      simp only [hH] at h
      refine ⟨k,es,h.2,fun H' ha=>?_⟩
      simp only [z67,ha s (by simp [z1F,z1w]),hH]
      exact ⟨h.1,trivial,trivial⟩
    | deep k es l=>simp only [hH] at h
 case sl k es=>exact ⟨_,_,h.2,fun H' _=>⟨h.1,rfl,rfl⟩⟩
 case val v=>exact ⟨_,_,h.2.2,fun H' _=>⟨h.1,h.2.1,rfl,rfl⟩⟩
 case str b=>exact ⟨_,_,h.2.2,fun H' _=>⟨h.1,h.2.1,rfl,rfl⟩⟩
 case int kk n =>
  obtain ⟨h1,h2,h3,m,h4,h5,h6⟩:=h
  exact ⟨_,_,h6,fun H' _=>⟨h1,h2,h3,m,h4,h5,rfl,rfl⟩⟩
theorem zfX {tt:TT} {H:Hp} {ye yu:Ty} {x z:T} {K:Nat→List (List T)→List Nat→Prop} (h:appT tt H ye yu x z K) :
 ∃ k es g,K k es g∧∀ H',Agr H H' (z1F x++z1F z)→appT tt H' ye yu x z fun k' es' g'=>k'=k∧es'=es∧g'=g:=by
 unfold appT at h
 split at h<;>try exact h.elim
 ·obtain ⟨rfl,h⟩:=h
  obtain ⟨k,es,q1,q2⟩:=z9G h
  refine ⟨k,es,[],q1,fun H' ha=>⟨rfl,?_⟩⟩
  have:=q2 H' (fun r hr=>ha r (by simp [hr]))
  simpa using this
 ·rename_i r
  split at h<;>try exact h.elim
  rename_i k0 es0 hH
  obtain ⟨h0,h⟩:=h
  obtain ⟨k,es,⟨rfl,q1⟩,q2⟩:=z9G h
  refine ⟨k0,_,_,q1,fun H' ha=>?_⟩
  simp only [appT,ha r (by simp [z1F,z1w]),hH]
  refine ⟨h0,?_⟩
  exact z5g (q2 H' (fun r hr=>ha r (by simp [hr]))) (fun k es h=>⟨h.1.symm,h.1,by rw [h.2],trivial⟩)
theorem zek {tt:TT} {H:Hp} {ye yu:Ty} {x z:T} {K K':Nat→List (List T)→List Nat→Prop} (h:appT tt H ye yu x z K) (hk:∀ k es g,K k es g→K' k es g):appT tt H ye yu x z K':=by
 cases x<;>simp only [appT] at h ⊢
 case val v=>exact ⟨h.1,z5g h.2 fun k es h=>hk _ _ _ h⟩
 case ref r =>
  cases hH:H r with
  | none=>simp only [hH] at h
  | some e=>cases e with
    | box cs=>simp only [hH] at h
    | row k es=>simp only [hH] at h ⊢;exact ⟨h.1,z5g h.2 fun k es h=>⟨h.1,hk _ _ _ h.2⟩⟩
    | deep k es l=>simp only [hH] at h
theorem z8C {H H':Hp}:∀ {cs:List T},Agr H H' (cs.flatMap z1w)→absb H' cs=absb H cs
 | [],_=>rfl
 | c :: cs,h=>by
   have ih:=z8C (cs:=cs) (fun r hr=>h r (by simp [hr]))
   cases c<;>simp only [absb,ih]
   case ref r=>rw [h r (by simp [z1w])]
theorem z7Q {H H':Hp} {z:T} (h:Agr H H' (z1F z)):z9o H' z=z9o H z:=by
 cases z<;>simp only [z9o]
 case ref r=>rw [h r (by simp [z1F,z1w])]
theorem zfY {tt:TT} {H:Hp} {ye yu:Ty} {x:T} {s k:Nat} {K:List (List T)→List Nat→Prop} (h:appD tt H ye yu x s k K) :
 ∃ es g,K es g∧∀ H',Agr H H' (z1F x)→appD tt H' ye yu x s k fun es' g'=>es'=es∧g'=g:=by
 unfold appD at h
 split at h<;>try exact h.elim
 ·exact ⟨_,_,h.2.2,fun H' _=>⟨h.1,h.2.1,rfl,rfl⟩⟩
 ·rename_i r
  split at h<;>try exact h.elim
  rename_i k0 es0 hH
  obtain ⟨h1,h2,h3,h⟩:=h
  refine ⟨_,_,h,fun H' ha=>?_⟩
  simp only [appD,ha r (by simp [z1F,z1w]),hH]
  exact ⟨h1,h2,h3,trivial,trivial⟩
theorem zel {tt:TT} {H:Hp} {ye yu:Ty} {x:T} {s k:Nat} {K K':List (List T)→List Nat→Prop} (h:appD tt H ye yu x s k K) (hk:∀ es g,K es g→K' es g):appD tt H ye yu x s k K':=by
 unfold appD at h ⊢
 split at h<;>try exact h.elim
 ·exact ⟨h.1,h.2.1,hk _ _ h.2.2⟩
 ·split at h<;>try exact h.elim
  exact ⟨h.1,h.2.1,h.2.2.1,hk _ _ h.2.2.2⟩
section
variable {tt:TT} {ty:TypeId} {H:Hp} {id:Nat} {K:Kon}
theorem zfZ {t:TypeId} {o:Operand} {x:T} (h:Eff tt (.load t o) ty [x] H id K):Det (fun H K=>Eff tt (.load t o) ty [x] H id K) H (z0L [x]) K:=by
 simp only [Eff] at h
 split at h<;>try exact h.elim
 rename_i y hy
 cases x<;>simp only at h
 case ptr r i j =>
  cases hH:H r with
  | none=>simp only [hH] at h
  | some e=>cases e with
    | box cs =>
      simp only [hH] at h
      obtain ⟨rfl,h⟩:=h
      obtain ⟨c,q1,q2⟩:=z6t h
      refine ⟨c,[],q1,fun H' ha=>?_⟩
      simp only [Eff,hy,ha r (by simp [z0L,z1F,z1w]),hH,true_and,and_true]
      exact q2
    | row k es =>
      simp only [hH] at h
      obtain ⟨e,he,h⟩:=h
      obtain ⟨c,q1,q2⟩:=z6t h
      refine ⟨c,[],q1,fun H' ha=>?_⟩
      simp only [Eff,hy,ha r (by simp [z0L,z1F,z1w]),hH,and_true]
      exact ⟨e,he,q2⟩
    | deep k es l =>
      simp only [hH] at h
      obtain ⟨hag,e,he,c,hc,h⟩:=h
      by_cases hown:∃ k2 es2,c=.own k2 es2
      ·obtain ⟨k2,es2,rfl⟩:=hown
       refine ⟨_,_,h,fun H' ha=>?_⟩
       simp only [Eff,hy,ha r (by simp [z0L,z1F,z1w]),hH]
       exact ⟨hag,e,he,_,hc,trivial,rfl⟩
      ·have h:z24 c fun c=>K c []:=by
        cases c<;>first|exact h|exact absurd ⟨_,_,rfl⟩ hown
       obtain ⟨q,q1,q2⟩:=z3Z (K:=fun c=>K c []) h
       refine ⟨q,[],q1,fun H' ha=>?_⟩
       simp only [Eff,hy,ha r (by simp [z0L,z1F,z1w]),hH,and_true]
       refine ⟨hag,e,he,c,hc,?_⟩
       cases c<;>first|exact q2|exact absurd ⟨_,_,rfl⟩ hown
 case rptr c j =>
  obtain ⟨c',q1,q2⟩:=z6t h
  refine ⟨c',[],q1,fun H' ha=>?_⟩
  simp only [Eff,hy,and_true]
  exact q2
theorem zem {t:TypeId} {o o':Operand} {p x:T} (h:Eff tt (.store t o o') ty [p,x] H id K):Det (fun H K=>Eff tt (.store t o o') ty [p,x] H id K) H (z0L [p,x]) K:=by
 simp only [Eff] at h
 split at h<;>try exact h.elim
 rename_i y xs hy hc
 obtain ⟨hl,h⟩:=h
 cases p<;>simp only at h
 case ptr r i j =>
  cases hH:H r with
  | none=>simp only [hH] at h
  | some e=>cases e with
    | box cs =>
      simp only [hH] at h
      obtain ⟨rfl,hb,h⟩:=h
      refine ⟨_,_,h,fun H' ha=>?_⟩
      simp only [Eff,hy,hc,ha r (by simp [z0L,z1F,z1w]),hH]
      exact ⟨hl,trivial,hb,trivial,trivial⟩
    | row k es =>
      simp only [hH] at h
      cases hrf:ze2 xs with
      | false =>
        simp only [hrf,cond_false] at h
        obtain ⟨h0,e,he,hb,h⟩:=h
        refine ⟨_,_,h,fun H' ha=>?_⟩
        simp only [Eff,hy,hc,ha r (by simp [z0L,z1F,z1w]),hH,hrf,cond_false]
        exact ⟨hl,h0,e,he,hb,trivial,rfl⟩
      | true =>
        simp only [hrf,cond_true] at h
        split at h<;>try exact h.elim
        rename_i ys rs hfz
        obtain ⟨h1,e,he,hb,h⟩:=h
        refine ⟨_,_,h,fun H' ha=>?_⟩
        simp only [Eff,hy,hc,ha r (by simp [z0L,z1F,z1w]),hH,hrf,cond_true]
        rw [zb6 (H:=H) (fun q hq=>ha q (by rw [z3l hc] at hq;simp [z0L,hq])),hfz]
        exact ⟨hl,h1,e,he,hb,trivial,rfl⟩
    | deep k es l =>
      simp only [hH] at h
      obtain ⟨h0,h⟩:=h
      split at h<;>try exact h.elim
      rename_i ys rs habs
      obtain ⟨h1,e,he,hb,h⟩:=h
      refine ⟨_,_,h,fun H' ha=>?_⟩
      simp only [Eff,hy,hc,ha r (by simp [z0L,z1F,z1w]),hH]
      rw [z8C (H:=H) (fun q hq=>ha q (by rw [z3l hc] at hq;simp [z0L,hq])),habs]
      exact ⟨hl,h0,h1,e,he,hb,trivial,rfl⟩
theorem z8D {st:TypeId} {o:Operand} {f:Nat} {x:T} (h:Eff tt (.fieldAddr st o f) ty [x] H id K):Det (fun H K=>Eff tt (.fieldAddr st o f) ty [x] H id K) H (z0L [x]) K:=by
 simp only [Eff] at h
 split at h<;>try exact h.elim
 rename_i y hy
 split at h<;>try exact h.elim
 rename_i fs hd
 split at h<;>try exact h.elim
 rename_i off ft hf
 split at h<;>try exact h.elim
 rename_i yf hyf
 obtain ⟨h0,h⟩:=h
 cases x<;>simp only at h
 all_goals exact ⟨_,_,h,fun H' _=>by simp only [Eff,hy,hd,hf,hyf];exact ⟨h0,trivial,trivial⟩⟩
theorem z8E {t:TypeId} {o o':Operand} {x i:T} (h:Eff tt (.indexAddr t o o') ty [x,i] H id K):Det (fun H K=>Eff tt (.indexAddr t o o') ty [x,i] H id K) H (z0L [x,i]) K:=by
 simp only [Eff] at h
 split at h<;>try exact h.elim
 rename_i ik n y hy
 split at h<;>try exact h.elim
 ·rename_i e hd
  split at h<;>try exact h.elim
  rename_i ye hye
  cases x<;>simp only at h
  case ref r =>
   cases hH:H r with
   | none=>simp only [hH] at h
   | some en=>cases en with
     | box cs=>simp only [hH] at h
     | row k es =>
       simp only [hH] at h
       obtain ⟨h1,m,h2,h3,h⟩:=h
       refine ⟨_,_,h,fun H' ha=>?_⟩
       simp only [Eff,hy,hd,hye,ha r (by simp [z0L,z1F,z1w]),hH]
       exact ⟨h1,m,h2,h3,rfl,trivial⟩
     | deep k es l =>
       simp only [hH] at h
       obtain ⟨h1,m,h2,h3,h⟩:=h
       refine ⟨_,_,h,fun H' ha=>?_⟩
       simp only [Eff,hy,hd,hye,ha r (by simp [z0L,z1F,z1w]),hH]
       exact ⟨h1,m,h2,h3,rfl,trivial⟩
  case sl k es =>
   obtain ⟨h1,m,e',h2,h3,h⟩:=h
   refine ⟨_,_,h,fun H' ha=>?_⟩
   simp only [Eff,hy,hd,hye]
   exact ⟨h1,m,e',h2,h3,rfl,trivial⟩
 ·rename_i len e hd
  split at h<;>try exact h.elim
  rename_i ye hye
  obtain ⟨m,h1,h2,h⟩:=h
  cases x<;>simp only at h
  all_goals exact ⟨_,_,h,fun H' _=>by simp only [Eff,hy,hd,hye];exact ⟨m,h1,h2,rfl,trivial⟩⟩
theorem zen {t:TypeId} {o o':Operand} {x i:T} (h:Eff tt (.index t o o') ty [x,i] H id K):Det (fun H K=>Eff tt (.index t o o') ty [x,i] H id K) H (z0L [x,i]) K:=by
 simp only [Eff] at h
 split at h<;>try exact h.elim
 ·rename_i ik n s y hy
  split at h<;>try exact h.elim
  rename_i hd
  obtain ⟨m,h1,h2,h⟩:=h
  exact ⟨_,_,h,fun H' _=>by simp only [Eff,hy,hd];exact ⟨m,h1,h2,rfl,trivial⟩⟩
 ·rename_i ik n cs y hy
  split at h<;>try exact h.elim
  rename_i len e hd
  split at h<;>try exact h.elim
  rename_i ye hye
  obtain ⟨h0,h1,m,h2,h3,c,h4,h⟩:=h
  obtain ⟨r,q1,q2⟩:=z3Z h
  exact ⟨r,[],q1,fun H' _=>by simp only [Eff,hy,hd,hye,and_true];exact ⟨h0,h1,m,h2,h3,c,h4,q2⟩⟩
theorem zb7 {a b:TypeId} {o:Operand} {x:T} (h:Eff tt (.convert a b o) ty [x] H id K):Det (fun H K=>Eff tt (.convert a b o) ty [x] H id K) H (z0L [x]) K:=by
 simp only [Eff] at h
 split at h<;>try exact h.elim
 rename_i ys yd hys hyd
 split at h<;>try exact h.elim
 ·rename_i k ik n hd
  obtain ⟨r,h1,h⟩:=h
  exact ⟨_,_,h,fun H' _=>by simp only [Eff,hys,hyd,hd];exact ⟨r,h1,rfl,trivial⟩⟩
 ·rename_i s hd
  exact ⟨_,_,h,fun H' _=>by simp only [Eff,hys,hyd,hd];exact ⟨trivial,trivial⟩⟩
 ·rename_i e s hd
  obtain ⟨h1,h2,h3,h⟩:=h
  exact ⟨_,_,h,fun H' _=>by simp only [Eff,hys,hyd,hd];exact ⟨h1,h2,h3,trivial,trivial⟩⟩
 ·rename_i r hd
  cases hH:H r with
  | none=>simp only [hH] at h
  | some e=>cases e with
    | box cs=>simp only [hH] at h
    | deep k es l=>simp only [hH] at h
    | row k es =>
      simp only [hH] at h
      obtain ⟨h1,l,h2,h⟩:=h
      refine ⟨_,_,h,fun H' ha=>?_⟩
      simp only [Eff,hys,hyd,hd,ha r (by simp [z0L,z1F,z1w]),hH]
      exact ⟨h1,l,h2,rfl,trivial⟩
 ·rename_i k es hd
  obtain ⟨h1,l,h2,h⟩:=h
  exact ⟨_,_,h,fun H' _=>by simp only [Eff,hys,hyd,hd];exact ⟨h1,l,h2,rfl,trivial⟩⟩
 ·rename_i v hd
  obtain ⟨h1,h2,h⟩:=h
  exact ⟨_,_,h,fun H' _=>by simp only [Eff,hys,hyd,hd];exact ⟨h1,h2,trivial,trivial⟩⟩
theorem zeo {t:TypeId} {ps:Array (Nat × Operand)} {xs:List T} (h:Eff tt (.build t ps) ty xs H id K):Det (fun H K=>Eff tt (.build t ps) ty xs H id K) H (z0L xs) K:=by
 simp only [Eff] at h
 split at h<;>try exact h.elim
 rename_i y hy
 split at h<;>try exact h.elim
 ·rename_i fs hd
  obtain ⟨h1,h⟩:=h
  split at h<;>try exact h.elim
  rename_i cells hf
  exact ⟨_,_,h,fun H' _=>by simp only [Eff,hy,hd,hf];exact ⟨h1,trivial,trivial⟩⟩
 ·rename_i e hd
  split at h<;>try exact h.elim
  rename_i ye hye
  split at h<;>try exact h.elim
  rename_i cells hf
  exact ⟨_,_,h,fun H' _=>by simp only [Eff,hy,hd,hye,hf];exact ⟨trivial,trivial⟩⟩
theorem z7t {t:TypeId} {n:Nat} {ps:Array (Nat × Operand)} {xs:List T} (h:Eff tt (.buildSlice t n ps) ty xs H id K):Det (fun H K=>Eff tt (.buildSlice t n ps) ty xs H id K) H (z0L xs) K:=by
 simp only [Eff] at h
 split at h<;>try exact h.elim
 rename_i y hy
 split at h<;>try exact h.elim
 rename_i e hd
 split at h<;>try exact h.elim
 rename_i ye hye
 obtain ⟨h1,h2,h⟩:=h
 split at h
 case h_2 =>
  rename_i hf
  split at h<;>try exact h.elim
  rename_i i x hzp
  split at h<;>try exact h.elim
  rename_i cs hcx
  split at h<;>try exact h.elim
  rename_i ys rs habs
  obtain ⟨h3,h4,h5,h⟩:=h
  refine ⟨_,_,h,fun H' ha=>?_⟩
  simp only [Eff,hy,hd,hye]
  rw [z6u (H:=H) (fun r hr=>ha r (z5W hr)),hf]
  simp only [hzp,hcx]
  rw [z8C (H:=H) (fun r hr=>ha r (z5W (ps:=ps.toList) (by rw [hzp];simp only [List.map_cons,List.map_nil,z0L,List.flatMap_cons,List.flatMap_nil,List.append_nil];rw [← z3l hcx];exact hr))),habs]
  exact ⟨h1,h2,h3,h4,h5,trivial,rfl⟩
 rename_i es gone hf
 refine ⟨_,_,h,fun H' ha=>?_⟩
 simp only [Eff,hy,hd,hye]
 rw [z6u (H:=H) (fun r hr=>ha r (z5W hr)),hf]
 exact ⟨h1,h2,trivial,rfl⟩
theorem z8F {t:TypeId} {o o':Operand} {x y:T} (h:Eff tt (.makeSlice t o o') ty [x,y] H id K):Det (fun H K=>Eff tt (.makeSlice t o o') ty [x,y] H id K) H (z0L [x,y]) K:=by
 simp only [Eff] at h
 split at h<;>try exact h.elim
 rename_i k n k' n' y hy
 split at h<;>try exact h.elim
 rename_i e hd
 split at h<;>try exact h.elim
 rename_i ye hye
 obtain ⟨h1,h2,m,h3,h4,h5,h⟩:=h
 exact ⟨_,_,h,fun H' _=>by simp only [Eff,hy,hd,hye];exact ⟨h1,h2,m,h3,h4,h5,trivial,rfl⟩⟩
theorem zd9 {t:TypeId} {o oa:Operand} {x a:T} (h:Eff tt (.slice t o (some oa) none none) ty [x,a] H id K):Det (fun H K=>Eff tt (.slice t o (some oa) none none) ty [x,a] H id K) H (z0L [x,a]) K:=by
 simp only [Eff] at h
 split at h<;>try exact h.elim
 ·rename_i ik n s y hy
  obtain ⟨h0,i,h1,h2,h⟩:=h
  exact ⟨_,_,h,fun H' _=>by simp only [Eff,hy];exact ⟨h0,i,h1,h2,rfl,trivial⟩⟩
 ·rename_i ik n k es y hy
  obtain ⟨h0,i,h1,h2,h⟩:=h
  exact ⟨_,_,h,fun H' _=>by simp only [Eff,hy];exact ⟨h0,i,h1,h2,rfl,trivial⟩⟩
 ·rename_i ik n r y hy
  cases hH:H r with
  | none=>simp only [hH] at h
  | some e=>cases e with
    | box cs=>simp only [hH] at h
    | deep k es l=>simp only [hH] at h
    | row k es =>
      simp only [hH] at h
      obtain ⟨h0,i,h1,h2,h⟩:=h
      refine ⟨_,_,h,fun H' ha=>?_⟩
      simp only [Eff,hy,ha r (by simp [z0L,z1F,z1w]),hH]
      exact ⟨h0,i,h1,h2,rfl,trivial⟩
theorem zda {t:TypeId} {o oa:Operand} {x a:T} (h:Eff tt (.slice t o none (some oa) none) ty [x,a] H id K):Det (fun H K=>Eff tt (.slice t o none (some oa) none) ty [x,a] H id K) H (z0L [x,a]) K:=by
 simp only [Eff] at h
 split at h<;>try exact h.elim
 ·rename_i ik n s y hy
  obtain ⟨h0,i,h1,h2,h⟩:=h
  exact ⟨_,_,h,fun H' _=>by simp only [Eff,hy];exact ⟨h0,i,h1,h2,rfl,trivial⟩⟩
 ·rename_i ik n k es y hy
  obtain ⟨h0,i,h1,h2,h⟩:=h
  exact ⟨_,_,h,fun H' _=>by simp only [Eff,hy];exact ⟨h0,i,h1,h2,rfl,trivial⟩⟩
 ·rename_i ik n r y hy
  cases hH:H r with
  | none=>simp only [hH] at h
  | some e=>cases e with
    | box cs=>simp only [hH] at h
    | deep k es l=>simp only [hH] at h
    | row k es =>
      simp only [hH] at h
      obtain ⟨h0,i,h1,h2,h⟩:=h
      refine ⟨_,_,h,fun H' ha=>?_⟩
      simp only [Eff,hy,ha r (by simp [z0L,z1F,z1w]),hH]
      exact ⟨h0,i,h1,h2,rfl,trivial⟩
theorem zdb {t:TypeId} {o oa ob:Operand} {x a b:T} (h:Eff tt (.slice t o (some oa) (some ob) none) ty [x,a,b] H id K):Det (fun H K=>Eff tt (.slice t o (some oa) (some ob) none) ty [x,a,b] H id K) H (z0L [x,a,b]) K:=by
 simp only [Eff] at h
 split at h<;>try exact h.elim
 all_goals
  rename_i hy
  obtain ⟨h0,i,j,h1,h2,h3,h4,h⟩:=h
  exact ⟨_,_,h,fun H' _=>by simp only [Eff,hy];exact ⟨h0,i,j,h1,h2,h3,h4,rfl,trivial⟩⟩
theorem zhw {c:Go.Call} {x z:T} (hc:c.callee=.builtin .min) (h:Eff tt (.call c) ty [x,z] H id K):Det (fun H K=>Eff tt (.call c) ty [x,z] H id K) H (z0L [x,z]) K:=by
 simp only [Eff,hc] at h
 cases x<;>cases z<;>simp only at h
 obtain ⟨r,h1,h⟩:=h
 exact ⟨_,_,h,fun H' _=>by simp only [Eff,hc];exact ⟨r,h1,rfl,trivial⟩⟩
theorem zhx {c:Go.Call} {x z:T} (hc:c.callee=.builtin .max) (h:Eff tt (.call c) ty [x,z] H id K):Det (fun H K=>Eff tt (.call c) ty [x,z] H id K) H (z0L [x,z]) K:=by
 simp only [Eff,hc] at h
 cases x<;>cases z<;>simp only at h
 obtain ⟨r,h1,h⟩:=h
 exact ⟨_,_,h,fun H' _=>by simp only [Eff,hc];exact ⟨r,h1,rfl,trivial⟩⟩
theorem zhy {c:Go.Call} {x:T} (hc:c.callee=.builtin .len) (h:Eff tt (.call c) ty [x] H id K):Det (fun H K=>Eff tt (.call c) ty [x] H id K) H (z0L [x]) K:=by
 simp only [Eff,hc] at h
 split at h<;>try exact h.elim
 rename_i t hts
 split at h<;>try exact h.elim
 rename_i y hy
 cases x<;>simp only at h
 case str s=>exact ⟨_,_,h.2,fun H' _=>by simp only [Eff,hc,hts,hy];exact ⟨h.1,trivial,trivial⟩⟩
 case sl k es =>
  obtain ⟨h0,n,h1,h⟩:=h
  exact ⟨_,_,h,fun H' _=>by simp only [Eff,hc,hts,hy];exact ⟨h0,n,h1,rfl,trivial⟩⟩
 case ref r =>
  cases hH:H r with
  | none=>simp only [hH] at h
  | some e=>cases e with
    | box cs=>simp only [hH] at h
    | row k es =>
      simp only [hH] at h
      obtain ⟨h0,n,h1,h⟩:=h
      refine ⟨_,_,h,fun H' ha=>?_⟩
      simp only [Eff,hc,hts,hy,ha r (by simp [z0L,z1F,z1w]),hH]
      exact ⟨h0,n,h1,rfl,trivial⟩
    | deep k es l =>
      simp only [hH] at h
      obtain ⟨h0,n,h1,h⟩:=h
      refine ⟨_,_,h,fun H' ha=>?_⟩
      simp only [Eff,hc,hts,hy,ha r (by simp [z0L,z1F,z1w]),hH]
      exact ⟨h0,n,h1,rfl,trivial⟩
 case val v=>exact ⟨_,_,h.2.2,fun H' _=>by simp only [Eff,hc,hts,hy];exact ⟨h.1,h.2.1,trivial,trivial⟩⟩
theorem zdc {c:Go.Call} {x z:T} (hc:c.callee=.builtin .append) (h:Eff tt (.call c) ty [x,z] H id K):Det (fun H K=>Eff tt (.call c) ty [x,z] H id K) H (z0L [x,z]) K:=by
 simp only [Eff,hc] at h
 split at h<;>try exact h.elim
 rename_i t u hts
 split at h<;>try exact h.elim
 rename_i y yu hy hyu
 split at h<;>try exact h.elim
 rename_i e hd
 split at h<;>try exact h.elim
 rename_i ye hye
 split at h
 ·rename_i s k2 es2 hdo
  obtain ⟨es,g,⟨h1,h2,h3,h4,h5⟩,q⟩:=zfY h
  refine ⟨_,_,h5,fun H' ha=>?_⟩
  simp only [Eff,hc,hts,hy,hyu,hd,hye]
  rw [z7Q (H:=H) (fun r hr=>ha r (by simp [z0L,hr])),hdo]
  have:=q H' (fun r hr=>ha r (by simp [z0L,hr]))
  exact zel this fun es' g' hh=>by obtain ⟨rfl,rfl⟩:=hh;exact ⟨h1,h2,h3,h4,trivial,rfl⟩
 rename_i hdo
 obtain ⟨k,es,g,⟨h1,h2,h3,h4,h5⟩,q⟩:=zfX h
 refine ⟨_,_,h5,fun H' ha=>?_⟩
 simp only [Eff,hc,hts,hy,hyu,hd,hye]
 rw [z7Q (H:=H) (fun r hr=>ha r (by simp [z0L,hr])),hdo]
 have:=q H' (fun r hr=>ha r (by simpa [z0L] using hr))
 exact zek this fun k' es' g' hh=>by obtain ⟨rfl,rfl,rfl⟩:=hh;exact ⟨h1,h2,h3,h4,trivial,rfl⟩
theorem zep {op:Op} {args:List T} (h:Eff tt op ty args H id K):Det (fun H K=>Eff tt op ty args H id K) H (z0L args) K:=by
 have fz:∀ {x:T},z24 x (fun x=>K x [])→∃ r,K r []∧z24 x fun r'=>r'=r:=fun h=>z3Z h
 cases op
 case move o=>match args,h with
  | [x],h=>obtain ⟨r,q1,q2⟩:=fz h;exact ⟨r,[],q1,fun H' _=>by simp only [Eff,and_true];exact q2⟩
 case assign o=>match args,h with
  | [x],h=>obtain ⟨r,q1,q2⟩:=fz h;exact ⟨r,[],q1,fun H' _=>by simp only [Eff,and_true];exact q2⟩
 case pick o1 o2 o3=>match args,h with
  | [c,a,b],h =>
    cases c<;>simp only [Eff,zcW] at h
    case bool t =>
     cases t with
     | true=>obtain ⟨r,q1,q2⟩:=fz (h.1 rfl);exact ⟨r,[],q1,fun H' _=>by simp only [Eff,zcW,and_true];exact ⟨fun _=>q2,fun e=>by cases e⟩⟩
     | false=>obtain ⟨r,q1,q2⟩:=fz (h.2 rfl);exact ⟨r,[],q1,fun H' _=>by simp only [Eff,zcW,and_true];exact ⟨fun e=>(by cases e),fun _=>q2⟩⟩
 case alloc e=>match args,h with
  | [],h =>
    simp only [Eff] at h
    split at h<;>try exact h.elim
    rename_i y hy
    exact ⟨_,_,h,fun H' _=>by simp only [Eff,hy];exact ⟨trivial,trivial⟩⟩
 case box e o=>match args,h with
  | [x],h =>
    simp only [Eff] at h
    split at h<;>try exact h.elim
    rename_i y cs hy hc
    exact ⟨_,_,h,fun H' _=>by simp only [Eff,hy,hc];exact ⟨trivial,trivial⟩⟩
 case nilCheck o=>match args,h with
  | [x],h =>
    cases x<;>simp only [Eff] at h
    all_goals exact ⟨_,_,h,fun H' _=>by simp only [Eff];exact ⟨trivial,trivial⟩⟩
 case makeInterface t o=>match args,h with
  | [x],h =>
    simp only [Eff] at h
    split at h<;>try exact h.elim
    rename_i y hy
    obtain ⟨h1,h⟩:=h
    split at h<;>try exact h.elim
    rename_i r
    cases hH:H r with
    | none=>simp only [hH] at h
    | some e=>cases e with
      | box cs=>simp only [hH] at h
      | row k es =>
        simp only [hH] at h
        obtain ⟨n,h2,h⟩:=h
        refine ⟨_,_,h,fun H' ha=>?_⟩
        simp only [Eff,hy,ha r (by simp [z0L,z1F,z1w]),hH]
        exact ⟨h1,n,h2,rfl,trivial⟩
      | deep k es l =>
        simp only [hH] at h
        obtain ⟨n,h2,h⟩:=h
        refine ⟨_,_,h,fun H' ha=>?_⟩
        simp only [Eff,hy,ha r (by simp [z0L,z1F,z1w]),hH]
        exact ⟨h1,n,h2,rfl,trivial⟩
 case fieldAddr st o f=>match args,h with
  | [x],h=>exact z8D h
 case indexAddr t o o'=>match args,h with
  | [x,i],h=>exact z8E h
 case index t o o'=>match args,h with
  | [x,i],h=>exact zen h
 case makeFunc fn a b =>
  simp only [Eff] at h
  split at h<;>try exact h.elim
  ·rename_i ha
   obtain ⟨rfl,rfl,h⟩:=h
   exact ⟨_,_,h,fun H' _=>by simp only [Eff,ha];exact ⟨trivial,trivial,trivial,trivial⟩⟩
  ·rename_i ha
   obtain ⟨rfl,rfl,rfl,rfl,h⟩:=h
   exact ⟨_,_,h,fun H' _=>by simp only [Eff,ha];exact ⟨trivial,trivial,trivial,trivial,trivial,trivial⟩⟩
 case extract o i=>match args,h with
  | [x],h =>
    cases x<;>simp only [Eff] at h
    case tup cs =>
     split at h<;>try exact h.elim
     rename_i c hc
     obtain ⟨r,q1,q2⟩:=fz h
     exact ⟨r,[],q1,fun H' _=>by simp only [Eff,hc,and_true];exact q2⟩
 case load t o=>match args,h with
  | [x],h=>exact zfZ h
 case store t o o'=>match args,h with
  | [p,x],h=>exact zem h
 case binOp op t o o' t'=>match args,h with
  | [x,y],h =>
    cases x<;>cases y<;>simp only [Eff] at h<;>first
     | (obtain ⟨r,q1,q2⟩:=zfW (K:=fun r=>K r []) h;exact ⟨r,[],q1,fun H' _=>by simp only [Eff,and_true];exact q2⟩)
     | (obtain ⟨r,q1,q2⟩:=zht (K:=fun r=>K r []) h;exact ⟨r,[],q1,fun H' _=>by simp only [Eff,and_true];exact q2⟩)
     | (obtain ⟨r,q1,q2⟩:=zhu (K:=fun r=>K r []) h;exact ⟨r,[],q1,fun H' _=>by simp only [Eff,and_true];exact q2⟩)
 case unOp op t o=>match args,h with
  | [x],h=>obtain ⟨r,q1,q2⟩:=zhv (K:=fun r=>K r []) h;exact ⟨r,[],q1,fun H' _=>by simp only [Eff,and_true];exact q2⟩
 case convert a b o=>match args,h with
  | [x],h=>exact zb7 h
 case build t ps=>exact zeo h
 case buildSlice t n ps=>exact z7t h
 case makeSlice t o o'=>match args,h with
  | [x,y],h=>exact z8F h
 case slice t o lo hi mx=>match lo,hi,mx,args,h with
  | some l,none,none,[x,a],h=>exact zd9 h
  | none,some l,none,[x,a],h=>exact zda h
  | some l,some m,none,[x,a,b],h=>exact zdb h
 case call c =>
  cases hc:c.callee with
  | value f=>simp only [Eff,hc] at h
  | invoke r m=>simp only [Eff,hc] at h
  | builtin b =>
    cases b<;>try (simp only [Eff,hc] at h;done)
    case min=>match args,h with
     | [x,z],h=>exact zhw hc h
     | [],h=>simp only [Eff,hc] at h
     | [_],h=>simp only [Eff,hc] at h
     | _ :: _ :: _ :: _,h=>simp only [Eff,hc] at h
    case max=>match args,h with
     | [x,z],h=>exact zhx hc h
     | [],h=>simp only [Eff,hc] at h
     | [_],h=>simp only [Eff,hc] at h
     | _ :: _ :: _ :: _,h=>simp only [Eff,hc] at h
    case len=>match args,h with
     | [x],h=>exact zhy hc h
     | [],h=>simp only [Eff,hc] at h
     | _ :: _ :: _,h=>simp only [Eff,hc] at h
    case append=>match args,h with
     | [x,z],h=>exact zdc hc h
     | [],h=>simp only [Eff,hc] at h
     | [_],h=>simp only [Eff,hc] at h
     | _ :: _ :: _ :: _,h=>simp only [Eff,hc] at h
 all_goals (simp only [Eff] at h)
end
theorem zeq {σ:List Nat} {H H':Hp} {x t:T} (ha:Agr H H' (z1w x)) (h:AM0 σ H x t):AM0 σ H' x t:=by
 cases x<;>simp only [AM0] at h ⊢<;>try exact h
 case ref r =>
  cases t<;>simp only at h ⊢<;>try exact h
  rw [ha r (by simp [z1w])];exact h
theorem zer {σ:List Nat} {H H':Hp}:∀ {xs ts:List T},Agr H H' (xs.flatMap z1w)→AMl σ H xs ts→AMl σ H' xs ts
 | [],ts,_,h=>h
 | x :: xs,[],_,h=>h.elim
 | x :: xs,t :: ts,ha,h=>⟨zeq (fun r hr=>ha r (by simp [hr])) h.1,zer (fun r hr=>ha r (by simp only [List.flatMap_cons,List.mem_append];exact .inr hr)) h.2⟩
theorem zhz {σ:List Nat} {H H':Hp} {x t:T} (ha:Agr H H' (z1F x)) (h:AM1 σ H x t):AM1 σ H' x t:=by
 cases x
 case agg xs =>
  cases t<;>simp only [AM1] at h ⊢<;>try exact h
  exact zer ha h
 all_goals (simp only [AM1] at h ⊢;simp only [z1F] at ha;exact zeq ha h)
theorem zgX {σ:List Nat} {H H':Hp}:∀ {xs ts:List T},Agr H H' (z0L xs)→AM σ H xs ts→AM σ H' xs ts
 | [],ts,_,h=>h
 | x :: xs,[],_,h=>h.elim
 | x :: xs,t :: ts,ha,h=>⟨zhz (fun r hr=>ha r (by simp [z0L,hr])) h.1,zgX (fun r hr=>ha r (by simp only [z0L,List.flatMap_cons,List.mem_append];exact .inr hr)) h.2⟩
theorem zgY {σ:List Nat} {H H':Hp} {m:Nat}:∀ {l:List Nat} {He:List Ent},Agr H H' l→HM σ H m l He→HM σ H' m l He
 | [],He,_,h=>h
 | s :: l,[],_,h=>h.elim
 | s :: l,e :: He,ha,h=>⟨by rw [ha s (by simp)];exact h.1,h.2.1,zgY (fun r hr=>ha r (by simp [hr])) h.2.2⟩
theorem zdd {P:Program} {f:FuncId} {xs:List T} {H:Hp} {id:Nat} {K:List Nat→Kon} (h:zbY P f xs H id K) :
 ∃ σ x u,K σ x u∧∀ H',Agr H H' (z0L xs++σ)→zbY P f xs H' id fun _ x' u'=>x'=x∧u'=u:=by
 obtain ⟨σ,He,ts,r,He',hct,ham,hm,h1,h2,h3,h4,hk⟩:=h
 exact ⟨σ,_,_,hk,fun H' ha=>⟨σ,He,ts,r,He',hct,zgX (fun r hr=>ha r (by simp [hr])) ham,zgY (fun r hr=>ha r (by simp [hr])) hm,h1,h2,h3,h4,rfl,rfl⟩⟩
theorem zes {H H':Hp} {l:List Nat}:∀ (u:Upd),Agr H H' l→Agr (updL H u) (updL H' u) l
 | [],h=>h
 | (r,e) :: u,h=>zes u fun i hi=>by
   show updE H' r e i=updE H r e i
   unfold updE
   rw [h i hi]
theorem zcc {gs:List Nat} {H H':Hp} {x:T} (h:Agr H H' (z1w x)):frz0 gs H' x=frz0 gs H x:=by
 cases x<;>try rfl
 case ref r=>simp only [frz0];rw [h r (by simp [z1w])]
theorem zg0 {gs:List Nat} {H H':Hp} {x:T} (h:Agr H H' (z1F x)):frz1 gs H' x=frz1 gs H x:=by
 cases x
 case agg cs =>
  simp only [frz1]
  congr 1
  refine List.map_congr_left fun c hc=>zcc fun r hr=>h r ?_
  exact List.mem_flatMap.2 ⟨c,hc,hr⟩
 case ref r=>exact zcc (x:=.ref r) h
 all_goals rfl
theorem zg1 {gs:List Nat} {H H':Hp} {xs:List T} (h:Agr H H' (z0L xs)):xs.map (frz1 gs H')=xs.map (frz1 gs H) :=
 List.map_congr_left fun c hc=>zg0 fun r hr=>h r (List.mem_flatMap.2 ⟨c,hc,hr⟩)
theorem z9H {gs:List Nat} {H:Hp} {x:T}:∀ r ∈ z1w (frz0 gs H x),r ∈ z1w x:=by
 cases x<;>try exact fun r h=>h
 case ref r =>
  intro i hi
  simp only [frz0] at hi
  cases hg:gs.contains r with
  | false=>rw [hg] at hi;exact hi
  | true =>
    rw [hg] at hi
    simp only [cond_true] at hi
    split at hi
    ·simp [z1w] at hi
    ·exact hi
theorem zet {gs:List Nat} {H:Hp} {x:T}:∀ r ∈ z1F (frz1 gs H x),r ∈ z1F x:=by
 cases x
 case agg cs =>
  intro r hr
  simp only [frz1,z1F,List.mem_flatMap,List.mem_map] at hr
  obtain ⟨c,⟨c',hc',rfl⟩,hr⟩:=hr
  exact List.mem_flatMap.2 ⟨c',hc',z9H r hr⟩
 case ref r =>
  intro i hi
  have h2:=z9H (gs:=gs) (H:=H) (x:=.ref r) i
  refine h2 ?_
  have e:frz1 gs H (.ref r)=frz0 gs H (.ref r):=rfl
  rw [e] at hi
  revert hi
  cases hz:frz0 gs H (.ref r)<;>intro hi<;>first|exact hi|(simp [z1F,z1w] at hi;done)|skip
  simp only [frz0] at hz
  cases hg:gs.contains r with
  | false=>rw [hg] at hz;cases hz
  | true =>
    rw [hg] at hz
    simp only [cond_true] at hz
    split at hz<;>cases hz
 all_goals exact fun r h=>h
theorem zeu {gs:List Nat} {H:Hp} {xs:List T}:∀ r ∈ z0L (xs.map (frz1 gs H)),r ∈ z0L xs:=by
 intro r hr
 simp only [z0L,List.mem_flatMap,List.mem_map] at hr
 obtain ⟨c,⟨c',hc',rfl⟩,hr⟩:=hr
 exact List.mem_flatMap.2 ⟨c',hc',zet r hr⟩
theorem zev {P:Program} {f:FuncId} {xs:List T} {H:Hp} {id:Nat} {K:List Nat→Kon} (h:z0u P f xs H id K) :
 ∃ σ x u,K σ x u∧∀ H',Agr H H' (z0L xs++σ)→z0u P f xs H' id fun _ x' u'=>x'=x∧u'=u:=by
 obtain ⟨gs,h⟩:=h
 obtain ⟨σ,x,u,hk,hd⟩:=zdd h
 refine ⟨σ,x,_,hk,fun H' ha=>⟨gs,?_⟩⟩
 rw [zg1 (fun r hr=>ha r (by simp [hr]))]
 have h2:=hd (updL H' (z16 gs)) (zes _ fun r hr=>ha r (by
  rcases List.mem_append.1 hr with hr|hr
  ·exact List.mem_append.2 (.inl (zeu r hr))
  ·exact List.mem_append.2 (.inr hr)))
 obtain ⟨σ',He,ts,r,He',a1,a2,a3,a4,a5,a6,a7,a8,a9⟩:=h2
 exact ⟨σ',He,ts,r,He',a1,a2,a3,a4,a5,a6,a7,a8,by rw [a9]⟩
abbrev KonR:=T→Upd→List Nat→Prop
def OpD (P:Program) (tt:TT) (o:Oper) (S:St) (id:Nat) (K:KonR):Prop:=match o.op with
 | .call c=>match c.callee with
   | .value f=>match zej (S.ev f) with
     | some (f,l)=>z0u P f (c.args.toList.map S.ev++l) S.H id fun σ x u=>K x u (z0L (c.args.toList.map S.ev++l)++σ)
     | none=>False
   | _=>Eff tt (.call c) o.type (c.args.toList.map S.ev) S.H id fun x u=>K x u (z0L (c.args.toList.map S.ev))
 | op=>Eff tt op o.type ((z48 op).map S.ev) S.H id fun x u=>K x u (z0L ((z48 op).map S.ev))
def OpDF (P:Program) (tt:TT) (o:Oper) (S:St) (id:Nat) (K:KonR):Prop:=match o.op with
 | .call c=>match c.callee with
   | .value f=>match zej (S.ev f) with
     | some (f,l)=>z28 (c.args.toList.map S.ev++l) fun xs=>z0u P f xs S.H id fun σ x u=>K x u (z0L xs++σ)
     | none=>False
   | _=>z28 (c.args.toList.map S.ev) fun xs=>Eff tt (.call c) o.type xs S.H id fun x u=>K x u (z0L xs)
 | op=>z28 ((z48 op).map S.ev) fun xs=>Eff tt op o.type xs S.H id fun x u=>K x u (z0L xs)
theorem opDF {P:Program} {tt:TT} {o:Oper} {S:St} {id:Nat} {K:KonR} (h:OpDF P tt o S id K):OpD P tt o S id K:=by
 obtain ⟨dst,op,ty,pos,after,guard⟩:=o
 cases op
 case call c =>
  obtain ⟨callee,args,argTypes⟩:=c
  cases callee
  case value f =>
   simp only [OpD]
   simp only [OpDF] at h
   split at h
   ·rename_i fid l hf
    exact z1I (K:=fun xs=>z0u P fid xs S.H id fun σ x u=>K x u (z0L xs++σ)) h
   ·exact h
  all_goals exact z1I (K:=fun xs=>Eff tt _ ty xs S.H id fun x u=>K x u (z0L xs)) h
 all_goals exact z1I (K:=fun xs=>Eff tt _ ty xs S.H id fun x u=>K x u (z0L xs)) h
def zg2:Operand→Option Nat
 | .tmp t=>some t
 | _=>none
def zb8 (o:Oper):List Nat:=(z48 o.op).filterMap zg2
theorem zcd {S S':St}:∀ {l:List Operand},(∀ t ∈ l.filterMap zg2,S'.get t=S.get t)→l.map S'.ev=l.map S.ev
 | [],_=>rfl
 | o :: l,h=>by
   have h2:l.map S'.ev=l.map S.ev:=zcd (fun t ht=>h t (by
    simp only [List.filterMap_cons]
    cases zg2 o with
    | none=>exact ht
    | some s=>exact List.mem_cons_of_mem _ ht))
   rw [List.map_cons,List.map_cons,h2]
   congr 1
   cases o with
   | tmp t=>exact h t (by simp [zg2])
   | const v=>rfl
   | global g=>rfl
   | func f=>rfl
theorem zhA {P:Program} {tt:TT} {o:Oper} {S:St} {id:Nat} {K:KonR} (h:OpD P tt o S id K) :
 ∃ x u rd,K x u rd∧∀ S':St,(∀ t ∈ zb8 o,S'.get t=S.get t)→Agr S.H S'.H rd→OpP P tt o S' id fun x' u'=>x'=x∧u'=u:=by
 obtain ⟨dst,op,ty,pos,after,guard⟩:=o
 unfold OpD at h
 split at h
 ·rename_i c hop
  subst hop
  have hargs:∀ S':St,(∀ t ∈ zb8 ⟨dst,.call c,ty,pos,after,guard⟩,S'.get t=S.get t)→c.args.toList.map S'.ev=c.args.toList.map S.ev:=fun S' hs =>
   zcd fun t ht=>hs t (by
    simp only [zb8,z48,List.filterMap_append,List.mem_append]
    exact .inr ht)
  split at h
  ·rename_i f hc
   split at h
   ·rename_i fid hfid
    obtain ⟨σ,x,u,q1,q2⟩:=zev h
    refine ⟨x,u,_,q1,fun S' hs ha=>?_⟩
    have hf:S'.ev f=S.ev f:=by
     have:=zcd (S:=S) (S':=S') (l:=[f]) fun t ht=>hs t (by
      simp only [zb8,z48,hc,List.filterMap_append,List.mem_append]
      exact .inl ht)
     simpa using this
    simp only [OpP,hc,hargs S' hs,hf,hfid]
    exact q2 _ ha
   ·exact h.elim
  ·rename_i hc
   obtain ⟨x,u,q1,q2⟩:=zep h
   refine ⟨x,u,_,q1,fun S' hs ha=>?_⟩
   have:=q2 _ ha
   unfold OpP
   simp only
   rw [hargs S' hs];exact this
 ·rename_i hop
  obtain ⟨x,u,q1,q2⟩:=zep h
  refine ⟨x,u,_,q1,fun S' hs ha=>?_⟩
  have:=q2 _ ha
  have he:(z48 op).map S'.ev=(z48 op).map S.ev:=zcd hs
  unfold OpP
  simp only
  rw [he];exact this
end Go.Proofs.YtgmbkbggnlponaaGreatDoor
namespace Go.Proofs.YtgmbkbggnlponaaGreatDoor
set_option linter.unusedVariables false
set_option linter.unusedSimpArgs false
set_option linter.unusedSectionVars false
open Go.RowKit Pl
def z7u (tab:List Nat) (l:List Edge):Nat:=match l with
 | []=>0
 | e :: l=>(bif Region.binds .any e then 2 ^ e.on ||| tab.getD e.on 0 else 0) ||| z7u tab l
def zb9:List Oper→List Nat→List Nat
 | [],tab=>tab
 | o :: l,tab=>zb9 l (tab++[z7u tab o.after.toList])
def disj (a b:List Nat):Bool:=a.all fun x=>b.all fun y=>!Nat.beq x y
def pw {α:Type} (f:α→α→Bool):List α→Bool
 | []=>true
 | x :: l=>l.all (f x)&&pw f l
def z9I (ops:List Oper) (o:Oper):List Nat:=zb8 o++(match o.guard with
 | some (j,_)=>match ops[j]? with
   | some oj=>oj.dst.toList
   | none=>[]
 | none=>[])
def z7v:Nat→List Oper→List (Nat × Oper)
 | _,[]=>[]
 | i,o :: l=>(i,o) :: z7v (i+1) l
def slOk (ops:List Oper) (tab:List Nat) (x y:Nat × Oper):Bool :=
 (tab.getD y.1 0).testBit x.1 || (disj x.2.dst.toList (z9I ops y.2++y.2.dst.toList)&&disj y.2.dst.toList (z9I ops x.2))
def edOk (x:Nat × Oper):Bool:=x.2.after.toList.all fun e=>!Region.binds .any e || Nat.blt e.on x.1
def stOk (ops:List Oper) (tab:List Nat):Bool:=(z7v 0 ops).all edOk&&pw (slOk ops tab) (z7v 0 ops)
abbrev Tr:=Nat × List Nat × List Nat
def nuOk (tab:List Nat) (y x:Tr):Bool:=(tab.getD y.1 0).testBit x.1 || (disj x.2.2 (y.2.1++y.2.2)&&disj y.2.2 x.2.1)
theorem z35 {a b:List Nat} (h:disj a b=true) {x:Nat} (h1:x ∈ a) (h2:x ∈ b):False:=by
 have:=List.all_eq_true.1 (List.all_eq_true.1 h x h1) x h2
 simp at this
theorem zba {α:Type} {f:α→α→Bool}:∀ {l:List α},pw f l=true→∀ {i j:Nat} {a b:α},i<j→l[i]?=some a→l[j]?=some b→f a b=true
 | [],_,i,j,a,b,_,h,_=>by simp at h
 | x :: l,h,i,j,a,b,hij,ha,hb=>by
   simp only [pw,Bool.and_eq_true] at h
   cases j with
   | zero=>omega
   | succ j =>
     simp at hb
     cases i with
     | zero=>simp at ha;subst ha;exact List.all_eq_true.1 h.1 b (List.mem_of_getElem? hb)
     | succ i=>simp at ha;exact zba h.2 (by omega) ha hb
theorem z4I:∀ {l:List Oper} {i j:Nat},(z7v i l)[j]?=(l[j]?).map fun o=>(i+j,o)
 | [],i,j=>by simp [z7v]
 | o :: l,i,j=>by
   cases j with
   | zero=>simp [z7v]
   | succ j=>simp [z7v,z4I];congr;funext o;congr 1;omega
def Clo (ops:List Oper) (X:Nat→Bool):Prop:=∀ k o,ops[k]?=some o→X k=true→∀ e ∈ o.after.toList,Region.binds .any e=true→X e.on=true
def UpOk (ops:List Oper) (k m:Nat):Prop:=∀ X:Nat→Bool,Clo ops X→∀ o,ops[k]?=some o→(∀ e ∈ o.after.toList,Region.binds .any e=true→X e.on=true)→∀ j,m.testBit j=true→X j=true
theorem zce {ops:List Oper} {tab:List Nat} (ht:∀ i,i<tab.length→UpOk ops i (tab.getD i 0)) (hlen:tab.length≤ops.length) {X:Nat→Bool} (hX:Clo ops X):∀ {l:List Edge},(∀ e ∈ l,Region.binds .any e=true→X e.on=true)→∀ j,(z7u tab l).testBit j=true→X j=true
 | [],_,j,h=>by simp [z7u] at h
 | e :: l,he,j,h=>by
   simp only [z7u,Nat.testBit_or,Bool.or_eq_true] at h
   rcases h with h|h
   ·cases hb:Region.binds .any e with
    | false=>rw [hb] at h;simp at h
    | true =>
      rw [hb,cond_true,Nat.testBit_or,Bool.or_eq_true] at h
      have hon:=he e (by simp) hb
      rcases h with h|h
      ·rw [Nat.testBit_two_pow] at h
       have:e.on=j:=by simpa using h
       rw [← this];exact hon
      ·by_cases hl:e.on<tab.length
       ·have hl2:e.on<ops.length:=by omega
        have hg:ops[e.on]?=some ops[e.on]:=List.getElem?_eq_getElem hl2
        exact ht _ hl X hX _ hg (hX _ _ hg hon) j h
       ·have:tab.getD e.on 0=0:=by simp [List.getD,List.getElem?_eq_none (by omega:tab.length≤e.on)]
        rw [this] at h;simp at h
   ·exact zce ht hlen hX (fun e he'=>he e (by simp [he'])) j h
theorem zcf {ops:List Oper}:∀ {l:List Oper} {tab:List Nat},(∀ j,l[j]?=ops[tab.length+j]?)→tab.length+l.length=ops.length→(∀ i,i<tab.length→UpOk ops i (tab.getD i 0))→∀ i,i<ops.length→UpOk ops i ((zb9 l tab).getD i 0)
 | [],tab,_,hlen,ht,i,hi=>ht i (by simp at hlen;omega)
 | o :: l,tab,hl,hlen,ht,i,hi=>by
   simp only [zb9]
   simp only [List.length_cons] at hlen
   refine zcf (l:=l) (tab:=tab++[z7u tab o.after.toList]) (fun j=>?_) (by simp;omega) (fun i hi=>?_) i hi
   ·have:=hl (j+1)
    simp only [List.getElem?_cons_succ] at this
    rw [this];congr 1;simp;omega
   ·simp only [List.length_append,List.length_singleton] at hi
    by_cases h:i<tab.length
    ·have:(tab++[z7u tab o.after.toList]).getD i 0=tab.getD i 0:=by simp [List.getD,List.getElem?_append_left h]
     rw [this];exact ht i h
    ·have hi2:i=tab.length:=by omega
     subst hi2
     have:(tab++[z7u tab o.after.toList]).getD tab.length 0=z7u tab o.after.toList:=by simp [List.getD]
     rw [this]
     intro X hX o' ho' he
     have h0:=hl 0
     simp only [List.getElem?_cons_zero,Nat.add_zero] at h0
     rw [ho'] at h0;injection h0 with h0;subst h0
     exact zce ht (by omega) hX he
structure Rc where
 o:Oper
 want:Bool
 x:T
 u:Upd
 rd:List Nat
section
variable {V:Type} (ap:Rc→(Nat→V)→Nat→V) (wr:Rc→Nat→Prop) (h1:∀ rc g t,¬ wr rc t→ap rc g t=g t) (h2:∀ rc g g' t,wr rc t→ap rc g t=ap rc g' t)
def fld:List Rc→Nat→(Nat→Bool)→(Nat→V)→Nat→V
 | [],_,_,g=>g
 | rc :: l,i,X,g=>fld l (i+1) X (bif X i then ap rc g else g)
include h1 h2
theorem z4i:∀ {l:List Rc} {i:Nat} {X Y:Nat→Bool} {g g':Nat→V} {t:Nat},g t=g' t→(∀ j rc,l[j]?=some rc→wr rc t→X (i+j)=Y (i+j))→fld ap l i X g t=fld ap l i Y g' t
 | [],i,X,Y,g,g',t,hg,_=>hg
 | rc :: l,i,X,Y,g,g',t,hg,h=>by
   simp only [fld]
   refine z4i ?_ (fun j rc' hj hw=>by have:=h (j+1) rc' (by simpa using hj) hw;rwa [show i+(j+1)=i+1+j by omega] at this)
   by_cases hw:wr rc t
   ·have hxy:=h 0 rc (by simp) hw
    rw [Nat.add_zero] at hxy
    rw [hxy]
    cases Y i with
    | true=>exact h2 _ _ _ _ hw
    | false=>exact hg
   ·cases X i<;>cases Y i<;>simp [h1 _ _ _ hw,hg]
theorem zcg:∀ {l:List Rc} {i j:Nat} {g:Nat→V} {rc:Rc} {t:Nat},l[j]?=some rc→fld ap l i (fun k=>decide (k<i+j+1)) g t=ap rc (fld ap l i (fun k=>decide (k<i+j)) g) t
 | [],i,j,g,rc,t,h=>by simp at h
 | rc0 :: l,i,j,g,rc,t,h=>by
   cases j with
   | zero =>
     simp at h;subst h
     simp only [fld,Nat.add_zero,show i<i+1 by omega,decide_true,cond_true,Nat.lt_irrefl,decide_false,cond_false]
     have e1:fld ap l (i+1) (fun k=>decide (k<i+1)) (ap rc0 g) t=ap rc0 g t:=by
      have:∀ (l:List Rc) (i':Nat) (g:Nat→V),i+1≤i'→fld ap l i' (fun k=>decide (k<i+1)) g=g:=by
       intro l
       induction l with
       | nil=>intros;rfl
       | cons c l ih=>intro i' g hi';simp only [fld,show ¬ i'<i+1 by omega,decide_false,cond_false];exact ih _ _ (by omega)
      rw [this l _ _ (Nat.le_refl _)]
     have e2:fld ap l (i+1) (fun k=>decide (k<i)) g=g:=by
      have:∀ (l:List Rc) (i':Nat) (g:Nat→V),i≤i'→fld ap l i' (fun k=>decide (k<i)) g=g:=by
       intro l
       induction l with
       | nil=>intros;rfl
       | cons c l ih=>intro i' g hi';simp only [fld,show ¬ i'<i by omega,decide_false,cond_false];exact ih _ _ (by omega)
      exact this l _ _ (by omega)
     rw [e1,e2]
   | succ j =>
     simp at h
     simp only [fld,show i<i+(j+1)+1 by omega,show i<i+(j+1) by omega,decide_true,cond_true]
     have:=zcg (l:=l) (i:=i+1) (j:=j) (g:=ap rc0 g) (t:=t) h
     rwa [show i+1+j+1=i+(j+1)+1 by omega,show i+1+j=i+(j+1) by omega] at this
omit h1 h2 in
theorem z4J:∀ {l:List Rc} {i j:Nat} {g:Nat→V},fld ap l i (fun k=>decide (k<i+j)) g=(l.take j).foldl (fun g rc=>ap rc g) g
 | [],i,j,g=>by simp [fld]
 | rc :: l,i,j,g=>by
   cases j with
   | zero =>
     have:∀ (l:List Rc) (i':Nat) (g:Nat→V),i≤i'→fld ap l i' (fun k=>decide (k<i+0)) g=g:=by
      intro l
      induction l with
      | nil=>intros;rfl
      | cons c l ih=>intro i' g hi';simp only [fld,show ¬ i'<i+0 by omega,decide_false,cond_false];exact ih _ _ (by omega)
     simp only [List.take_zero,List.foldl_nil];exact this _ _ _ (Nat.le_refl _)
   | succ j =>
     simp only [fld,show i<i+(j+1) by omega,decide_true,cond_true,List.take_succ_cons,List.foldl_cons]
     have:=z4J (l:=l) (i:=i+1) (j:=j) (g:=ap rc g)
     rwa [show i+1+j=i+(j+1) by omega] at this
end
def apG (rc:Rc) (g:Nat→T):Nat→T:=fun t=>if rc.o.dst=some t then rc.x else g t
def apH (rc:Rc) (H:Hp):Hp:=updL H rc.u
def keys (u:Upd):List Nat:=u.map (·.1)
theorem zhB (rc:Rc) (g:Nat→T) (t:Nat) (h:¬ rc.o.dst=some t):apG rc g t=g t:=by simp [apG,h]
theorem zhC (rc:Rc) (g g':Nat→T) (t:Nat) (h:rc.o.dst=some t):apG rc g t=apG rc g' t:=by simp [apG,h]
theorem zch:∀ {u:Upd} {H:Hp} {r:Nat},r ∉ keys u→updL H u r=H r
 | [],H,r,_=>rfl
 | (a,e) :: u,H,r,h=>by
   simp only [keys,List.map_cons,List.mem_cons,not_or] at h
   simp only [updL]
   rw [zch h.2,z0j _ _ h.1]
theorem zew:∀ {u:Upd} {H H':Hp} {r:Nat},(r ∈ keys u ∨ H r=H' r)→updL H u r=updL H' u r
 | [],H,H',r,h=>by simpa [keys,updL] using h
 | (a,e) :: u,H,H',r,h=>by
   simp only [updL]
   refine zew ?_
   by_cases ha:r=a
   ·subst ha;right;rw [z0A,z0A]
   ·rw [z0j _ _ ha,z0j _ _ ha]
    simp only [keys,List.map_cons,List.mem_cons,ha,false_or] at h
    exact h
theorem zg3 (rc:Rc) (H:Hp) (r:Nat) (h:¬ r ∈ keys rc.u):apH rc H r=H r:=zch h
theorem zg4 (rc:Rc) (H H':Hp) (r:Nat) (h:r ∈ keys rc.u):apH rc H r=apH rc H' r:=zew (.inl h)
def addTr (i:Nat) (rd wr:List Nat) (tr:List Tr) (K:List Tr→Prop):Prop:=z5c rd fun rd=>z5c wr fun wr=>match rd,wr with
 | [],[]=>K tr
 | rd,wr=>K ((i,rd,wr) :: tr)
theorem zg5 {i:Nat} {rd wr:List Nat} {tr:List Tr} {K:List Tr→Prop} (h:addTr i rd wr tr K):K (bif !(rd.isEmpty&&wr.isEmpty) then (i,rd,wr) :: tr else tr):=by
 have h:=z2h (z2h h)
 cases rd<;>cases wr<;>exact h
def Rc.on (rc:Rc):Bool:=rc.want&&!(rc.rd.isEmpty&&(keys rc.u).isEmpty)
def WDr (P:Program) (tt:TT) (ops:List Oper) (n0:Nat):Nat→List Oper→List Tr→(List Tr→St→Prop)→St→Prop
 | i,[],tr,K,S=>S.nxK (n0+16 * i) (K tr)
 | i,o :: r,tr,K,S=>z7P S ops o.guard (fun S1=>zc8 (n0+16 * i) fun id=>OpDF P tt o S1 id fun x u rd=>S1.step u o.dst x fun S=>addTr i rd (keys u) tr fun tr=>WDr P tt ops n0 (i+1) r tr K S)
    (S.step [] o.dst (.tup []) fun S=>WDr P tt ops n0 (i+1) r tr K S)
def gd (ops:List Oper) (g:Nat→T) (o:Oper) (want:Bool):Prop:=match o.guard with
 | none=>want=true
 | some (j,w)=>∃ oj d,ops[j]?=some oj∧oj.dst=some d∧((∃ b,g d=.bool b∧want=(b == w)) ∨ (∃ cs,g d=.tup cs∧want=false))
def TRun (P:Program) (tt:TT) (ops:List Oper) (n0:Nat):Nat→List Oper→(Nat→T)→Hp→List Rc→Prop
 | _,[],_,_,R=>R=[]
 | i,o :: l,g,H,R=>∃ rc R',R=rc :: R'∧rc.o=o∧gd ops g o rc.want ∧
    (rc.want=true→∀ S':St,(∀ t ∈ zb8 o,S'.get t=g t)→Agr H S'.H rc.rd→OpP P tt o S' (n0+16 * i) fun x u=>x=rc.x∧u=rc.u)∧(rc.want=false→rc.x=.tup []∧rc.u=[]) ∧
    TRun P tt ops n0 (i+1) l (apG rc g) (apH rc H) R'
def trOf:Nat→List Rc→List Tr→List Tr
 | _,[],tr=>tr
 | i,rc :: R,tr=>trOf (i+1) R (bif rc.on then (i,rc.rd,keys rc.u) :: tr else tr)
theorem z6v (S:St) (u:Upd) (d:Option Nat) (x:T):((S.upd u).put d x).get=fun t=>if d=some t then x else S.get t:=by
 funext t
 cases d with
 | none=>simp [St.put,St.upd,St.get]
 | some d =>
   by_cases h:d=t
   ·subst h;simp [St.put,St.get,lk]
   ·have hb:Nat.beq d t=false:=by
     cases hb:Nat.beq d t with
     | false=>rfl
     | true=>exact absurd (Nat.eq_of_beq_eq_true hb) h
    simp [St.put,St.upd,St.get,lk,hb,h]
theorem zex (S:St) (u:Upd) (d:Option Nat) (x:T):((S.upd u).put d x).H=updL S.H u:=by
 have:((S.upd u).put d x).H=hpH (z9F S.hp u):=by cases d<;>rfl
 rw [this,z8A];rfl
theorem zbb {ops:List Oper} {S:St} {o:Oper} {yes:St→Prop} {no:Prop} (h:z7P S ops o.guard yes no) :
 (gd ops S.get o true∧∃ S1:St,S1.get=S.get∧S1.H=S.H∧yes S1) ∨ (gd ops S.get o false∧no):=by
 unfold z7P at h
 unfold gd
 split at h
 ·rename_i hg;rw [hg];exact .inl ⟨rfl,S,rfl,rfl,h⟩
 ·rename_i j want hg
  rw [hg]
  split at h<;>try exact h.elim
  rename_i oj hj
  split at h<;>try exact h.elim
  rename_i d hd
  split at h<;>try exact h.elim
  case h_2 =>
   rename_i cs hb
   exact .inr ⟨⟨oj,d,hj,hd,.inr ⟨cs,hb,rfl⟩⟩,h⟩
  rename_i b hb
  have key:((S.upd []).put (some d) (.bool b)).get=S.get:=by
   rw [z6v];funext t
   by_cases ht:d=t
   ·subst ht;simp [hb]
   ·simp [ht]
  have keyH:((S.upd []).put (some d) (.bool b)).H=S.H:=by rw [zex];rfl
  split at h
  ·cases b with
   | true=>exact .inl ⟨⟨oj,d,hj,hd,.inl ⟨true,hb,rfl⟩⟩,_,key,keyH,St.step_eq (h.1 rfl)⟩
   | false=>exact .inr ⟨⟨oj,d,hj,hd,.inl ⟨false,hb,rfl⟩⟩,h.2 rfl⟩
  ·cases b with
   | true=>exact .inr ⟨⟨oj,d,hj,hd,.inl ⟨true,hb,rfl⟩⟩,h.1 rfl⟩
   | false=>exact .inl ⟨⟨oj,d,hj,hd,.inl ⟨false,hb,rfl⟩⟩,_,key,keyH,St.step_eq (h.2 rfl)⟩
theorem zbc {P:Program} {tt:TT} {ops:List Oper} {n0:Nat} {K:List Tr→St→Prop}:∀ {l:List Oper} {i:Nat} {tr:List Tr} {S:St},WDr P tt ops n0 i l tr K S →
 ∃ R S',TRun P tt ops n0 i l S.get S.H R∧R.length=l.length∧K (trOf i R tr) S'∧S'.get=R.foldl (fun g rc=>apG rc g) S.get∧S'.H=R.foldl (fun H rc=>apH rc H) S.H∧S'.nx=n0+16 * (i+l.length)
 | [],i,tr,S,h=>⟨[],{ S with nx:=n0+16 * i },rfl,rfl,St.nxK_eq h,rfl,rfl,rfl⟩
 | o :: l,i,tr,S,h=>by
   simp only [WDr] at h
   rcases zbb h with ⟨hg,S1,e1,e2,h⟩|⟨hg,h⟩
   ·have h:=z6r h
    obtain ⟨x,u,rd,hk,hdet⟩:=zhA (opDF h)
    have hk:=zg5 (St.step_eq hk)
    obtain ⟨R,S',q1,q2,q3,q4,q5,q6⟩:=zbc hk
    rw [z6v,e1] at q1 q4
    rw [zex,e2] at q1 q5
    refine ⟨⟨o,true,x,u,rd⟩ :: R,S',⟨_,_,rfl,rfl,hg,fun _ S2 hs ha=>hdet S2 (fun t ht=>by rw [e1];exact hs t ht) (by rw [e2];exact ha),fun e=>(by cases e),q1⟩,by simp [q2],q3,q4,q5,?_⟩
    rw [q6];simp;omega
   ·obtain ⟨R,S',q1,q2,q3,q4,q5,q6⟩:=zbc (St.step_eq h)
    rw [z6v] at q1 q4
    rw [zex] at q1 q5
    refine ⟨⟨o,false,.tup [],[],[]⟩ :: R,S',⟨_,_,rfl,rfl,hg,fun e=>(by cases e),fun _=>⟨rfl,rfl⟩,q1⟩,by simp [q2],q3,q4,q5,?_⟩
    rw [q6];simp;omega
theorem z5X {P:Program} {tt:TT} {ops:List Oper} {n0:Nat}:∀ {l:List Oper} {i j:Nat} {g:Nat→T} {H:Hp} {R:List Rc} {rc:Rc},TRun P tt ops n0 i l g H R→R[j]?=some rc →
 l[j]?=some rc.o∧gd ops ((R.take j).foldl (fun g rc=>apG rc g) g) rc.o rc.want ∧
  (rc.want=true→∀ S':St,(∀ t ∈ zb8 rc.o,S'.get t=(R.take j).foldl (fun g rc=>apG rc g) g t)→Agr ((R.take j).foldl (fun H rc=>apH rc H) H) S'.H rc.rd→OpP P tt rc.o S' (n0+16 * (i+j)) fun x u=>x=rc.x∧u=rc.u)∧(rc.want=false→rc.x=.tup []∧rc.u=[])
 | [],i,j,g,H,R,rc,h,hj=>by have:R=[]:=h;subst this;simp at hj
 | o :: l,i,j,g,H,R,rc,h,hj=>by
   obtain ⟨rc0,R',rfl,h1,h2,h3,h4,h5⟩:=h
   cases j with
   | zero=>simp at hj;subst hj;subst h1;exact ⟨rfl,h2,h3,h4⟩
   | succ j =>
     simp at hj
     have:=z5X h5 hj
     simp only [List.getElem?_cons_succ,List.take_succ_cons,List.foldl_cons]
     rwa [show i+(j+1)=i+1+j by omega]
theorem z9J:∀ {R:List Rc} {i:Nat} {tr:List Tr},∃ p,trOf i R tr=p++tr
 | [],i,tr=>⟨[],rfl⟩
 | rc :: R,i,tr=>by
   obtain ⟨p,hp⟩:=z9J (R:=R) (i:=i+1) (tr:=bif rc.on then (i,rc.rd,keys rc.u) :: tr else tr)
   cases hw:rc.on with
   | false=>rw [hw] at hp;exact ⟨p,by simp only [trOf,hw,cond_false];exact hp⟩
   | true=>rw [hw] at hp;exact ⟨p++[(i,rc.rd,keys rc.u)],by simp only [trOf,hw,cond_true];rw [cond_true] at hp;rw [hp];simp⟩
theorem zgZ {α:Type} {f:α→α→Bool}:∀ {p q:List α},pw f (p++q)=true→pw f q=true∧∀ a ∈ p,∀ b ∈ q,f a b=true
 | [],q,h=>⟨h,fun a ha=>by cases ha⟩
 | x :: p,q,h=>by
   simp only [List.cons_append,pw,Bool.and_eq_true] at h
   obtain ⟨h1,h2⟩:=zgZ h.2
   refine ⟨h1,fun a ha b hb=>?_⟩
   cases ha with
   | head=>exact List.all_eq_true.1 h.1 b (List.mem_append_right _ hb)
   | tail _ hm=>exact h2 a hm b hb
theorem zci:∀ {R:List Rc} {i j:Nat} {tr:List Tr} {rc:Rc},R[j]?=some rc→rc.on=true→(i+j,rc.rd,keys rc.u) ∈ trOf i R tr
 | [],i,j,tr,rc,h,_=>by simp at h
 | rc0 :: R,i,j,tr,rc,h,hw=>by
   cases j with
   | zero =>
     simp at h;subst h
     obtain ⟨p,hp⟩:=z9J (R:=R) (i:=i+1) (tr:=(i,rc0.rd,keys rc0.u) :: tr)
     simp [trOf,hw,hp]
   | succ j =>
     simp at h
     simp only [trOf]
     have:=zci (i:=i+1) (tr:=bif rc0.on then (i,rc0.rd,keys rc0.u) :: tr else tr) h hw
     rwa [show i+(j+1)=i+1+j by omega]
theorem zbd {f:Tr→Tr→Bool}:∀ {R:List Rc} {i a b:Nat} {tr:List Tr} {x y:Rc},pw f (trOf i R tr)=true→a<b→R[a]?=some x→R[b]?=some y→x.on=true→y.on=true→f (i+b,y.rd,keys y.u) (i+a,x.rd,keys x.u)=true
 | [],i,a,b,tr,x,y,_,_,h,_,_,_=>by simp at h
 | rc :: R,i,a,b,tr,x,y,h,hab,hx,hy,wx,wy=>by
   cases b with
   | zero=>omega
   | succ b =>
     simp at hy
     cases a with
     | succ a =>
       simp at hx
       simp only [trOf] at h
       have:=zbd h (by omega) hx hy wx wy
       rwa [show i+(b+1)=i+1+b by omega,show i+(a+1)=i+1+a by omega]
     | zero =>
       simp at hx;subst hx
       simp only [trOf,wx,cond_true] at h
       have hm:(i+1+b,y.rd,keys y.u) ∈ trOf (i+1) R []:=zci hy wy
       have hsp:∀ {R:List Rc} {i:Nat} {tr:List Tr},trOf i R tr=trOf i R []++tr:=by
        intro R
        induction R with
        | nil=>intros;rfl
        | cons c R ih =>
          intro i tr
          cases hw:c.on with
          | false=>simp only [trOf,hw,cond_false];exact ih
          | true=>simp only [trOf,hw,cond_true];rw [ih,ih (tr:=[(i,c.rd,keys c.u)])];simp
       rw [hsp] at h
       have:=(zgZ h).2 _ hm _ (List.mem_cons_self ..)
       rwa [show i+(b+1)=i+1+b by omega,Nat.add_zero]
section
variable {V:Type} (ap:Rc→(Nat→V)→Nat→V) (wr:Rc→Nat→Prop) (h1:∀ rc g t,¬ wr rc t→ap rc g t=g t) (h2:∀ rc g g' t,wr rc t→ap rc g t=ap rc g' t)
include h1 h2
theorem z8G {R:List Rc} {k:Nat} {rck:Rc} {X X':Nat→Bool} {g:Nat→V} (hk:R[k]?=some rck) (hX':∀ i,X' i=if i=k then true else X i)
 (hc:∀ i rc t,R[i]?=some rc→wr rc t→wr rck t→i ≠ k→X i=decide (i<k)):fld ap R 0 X' g=ap rck (fld ap R 0 X g):=by
 funext t
 by_cases hw:wr rck t
 ·have e1:fld ap R 0 X' g t=fld ap R 0 (fun i=>decide (i<0+k+1)) g t:=z4i ap wr h1 h2 rfl fun i rc hi hwi=>by
   rw [Nat.zero_add,hX']
   by_cases hik:i=k
   ·subst hik;simp
   ·rw [if_neg hik,hc i rc t hi hwi hw hik]
    simp only [Nat.zero_add]
    congr 1
    exact propext ⟨fun h=>by omega,fun h=>by omega⟩
  rw [e1,zcg ap wr h1 h2 hk]
  exact h2 _ _ _ _ hw
 ·rw [h1 _ _ _ hw]
  refine z4i ap wr h1 h2 rfl fun i rc hi hwi=>?_
  rw [Nat.zero_add,hX',if_neg]
  intro hik;subst hik
  rw [hk] at hi;injection hi with hi;subst hi;exact hw hwi
end
theorem zey {p p':Nat→Bool} {k:Nat} (h0:p k=true) (h1:p' k=false) (h2:∀ i,i ≠ k→p' i=p i):∀ {l:List Nat},l.Nodup→k ∈ l→l.countP p=l.countP p'+1
 | [],_,h=>by cases h
 | x :: l,hn,hm=>by
   obtain ⟨hx,hn⟩:=List.nodup_cons.1 hn
   by_cases hxk:x=k
   ·subst hxk
    have:l.countP p=l.countP p':=by
     refine List.countP_congr fun i hi=>?_
     rw [h2 i (fun e=>hx (e ▸ hi))]
    simp [List.countP_cons,h0,h1,this]
   ·have hm':k ∈ l:=by
     cases hm with
     | head=>exact absurd rfl hxk
     | tail _ h=>exact h
    have:=zey h0 h1 h2 hn hm'
    simp only [List.countP_cons,h2 x hxk,this]
    omega
section
variable {P:Program} {tt:TT} (htt:TtOk P tt) {X0:Cx} {N n0:Nat} {ops:Array Oper} {tab:List Nat} {g0:Nat→T} {H0:Hp} {R:List Rc}
 (htab:tab=zb9 ops.toList []) (hst:stOk ops.toList tab=true) (hd:ops.toList.all (zd8 N)=true)
 (hR:TRun P tt ops.toList n0 0 ops.toList g0 H0 R) (hlen:R.length=ops.toList.length) (hpw:pw (nuOk tab) (trOf 0 R [])=true)
include hst hR
theorem z7w {k:Nat} {rc:Rc} (hk:R[k]?=some rc):ops.toList[k]?=some rc.o∧ops[k]?=some rc.o:=by
 have:=(z5X hR hk).1
 exact ⟨this,by simpa using this⟩
theorem ed_lt {k:Nat} {rc:Rc} (hk:R[k]?=some rc):∀ e ∈ rc.o.after.toList,Region.binds .any e=true→e.on<k:=fun e he hb=>by
 have hst':=hst
 simp only [stOk,Bool.and_eq_true] at hst
 have hm:(k,rc.o) ∈ z7v 0 ops.toList:=List.mem_of_getElem? (i:=k) (by rw [z4I,(z7w hst' hR hk).1];simp)
 have:=List.all_eq_true.1 (List.all_eq_true.1 hst.1 _ hm) e he
 rw [hb] at this
 have h2:Nat.blt e.on k=true:=by simpa using this
 exact Nat.le_of_ble_eq_true h2
theorem zh0 {i k:Nat} {ri rk:Rc} (hi:R[i]?=some ri) (hk:R[k]?=some rk) (hik:i ≠ k) {t:Nat} (hw:ri.o.dst=some t) (hc:t ∈ z9I ops.toList rk.o ∨ rk.o.dst=some t) :
 (i<k→(tab.getD k 0).testBit i=true)∧(k<i→(tab.getD i 0).testBit k=true):=by
 have hst':=hst
 simp only [stOk,Bool.and_eq_true] at hst
 have hei:(z7v 0 ops.toList)[i]?=some (i,ri.o):=by rw [z4I,(z7w hst' hR hi).1];simp
 have hek:(z7v 0 ops.toList)[k]?=some (k,rk.o):=by rw [z4I,(z7w hst' hR hk).1];simp
 have hti:t ∈ ri.o.dst.toList:=by simp [hw]
 refine ⟨fun h=>?_,fun h=>?_⟩
 ·have:=zba hst.2 h hei hek
  simp only [slOk,Bool.or_eq_true,Bool.and_eq_true] at this
  rcases this with q|⟨q,_⟩
  ·exact q
  ·exact (z35 q hti (by
    rcases hc with hc|hc
    ·exact List.mem_append_left _ hc
    ·exact List.mem_append_right _ (by simp [hc]))).elim
 ·have:=zba hst.2 h hek hei
  simp only [slOk,Bool.or_eq_true,Bool.and_eq_true] at this
  rcases this with q|⟨q1,q2⟩
  ·exact q
  ·rcases hc with hc|hc
   ·exact (z35 q2 hti hc).elim
   ·exact (z35 q1 (x:=t) (by simp [hc]) (List.mem_append_right _ hti)).elim
include hpw
theorem zh1 {i k:Nat} {ri rk:Rc} (hi:R[i]?=some ri) (hk:R[k]?=some rk) (hik:i ≠ k) (hkw:rk.want=true) {r:Nat} (hw:r ∈ keys ri.u) (hc:r ∈ rk.rd ∨ r ∈ keys rk.u) :
 (i<k→(tab.getD k 0).testBit i=true)∧(k<i→(tab.getD i 0).testBit k=true):=by
 have hiw:ri.want=true:=by
  cases hq:ri.want with
  | true=>rfl
  | false=>rw [((z5X hR hi).2.2.2 hq).2] at hw;cases hw
 have hio:ri.on=true:=by
  have:(keys ri.u).isEmpty=false:=by cases hq:keys ri.u with
   | nil=>rw [hq] at hw;cases hw
   | cons a l=>rfl
  simp [Rc.on,hiw,this]
 have hko:rk.on=true:=by
  rcases hc with hc|hc
  ·have:rk.rd.isEmpty=false:=by cases hq:rk.rd with
    | nil=>rw [hq] at hc;cases hc
    | cons a l=>rfl
   simp [Rc.on,hkw,this]
  ·have:(keys rk.u).isEmpty=false:=by cases hq:keys rk.u with
    | nil=>rw [hq] at hc;cases hc
    | cons a l=>rfl
   simp [Rc.on,hkw,this]
 refine ⟨fun h=>?_,fun h=>?_⟩
 ·have:=zbd hpw h hi hk hio hko
  simp only [nuOk,Bool.or_eq_true,Bool.and_eq_true,Nat.zero_add] at this
  rcases this with q|⟨q,_⟩
  ·exact q
  ·exact (z35 q hw (by
    rcases hc with hc|hc
    ·exact List.mem_append_left _ hc
    ·exact List.mem_append_right _ hc)).elim
 ·have:=zbd hpw h hk hi hko hio
  simp only [nuOk,Bool.or_eq_true,Bool.and_eq_true,Nat.zero_add] at this
  rcases this with q|⟨q1,q2⟩
  ·exact q
  ·rcases hc with hc|hc
   ·exact (z35 q2 hw hc).elim
   ·exact (z35 q1 hc (List.mem_append_right _ hw)).elim
include htab hlen
theorem z5Y {X:Nat→Bool} (hX:Clo ops.toList X) {i k:Nat} {ri rk:Rc} (hi:R[i]?=some ri) (hk:R[k]?=some rk) (hik:i ≠ k) (hXk:X k=false) (hpre:∀ e ∈ rk.o.after.toList,Region.binds .any e=true→X e.on=true)
 (ho:(i<k→(tab.getD k 0).testBit i=true)∧(k<i→(tab.getD i 0).testBit k=true)):X i=decide (i<k):=by
 have hup:∀ j,j<ops.toList.length→UpOk ops.toList j (tab.getD j 0):=by
  rw [htab];exact zcf (fun j=>by simp) (by simp) (fun j hj=>by simp at hj)
 have hkl:=(List.getElem?_eq_some_iff.1 (z7w hst hR hk).1).1
 have hil:=(List.getElem?_eq_some_iff.1 (z7w hst hR hi).1).1
 by_cases h:i<k
 ·rw [hup k hkl X hX _ (z7w hst hR hk).1 hpre i (ho.1 h)];simp [h]
 ·have hki:k<i:=by omega
  cases hxi:X i with
  | false=>simp [h]
  | true =>
    have:=hup i hil X hX _ (z7w hst hR hi).1 (hX i _ (z7w hst hR hi).1 hxi) k (ho.2 hki)
    rw [hXk] at this;cases this
include htt hd
theorem zez {K:St→Prop} {Q:Exit→Act→World→Prop} {Sf:St} (hQ:∀ X a,SR X0 N Sf Sf.nx X a→Q .normal a X.w) (hf1:Sf.get=R.foldl (fun g rc=>apG rc g) g0) (hf2:Sf.H=R.foldl (fun H rc=>apH rc H) H0) (hf3:Sf.nx=n0+16 * ops.toList.length) :
 ∀ (fuel:Nat) (listed:Array Bool) (S':St) (X:Cx) (a:Act),listed.size=ops.size→Clo ops.toList (fun i=>listed.getD i false)→(List.range ops.size).countP (fun i=>!listed.getD i false)=fuel →
   SR X0 N S' (n0+16 * ops.toList.length) X a→S'.get=fld apG R 0 (fun i=>listed.getD i false) g0→S'.H=fld apH R 0 (fun i=>listed.getD i false) H0 →
   (∀ r,X.us r→r<n0 ∨ ∃ i,i<ops.size∧listed.getD i false=true∧n0+16 * i≤r∧r<n0+16 * i+16)→wpAny P .any ops Q fuel listed a X.w:=by
 have hsz:ops.size=ops.toList.length:=by simp
 have fin:∀ (listed:Array Bool) (S':St) (X:Cx) (a:Act),(∀ i,i<ops.size→listed.getD i false=true)→SR X0 N S' (n0+16 * ops.toList.length) X a→S'.get=fld apG R 0 (fun i=>listed.getD i false) g0 →
  S'.H=fld apH R 0 (fun i=>listed.getD i false) H0→Q .normal a X.w:=fun listed S' X a hall h hg hH=>by
  have hlt:∀ i rc,R[i]?=some rc→listed.getD i false=decide (i<0+R.length):=fun i rc hi=>by
   have:=(List.getElem?_eq_some_iff.1 hi).1
   rw [hall i (by omega)];simp [this]
  refine hQ X a (by
   rw [hf3]
   refine h.cong ?_ ?_
   ·rw [hf1,hg]
    have e1:fld apG R 0 (fun i=>listed.getD i false) g0=fld apG R 0 (fun i=>decide (i<0+R.length)) g0:=funext fun t=>z4i apG (fun rc t=>rc.o.dst=some t) zhB zhC rfl fun j rc hj _=>by rw [Nat.zero_add];exact hlt j rc hj
    rw [e1,z4J,List.take_length]
   ·rw [hf2,hH]
    have e1:fld apH R 0 (fun i=>listed.getD i false) H0=fld apH R 0 (fun i=>decide (i<0+R.length)) H0:=funext fun t=>z4i apH (fun rc t=>t ∈ keys rc.u) zg3 zg4 rfl fun j rc hj _=>by rw [Nat.zero_add];exact hlt j rc hj
    rw [e1,z4J,List.take_length])
 have getD2:∀ (listed:Array Bool) (i:Nat),i<listed.size→listed.getD i true=listed.getD i false:=fun listed i hi=>by simp [Array.getD,hi]
 intro fuel
 induction fuel with
 | zero =>
   intro listed S' X a hls hclo hcnt h hg hH hus
   have hall:∀ i,i<ops.size→listed.getD i false=true:=fun i hi=>by
    have:=List.countP_eq_zero.1 hcnt i (by simpa using hi)
    simpa using this
   refine ⟨?_,fin listed S' X a hall h hg hH⟩
   unfold Region.ready
   rw [List.filter_eq_nil_iff]
   intro i hi
   have hi':i<ops.size:=by simpa using hi
   rw [getD2 _ _ (by omega),hall i hi'];simp
 | succ fuel ih =>
   intro listed S' X a hls hclo hcnt h hg hH hus
   refine ⟨fun hnil=>?_,fun k hk=>?_⟩
   ·refine fin listed S' X a (fun i=>?_) h hg hH
    induction i using Nat.strongRecOn with
    | _ i ihi =>
      intro hi
      cases hx:listed.getD i false with
      | true=>rfl
      | false =>
        have hil:i<R.length:=by omega
        have hri:R[i]?=some R[i]:=List.getElem?_eq_getElem hil
        have hmem:i ∈ Region.ready .any ops listed:=by
         unfold Region.ready
         rw [List.mem_filter]
         refine ⟨by simpa using hi,?_⟩
         rw [getD2 _ _ (by omega),hx,(z7w hst hR hri).2]
         simp only [Bool.not_false,Option.map_some,Option.getD_some,Bool.true_and]
         rw [← Array.all_toList,List.all_eq_true]
         intro e he
         cases hb:Region.binds .any e with
         | false=>rfl
         | true=>have hl:=ed_lt hst hR hri e he hb;simp [ihi e.on hl (by omega)]
        rw [hnil] at hmem;cases hmem
   ·have hk':=hk
    unfold Region.ready at hk'
    rw [List.mem_filter] at hk'
    obtain ⟨hkr,hkb⟩:=hk'
    have hkl:k<ops.size:=by simpa using hkr
    have hrk:R[k]?=some R[k]:=List.getElem?_eq_getElem (by omega)
    generalize R[k]=rk at hrk
    obtain ⟨hop1,hop⟩:=z7w hst hR hrk
    simp only [Bool.and_eq_true,getD2 listed k (by omega),hop,Option.map_some,Option.getD_some] at hkb
    obtain ⟨hkx,hkpre⟩:=hkb
    have hkx:listed.getD k false=false:=by simpa using hkx
    have hpre:∀ e ∈ rk.o.after.toList,Region.binds .any e=true→listed.getD e.on false=true:=fun e he hb=>by
     rw [← Array.all_toList,List.all_eq_true] at hkpre
     have:=hkpre e he
     rw [hb] at this
     simpa using this
    obtain ⟨_,hgd,hwant,hnot⟩:=z5X hR hrk
    rw [Nat.zero_add] at hwant
    have agS:∀ t,(t ∈ z9I ops.toList rk.o)→S'.get t=(R.take k).foldl (fun g rc=>apG rc g) g0 t:=fun t ht=>by
     rw [hg,← z4J (i:=0)]
     refine z4i apG (fun rc t=>rc.o.dst=some t) zhB zhC rfl fun i ri hri hw=>?_
     simp only [Nat.zero_add]
     by_cases hik:i=k
     ·subst hik;simp [hkx]
     ·exact z5Y htab hst hR hlen hpw hclo hri hrk hik hkx hpre (zh0 hst hR hri hrk hik hw (.inl ht))
    have agH:rk.want=true→Agr ((R.take k).foldl (fun H rc=>apH rc H) H0) S'.H rk.rd:=fun hwk r hr=>by
     rw [hH,← z4J (i:=0)]
     refine z4i apH (fun rc t=>t ∈ keys rc.u) zg3 zg4 rfl fun i ri hri hw=>?_
     simp only [Nat.zero_add]
     by_cases hik:i=k
     ·subst hik;simp [hkx]
     ·exact z5Y htab hst hR hlen hpw hclo hri hrk hik hkx hpre (zh1 hst hR hpw hri hrk hik hwk hw (.inl hr))
    have hwan:Region.wanted rk.o (yielded ops a.tmps)=rk.want:=by
     unfold gd at hgd
     unfold Region.wanted
     split at hgd
     ·rename_i hg0;rw [hg0,hgd]
     ·rename_i j w hg0
      obtain ⟨oj,d,q1,q2,q3⟩:=hgd
      have hag:=agS d (by simp only [z9I,hg0,q1,q2];simp)
      rw [hg0]
      rcases q3 with ⟨b,q3,q4⟩|⟨cs,q3,q4⟩
      ·rw [q3] at hag
       rw [q4]
       simp only [zfV h q1 q2 hag]
       cases b<;>cases w<;>rfl
      ·rw [q3] at hag
       rw [q4]
       simp only [zca h q1 q2 hag]
       cases w<;>rfl
    have hX':∀ i,(listed.setIfInBounds k true).getD i false=if i=k then true else listed.getD i false:=fun i=>by
     simp only [Array.getD_eq_getD_getElem?,Array.getElem?_setIfInBounds]
     by_cases hik:k=i
     ·subst hik;simp [show k<listed.size by omega]
     ·rw [if_neg hik,if_neg (Ne.symm hik)]
    have hclo':Clo ops.toList (fun i=>(listed.setIfInBounds k true).getD i false):=fun i o ho hx e he hb=>by
     simp only [hX'] at hx ⊢
     by_cases hek:e.on=k
     ·simp [hek]
     ·rw [if_neg hek]
      by_cases hik:i=k
      ·subst hik
       rw [hop1] at ho;injection ho with ho;subst ho
       exact hpre e he hb
      ·rw [if_neg hik] at hx;exact hclo i o ho hx e he hb
    have hcnt':(List.range ops.size).countP (fun i=>!(listed.setIfInBounds k true).getD i false)=fuel:=by
     have:=zey (p:=fun i=>!listed.getD i false) (p':=fun i=>!(listed.setIfInBounds k true).getD i false) (k:=k) (by simp [hkx]) (by simp [hX']) (fun i hi=>by simp [hX',hi]) (l:=List.range ops.size) List.nodup_range (by simpa using hkl)
     omega
    have hG':fld apG R 0 (fun i=>(listed.setIfInBounds k true).getD i false) g0=apG rk S'.get:=by
     rw [hg]
     exact z8G apG (fun rc t=>rc.o.dst=some t) zhB zhC hrk hX' fun i ri t hri hw hwk hik=>z5Y htab hst hR hlen hpw hclo hri hrk hik hkx hpre (zh0 hst hR hri hrk hik hw (.inr hwk))
    have hH':fld apH R 0 (fun i=>(listed.setIfInBounds k true).getD i false) H0=apH rk S'.H:=by
     rw [hH]
     cases hwk:rk.want with
     | true=>exact z8G apH (fun rc t=>t ∈ keys rc.u) zg3 zg4 hrk hX' fun i ri t hri hw hwk2 hik=>z5Y htab hst hR hlen hpw hclo hri hrk hik hkx hpre (zh1 hst hR hpw hri hrk hik hwk hw (.inr hwk2))
     | false=>exact z8G apH (fun rc t=>t ∈ keys rc.u) zg3 zg4 hrk hX' fun i ri t hri hw hwk2 hik=>by rw [(hnot hwk).2] at hwk2;cases hwk2
    have hdk:∀ j,rk.o.dst=some j→j<N:=fun j hj=>by
     have h2:=List.all_eq_true.1 hd _ (List.mem_of_getElem? hop1)
     unfold zd8 at h2;rw [hj] at h2
     exact Nat.le_of_ble_eq_true h2
    have hus':∀ (us':Nat→Prop),(∀ r,us' r→X.us r ∨ (n0+16 * k≤r∧r<n0+16 * k+16))→∀ r,us' r→r<n0 ∨ ∃ i,i<ops.size∧(listed.setIfInBounds k true).getD i false=true∧n0+16 * i≤r∧r<n0+16 * i+16:=fun us' hu r hr=>by
     rcases hu r hr with q|q
     ·rcases hus r q with q|⟨i,q1,q2,q3⟩
      ·exact .inl q
      ·refine .inr ⟨i,q1,?_,q3⟩
       rw [hX'];split
       ·rfl
       ·exact q2
     ·exact .inr ⟨k,hkl,by rw [hX'];simp,q⟩
    have hfresh:Fresh X (n0+16 * k):=fun r q1 q2 q3=>by
     rcases hus r q3 with q|⟨i,q4,q5,q6⟩
     ·omega
     ·have:i=k:=by omega
      subst this;rw [hkx] at q5;cases q5
    unfold wpOp
    simp only [hop,hwan]
    cases hwk:rk.want with
    | true =>
      simp only [if_true]
      left
      have hop2:=hwant hwk S' (fun t ht=>agS t (List.mem_append_left _ ht)) (agH hwk)
      refine zcb htt h hfresh hop2 fun x u v X' hxu hXH hXu hXs hXr hXv=>?_
      obtain ⟨rfl,rfl⟩:=hxu
      refine ih _ ((S'.upd rk.u).put rk.o.dst rk.x) X' _ (by simpa using hls) hclo' hcnt' (h.out2 hdk hXH hXu (by omega) hXs hXr hXv) ?_ ?_ (hus' _ fun r hr=>by rw [hXu] at hr;exact hr)
      ·rw [z6v,hG'];rfl
      ·rw [zex,hH'];rfl
    | false =>
      simp only [if_false,Bool.false_eq_true]
      obtain ⟨e1,e2⟩:=hnot hwk
      refine ih _ ((S'.upd []).put rk.o.dst (.tup [])) X _ (by simpa using hls) hclo' hcnt' (h.put (S:=S'.upd []) hdk zc9) ?_ ?_ (hus' _ fun r hr=>.inl hr)
      ·rw [z6v,hG',← e1];rfl
      ·rw [zex,hH',← e2];rfl
end
def WD (P:Program) (tt:TT) (ops:List Oper) (n0:Nat) (K:St→Prop) (S:St):Prop :=
 P.follows .mixedOrders=true∧stOk ops (zb9 ops [])=true∧WDr P tt ops n0 0 ops [] (fun tr S'=>pw (nuOk (zb9 ops [])) tr=true∧K S') S
theorem zg6 {P:Program} {tt:TT} (htt:TtOk P tt) {X0:Cx} {N id:Nat} {ops:Array Oper} {K:St→Prop} {Q:Exit→Act→World→Prop} (hQ:∀ S X a,SR X0 N S S.nx X a→K S→Q .normal a X.w) {S:St} {n0:Nat} {X:Cx} {a:Act}
 (hd:ops.toList.all (zd8 N)=true) (h:SR X0 N S n0 X a) (hw:WD P tt ops.toList n0 K S):(Code.region id ops true).wp P Q a X.w:=by
 obtain ⟨hm,hst,hw⟩:=hw
 obtain ⟨R,Sf,h1,h2,⟨h3,h4⟩,h5,h6,h7⟩:=zbc hw
 refine wp_region_any hm ?_
 have hsm:=z4e X (fun _ h=>h) { X.w with drawn:=X.w.drawn+1 } rfl rfl rfl rfl
 have hr:=h.hr.nx (fun _ h=>h) { X.w with drawn:=X.w.drawn+1 } rfl rfl rfl rfl
 have hrep:∀ i,(Array.replicate ops.size false).getD i false=false:=fun i=>by
  rw [Array.getD_eq_getD_getElem?,Array.getElem?_replicate];split<;>rfl
 have fld0:∀ {V:Type} (ap:Rc→(Nat→V)→Nat→V) (l:List Rc) (i:Nat) (g:Nat→V),fld ap l i (fun i=>(Array.replicate ops.size false).getD i false) g=g:=by
  intro V ap l
  induction l with
  | nil=>intros;rfl
  | cons c l ih=>intro i g;show fld ap l (i+1) _ (bif (Array.replicate ops.size false).getD i false then ap c g else g)=g;rw [hrep i];exact ih _ _
 refine zez (K:=K) htt rfl hst hd h1 h2 h3 (fun X a hs=>hQ Sf X a hs h4) h5 h6 (by simpa using h7) ops.size _ S { X with w:={ X.w with drawn:=X.w.drawn+1 } } a (by simp)
  (fun k o _ hx=>absurd ((hrep k).symm.trans hx) (by decide)) ?_ ⟨h.same.trans hsm,hr,h.H,fun r hr=>by have:=h.lt r hr;omega,fun t=>(h.sl t).mono hsm,h.df,h.sz⟩ (fld0 ..).symm (fld0 ..).symm (fun r hr=>.inl (h.lt r hr))
 have:(List.range ops.size).countP (fun i=>!(Array.replicate ops.size false).getD i false)=(List.range ops.size).length:=by
  rw [List.countP_eq_length]
  intro i _;rw [hrep];rfl
 rw [this];simp
end Go.Proofs.YtgmbkbggnlponaaGreatDoor
