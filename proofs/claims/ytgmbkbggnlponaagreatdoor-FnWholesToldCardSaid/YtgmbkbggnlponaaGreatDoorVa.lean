/- Values by content: what a slot holds is told by what can be read through it; memory that a call owns is told by numbered entries. What slots hold, the entries, and what one step may turn. One operation, told by content: what it asks and what it gives. One operation, told by content: the operations that call nobody. One operation, told by content: what is told is so. One operation, told by content: loads, stores, indexes, sums. One operation, told by content: sums of numbers and strings, conversions, structs built. One operation, told by content: conversions, structs and rows built, parts of rows. One operation, told by content: structs and rows built. One operation, told by content: rows built. One operation, told by content: rows built, parts of rows, lengths, appends. One operation, told by content: lengths and appends. -/
import Derived.Test.YtgmbkbggnlponaaGreatDoorPlain
import Derived.WalkKit
import Derived.WalkLawsBesides
import Derived.Laws.BytesArg
import Derived.Laws.IdiomStrings
import Derived.Laws.OwnMore
import Derived.Laws.Rows
import Derived.Orders
import Derived.Laws.IdiomCopy
import Derived.Laws.MakeOwn
namespace Go.Proofs.YtgmbkbggnlponaaGreatDoor
set_option linter.unusedVariables false
set_option linter.unusedSimpArgs false
set_option linter.unusedSectionVars false
open Go.RowKit Pl
inductive T where
 | int (k:IntKind) (n:Int)|bool (b:Bool)|str (s:Bs)|val (v:Value)
 | agg (cs:List T)|tup (cs:List T)
 | sl (k:Nat) (es:List (List T))
 | ref (r:Nat)|ptr (r i j:Nat)|rptr (c:List T) (j:Nat)|any|fnp (f r:Nat)|fnq (f r s:Nat)
 | own (k:Nat) (es:List (List T))
 | ifz (t n:Nat)|fna
instance:Inhabited T:=⟨.any⟩
inductive Ent where
 | box (cs:List T)
 | row (k:Nat) (es:List (List T))
 | deep (k:Nat) (es:List (List T)) (l:List (Nat × Nat × Nat))
def Ent.wd:Ent→Nat
 | .box cs=>cs.length
 | .row k _=>k
 | .deep k _ _=>k
abbrev Own:=Nat→Option Nat
abbrev Hp:=Nat→Option Ent
def nilV:Value:=.slice none 0 0
mutual
def RV (ow:Own) (w:World):T→Value→Prop
 | .int k n,v=>v=.int k n
 | .bool b,v=>v=.bool b
 | .str s,v=>v=.string (bs s)
 | .val x,v=>v=x∧x.oneCell'=true
 | .sl k es,v=>∃ A c,v=.slice A es.length c∧es.length≤c∧(es=[] ∨ ∃ g o C t fr,A=some ⟨g,o,none⟩∧ow g=none∧w.heap[g]?=some (.cells C t fr)∧RE ow w k es (C.toList.drop o))
 | .any,v=>v.oneCell'=true
 | .ifz t n,v=>∃ A c,v=.iface t (.slice A n c)
 | .fna,v=>∃ f a b,v=.func f a b
 | _,_=>False
def RL (ow:Own) (w:World):List T→List Value→Prop
 | [],vs=>vs=[]
 | c :: cs,vs=>∃ u us,vs=u :: us∧RV ow w c u∧RL ow w cs us
def RE (ow:Own) (w:World) (k:Nat):List (List T)→List Value→Prop
 | [],_=>True
 | e :: es,vs=>∃ us rest,vs=us++rest∧us.length=k∧RL ow w e us∧RE ow w k es rest
end
def Stab (ow:Own) (w:World) (ow':Own) (w':World):Prop:=∀ g,g<w.heap.size→ow g=none→ow' g=none∧w'.heap[g]?=w.heap[g]?
theorem z1f {w:World} {g:Nat} {o:Obj} (h:w.heap[g]?=some o):g<w.heap.size:=by
 rcases Nat.lt_or_ge g w.heap.size with hl|hl
 ·exact hl
 ·rw [Array.getElem?_eq_none hl] at h;cases h
theorem Stab.refl (ow:Own) (w:World):Stab ow w ow w:=fun _ _ h=>⟨h,rfl⟩
theorem Stab.trans {ow ow1 ow2:Own} {w w1 w2:World} (h:Stab ow w ow1 w1) (hs:w.heap.size≤w1.heap.size) (k:Stab ow1 w1 ow2 w2):Stab ow w ow2 w2:=fun g hg hn=>by
 obtain ⟨a,b⟩:=h g hg hn
 obtain ⟨c,d⟩:=k g (Nat.lt_of_lt_of_le hg hs) a
 exact ⟨c,d.trans b⟩
section
variable {ow ow':Own} {w w':World} (hs:Stab ow w ow' w')
include hs
mutual
theorem RV.mono:∀ {x:T} {v:Value},RV ow w x v→RV ow' w' x v
 | .int _ _,_,h=>by simpa only [RV] using h
 | .bool _,_,h=>by simpa only [RV] using h
 | .str _,_,h=>by simpa only [RV] using h
 | .val _,_,h=>by simpa only [RV] using h
 | .sl k es,_,h=>by
   simp only [RV] at h ⊢
   obtain ⟨A,c,hv,hc,h⟩:=h
   refine ⟨A,c,hv,hc,?_⟩
   rcases h with h|⟨g,o,C,t,fr,hA,hg,hh,hr⟩
   ·exact .inl h
   ·obtain ⟨a,b⟩:=hs g (z1f hh) hg
    exact .inr ⟨g,o,C,t,fr,hA,a,b.trans hh,RE.mono hr⟩
 | .any,_,h=>by simpa only [RV] using h
 | .agg _,_,h=>by simp only [RV] at h
 | .tup _,_,h=>by simp only [RV] at h
 | .ref _,_,h=>by simp only [RV] at h
 | .ptr _ _ _,_,h=>by simp only [RV] at h
 | .rptr _ _,_,h=>by simp only [RV] at h
 | .fnp _ _,_,h=>by simp only [RV] at h
 | .fnq _ _ _,_,h=>by simp only [RV] at h
 | .own _ _,_,h=>by simp only [RV] at h
 | .ifz _ _,_,h=>by simpa only [RV] using h
 | .fna,_,h=>by simpa only [RV] using h
theorem RL.mono:∀ {cs:List T} {vs:List Value},RL ow w cs vs→RL ow' w' cs vs
 | [],_,h=>by simpa only [RL] using h
 | c :: cs,_,h=>by
   simp only [RL] at h ⊢
   obtain ⟨u,us,hv,h1,h2⟩:=h
   exact ⟨u,us,hv,RV.mono h1,RL.mono h2⟩
theorem RE.mono:∀ {k:Nat} {es:List (List T)} {vs:List Value},RE ow w k es vs→RE ow' w' k es vs
 | _,[],_,_=>by simp only [RE]
 | k,e :: es,_,h=>by
   simp only [RE] at h ⊢
   obtain ⟨us,rest,hv,hl,h1,h2⟩:=h
   exact ⟨us,rest,hv,hl,RL.mono h1,RE.mono h2⟩
end
end
theorem RV.one {ow:Own} {w:World} {x:T} {v:Value} (h:RV ow w x v):v.oneCell'=true:=by
 cases x<;>simp only [RV] at h
 case int=>subst h;rfl
 case bool=>subst h;rfl
 case str=>subst h;rfl
 case val=>exact h.1 ▸ h.2
 case sl=>obtain ⟨A,c,rfl,_⟩:=h;rfl
 case any=>exact h
 case ifz=>obtain ⟨A,c,rfl⟩:=h;rfl
 case fna=>obtain ⟨f,a,b,rfl⟩:=h;rfl
theorem RL.len {ow:Own} {w:World}:∀ {cs:List T} {vs:List Value},RL ow w cs vs→vs.length=cs.length
 | [],_,h=>by simp only [RL] at h;subst h;rfl
 | c :: cs,_,h=>by
   simp only [RL] at h
   obtain ⟨u,us,rfl,_,h2⟩:=h
   simp [RL.len h2]
theorem RL.get {ow:Own} {w:World}:∀ {cs:List T} {vs:List Value} {i:Nat} {c:T},RL ow w cs vs→cs[i]?=some c→∃ u,vs[i]?=some u∧RV ow w c u
 | [],_,i,c,_,hc=>by simp at hc
 | c0 :: cs,_,i,c,h,hc=>by
   simp only [RL] at h
   obtain ⟨u,us,rfl,h1,h2⟩:=h
   cases i with
   | zero=>simp at hc;subst hc;exact ⟨u,by simp,h1⟩
   | succ i=>simp at hc;simpa using RL.get h2 hc
theorem RL.one {ow:Own} {w:World}:∀ {cs:List T} {vs:List Value},RL ow w cs vs→∀ u ∈ vs,u.oneCell'=true
 | [],_,h,u,hu=>by simp only [RL] at h;subst h;cases hu
 | c :: cs,_,h,u,hu=>by
   simp only [RL] at h
   obtain ⟨u0,us,rfl,h1,h2⟩:=h
   cases hu with
   | head=>exact h1.one
   | tail _ hm=>exact RL.one h2 u hm
theorem RL.take {ow:Own} {w:World}:∀ {cs:List T} {vs:List Value} (n:Nat),RL ow w cs vs→RL ow w (cs.take n) (vs.take n)
 | _,_,0,_=>by simp [RL]
 | [],_,n+1,h=>by simp only [RL] at h;subst h;simp [RL]
 | c :: cs,_,n+1,h=>by
   simp only [RL] at h
   obtain ⟨u,us,rfl,h1,h2⟩:=h
   simp only [List.take_succ_cons,RL]
   exact ⟨u,_,rfl,h1,RL.take n h2⟩
theorem RL.drop {ow:Own} {w:World}:∀ {cs:List T} {vs:List Value} (n:Nat),RL ow w cs vs→RL ow w (cs.drop n) (vs.drop n)
 | _,_,0,h=>by simpa using h
 | [],_,n+1,h=>by simp only [RL] at h;subst h;simp [RL]
 | c :: cs,_,n+1,h=>by
   simp only [RL] at h
   obtain ⟨u,us,rfl,h1,h2⟩:=h
   simpa using RL.drop n h2
theorem RL.append {ow:Own} {w:World}:∀ {cs ds:List T} {vs us:List Value},RL ow w cs vs→RL ow w ds us→RL ow w (cs++ds) (vs++us)
 | [],_,_,_,h,h2=>by simp only [RL] at h;subst h;simpa using h2
 | c :: cs,_,_,_,h,h2=>by
   simp only [RL] at h
   obtain ⟨u,us,rfl,h1,h3⟩:=h
   simp only [List.cons_append,RL]
   exact ⟨u,_,rfl,h1,RL.append h3 h2⟩
theorem RL.set {ow:Own} {w:World}:∀ {cs:List T} {vs:List Value} (i:Nat) {c:T} {u:Value},RL ow w cs vs→RV ow w c u→RL ow w (cs.set i c) (vs.set i u)
 | [],_,i,c,u,h,_=>by simp only [RL] at h;subst h;simp [RL]
 | c0 :: cs,_,i,c,u,h,hc=>by
   simp only [RL] at h
   obtain ⟨u0,us,rfl,h1,h2⟩:=h
   cases i with
   | zero=>simp only [List.set_cons_zero,RL];exact ⟨_,_,rfl,hc,h2⟩
   | succ i=>simp only [List.set_cons_succ,RL];exact ⟨_,_,rfl,h1,RL.set i h2 hc⟩
theorem RE.get {ow:Own} {w:World} {k:Nat}:∀ {es:List (List T)} {vs:List Value} {i:Nat} {e:List T},RE ow w k es vs→es[i]?=some e →
 RL ow w e ((vs.drop (i * k)).take k)∧(i+1) * k≤vs.length
 | [],_,i,e,_,he=>by simp at he
 | e0 :: es,_,i,e,h,he=>by
   simp only [RE] at h
   obtain ⟨us,rest,rfl,hl,h1,h2⟩:=h
   cases i with
   | zero =>
     simp at he
     subst he
     rw [Nat.zero_mul,List.drop_zero,List.take_append_of_le_length (by omega),List.take_of_length_le (by omega)]
     refine ⟨h1,?_⟩
     rw [List.length_append,hl];omega
   | succ i =>
     simp at he
     obtain ⟨a,b⟩:=RE.get h2 he
     have:(i+1) * k=us.length+i * k:=by rw [hl,Nat.add_mul];omega
     refine ⟨?_,?_⟩
     ·rw [this,List.drop_append,List.drop_eq_nil_of_le (by omega),List.nil_append,Nat.add_sub_cancel_left]
      exact a
     ·rw [List.length_append,hl]
      have:(i+1+1) * k=k+(i+1) * k:=by rw [Nat.add_mul (i+1)];omega
      omega
theorem RE.len {ow:Own} {w:World} {k:Nat}:∀ {es:List (List T)} {vs:List Value},RE ow w k es vs→es.length * k≤vs.length
 | [],_,_=>by simp
 | e :: es,_,h=>by
   simp only [RE] at h
   obtain ⟨us,rest,rfl,hl,_,h2⟩:=h
   have:=RE.len h2
   rw [List.length_cons,Nat.add_mul,List.length_append,hl];omega
theorem RE.elen {ow:Own} {w:World} {k:Nat}:∀ {es:List (List T)} {vs:List Value},RE ow w k es vs→∀ e ∈ es,e.length=k
 | [],_,_,e,he=>by cases he
 | e0 :: es,_,h,e,he=>by
   simp only [RE] at h
   obtain ⟨us,rest,rfl,hl,h1,h2⟩:=h
   cases he with
   | head=>rw [← hl];exact h1.len.symm
   | tail _ hm=>exact RE.elen h2 e hm
theorem RE.ext {ow:Own} {w:World} {k:Nat}:∀ {es:List (List T)} {vs us:List Value},RE ow w k es vs→(∃ r,us=vs.take (es.length * k)++r)→RE ow w k es us
 | [],_,_,_,_=>by simp only [RE]
 | e :: es,_,us,h,hu=>by
   simp only [RE] at h ⊢
   obtain ⟨xs,rest,rfl,hl,h1,h2⟩:=h
   obtain ⟨r,rfl⟩:=hu
   refine ⟨xs,rest.take (es.length * k)++r,?_,hl,h1,RE.ext h2 ⟨r,rfl⟩⟩
   rw [List.length_cons,Nat.add_mul,List.take_append,hl,Nat.one_mul,List.take_of_length_le (by rw [hl];omega),Nat.add_sub_cancel,List.append_assoc]
theorem RE.app {ow:Own} {w:World} {k:Nat}:∀ {es fs:List (List T)} {vs us r:List Value},RE ow w k es vs→vs.length=es.length * k→RE ow w k fs us→RE ow w k (es++fs) (vs++us++r)
 | [],fs,vs,us,r,h,hl,h2=>by
   have:vs=[]:=List.eq_nil_of_length_eq_zero (by simpa using hl)
   subst this
   exact h2.ext ⟨us.drop (fs.length * k)++r,by rw [← List.append_assoc,List.take_append_drop];simp⟩
 | e :: es,fs,_,us,r,h,hl,h2=>by
   simp only [RE] at h
   obtain ⟨xs,rest,rfl,hx,h1,h3⟩:=h
   simp only [List.cons_append,RE]
   refine ⟨xs,rest++us++r,by simp,hx,h1,RE.app h3 ?_ h2⟩
   rw [List.length_append,List.length_cons,Nat.add_mul,hx] at hl;omega
theorem RE.set {ow:Own} {w:World} {k:Nat}:∀ {es:List (List T)} {vs:List Value} (i j:Nat) {e:List T} {c:T} {u:Value},RE ow w k es vs→es[i]?=some e→j<k→RV ow w c u →
 RE ow w k (es.set i (e.set j c)) (vs.set (i * k+j) u)
 | [],_,i,j,e,c,u,_,he,_,_=>by simp at he
 | e0 :: es,_,i,j,e,c,u,h,he,hj,hc=>by
   simp only [RE] at h
   obtain ⟨xs,rest,rfl,hx,h1,h2⟩:=h
   cases i with
   | zero =>
     simp at he
     subst he
     simp only [List.set_cons_zero,RE,Nat.zero_mul,Nat.zero_add]
     exact ⟨xs.set j u,rest,by rw [List.set_append,if_pos (by omega)],by simpa using hx,h1.set j hc,h2⟩
   | succ i =>
     simp at he
     simp only [List.set_cons_succ,RE]
     refine ⟨xs,rest.set (i * k+j) u,?_,hx,h1,RE.set i j h2 he hj hc⟩
     have hz:(i+1) * k+j=xs.length+(i * k+j):=by rw [hx,Nat.add_mul];omega
     rw [List.set_append,if_neg (by omega),hz,Nat.add_sub_cancel_left]
theorem RE.drop {ow:Own} {w:World} {k:Nat}:∀ {es:List (List T)} {vs:List Value} (n:Nat),RE ow w k es vs→RE ow w k (es.drop n) (vs.drop (n * k))
 | es,vs,0,h=>by simpa using h
 | [],vs,n+1,h=>by simp [RE]
 | e :: es,_,n+1,h=>by
   simp only [RE] at h
   obtain ⟨xs,rest,rfl,hx,h1,h2⟩:=h
   have hz:(n+1) * k=xs.length+n * k:=by rw [hx,Nat.add_mul];omega
   have hd:List.drop ((n+1) * k) (xs++rest)=rest.drop (n * k):=by rw [hz,List.drop_append,List.drop_eq_nil_of_le (by omega),List.nil_append,Nat.add_sub_cancel_left]
   rw [List.drop_succ_cons,hd]
   exact RE.drop n h2
theorem RE.take {ow:Own} {w:World} {k:Nat}:∀ {es:List (List T)} {vs:List Value} (n:Nat),RE ow w k es vs→RE ow w k (es.take n) vs
 | es,vs,0,h=>by simp [RE]
 | [],vs,n+1,h=>by simp [RE]
 | e :: es,_,n+1,h=>by
   simp only [RE] at h
   obtain ⟨xs,rest,rfl,hx,h1,h2⟩:=h
   simp only [List.take_succ_cons,RE]
   exact ⟨xs,rest,rfl,hx,h1,RE.take n h2⟩
end Go.Proofs.YtgmbkbggnlponaaGreatDoor
namespace Go.Proofs.YtgmbkbggnlponaaGreatDoor
set_option linter.unusedVariables false
set_option linter.unusedSimpArgs false
set_option linter.unusedSectionVars false
open Go.RowKit Pl
def z7p (fr:Nat × Nat) (n:Nat):Prop:=fr.2≤fr.1 ∨ n≤fr.1
def cl0:T→Prop
 | .sl _ es=>es=[]
 | _=>True
def noOw:Own:=fun _=>none
mutual
def OV (w:World):T→Value→List Nat→Prop
 | .own k es,v,bs=>0<k∧((v=nilV∧es=[]∧bs=[]) ∨ ∃ g c C t fr bs',v=.slice (some ⟨g,0,none⟩) es.length c∧w.heap[g]?=some (.cells C t fr)∧z7p fr C.size∧C.size=c * k∧es.length≤c∧c≤maxLen∧bs=g :: bs'∧OE w k es C.toList bs')
 | x,v,bs=>bs=[]∧cl0 x∧RV noOw w x v
def OL (w:World):List T→List Value→List Nat→Prop
 | [],vs,bs=>vs=[]∧bs=[]
 | c :: cs,vs,bs=>∃ u us b1 b2,vs=u :: us∧bs=b1++b2∧OV w c u b1∧OL w cs us b2
def OE (w:World) (k:Nat):List (List T)→List Value→List Nat→Prop
 | [],_,bs=>bs=[]
 | e :: es,vs,bs=>∃ us rest b1 b2,vs=us++rest∧us.length=k∧bs=b1++b2∧OL w e us b1∧OE w k es rest b2
end
theorem z3x {ow ow':Own} {w w':World} {c:T} {u:Value} (hc:cl0 c) (h:RV ow w c u):RV ow' w' c u:=by
 cases c<;>simp only [RV] at h ⊢<;>try exact h
 case sl k es =>
  have hc:es=[]:=hc
  subst hc
  obtain ⟨A,c,a,b,_⟩:=h
  exact ⟨A,c,a,b,.inl rfl⟩
theorem OV.flat {w:World} {x:T} {v:Value} {bs:List Nat} (hx:∀ k es,x ≠ .own k es) (h:OV w x v bs):bs=[]∧cl0 x∧RV noOw w x v:=by
 cases x<;>first|exact absurd rfl (hx _ _)|(simp only [OV] at h;exact h)
theorem OV.of {w:World} {x:T} {v:Value} (hc:cl0 x) {ow:Own} {w0:World} (h:RV ow w0 x v):OV w x v []:=by
 have h':RV noOw w x v:=z3x hc h
 cases x<;>first|(simp only [RV] at h';done)|(simp only [OV];exact ⟨trivial,hc,h'⟩)
mutual
theorem OV.mono {w w':World}:∀ {x:T} {v:Value} {bs:List Nat},OV w x v bs→(∀ b ∈ bs,w'.heap[b]?=w.heap[b]?)→OV w' x v bs
 | .own k es,v,bs,h,hb=>by
   simp only [OV] at h ⊢
   refine ⟨h.1,h.2.imp _root_.id ?_⟩
   rintro ⟨g,c,C,t,fr,bs',a1,a2,a3,a4,a5,a6,rfl,a7⟩
   exact ⟨g,c,C,t,fr,bs',a1,(hb g (by simp)).trans a2,a3,a4,a5,a6,rfl,OE.mono a7 (fun b hm=>hb b (by simp [hm]))⟩
 | .int _ _,v,bs,h,_=>by simp only [OV] at h ⊢;exact ⟨h.1,h.2.1,z3x h.2.1 h.2.2⟩
 | .bool _,v,bs,h,_=>by simp only [OV] at h ⊢;exact ⟨h.1,h.2.1,z3x h.2.1 h.2.2⟩
 | .str _,v,bs,h,_=>by simp only [OV] at h ⊢;exact ⟨h.1,h.2.1,z3x h.2.1 h.2.2⟩
 | .val _,v,bs,h,_=>by simp only [OV] at h ⊢;exact ⟨h.1,h.2.1,z3x h.2.1 h.2.2⟩
 | .sl _ _,v,bs,h,_=>by simp only [OV] at h ⊢;exact ⟨h.1,h.2.1,z3x h.2.1 h.2.2⟩
 | .any,v,bs,h,_=>by simp only [OV] at h ⊢;exact ⟨h.1,h.2.1,z3x h.2.1 h.2.2⟩
 | .ifz _ _,v,bs,h,_=>by simp only [OV] at h ⊢;exact ⟨h.1,h.2.1,z3x h.2.1 h.2.2⟩
 | .fna,v,bs,h,_=>by simp only [OV] at h ⊢;exact ⟨h.1,h.2.1,z3x h.2.1 h.2.2⟩
 | .agg _,v,bs,h,_=>by simp only [OV,RV] at h;exact h.2.2.elim
 | .tup _,v,bs,h,_=>by simp only [OV,RV] at h;exact h.2.2.elim
 | .ref _,v,bs,h,_=>by simp only [OV,RV] at h;exact h.2.2.elim
 | .ptr _ _ _,v,bs,h,_=>by simp only [OV,RV] at h;exact h.2.2.elim
 | .rptr _ _,v,bs,h,_=>by simp only [OV,RV] at h;exact h.2.2.elim
 | .fnp _ _,v,bs,h,_=>by simp only [OV,RV] at h;exact h.2.2.elim
 | .fnq _ _ _,v,bs,h,_=>by simp only [OV,RV] at h;exact h.2.2.elim
theorem OL.mono {w w':World}:∀ {cs:List T} {vs:List Value} {bs:List Nat},OL w cs vs bs→(∀ b ∈ bs,w'.heap[b]?=w.heap[b]?)→OL w' cs vs bs
 | [],_,_,h,_=>by simpa only [OL] using h
 | c :: cs,_,_,h,hb=>by
   simp only [OL] at h ⊢
   obtain ⟨u,us,b1,b2,rfl,rfl,h1,h2⟩:=h
   exact ⟨u,us,b1,b2,rfl,rfl,OV.mono h1 (fun b hm=>hb b (by simp [hm])),OL.mono h2 (fun b hm=>hb b (by simp [hm]))⟩
theorem OE.mono {w w':World} {k:Nat}:∀ {es:List (List T)} {vs:List Value} {bs:List Nat},OE w k es vs bs→(∀ b ∈ bs,w'.heap[b]?=w.heap[b]?)→OE w' k es vs bs
 | [],_,_,h,_=>by simpa only [OE] using h
 | e :: es,_,_,h,hb=>by
   simp only [OE] at h ⊢
   obtain ⟨us,rest,b1,b2,rfl,hl,rfl,h1,h2⟩:=h
   exact ⟨us,rest,b1,b2,rfl,hl,rfl,OL.mono h1 (fun b hm=>hb b (by simp [hm])),OE.mono h2 (fun b hm=>hb b (by simp [hm]))⟩
end
theorem OV.one {w:World} {x:T} {v:Value} {bs:List Nat} (h:OV w x v bs):v.oneCell'=true:=by
 cases x
 case own k es =>
  simp only [OV] at h
  rcases h.2 with ⟨rfl,_⟩|⟨g,c,C,t,fr,bs',rfl,_⟩<;>rfl
 all_goals exact (OV.flat (fun _ _ h=>by cases h) h).2.2.one
theorem OL.len {w:World}:∀ {cs:List T} {vs:List Value} {bs:List Nat},OL w cs vs bs→vs.length=cs.length
 | [],_,_,h=>by simp only [OL] at h;rw [h.1];rfl
 | c :: cs,_,_,h=>by
   simp only [OL] at h
   obtain ⟨u,us,b1,b2,rfl,rfl,h1,h2⟩:=h
   simp [h2.len]
theorem OL.one {w:World}:∀ {cs:List T} {vs:List Value} {bs:List Nat},OL w cs vs bs→∀ u ∈ vs,u.oneCell'=true
 | [],_,_,h=>by simp only [OL] at h;rw [h.1];simp
 | c :: cs,_,_,h=>by
   simp only [OL] at h
   obtain ⟨u,us,b1,b2,rfl,rfl,h1,h2⟩:=h
   intro x hx
   rcases List.mem_cons.1 hx with rfl|hx
   ·exact h1.one
   ·exact h2.one x hx
theorem OL.focus {w:World}:∀ {cs:List T} {vs:List Value} {bs:List Nat} {j:Nat} {c:T},OL w cs vs bs→cs[j]?=some c→∃ u b1 b2 b3,vs[j]?=some u∧bs=b1++(b2++b3)∧OV w c u b2∧∀ c' u' b',OV w c' u' b'→OL w (cs.set j c') (vs.set j u') (b1++(b'++b3))
 | [],_,_,j,c,_,hc=>by simp at hc
 | c0 :: cs,_,_,j,c,h,hc=>by
   simp only [OL] at h
   obtain ⟨u,us,b1,b2,rfl,rfl,h1,h2⟩:=h
   cases j with
   | zero =>
     simp at hc;subst hc
     refine ⟨u,[],b1,b2,rfl,rfl,h1,fun c' u' b' h'=>?_⟩
     simp only [List.set_cons_zero,List.nil_append,OL]
     exact ⟨u',us,b',b2,rfl,rfl,h',h2⟩
   | succ j =>
     simp at hc
     obtain ⟨q,d1,d2,d3,e1,rfl,e3,e4⟩:=OL.focus h2 hc
     refine ⟨q,b1++d1,d2,d3,by simpa using e1,by simp,e3,fun c' u' b' h'=>?_⟩
     simp only [List.set_cons_succ,OL]
     exact ⟨u,us.set j u',b1,d1++(b'++d3),rfl,by simp,h1,e4 c' u' b' h'⟩
theorem OL.get {w:World} {cs:List T} {vs:List Value} {bs:List Nat} {j:Nat} {c:T} (h:OL w cs vs bs) (hc:cs[j]?=some c):∃ u b,vs[j]?=some u∧OV w c u b:=by
 obtain ⟨u,b1,b2,b3,q1,_,q2,_⟩:=h.focus hc
 exact ⟨u,b2,q1,q2⟩
theorem OE.focus {w:World} {k:Nat}:∀ {es:List (List T)} {vs:List Value} {bs:List Nat} {i:Nat} {e:List T},OE w k es vs bs→es[i]?=some e→∃ b1 b2 b3,bs=b1++(b2++b3)∧OL w e ((vs.drop (i * k)).take k) b2∧i * k+k≤vs.length ∧
 ∀ e' us' b',us'.length=k→OL w e' us' b'→OE w k (es.set i e') (vs.take (i * k)++us'++vs.drop (i * k+k)) (b1++(b'++b3))
 | [],_,_,i,e,_,he=>by simp at he
 | e0 :: es,_,_,i,e,h,he=>by
   simp only [OE] at h
   obtain ⟨us,rest,b1,b2,rfl,hl,rfl,h1,h2⟩:=h
   cases i with
   | zero =>
     simp at he;subst he
     refine ⟨[],b1,b2,rfl,?_,by simp [hl],fun e' us' b' hl' h'=>?_⟩
     ·rw [Nat.zero_mul,List.drop_zero,← hl,List.take_left];exact h1
     ·simp only [List.set_cons_zero,List.nil_append,OE,Nat.zero_mul,List.take_zero,Nat.zero_add]
      refine ⟨us',rest,b',b2,?_,hl',rfl,h',h2⟩
      rw [← hl,List.drop_left]
   | succ i =>
     simp at he
     obtain ⟨d1,d2,d3,rfl,e2,e3,e4⟩:=OE.focus h2 he
     have hx:(i+1) * k=us.length+i * k:=by rw [Nat.add_mul,hl];omega
     refine ⟨b1++d1,d2,d3,by simp,?_,by rw [hx,List.length_append];omega,fun e' us' b' hl' h'=>?_⟩
     ·rw [hx,← List.drop_drop,List.drop_left];exact e2
     ·simp only [List.set_cons_succ,OE]
      refine ⟨us,rest.take (i * k)++us'++rest.drop (i * k+k),b1,d1++(b'++d3),?_,hl,by simp,h1,e4 e' us' b' hl' h'⟩
      rw [hx,List.take_length_add_append,show us.length+i * k+k=us.length+(i * k+k) by omega,← List.drop_drop,List.drop_left]
      simp
theorem OE.ext {w:World} {k:Nat}:∀ {es:List (List T)} {vs us:List Value} {bs:List Nat},OE w k es vs bs→(∃ r,us=vs.take (es.length * k)++r)→OE w k es us bs
 | [],_,_,_,h,_=>by simpa only [OE] using h
 | e :: es,_,_,_,h,⟨r,hr⟩=>by
   simp only [OE] at h ⊢
   obtain ⟨us,rest,b1,b2,rfl,hl,rfl,h1,h2⟩:=h
   refine ⟨us,rest.take (es.length * k)++r,b1,b2,?_,hl,rfl,h1,OE.ext h2 ⟨r,rfl⟩⟩
   rw [hr,List.length_cons,Nat.add_mul,Nat.one_mul,← hl,Nat.add_comm,List.take_length_add_append]
   simp
theorem OE.fits {w:World} {k:Nat}:∀ {es:List (List T)} {vs:List Value} {bs:List Nat},OE w k es vs bs→es.length * k≤vs.length
 | [],_,_,_=>by simp
 | e :: es,_,_,h=>by
   simp only [OE] at h
   obtain ⟨us,rest,b1,b2,rfl,hl,rfl,h1,h2⟩:=h
   have:=OE.fits h2
   rw [List.length_cons,Nat.add_mul,List.length_append];omega
theorem OE.app {w:World} {k:Nat}:∀ {es fs:List (List T)} {vs us r:List Value} {b1 b2:List Nat},OE w k es vs b1→vs.length=es.length * k→OE w k fs us b2→OE w k (es++fs) (vs++us++r) (b1++b2)
 | [],fs,vs,us,r,b1,b2,h,hl,h2=>by
   simp only [OE] at h;subst h
   have:vs=[]:=List.eq_nil_of_length_eq_zero (by simpa using hl)
   subst this
   simp only [List.nil_append]
   exact h2.ext ⟨us.drop (fs.length * k)++r,by rw [← List.append_assoc,List.take_append_drop]⟩
 | e :: es,fs,_,us,r,_,b2,h,hl,h2=>by
   simp only [OE] at h
   obtain ⟨u0,rest,d1,d2,rfl,hk,rfl,q1,q2⟩:=h
   simp only [List.cons_append,OE]
   refine ⟨u0,rest++us++r,d1,d2++b2,by simp,hk,by simp,q1,OE.app q2 ?_ h2⟩
   rw [List.length_append,List.length_cons,Nat.add_mul] at hl
   omega
theorem OL.of {w w0:World} {ow:Own}:∀ {cs:List T} {vs:List Value},(∀ c ∈ cs,cl0 c)→RL ow w0 cs vs→OL w cs vs []
 | [],_,_,h=>by simp only [RL] at h;simp only [OL];exact ⟨h,trivial⟩
 | c :: cs,_,hc,h=>by
   simp only [RL] at h
   obtain ⟨u,us,rfl,h1,h2⟩:=h
   simp only [OL]
   exact ⟨u,us,[],[],rfl,rfl,OV.of (hc c (by simp)) h1,OL.of (fun c h=>hc c (by simp [h])) h2⟩
theorem OE.of {w w0:World} {ow:Own} {k:Nat}:∀ {es:List (List T)} {vs:List Value},(∀ e ∈ es,∀ c ∈ e,cl0 c)→RE ow w0 k es vs→OE w k es vs []
 | [],_,_,_=>by simp only [OE]
 | e :: es,_,hc,h=>by
   simp only [RE] at h
   obtain ⟨us,rest,rfl,hl,h1,h2⟩:=h
   simp only [OE]
   exact ⟨us,rest,[],[],rfl,hl,rfl,OL.of (hc e (by simp)) h1,OE.of (fun e h=>hc e (by simp [h])) h2⟩
theorem OL.ovl1 {w:World} {cs:List T} {vs:List Value} {bs:List Nat} (h:OL w cs vs bs) {j:Nat} {c:T} {u:Value} (hj:j<cs.length) (hu:OV w c u []):∃ b',OL w (cs.set j c) (vs.set j u) b'∧b'.Sublist bs:=by
 obtain ⟨u0,b1,b2,b3,q1,rfl,q2,q3⟩:=h.focus (List.getElem?_eq_getElem hj)
 exact ⟨_,q3 c u [] hu,by simp⟩
structure Cx where
 H:Hp
 ow:Own
 w:World
 us:Nat→Prop
 iw:Nat→Nat
def Ent.shape:Ent→Bool × Nat × Nat
 | .box cs=>(true,cs.length,0)
 | .row k es=>(false,k,es.length)
 | .deep k es _=>(false,k,es.length)
def Hdr (X:Cx) (r k n:Nat) (v:Value):Prop:=(v=nilV∧n=0) ∨
 ∃ g c C t fr,v=.slice (some ⟨g,0,none⟩) n c∧X.ow g=some r∧X.w.heap[g]?=some (.cells C t fr)∧z7p fr C.size∧C.size=c * k∧n≤c∧c≤maxLen
def RS0 (X:Cx) (x:T) (v:Value):Prop:=match x with
 | .ref r=>X.us r∧(∃ A n c,v=.slice A n c)∧∀ e,X.H r=some e→e.shape.1=false→Hdr X r e.shape.2.1 e.shape.2.2 v
 | .ptr r i j=>X.us r∧(∃ a,v=.pointer (some a))∧∀ e,X.H r=some e→∃ g,X.ow g=some r∧v=.pointer (some ⟨g,i * e.wd+j,none⟩)
 | .rptr c j=>∃ g o C t fr,v=.pointer (some ⟨g,o+j,none⟩)∧X.ow g=none∧X.w.heap[g]?=some (.cells C t fr)∧RL X.ow X.w c ((C.toList.drop o).take c.length)
 | .any=>True
 | .fnp f r=>∃ u,v=.func (.func f) #[] #[u]∧X.us r∧(∃ a,u=.pointer (some a))∧∀ e,X.H r=some e→∃ g,X.ow g=some r∧u=.pointer (some ⟨g,0 * e.wd+0,none⟩)
 | .fnq f r s=>∃ u u',v=.func (.func f) #[] #[u,u']∧(X.us r∧(∃ a,u=.pointer (some a))∧∀ e,X.H r=some e→∃ g,X.ow g=some r∧u=.pointer (some ⟨g,0 * e.wd+0,none⟩))∧(X.us s∧(∃ a,u'=.pointer (some a))∧∀ e,X.H s=some e→∃ g,X.ow g=some s∧u'=.pointer (some ⟨g,0 * e.wd+0,none⟩))
 | x=>RV X.ow X.w x v
def RSl (X:Cx):List T→List Value→Prop
 | [],vs=>vs=[]
 | c :: cs,vs=>∃ u us,vs=u :: us∧u.oneCell'=true∧RS0 X c u∧RSl X cs us
def RS1 (X:Cx) (x:T) (v:Value):Prop:=match x with
 | .agg cs=>∃ vs,v=.agg vs∧RSl X cs vs.toList
 | x=>RS0 X x v
def RSt (X:Cx):List T→List Value→Prop
 | [],vs=>vs=[]
 | c :: cs,vs=>∃ u us,vs=u :: us∧RS1 X c u∧RSt X cs us
def RS (X:Cx) (x:T) (v:Value):Prop:=match x with
 | .tup cs=>∃ vs,v=.tuple vs∧RSt X cs vs.toList
 | x=>RS1 X x v
def Node (X:Cx) (r:Nat):Ent→Prop
 | .box cs=>∃ g C t fr,X.ow g=some r∧X.w.heap[g]?=some (.cells C t fr)∧z7p fr C.size∧RSl X cs C.toList
 | .row k es=>0<k∧(es=[] ∨ ∃ g C t fr,X.ow g=some r∧X.w.heap[g]?=some (.cells C t fr)∧z7p fr C.size∧RE X.ow X.w k es C.toList)
 | .deep k es l=>0<k∧((es=[]∧l=[]) ∨ ∃ g C t fr bs,X.ow g=some r∧X.w.heap[g]?=some (.cells C t fr)∧z7p fr C.size∧bs.Nodup∧(∀ b ∈ bs,X.iw b=r)∧OE X.w k es C.toList bs∧∀ p ∈ l,p.2.1<k∧∃ u,C.toList[p.1 * k+p.2.1]?=some u∧RS0 X (.ref p.2.2) u)
def ze1:List Int:=[1779033703,3144134277,1013904242,2773480762,1359893119,2600822924,528734635,1541459225]
def z9m:List Int:=[1116352408,1899447441,3049323471,3921009573,961987163,1508970993,2453635748,2870763221,3624381080,310598401,607225278,1426881987,1925078388,2162078206,2614888103,3248222580,3835390401,4022224774,264347078,604807628,770255983,1249150122,1555081692,1996064986,2554220882,2821834349,2952996808,3210313671,3336571891,3584528711,113926993,338241895,666307205,773529912,1294757372,1396182291,1695183700,1986661051,2177026350,2456956037,2730485921,2820302411,3259730800,3345764771,3516065817,3600352804,4094571909,275423344,430227734,506948616,659060556,883997877,958139571,1322822218,1537002063,1747873779,1955562222,2024104815,2227730452,2361852424,2428436474,2756734187,3204031479,3329325298]
def zaT (zs:List Int):List T:=zs.map fun z=>.int .u32 z
def glob (g:Nat):Option (List T) :=
 bif Nat.beq g 0 then some (zaT ze1) else
 bif Nat.beq g 1 then some (zaT z9m) else
 none
def Gl (X:Cx):Prop:=∀ g cs,glob g=some cs→X.ow g=none∧∃ C t fr,X.w.heap[g]?=some (.cells C t fr)∧RL X.ow X.w cs C.toList
theorem Gl.mono {X X':Cx} (hs:Stab X.ow X.w X'.ow X'.w) (h:Gl X):Gl X':=fun g cs hg=>by
 obtain ⟨a,C,t,fr,b,c⟩:=h g cs hg
 obtain ⟨p,q⟩:=hs g (z1f b) a
 exact ⟨p,C,t,fr,q.trans b,RL.mono hs c⟩
structure HR (X:Cx):Prop where
 inj:∀ g g' r,X.H r ≠ none→X.ow g=some r→X.ow g'=some r→g=g'
 lt:∀ g r,X.ow g=some r→g<X.w.heap.size∧X.us r
 node:∀ r e,X.H r=some e→X.us r∧Node X r e
 zero:X.H 0=none
 pos:X.us 0
 gl:Gl X
 inn:∀ g,X.iw g ≠ 0→X.ow g=some 0∧g<X.w.heap.size∧X.us (X.iw g)
structure Same (X X':Cx):Prop where
 us:∀ r,X.us r→X'.us r
 os:X'.w.os=X.w.os
 tape:X'.w.tape=X.w.tape
 output:X'.w.output=X.w.output
 size:X.w.heap.size≤X'.w.heap.size
 stab:Stab X.ow X.w X'.ow X'.w
 ent:∀ r,X.us r→∀ e',X'.H r=some e'→∃ e,X.H r=some e∧e.shape=e'.shape
 fra:∀ g,X.ow g=some 0→X.iw g=0→(X'.ow g=some 0∧X'.iw g=0)∧X'.w.heap[g]?=X.w.heap[g]?
 pin:∀ r,X.us r→X'.H r ≠ none→∀ g,X.ow g=some r→X'.ow g=some r∧∀ C t fr,X.w.heap[g]?=some (.cells C t fr)→∃ C',X'.w.heap[g]?=some (.cells C' t fr)∧C'.size=C.size
theorem HR.inj' {X:Cx} (hh:HR X) {g g' r:Nat} {e:Ent} (hH:X.H r=some e) (h:X.ow g=some r) (h':X.ow g'=some r):g=g':=hh.inj g g' r (by rw [hH];simp) h h'
theorem HR.ne {X:Cx} (hh:HR X) {r:Nat} {e:Ent} (hH:X.H r=some e):r ≠ 0:=fun h=>by subst h;rw [hh.zero] at hH;cases hH
theorem Same.refl (X:Cx):Same X X:=⟨fun _ h=>h,rfl,rfl,rfl,Nat.le_refl _,.refl _ _,fun r _ e h=>⟨e,h,rfl⟩,fun g h h0=>⟨⟨h,h0⟩,rfl⟩,fun r _ _ g hg=>⟨hg,fun C t fr h=>⟨C,h,rfl⟩⟩⟩
theorem Same.trans {X Y Z:Cx} (h:Same X Y) (k:Same Y Z):Same X Z where
 us:=fun r hr=>k.us r (h.us r hr)
 os:=k.os.trans h.os
 tape:=k.tape.trans h.tape
 output:=k.output.trans h.output
 size:=Nat.le_trans h.size k.size
 stab:=h.stab.trans h.size k.stab
 ent:=fun r hr e' he=>by
  obtain ⟨e1,h1,s1⟩:=k.ent r (h.us r hr) e' he
  obtain ⟨e,h0,s0⟩:=h.ent r hr e1 h1
  exact ⟨e,h0,s0.trans s1⟩
 fra:=fun g hg h0=>by
  obtain ⟨a,b⟩:=h.fra g hg h0
  obtain ⟨c,d⟩:=k.fra g a.1 a.2
  exact ⟨c,d.trans b⟩
 pin:=fun r hr hn g hg=>by
  have hy:Y.H r ≠ none:=by
   cases hz:Z.H r with
   | none=>exact absurd hz hn
   | some e' =>
     obtain ⟨e1,h1,_⟩:=k.ent r (h.us r hr) e' hz
     rw [h1];simp
  obtain ⟨a,b⟩:=h.pin r hr hy g hg
  obtain ⟨c,d⟩:=k.pin r (h.us r hr) hn g a
  refine ⟨c,fun C t fr hC=>?_⟩
  obtain ⟨C1,h1,s1⟩:=b C t fr hC
  obtain ⟨C2,h2,s2⟩:=d C1 t fr h1
  exact ⟨C2,h2,s2.trans s1⟩
theorem Ent.wd_shape {e e':Ent} (h:e.shape=e'.shape):e.wd=e'.wd:=by
 cases e<;>cases e'<;>simp_all [Ent.shape,Ent.wd]
theorem Hdr.mono {X X':Cx} (h:Same X X') {r k n:Nat} {v:Value} (hr:X.us r) (hn:X'.H r ≠ none) (hh:Hdr X r k n v):Hdr X' r k n v:=by
 rcases hh with hh|⟨g,c,C,t,fr,hv,hg,hC,hf,hs,hc,hm⟩
 ·exact .inl hh
 ·obtain ⟨a,b⟩:=h.pin r hr hn g hg
  obtain ⟨C',h1,h2⟩:=b C t fr hC
  exact .inr ⟨g,c,C',t,fr,hv,a,h1,by rw [h2];exact hf,by rw [h2];exact hs,hc,hm⟩
theorem RS0.mono {X X':Cx} (h:Same X X') {x:T} {v:Value} (hh:RS0 X x v):RS0 X' x v:=by
 cases x
 case ref r =>
  obtain ⟨hr,hv,hh⟩:=hh
  refine ⟨h.us _ hr,hv,fun e' he hf=>?_⟩
  obtain ⟨e,h0,hs⟩:=h.ent r hr _ he
  rw [← hs] at hf ⊢
  exact (hh _ h0 hf).mono h hr (by rw [he];simp)
 case ptr r i j =>
  obtain ⟨hr,hv,hh⟩:=hh
  refine ⟨h.us _ hr,hv,fun e' he=>?_⟩
  obtain ⟨e,h0,hs⟩:=h.ent r hr _ he
  obtain ⟨g,hg,hp⟩:=hh e h0
  exact ⟨g,(h.pin r hr (by rw [he];simp) g hg).1,by rw [← Ent.wd_shape hs];exact hp⟩
 case rptr c j =>
  obtain ⟨g,o,C,t,fr,hv,hg,hC,hr⟩:=hh
  obtain ⟨a,b⟩:=h.stab g (z1f hC) hg
  exact ⟨g,o,C,t,fr,hv,a,b.trans hC,RL.mono h.stab hr⟩
 case any=>trivial
 case fnp f r =>
  obtain ⟨u,hv,hr,hp,hh⟩:=hh
  refine ⟨u,hv,h.us _ hr,hp,fun e' he=>?_⟩
  obtain ⟨e,h0,hs⟩:=h.ent r hr _ he
  obtain ⟨g,hg,hp⟩:=hh e h0
  exact ⟨g,(h.pin r hr (by rw [he];simp) g hg).1,by rw [← Ent.wd_shape hs];exact hp⟩
 case fnq f r s =>
  obtain ⟨u,u',hv,⟨hr,hp,hh⟩,⟨hr',hp',hh'⟩⟩:=hh
  refine ⟨u,u',hv,⟨h.us _ hr,hp,fun e' he=>?_⟩,⟨h.us _ hr',hp',fun e' he=>?_⟩⟩
  ·obtain ⟨e,h0,hs⟩:=h.ent r hr _ he
   obtain ⟨g,hg,hp⟩:=hh e h0
   exact ⟨g,(h.pin r hr (by rw [he];simp) g hg).1,by rw [← Ent.wd_shape hs];exact hp⟩
  ·obtain ⟨e,h0,hs⟩:=h.ent s hr' _ he
   obtain ⟨g,hg,hp⟩:=hh' e h0
   exact ⟨g,(h.pin s hr' (by rw [he];simp) g hg).1,by rw [← Ent.wd_shape hs];exact hp⟩
 all_goals exact RV.mono h.stab hh
theorem RSl.mono {X X':Cx} (h:Same X X'):∀ {cs:List T} {vs:List Value},RSl X cs vs→RSl X' cs vs
 | [],_,hh=>hh
 | c :: cs,_,⟨u,us,hv,h1,h2,h3⟩=>⟨u,us,hv,h1,h2.mono h,RSl.mono h h3⟩
theorem RS1.mono {X X':Cx} (h:Same X X') {x:T} {v:Value} (hh:RS1 X x v):RS1 X' x v:=by
 cases x
 case agg cs=>obtain ⟨vs,hv,hh⟩:=hh;exact ⟨vs,hv,hh.mono h⟩
 all_goals (simp only [RS1] at hh ⊢;exact hh.mono h)
theorem RSt.mono {X X':Cx} (h:Same X X'):∀ {cs:List T} {vs:List Value},RSt X cs vs→RSt X' cs vs
 | [],_,hh=>hh
 | c :: cs,_,⟨u,us,hv,h2,h3⟩=>⟨u,us,hv,h2.mono h,RSt.mono h h3⟩
theorem RS.mono {X X':Cx} (h:Same X X') {x:T} {v:Value} (hh:RS X x v):RS X' x v:=by
 cases x
 case tup cs=>obtain ⟨vs,hv,hh⟩:=hh;exact ⟨vs,hv,hh.mono h⟩
 all_goals (simp only [RS] at hh ⊢;exact hh.mono h)
theorem RSl.len {X:Cx}:∀ {cs:List T} {vs:List Value},RSl X cs vs→vs.length=cs.length
 | [],_,h=>by cases h;rfl
 | c :: cs,_,⟨u,us,hv,_,_,h3⟩=>by subst hv;simp [h3.len]
theorem RSl.get {X:Cx}:∀ {cs:List T} {vs:List Value} {i:Nat} {c:T},RSl X cs vs→cs[i]?=some c→∃ u,vs[i]?=some u∧u.oneCell'=true∧RS0 X c u
 | [],_,i,c,_,hc=>by simp at hc
 | c0 :: cs,_,i,c,⟨u,us,hv,h1,h2,h3⟩,hc=>by
   subst hv
   cases i with
   | zero=>simp at hc;subst hc;exact ⟨u,by simp,h1,h2⟩
   | succ i=>simp at hc;simpa using h3.get hc
theorem RSl.one {X:Cx}:∀ {cs:List T} {vs:List Value},RSl X cs vs→∀ u ∈ vs,u.oneCell'=true
 | [],_,h,u,hu=>by cases h;cases hu
 | c :: cs,_,⟨u0,us,hv,h1,h2,h3⟩,u,hu=>by
   subst hv
   cases hu with
   | head=>exact h1
   | tail _ hm=>exact h3.one u hm
theorem RSl.take {X:Cx}:∀ {cs:List T} {vs:List Value} (n:Nat),RSl X cs vs→RSl X (cs.take n) (vs.take n)
 | _,_,0,_=>by simp [RSl]
 | [],_,n+1,h=>by cases h;simp [RSl]
 | c :: cs,_,n+1,⟨u,us,hv,h1,h2,h3⟩=>by subst hv;exact ⟨u,_,rfl,h1,h2,h3.take n⟩
theorem RSl.drop {X:Cx}:∀ {cs:List T} {vs:List Value} (n:Nat),RSl X cs vs→RSl X (cs.drop n) (vs.drop n)
 | _,_,0,h=>by simpa using h
 | [],_,n+1,h=>by cases h;simp [RSl]
 | c :: cs,_,n+1,⟨u,us,hv,h1,h2,h3⟩=>by subst hv;simpa using h3.drop n
theorem RSl.append {X:Cx}:∀ {cs ds:List T} {vs us:List Value},RSl X cs vs→RSl X ds us→RSl X (cs++ds) (vs++us)
 | [],_,_,_,h,h2=>by cases h;simpa using h2
 | c :: cs,_,_,_,⟨u,us,hv,h1,h2,h3⟩,h4=>by subst hv;exact ⟨u,_,rfl,h1,h2,h3.append h4⟩
theorem RSl.set {X:Cx}:∀ {cs:List T} {vs:List Value} (i:Nat) {c:T} {u:Value},RSl X cs vs→RS0 X c u→u.oneCell'=true→RSl X (cs.set i c) (vs.set i u)
 | [],_,i,c,u,h,_,_=>by cases h;simp [RSl]
 | c0 :: cs,_,i,c,u,⟨u0,us,hv,h1,h2,h3⟩,hc,ho=>by
   subst hv
   cases i with
   | zero=>exact ⟨_,_,rfl,ho,hc,h3⟩
   | succ i=>exact ⟨_,_,rfl,h1,h2,h3.set i hc ho⟩
theorem RL.rsl {X:Cx}:∀ {cs:List T} {vs:List Value},RL X.ow X.w cs vs→RSl X cs vs
 | [],_,h=>by simp only [RL] at h;exact h
 | c :: cs,_,h=>by
   simp only [RL] at h
   obtain ⟨u,us,hv,h1,h2⟩:=h
   refine ⟨u,us,hv,h1.one,?_,h2.rsl⟩
   cases c<;>first|exact h1|(simp only [RV] at h1;done)|trivial
theorem RV.rs0 {X:Cx} {x:T} {v:Value} (h:RV X.ow X.w x v):RS0 X x v:=by
 cases x<;>first|exact h|(simp only [RV] at h;done)|trivial
theorem RS0.rs1 {X:Cx} {x:T} {v:Value} (h:RS0 X x v) (ho:v.oneCell'=true):RS1 X x v:=by
 cases x<;>first|exact h|(simp only [RS0,RV] at h;done)
theorem RS1.rs {X:Cx} {x:T} {v:Value} (h:RS1 X x v):RS X x v:=by
 cases x<;>first|exact h|(simp only [RS1,RS0,RV] at h;done)
theorem RS0.rs {X:Cx} {x:T} {v:Value} (h:RS0 X x v):RS X x v:=by
 cases x<;>first|exact h|(simp only [RS0,RV] at h;done)
theorem Node.mono {X X':Cx} (h:Same X X') {r:Nat} {e:Ent} (hr:X.us r) (hn:X'.H r ≠ none)
 (hb:∀ g,X.ow g=some r→X'.w.heap[g]?=X.w.heap[g]?) (hh:Node X r e) (hi:∀ b,X.iw b=r→X'.iw b=r∧X'.w.heap[b]?=X.w.heap[b]?):Node X' r e:=by
 cases e with
 | deep k es l =>
   refine ⟨hh.1,hh.2.imp _root_.id ?_⟩
   rintro ⟨g,C,t,fr,bs,hg,hC,hf,hd,ho,hl,hq⟩
   refine ⟨g,C,t,fr,bs,(h.pin r hr hn g hg).1,(hb g hg).trans hC,hf,hd,fun b hm=>(hi b (ho b hm)).1,hl.mono fun b hm=>(hi b (ho b hm)).2,fun p hp=>?_⟩
   obtain ⟨q0,u,q1,q2⟩:=hq p hp
   exact ⟨q0,u,q1,q2.mono h⟩
 | box cs =>
   obtain ⟨g,C,t,fr,hg,hC,hf,hl⟩:=hh
   exact ⟨g,C,t,fr,(h.pin r hr hn g hg).1,(hb g hg).trans hC,hf,hl.mono h⟩
 | row k es =>
   refine ⟨hh.1,?_⟩
   rcases hh.2 with h0|⟨g,C,t,fr,hg,hC,hf,hl⟩
   ·exact .inl h0
   ·exact .inr ⟨g,C,t,fr,(h.pin r hr hn g hg).1,(hb g hg).trans hC,hf,RE.mono h.stab hl⟩
def updE (H:Hp) (r:Nat) (e:Option Ent):Hp:=fun i=>bif Nat.beq i r then e else H i
theorem z0A (H:Hp) (r:Nat) (e:Option Ent):updE H r e r=e:=by simp [updE]
theorem z0j (H:Hp) {r i:Nat} (e:Option Ent) (h:i ≠ r):updE H r e i=H i:=by
 have:Nat.beq i r=false:=by
  cases hb:Nat.beq i r with
  | false=>rfl
  | true=>exact absurd (Nat.eq_of_beq_eq_true hb) h
 simp [updE,this]
theorem z4e (X:Cx) {u:Nat→Prop} (hn:∀ r,X.us r→u r) (w:World) (h:w.heap=X.w.heap) (ho:w.os=X.w.os) (ht:w.tape=X.w.tape) (hu:w.output=X.w.output):Same X { X with us:=u,w:=w } :=
 ⟨hn,ho,ht,hu,by show X.w.heap.size≤w.heap.size;rw [h];exact Nat.le_refl _,fun g _ hg=>⟨hg,by show w.heap[g]?=_;rw [h]⟩,fun r _ e he=>⟨e,he,rfl⟩,fun g hg h0=>⟨⟨hg,h0⟩,by show w.heap[g]?=_;rw [h]⟩,fun r _ _ g hg=>⟨hg,fun C t fr hC=>⟨C,by show w.heap[g]?=_;rw [h];exact hC,rfl⟩⟩⟩
theorem HR.nx {X:Cx} (hh:HR X) {u:Nat→Prop} (hn:∀ r,X.us r→u r) (w:World) (h:w.heap=X.w.heap) (ho:w.os=X.w.os) (ht:w.tape=X.w.tape) (hu:w.output=X.w.output):HR { X with us:=u,w:=w }:=by
 have hs:=z4e X hn w h ho ht hu
 refine ⟨hh.inj,fun g r hg=>?_,fun r e he=>?_,hh.zero,hn 0 hh.pos,hh.gl.mono hs.stab,fun g hg=>?_⟩
 ·obtain ⟨a,b⟩:=hh.lt g r hg
  exact ⟨by show g<w.heap.size;rw [h];exact a,hn r b⟩
 ·obtain ⟨a,b⟩:=hh.node r e he
  exact ⟨hn r a,b.mono hs a (by show X.H r ≠ none;rw [he];simp) (fun g _=>by show w.heap[g]?=_;rw [h]) (fun b hb=>⟨hb,by show w.heap[b]?=_;rw [h]⟩)⟩
 ·obtain ⟨a,b,c⟩:=hh.inn g hg
  exact ⟨a,by show g<w.heap.size;rw [h];exact b,hn _ c⟩
def Fresh (X:Cx) (id:Nat):Prop:=∀ r,id≤r→r<id+16→¬ X.us r
def Cx.win (X:Cx) (id:Nat):Nat→Prop:=fun r=>X.us r ∨ (id≤r∧r<id+16)
theorem Fresh.ne {X:Cx} {id r:Nat} (h:Fresh X id) (hr:X.us r):r ≠ id:=fun e=>h id (Nat.le_refl _) (by omega) (e ▸ hr)
def Cx.new (X:Cx) (id:Nat) (e:Ent) (w1:World) (C:Array Value) (t:TypeId) (fr:Nat × Nat):Cx :=
 { H:=updE X.H id (some e),ow:=fun g=>if g=X.w.heap.size then some id else X.ow g,w:={ w1 with heap:=X.w.heap.push (.cells C t fr) },us:=X.win id,iw:=X.iw }
theorem z8k {X:Cx} (hh:HR X) {id:Nat} (hi:Fresh X id) (e:Ent) (w1:World) (C:Array Value) (t:TypeId) (fr:Nat × Nat) (ho:w1.os=X.w.os) (ht:w1.tape=X.w.tape) (hu:w1.output=X.w.output) :
 Same X (X.new id e w1 C t fr):=by
 refine ⟨fun r hr=>.inl hr,ho,ht,hu,by show X.w.heap.size≤(X.w.heap.push _).size;simp,fun g hg hn=>⟨?_,?_⟩,fun r hr e' he=>?_,fun g hg hg0=>⟨⟨?_,hg0⟩,?_⟩,fun r hr _ g hg=>⟨?_,fun C' t' fr' hC=>⟨C',?_,rfl⟩⟩⟩
 ·show (if g=X.w.heap.size then some id else X.ow g)=none
  rw [if_neg (by omega)];exact hn
 ·show (X.w.heap.push _)[g]?=_
  rw [Array.getElem?_push,if_neg (by omega)]
 ·have:updE X.H id (some e) r=some e':=he
  rw [z0j _ _ (hi.ne hr)] at this
  exact ⟨e',this,rfl⟩
 ·show (if g=X.w.heap.size then some id else X.ow g)=some 0
  rw [if_neg (by have:=(hh.lt g 0 hg).1;omega)];exact hg
 ·show (X.w.heap.push _)[g]?=_
  rw [Array.getElem?_push,if_neg (by have:=(hh.lt g 0 hg).1;omega)]
 ·show (if g=X.w.heap.size then some id else X.ow g)=some r
  rw [if_neg (by have:=(hh.lt g r hg).1;omega)];exact hg
 ·show (X.w.heap.push _)[g]?=_
  rw [Array.getElem?_push,if_neg (by have:=(hh.lt g r hg).1;omega)];exact hC
theorem HR.new {X:Cx} (hh:HR X) {id:Nat} (hi:Fresh X id) (e:Ent) (w1:World) (C:Array Value) (t:TypeId) (fr:Nat × Nat) (ho:w1.os=X.w.os) (ht:w1.tape=X.w.tape) (hu:w1.output=X.w.output)
 (hnode:Same X (X.new id e w1 C t fr)→Node (X.new id e w1 C t fr) id e):HR (X.new id e w1 C t fr):=by
 have hs:=z8k hh hi e w1 C t fr ho ht hu
 refine ⟨fun g g' r h0 h1 h2=>?_,fun g r hg=>?_,fun r e' he=>?_,?_,.inl hh.pos,hh.gl.mono hs.stab,fun g hg=>?_⟩
 rotate_right
 ·obtain ⟨a,b,c⟩:=hh.inn g hg
  refine ⟨?_,by show g<(X.w.heap.push _).size;simp;omega,.inl c⟩
  show (if g=X.w.heap.size then some id else X.ow g)=some 0
  rw [if_neg (by omega)];exact a
 ·change updE X.H id (some e) r ≠ none at h0
  change (if g=X.w.heap.size then some id else X.ow g)=some r at h1
  change (if g'=X.w.heap.size then some id else X.ow g')=some r at h2
  split at h1<;>split at h2
  ·omega
  ·injection h1 with h1;subst h1
   exact absurd rfl (hi.ne (hh.lt g' _ h2).2)
  ·injection h2 with h2;subst h2
   exact absurd rfl (hi.ne (hh.lt g _ h1).2)
  ·rw [z0j _ _ (hi.ne (hh.lt g _ h1).2)] at h0
   exact hh.inj g g' r h0 h1 h2
 ·change (if g=X.w.heap.size then some id else X.ow g)=some r at hg
  have hsz:(X.new id e w1 C t fr).w.heap.size=X.w.heap.size+1:=by show (X.w.heap.push _).size=_;simp
  split at hg
  ·injection hg with hg;subst hg
   exact ⟨by rw [hsz];omega,.inr ⟨Nat.le_refl _,by omega⟩⟩
  ·obtain ⟨a,b⟩:=hh.lt g r hg
   exact ⟨by rw [hsz];omega,.inl b⟩
 ·change updE X.H id (some e) r=some e' at he
  by_cases hr:r=id
  ·subst hr
   rw [z0A] at he
   injection he with he;subst he
   exact ⟨.inr ⟨Nat.le_refl _,by omega⟩,hnode hs⟩
  ·rw [z0j _ _ hr] at he
   obtain ⟨a,b⟩:=hh.node r e' he
   refine ⟨.inl a,b.mono hs a (by show updE X.H id (some e) r ≠ none;rw [z0j _ _ hr,he];simp) (fun g hg=>?_) (fun b hb=>⟨hb,?_⟩)⟩
   ·show (X.w.heap.push _)[g]?=_
    rw [Array.getElem?_push,if_neg (by have:=(hh.lt g r hg).1;omega)]
   ·have hb2:=(hh.inn b (by rw [hb];exact hh.ne he)).2.1
    show (X.w.heap.push _)[b]?=_
    rw [Array.getElem?_push,if_neg (by omega)]
 ·show updE X.H id (some e) 0=none
  rw [z0j _ _ (hi.ne hh.pos)];exact hh.zero
def Cx.drop (X:Cx) (r:Nat):Cx:={ X with H:=updE X.H r none,ow:=fun g=>if r ≠ 0∧X.ow g=some r then none else X.ow g }
theorem z3B (X:Cx) (r:Nat):Same X (X.drop r):=by
 refine ⟨fun _ h=>h,rfl,rfl,rfl,Nat.le_refl _,fun g hg hn=>⟨?_,rfl⟩,fun i hi e' he=>?_,fun g hg hg0=>⟨⟨?_,hg0⟩,rfl⟩,fun i hi hne g hg=>⟨?_,fun C t fr hC=>⟨C,hC,rfl⟩⟩⟩
 ·show (if r ≠ 0∧X.ow g=some r then none else X.ow g)=none
  rw [hn];simp
 ·change updE X.H r none i=some e' at he
  by_cases hir:i=r
  ·subst hir;rw [z0A] at he;cases he
  ·rw [z0j _ _ hir] at he;exact ⟨e',he,rfl⟩
 ·show (if r ≠ 0∧X.ow g=some r then none else X.ow g)=some 0
  rw [hg,if_neg]
  rintro ⟨h1,h2⟩
  injection h2 with h2;exact h1 h2.symm
 ·change updE X.H r none i ≠ none at hne
  have hir:i ≠ r:=fun h=>by subst h;rw [z0A] at hne;exact hne rfl
  show (if r ≠ 0∧X.ow g=some r then none else X.ow g)=some i
  rw [hg,if_neg (fun h=>hir (by have:=h.2;injection this))]
theorem z5b {X:Cx} {r g i:Nat} (h:(X.drop r).ow g=some i):X.ow g=some i:=by
 change (if r ≠ 0∧X.ow g=some r then none else X.ow g)=some i at h
 split at h
 ·cases h
 ·exact h
theorem z8l {X:Cx} {r g:Nat} (hr:r ≠ 0) (h:X.ow g=some r):(X.drop r).ow g=none:=by
 show (if r ≠ 0∧X.ow g=some r then none else X.ow g)=none
 rw [if_pos ⟨hr,h⟩]
theorem HR.drop {X:Cx} (hh:HR X) (r:Nat):HR (X.drop r):=by
 have hs:=z3B X r
 refine ⟨fun g g' i h0 h1 h2=>hh.inj g g' i ?_ (z5b h1) (z5b h2),fun g i hg=>hh.lt g i (z5b hg),fun i e he=>?_,?_,hh.pos,hh.gl.mono hs.stab,fun g hg=>?_⟩
 rotate_right
 ·obtain ⟨a,b,c⟩:=hh.inn g hg
  refine ⟨?_,b,c⟩
  show (if r ≠ 0∧X.ow g=some r then none else X.ow g)=some 0
  rw [a,if_neg]
  rintro ⟨h1,h2⟩
  injection h2 with h2;exact h1 h2.symm
 ·change updE X.H r none i ≠ none at h0
  by_cases hir:i=r
  ·subst hir;rw [z0A] at h0;exact absurd rfl h0
  ·rwa [z0j _ _ hir] at h0
 ·change updE X.H r none i=some e at he
  have hir:i ≠ r:=fun h=>by subst h;rw [z0A] at he;cases he
  rw [z0j _ _ hir] at he
  obtain ⟨a,b⟩:=hh.node i e he
  exact ⟨a,b.mono hs a (by show updE X.H r none i ≠ none;rw [z0j _ _ hir,he];simp) (fun g _=>rfl) (fun b hb=>⟨hb,rfl⟩)⟩
 ·show updE X.H r none 0=none
  by_cases h0:0=r
  ·subst h0;rw [z0A]
  ·rw [z0j _ _ h0];exact hh.zero
def Cx.put (X:Cx) (r:Nat) (e:Ent) (g:Nat) (C:Array Value) (t:TypeId) (fr:Nat × Nat):Cx :=
 { X with H:=updE X.H r (some e),w:={ X.w with heap:=X.w.heap.setIfInBounds g (.cells C t fr) } }
theorem zbQ {X:Cx} (hh:HR X) {r:Nat} {e0 e:Ent} {g:Nat} {C0 C:Array Value} {t:TypeId} {fr:Nat × Nat} (h0:X.H r=some e0) (hg:X.ow g=some r) (hC:X.w.heap[g]?=some (.cells C0 t fr)) (hs:e0.shape=e.shape) (hz:C.size=C0.size) :
 Same X (X.put r e g C t fr):=by
 have hget:∀ i,(X.put r e g C t fr).w.heap[i]?=if i=g then some (.cells C t fr) else X.w.heap[i]?:=fun i=>by
  show (X.w.heap.setIfInBounds g _)[i]?=_
  rw [Array.getElem?_setIfInBounds]
  have:=z1f hC
  by_cases hi:g=i
  ·subst hi;simp [this]
  ·rw [if_neg hi,if_neg (fun h=>hi h.symm)]
 refine ⟨fun _ h=>h,rfl,rfl,rfl,by show _≤(X.w.heap.setIfInBounds g _).size;simp,fun i hi hn=>⟨hn,?_⟩,fun i hi e' he=>?_,fun i hi hi0=>⟨⟨hi,hi0⟩,?_⟩,fun i hi _ j hj=>⟨hj,fun C' t' fr' hC'=>?_⟩⟩
 ·rw [hget,if_neg (fun h=>by subst h;rw [hg] at hn;cases hn)]
 ·change updE X.H r (some e) i=some e' at he
  by_cases hir:i=r
  ·subst hir;rw [z0A] at he;injection he with he;subst he;exact ⟨e0,h0,hs⟩
  ·rw [z0j _ _ hir] at he;exact ⟨e',he,rfl⟩
 ·rw [hget,if_neg]
  intro h;subst h;rw [hg] at hi;injection hi with hi;exact hh.ne h0 hi
 ·rw [hget]
  by_cases hj2:j=g
  ·subst hj2
   rw [hC] at hC'
   injection hC' with hC'
   injection hC' with a b c
   subst a b c
   exact ⟨C,by simp,hz⟩
  ·exact ⟨C',by rw [if_neg hj2];exact hC',rfl⟩
theorem HR.put {X:Cx} (hh:HR X) {r:Nat} {e0 e:Ent} {g:Nat} {C0 C:Array Value} {t:TypeId} {fr:Nat × Nat} (h0:X.H r=some e0) (hg:X.ow g=some r) (hC:X.w.heap[g]?=some (.cells C0 t fr)) (hs:e0.shape=e.shape) (hz:C.size=C0.size)
 (hnode:Same X (X.put r e g C t fr)→(X.put r e g C t fr).w.heap[g]?=some (.cells C t fr)→Node (X.put r e g C t fr) r e):HR (X.put r e g C t fr):=by
 have hsame:=zbQ hh h0 hg hC hs hz
 have hlt:=z1f hC
 refine ⟨fun i j k hk hi hj=>hh.inj i j k (fun hn=>hk ?_) hi hj,fun i j hi=>?_,fun i e' he=>?_,by show updE X.H r (some e) 0=none;rw [z0j _ _ (Ne.symm (hh.ne h0))];exact hh.zero,hh.pos,hh.gl.mono hsame.stab,fun i hi=>?_⟩
 rotate_right
 ·obtain ⟨a,b,c⟩:=hh.inn i hi
  exact ⟨a,by show i<(X.w.heap.setIfInBounds g _).size;simpa using b,c⟩
 ·show updE X.H r (some e) k=none
  rw [z0j _ _ (fun h=>by subst h;rw [h0] at hn;cases hn)];exact hn
 ·obtain ⟨a,b⟩:=hh.lt i j hi
  exact ⟨by show i<(X.w.heap.setIfInBounds g _).size;simpa using a,b⟩
 ·change updE X.H r (some e) i=some e' at he
  by_cases hir:i=r
  ·subst hir
   rw [z0A] at he;injection he with he;subst he
   refine ⟨(hh.node _ _ h0).1,hnode hsame ?_⟩
   show (X.w.heap.setIfInBounds g _)[g]?=_
   rw [Array.getElem?_setIfInBounds];simp [hlt]
  ·rw [z0j _ _ hir] at he
   obtain ⟨a,b⟩:=hh.node i e' he
   refine ⟨a,b.mono hsame a (by show updE X.H r (some e) i ≠ none;rw [z0j _ _ hir,he];simp) (fun j hj=>?_) (fun b hb=>⟨hb,?_⟩)⟩
   ·show (X.w.heap.setIfInBounds g _)[j]?=_
    rw [Array.getElem?_setIfInBounds,if_neg]
    intro h;subst h;rw [hg] at hj;injection hj with hj;exact hir hj.symm
   ·have hb2:=(hh.inn b (by rw [hb];exact hh.ne he)).1
    show (X.w.heap.setIfInBounds g _)[b]?=_
    rw [Array.getElem?_setIfInBounds,if_neg]
    intro h;subst h;rw [hg] at hb2;injection hb2 with hb2;exact hh.ne h0 hb2
end Go.Proofs.YtgmbkbggnlponaaGreatDoor
namespace Go.Proofs.YtgmbkbggnlponaaGreatDoor
set_option linter.unusedVariables false
set_option linter.unusedSimpArgs false
set_option linter.unusedSectionVars false
open Go.RowKit Pl
inductive TD where
 | int (k:IntKind)|bool|string|slice (e:TypeId)|array (n:Nat) (e:TypeId)|struct (fs:List (Nat × TypeId))|ptr (e:TypeId)|other
structure Ty where
 sz:Nat
 by8:Nat
 zero:List T
 d:TD
 cmp:Bool
abbrev TT:=TypeId→Option Ty
def TD.agg:TD→Bool
 | .array _ _=>true
 | .struct _=>true
 | _=>false
def TD.of:TypeDesc→TD
 | .bool=>.bool
 | .int k=>.int k
 | .string=>.string
 | .slice e=>.slice e
 | .array n e=>.array n e
 | .struct fs=>.struct (fs.toList.map fun f=>(f.offset,f.type))
 | .pointer e=>.ptr e
 | _=>.other
def zv:T→Value
 | .int k n=>.int k n
 | .bool b=>.bool b
 | .str s=>.string (bs s)
 | .val v=>v
 | _=>undef
def zok:T→Bool
 | .int _ _=>true
 | .bool _=>true
 | .str _=>true
 | .val v=>v.oneCell'
 | _=>false
def zfI (P:Program):List Field→Nat→List T→Prop
 | [],_,zs=>zs=[]
 | f :: fs,i,zs=>match zs with
   | z :: zs => f.name ≠ "_" ∧ f.offset = i ∧ (match z with
     | .int k _=>P.underlying f.type=some (.int k)
     | .bool _=>P.underlying f.type=some .bool
     | .str _=>P.underlying f.type=some .string
     | _=>False)∧zfI P fs (i+1) zs
   | []=>False
inductive FlatN (P:Program):Nat→List Field→Nat→List T→Prop
 | flat {n:Nat} {fs:List Field} {i:Nat} {zs:List T}:zfI P fs i zs→FlatN P n fs i zs
 | cell {n : Nat} {f : Field} {fs : List Field} {i : Nat} {z : T} {zs : List T} : f.name ≠ "_" → f.offset = i → (match z with
    | .int k _=>P.underlying f.type=some (.int k)
    | .bool _=>P.underlying f.type=some .bool
    | .str _=>P.underlying f.type=some .string
    | _=>False)→FlatN P n fs (i+1) zs→FlatN P n (f :: fs) i (z :: zs)
 | sub {n : Nat} {f : Field} {fs : List Field} {i : Nat} {G : Array Field} {us zs : List T} : f.name ≠ "_" → f.offset = i → P.underlying f.type = some (.struct G) → P.stoodInHeld f.type = false →
    (∀ w,(Go.sizeOf f.type).run P w=.ok us.length w)→FlatN P n G.toList 0 us→FlatN P (n+1) fs (i+us.length) zs→FlatN P (n+1) (f :: fs) i (us++zs)
theorem z8m {P:Program} {fs:List Field} {i:Nat} {zs:List T} (h:zfI P fs i zs):∃ n,n≤9000∧FlatN P n fs i zs:=⟨0,by decide,.flat h⟩
structure TyOk (P:Program) (t:TypeId) (y:Ty):Prop where
 info:∃ i z,P.info? t=some i∧i.size=y.sz∧i.bytes=y.by8∧i.zero=some z∧z.cells.toList=y.zero.map zv
 und:∃ d,P.underlying t=some d∧TD.of d=y.d
 len:y.zero.length=y.sz
 zs:y.zero.all zok=true
 cm:y.cmp=true→P.eqGuardType P.depth t=false∧P.stoodInHeld t=false∧∃ F,P.underlying t=some (.struct F)∧∃ n,n≤9000∧FlatN P n F.toList 0 y.zero
def TtOk (P:Program) (tt:TT):Prop:=∀ t y,tt t=some y→TyOk P t y
theorem zok_rv {ow:Own} {w:World} {x:T} (h:zok x=true):RV ow w x (zv x):=by
 cases x<;>simp [zok] at h<;>simp [RV,zv,h]
theorem zbR {ow:Own} {w:World}:∀ {xs:List T},xs.all zok=true→RL ow w xs (xs.map zv)
 | [],_=>by simp [RL]
 | x :: xs,h=>by
   simp at h
   simp only [List.map_cons,RL]
   exact ⟨_,_,rfl,zok_rv h.1,zbR (by simpa using h.2)⟩
def ovl {α:Type} (l:List α) (o:Nat):List α→List α
 | []=>l
 | v :: vs=>ovl (l.set o v) (o+1) vs
theorem z0H {α:Type}:∀ (vs l:List α) (o:Nat),(ovl l o vs).length=l.length
 | [],l,o=>rfl
 | v :: vs,l,o=>by rw [ovl,z0H vs];simp
theorem z4y {α:Type}:∀ (vs l:List α) (o:Nat),o+vs.length≤l.length→ovl l o vs=l.take o++vs++l.drop (o+vs.length)
 | [],l,o,h=>by simp [ovl]
 | v :: vs,l,o,h=>by
   have hl:o+(vs.length+1)≤l.length:=by simpa using h
   have h1:(l.set o v).take (o+1)=l.take o++[v]:=by
    rw [List.take_add_one,List.take_set_of_le (Nat.le_refl _),List.getElem?_set_self (by omega)];rfl
   rw [ovl,z4y vs _ _ (by simp;omega),h1,List.drop_set_of_lt (by omega),show o+1+vs.length=o+(vs.length+1) by omega]
   simp
theorem RSl.ovl {X:Cx}:∀ {xs cs:List T} {us vs:List Value} (o:Nat),RSl X cs vs→RSl X xs us→RSl X (ovl cs o xs) (ovl vs o us)
 | [],_,_,_,o,h,h2=>by cases h2;exact h
 | x :: xs,_,_,_,o,h,⟨u,us,hv,h1,h2,h3⟩=>by subst hv;exact RSl.ovl (o+1) (h.set o h2 h1) h3
theorem RE.ovl {ow:Own} {w:World} {k:Nat} {es:List (List T)} {i:Nat}:∀ {xs e:List T} {us vs:List Value} (j:Nat),RE ow w k (es.set i e) vs→i<es.length→RL ow w xs us→j+xs.length≤k→RE ow w k (es.set i (ovl e j xs)) (Go.Proofs.YtgmbkbggnlponaaGreatDoor.ovl vs (i * k+j) us)
 | [],_,_,_,j,h,hi,h2,_=>by simp only [RL] at h2;subst h2;exact h
 | x :: xs,e,_,_,j,h,hi,h2,hj=>by
   simp only [RL] at h2
   obtain ⟨u,us,rfl,h1,h3⟩:=h2
   simp at hj
   have hs:=RE.set i j (e:=e) h (by simp [hi]) (by omega) h1
   rw [List.set_set] at hs
   have:=RE.ovl (j+1) hs hi h3 (by omega)
   simpa [Go.Proofs.YtgmbkbggnlponaaGreatDoor.ovl,Nat.add_assoc] using this
theorem z2n {P:Program} (g o:Nat) (t:TypeId) (fr:Nat × Nat):∀ (vs:List Value) (i:Nat) (C:Array Value) (w:World),w.heap[g]?=some (.cells C t fr)→z7p fr C.size→o+i+vs.length≤C.size→(∀ u ∈ vs,u.oneCell'=true) →
 (storeCells ⟨g,o,none⟩ vs i).run P w=.ok () { w with heap:=w.heap.setIfInBounds g (.cells (ovl C.toList (o+i) vs).toArray t fr) }
 | [],i,C,w,hC,_,_,_=>by
   have:w.heap.setIfInBounds g (.cells (ovl C.toList (o+i) ([]:List Value)).toArray t fr)=w.heap:=by
    apply Array.ext_getElem?
    intro j
    rw [Array.getElem?_setIfInBounds]
    split
    ·rename_i hj;subst hj
     have:=z1f hC
     simp [this,hC,ovl]
     simpa using (Array.getElem?_eq_some_iff.1 hC).2.symm
    ·rfl
   rw [this];rfl
 | v :: vs,i,C,w,hC,hf,hl,h1=>by
   simp at hl
   have hadd:(⟨g,o,none⟩:Addr).add i=⟨g,o+i,none⟩:=by unfold Addr.add;split<;>simp_all
   have hcell:w.cell? ⟨g,o+i,none⟩=some C[o+i]:=by simp [World.cell?,hC,show o+i<C.size by omega]
   have hfro:w.frozen? ⟨g,o+i,none⟩=false:=by
    obtain ⟨lo,hi⟩:=fr
    simp [World.frozen?,hC]
    intro hlo
    rcases hf with hf|hf<;>simp at hf<;>omega
   have hset:w.setCell ⟨g,o+i,none⟩ v={ w with heap:=w.heap.setIfInBounds g (.cells (C.setIfInBounds (o+i) v) t fr) }:=by
    unfold World.setCell
    congr 1
    apply Array.ext_getElem?
    intro j
    rw [Array.getElem?_modify,Array.getElem?_setIfInBounds]
    by_cases hj:g=j
    ·subst hj
     have hg:=(Array.getElem?_eq_some_iff.1 hC).2
     simp [z1f hC,hg]
    ·simp [hj]
   have hst:(store ((⟨g,o,none⟩:Addr).add i) v).run P w=.ok () (w.setCell ⟨g,o+i,none⟩ v):=by
    rw [hadd,run_store P w _ v _ (h1 v (by simp)),hcell]
    simp [hfro]
   have ih:=z2n (P:=P) g o t fr vs (i+1) (C.setIfInBounds (o+i) v) (w.setCell ⟨g,o+i,none⟩ v) (by rw [hset];simp [z1f hC]) (by simpa using hf) (by simp;omega) (fun u hu=>h1 u (by simp [hu]))
   simp only [storeCells,Sem.run_bind,hst,Result.andThen_ok,ih]
   rw [hset]
   simp [ovl,Nat.add_assoc]
end Go.Proofs.YtgmbkbggnlponaaGreatDoor
namespace Go.Proofs.YtgmbkbggnlponaaGreatDoor
set_option linter.unusedVariables false
set_option linter.unusedSimpArgs false
set_option linter.unusedSectionVars false
open Go.RowKit Pl
abbrev Upd:=List (Nat × Option Ent)
abbrev Kon:=T→Upd→Prop
def updL (H:Hp):Upd→Hp
 | []=>H
 | (r,e) :: l=>updL (updE H r e) l
def z24 (x:T) (K:T→Prop):Prop:=match x with
 | .int k n=>K (.int k n)
 | .bool b=>K (.bool b)
 | .str s=>K (.str s)
 | .val v=>K (.val v)
 | .agg cs=>K (.agg cs)
 | .tup cs=>K (.tup cs)
 | .sl k es=>K (.sl k es)
 | .ref r=>K (.ref r)
 | .ptr r i j=>K (.ptr r i j)
 | .rptr c j=>K (.rptr c j)
 | .any=>K .any
 | .fnp f r=>K (.fnp f r)
 | .fnq f r s=>K (.fnq f r s)
 | .own k es=>K (.own k es)
 | .ifz t n=>K (.ifz t n)
 | .fna=>K .fna
theorem z1R {x:T} {K:T→Prop} (h:z24 x K):K x:=by cases x<;>exact h
def z0t (b:Bool) (p q:Prop):Prop:=(b=true→p)∧(b=false→q)
def zcW (t:T) (p q:Prop):Prop:=match t with
 | .bool b=>z0t b p q
 | _=>False
def z48:Op→List Operand
 | .move x|.assign x|.box _ x|.load _ x|.nilCheck x|.makeInterface _ x|.unOp _ _ x|.convert _ _ x|.fieldAddr _ x _|.field _ x _|.extract x _=>[x]
 | .pick c a b=>[c,a,b]
 | .build _ ps|.buildSlice _ _ ps=>ps.toList.map (·.2)
 | .store _ a v|.binOp _ _ a v _|.makeSlice _ a v|.indexAddr _ a v|.index _ a v=>[a,v]
 | .slice _ x l h m=>x :: (l.toList++h.toList++m.toList)
 | .call c=>(match c.callee with|.value f=>[f]|_=>[])++c.args.toList
 | .makeFunc _ a b=>a.toList++b.toList
 | _=>[]
def z4a:T→Option (List T)
 | .agg cs=>some cs
 | .any=>none
 | .tup _=>none
 | .fnp _ _=>none
 | .fnq _ _ _=>none
 | .ifz _ _=>none
 | .fna=>none
 | x=>some [x]
def z49 (b:UInt8):List T:=[.int .u8 (b.toNat:Int)]
def z0f (l:Bs):List (List T):=l.map z49
def binT (op:BinOp) (x y:T) (K:T→Prop):Prop:=match x,y with
 | .int k a,.int k' b=>match op with
   | .shl=>0≤b∧b≤(k.bits:Int)∧∃ r,r=k.wrap (a * 2 ^ b.toNat)∧K (.int k r)
   | .shr=>0≤b∧b≤(k.bits:Int)∧∃ r,r=a / 2 ^ b.toNat∧K (.int k r)
   | .add=>k=k'∧∃ r,r=k.wrap (a+b)∧K (.int k r)
   | .sub=>k=k'∧∃ r,r=k.wrap (a-b)∧K (.int k r)
   | .mul=>k=k'∧∃ r,r=k.wrap (a * b)∧K (.int k r)
   | .quo=>k=k'∧b ≠ 0∧∃ r,r=k.wrap (a.tdiv b)∧K (.int k r)
   | .rem=>k=k'∧b ≠ 0∧∃ r,r=a.tmod b∧K (.int k r)
   | .and=>k=k'∧∃ r,r=bits .and k a b∧K (.int k r)
   | .or=>k=k'∧∃ r,r=bits .or k a b∧K (.int k r)
   | .xor=>k=k'∧∃ r,r=bits .xor k a b∧K (.int k r)
   | .andNot=>k=k'∧∃ r,r=bits .andNot k a b∧K (.int k r)
   | .eql=>k=k'∧K (.bool (decide (a=b)))
   | .neq=>k=k'∧K (.bool (!decide (a=b)))
   | .lss=>k=k'∧K (.bool (decide (a<b)))
   | .leq=>k=k'∧K (.bool (decide (a≤b)))
   | .gtr=>k=k'∧K (.bool (decide (b<a)))
   | .geq=>k=k'∧K (.bool (decide (b≤a)))
 | .str a,.str b=>match op with
   | .add=>((a.length+b.length:Nat):Int)≤9223372036854775807∧K (.str (a++b))
   | .eql=>K (.bool (decide (a=b)))
   | .neq=>K (.bool (!decide (a=b)))
   | .lss=>K (.bool (Op.bytesLess a b))
   | .leq=>K (.bool (Op.bytesLess a b || decide (a=b)))
   | .gtr=>K (.bool (!(Op.bytesLess a b || decide (a=b))))
   | .geq=>K (.bool (!Op.bytesLess a b))
   | _=>False
 | _,_=>False
def eqC:List T→List T→Bool
 | [],[]=>true
 | .int _ a :: xs,.int _ b :: ys=>decide (a=b)&&eqC xs ys
 | .bool a :: xs,.bool b :: ys=>decide (a=b)&&eqC xs ys
 | .str a :: xs,.str b :: ys=>decide (a=b)&&eqC xs ys
 | _,_=>false
def z1b:List T→List T→Bool
 | [],[]=>true
 | .int k _ :: zs,.int k' _ :: xs=>decide (k=k')&&z1b zs xs
 | .bool _ :: zs,.bool _ :: xs=>z1b zs xs
 | .str _ :: zs,.str _ :: xs=>z1b zs xs
 | _,_=>false
def eqT (tt:TT) (op:BinOp) (t:TypeId) (xs ys:List T) (K:T→Prop):Prop:=match tt t with
 | some y=>y.cmp=true∧z1b y.zero xs=true∧z1b y.zero ys=true∧(match op with
   | .eql=>K (.bool (eqC xs ys))
   | .neq=>K (.bool (!eqC xs ys))
   | _=>False)
 | none=>False
def eqB (tt:TT) (op:BinOp) (t:TypeId) (a b:Bool) (K:T→Prop):Prop:=match tt t with
 | some y=>match y.d with
   | .bool=>(match op with
     | .eql=>K (.bool (decide (a=b)))
     | .neq=>K (.bool (!decide (a=b)))
     | _=>False)
   | _=>False
 | none=>False
def unT (op:UnOp) (x:T) (K:T→Prop):Prop:=match op,x with
 | .not,.bool b=>K (.bool (!b))
 | .neg,.int k n=>∃ r,r=k.wrap (0-n)∧K (.int k r)
 | .xor,.int k n=>∃ r,r=bits .xor k (if k.signed then -1 else k.max) n∧K (.int k r)
 | _,_=>False
def z5c {α:Type} (l:List α) (K:List α→Prop):Prop:=match l with
 | []=>K []
 | x :: l=>z5c l fun l=>K (x :: l)
theorem z2h {α:Type}:∀ {l:List α} {K:List α→Prop},z5c l K→K l
 | [],_,h=>h
 | x :: l,K,h=>z2h (K:=fun l=>K (x :: l)) h
theorem z7C {α:Type}:∀ {l:List α} {K:List α→Prop},K l→z5c l K
 | [],_,h=>h
 | x :: l,K,h=>z7C (K:=fun l=>K (x :: l)) h
def z7q (y:Ty) (cs:List T) (j:Nat) (K:T→Prop):Prop :=
 bif y.d.agg then z5c ((cs.drop j).take y.sz) fun xs=>xs.length=y.sz∧K (.agg xs) else ∃ c,cs[j]?=some c∧z24 c K
def zcX (place:Nat→Option (Nat × Nat)) (cells:List T):List (Nat × T)→Option (List T)
 | []=>some cells
 | (i,x) :: l=>match place i,z4a x with
   | some (o,sz),some xs=>bif Nat.beq xs.length sz&&Nat.ble (o+sz) cells.length then zcX place (ovl cells o xs) l else none
   | _,_=>none
def z7D (tt:TT) (fs:List (Nat × TypeId)) (i:Nat):Option (Nat × Nat):=match fs[i]? with
 | some (o,ft)=>match tt ft with
   | some y=>some (o,y.sz)
   | none=>none
 | none=>none
def frz (H:Hp):List T→Option (List T × List Nat)
 | []=>some ([],[])
 | c :: cs=>match frz H cs with
   | some (ds,rs)=>match c with
     | .ref r=>match H r with
       | some (.row k es)=>some (.sl k es :: ds,r :: rs)
       | _=>none
     | .int k n=>some (.int k n :: ds,rs)
     | .bool b=>some (.bool b :: ds,rs)
     | .str s=>some (.str s :: ds,rs)
     | .val v=>some (.val v :: ds,rs)
     | .sl k es=>some (.sl k es :: ds,rs)
     | _=>none
   | none=>none
def z65 (H:Hp) (sz:Nat) (es:List (List T)) (gone:List Nat):List (Nat × T)→Option (List (List T) × List Nat)
 | []=>some (es,gone)
 | (i,x) :: l=>match z4a x with
   | some xs=>match frz H xs with
     | some (ys,rs)=>bif Nat.beq ys.length sz&&Nat.blt i es.length then z65 H sz (es.set i ys) (gone++rs) l else none
     | none=>none
   | none=>none
def z16 (l:List Nat):Upd:=l.map fun r=>(r,none)
def z2o:List (Nat × Operand)→List T→List (Nat × T)
 | (i,_) :: l,x :: xs=>(i,x) :: z2o l xs
 | _,_=>[]
def isU8 (tt:TT) (e:TypeId):Bool:=match tt e with
 | some y=>match y.d with
   | .int .u8=>true
   | _=>false
 | none=>false
def z66 (tt:TT) (y:Ty):Bool:=match y.d with
 | .slice e=>isU8 tt e
 | _=>false
def z9n (y:Ty):Bool:=match y.d with
 | .string=>true
 | _=>false
def z1g (tt:TT) (y:Ty):Option Nat:=match y.d with
 | .slice e=>match tt e with
   | some ye=>some ye.sz
   | none=>none
 | _=>none
def z67 (tt:TT) (H:Hp) (ye yu:Ty) (z:T) (K:Nat→List (List T)→Prop):Prop:=match z with
 | .ref s=>match H s with
   | some (.row k es)=>z1g tt yu=some k∧K k es
   | _=>False
 | .sl k es=>z1g tt yu=some k∧K k es
 | .val v=>v=nilV∧z1g tt yu=some ye.sz∧K ye.sz []
 | .str b=>z9n yu=true∧(match ye.d with|.int .u8=>True|_=>False)∧K 1 (z0f b)
 | .int kk n=>(match yu.d with|.int k'=>k'=kk|_=>False)∧ye.sz ≠ 0∧Nat.ble ye.by8 100000=true∧∃ m:Nat,n=m∧(m:Int)≤1000000000∧K ye.sz (List.replicate m ye.zero)
 | _=>False
def appT (tt:TT) (H:Hp) (ye yu:Ty) (x z:T) (K:Nat→List (List T)→List Nat→Prop):Prop:=match x with
 | .val v=>v=nilV∧z67 tt H ye yu z fun k es=>K k es []
 | .ref r=>match H r with
   | some (.row k0 es0)=>(match z with|.ref s=>!Nat.beq s r|_=>true)=true∧z67 tt H ye yu z fun k es=>k0=k∧K k (es0++es) [r]
   | _=>False
 | _=>False
def absb (H:Hp):List T→Option (List T × List Nat)
 | []=>some ([],[])
 | c :: cs=>match absb H cs with
   | some (ds,rs)=>match c with
     | .ref r=>match H r with
       | some (.deep k es [])=>bif rs.contains r then none else some (.own k es :: ds,r :: rs)
       | _=>none
     | .int k n=>some (.int k n :: ds,rs)
     | .bool b=>some (.bool b :: ds,rs)
     | .str s=>some (.str s :: ds,rs)
     | .val v=>some (.val v :: ds,rs)
     | _=>none
   | none=>none
def z9o (H:Hp) (z:T):Option (Nat × Nat × List (List T)):=match z with
 | .ref s=>match H s with
   | some (.deep k es [])=>some (s,k,es)
   | _=>none
 | _=>none
def appD (tt:TT) (H:Hp) (ye yu:Ty) (x:T) (s k:Nat) (K:List (List T)→List Nat→Prop):Prop:=match x with
 | .val v=>v=nilV∧z1g tt yu=some k∧K [] [s]
 | .ref r=>match H r with
   | some (.deep k0 es0 [])=>Nat.beq s r=false∧k0=k∧z1g tt yu=some k∧K es0 [r,s]
   | _=>False
 | _=>False
def isRefT:T→Bool
 | .ref _=>true
 | _=>false
def ze2 (xs:List T):Bool:=xs.any isRefT
def Eff (tt:TT) (op:Op) (ty:TypeId) (args:List T) (H:Hp) (id:Nat) (K:Kon):Prop:=match op,args with
 | .move _,[x]=>z24 x fun x=>K x []
 | .assign _,[x]=>z24 x fun x=>K x []
 | .pick _ _ _,[c,a,b]=>zcW c (z24 a fun a=>K a []) (z24 b fun b=>K b [])
 | .alloc e,[]=>match tt e with
   | some y=>K (.ptr id 0 0) [(id,some (.box y.zero))]
   | none=>False
 | .box e _,[x]=>match tt e,z4a x with
   | some y,some cs=>K (.ptr id 0 0) [(id,some (.box cs))]
   | _,_=>False
 | .nilCheck _,[x]=>match x with
   | .ptr r i j=>K (.ptr r i j) []
   | .rptr c j=>K (.rptr c j) []
   | _=>False
 | .fieldAddr st _ f,[x]=>match tt st with
   | some y=>match y.d with
     | .struct fs=>match fs[f]? with
       | some (off,ft)=>match tt ft with
         | some yf=>yf.sz ≠ 0∧(match x with
           | .ptr r i j=>K (.ptr r i (j+off)) []
           | .rptr c j=>K (.rptr c (j+off)) []
           | _=>False)
         | none=>False
       | none=>False
     | _=>False
   | none=>False
 | .indexAddr t _ _,[x,i]=>match i,tt t with
   | .int _ n,some y=>match y.d with
     | .slice e=>match tt e with
       | some ye=>match x with
         | .ref r=>match H r with
           | some (.row k es)=>k=ye.sz∧∃ i:Nat,n=i∧i<es.length∧K (.ptr r i 0) []
           | some (.deep k es _)=>k=ye.sz∧∃ i:Nat,n=i∧i<es.length∧K (.ptr r i 0) []
           | _=>False
         | .sl k es=>k=ye.sz∧∃ (i:Nat) (e:List T),n=i∧es[i]?=some e∧K (.rptr e 0) []
         | _=>False
       | none=>False
     | .array len e=>match tt e with
       | some ye=>∃ m:Nat,n=m∧m<len∧(match x with
         | .ptr r i j=>K (.ptr r i (j+m * ye.sz)) []
         | .rptr c j=>K (.rptr c (j+m * ye.sz)) []
         | _=>False)
       | none=>False
     | _=>False
   | _,_=>False
 | .index t _ _,[x,i]=>match i,x,tt t with
   | .int _ n,.str s,some y=>match y.d with
     | .string=>∃ i:Nat,n=i∧i<s.length∧K (.int .u8 ((s.getD i 0).toNat:Int)) []
     | _=>False
   | .int _ n,.agg cs,some y=>match y.d with
     | .array len e=>match tt e with
       | some ye=>ye.d.agg=false∧ye.sz=1∧∃ m:Nat,n=m∧m<len∧∃ c,cs[m]?=some c∧z24 c fun c=>K c []
       | none=>False
     | _=>False
   | _,_,_=>False
 | .extract _ i,[x]=>match x with
   | .tup cs=>match cs[i]? with
     | some c=>z24 c fun c=>K c []
     | none=>False
   | _=>False
 | .load t _,[x]=>match tt t with
   | some y=>match x with
     | .ptr r i j=>match H r with
       | some (.box cs)=>i=0∧z7q y cs j fun c=>K c []
       | some (.row k es)=>∃ e,es[i]?=some e∧z7q y e j fun c=>K c []
       | some (.deep k es l)=>y.d.agg=false∧∃ e,es[i]?=some e∧∃ c,e[j]?=some c∧(match c with
         | .own k' es'=>K (.ref id) [(r,some (.deep k (es.set i (e.set j .any)) ((i,j,id) :: l))),(id,some (.deep k' es' []))]
         | c=>z24 c fun c=>K c [])
       | none=>False
     | .rptr c j=>z7q y c j fun c=>K c []
     | _=>False
   | none=>False
 | .store t _ _,[p,x]=>match tt t,z4a x with
   | some y,some xs=>xs.length=y.sz∧(match p with
     | .ptr r i j=>match H r with
       | some (.box cs)=>i=0∧j+y.sz≤cs.length∧K .any [(r,some (.box (ovl cs j xs)))]
       | some (.row k es)=>bif ze2 xs then (match frz H xs with
         | some (ys,rs)=>rs.contains r=false∧∃ e,es[i]?=some e∧j+y.sz≤k∧K .any (z16 rs++[(r,some (.row k (es.set i (ovl e j ys))))])
         | none=>False) else (xs.all (fun c=>match c with|.ref _=>false|.ptr _ _ _=>false|.rptr _ _=>false|.any=>false|.agg _=>false|.tup _=>false|.fnp _ _=>false|.fnq _ _ _=>false|_=>true)=true∧∃ e,es[i]?=some e∧j+y.sz≤k∧K .any [(r,some (.row k (es.set i (ovl e j xs))))])
       | some (.deep k es l)=>l.all (fun p=>Nat.blt p.2.1 j || Nat.ble (j+y.sz) p.2.1)=true∧(match absb H xs with
         | some (ys,rs)=>rs.contains r=false∧∃ e,es[i]?=some e∧j+y.sz≤k∧K .any (z16 rs++[(r,some (.deep k (es.set i (ovl e j ys)) l))])
         | none=>False)
       | none=>False
     | _=>False)
   | _,_=>False
 | .binOp op t _ _ _,[x,y]=>match x,y with
   | .agg xs,.agg ys=>eqT tt op t xs ys fun r=>K r []
   | .bool a,.bool b=>eqB tt op t a b fun r=>K r []
   | x,y=>binT op x y fun r=>K r []
 | .unOp op _ _,[x]=>unT op x fun r=>K r []
 | .convert src dst _,[x]=>match tt src,tt dst with
   | some ys,some yd=>match yd.d,x with
     | .int k,.int _ n=>∃ r,r=k.wrap n∧K (.int k r) []
     | .string,.str s=>K (.str s) []
     | .slice e,.str s=>z9n ys=true∧isU8 tt e=true∧(s.length:Int)≤1000000000∧K (.ref id) [(id,some (.row 1 (z0f s)))]
     | .string,.ref r=>match H r with
       | some (.row _ es)=>z66 tt ys=true∧∃ l,es=z0f l∧K (.str l) []
       | _=>False
     | .string,.sl _ es=>z66 tt ys=true∧∃ l,es=z0f l∧K (.str l) []
     | .string,.val v=>z66 tt ys=true∧v=nilV∧K (.str []) []
     | _,_=>False
   | _,_=>False
 | .build t parts,xs=>match tt t with
   | some y=>match y.d with
     | .struct fs=>fs.all (fun f=>(tt f.2).isSome)=true∧(match zcX (z7D tt fs) y.zero (z2o parts.toList xs) with
       | some cells=>K (.agg cells) []
       | none=>False)
     | .array _ e=>match tt e with
       | some ye=>match zcX (fun i=>some (i * ye.sz,ye.sz)) y.zero (z2o parts.toList xs) with
         | some cells=>K (.agg cells) []
         | none=>False
       | none=>False
     | _=>False
   | none=>False
 | .buildSlice t len parts,xs=>match tt t with
   | some y=>match y.d with
     | .slice e=>match tt e with
       | some ye=>Nat.ble (len * ye.sz) 16777216=true∧ye.sz ≠ 0∧(match z65 H ye.sz (List.replicate len ye.zero) [] (z2o parts.toList xs) with
         | some (es,gone)=>K (.ref id) (z16 gone++[(id,some (.row ye.sz es))])
         | none=>(match z2o parts.toList xs with
           | [(i,x)]=>(match z4a x with
             | some cs=>(match absb H cs with
               | some (ys,rs)=>len=1∧i=0∧cs.length=ye.sz∧K (.ref id) (z16 rs++[(id,some (.deep ye.sz [ys] []))])
               | none=>False)
             | none=>False)
           | _=>False))
       | none=>False
     | _=>False
   | none=>False
 | .makeSlice t _ _,[l,c]=>match l,c,tt t with
   | .int _ n,.int _ n',some y=>match y.d with
     | .slice e=>match tt e with
       | some ye=>ye.sz ≠ 0∧Nat.ble ye.by8 100000=true∧∃ m:Nat,n=m∧n'=m∧(m:Int)≤1000000000∧K (.ref id) [(id,some (.row ye.sz (List.replicate m ye.zero)))]
       | none=>False
     | _=>False
   | _,_,_=>False
 | .slice t _ (some _) none none,[x,a]=>match a,x,tt t with
   | .int _ n,.str s,some y=>z9n y=true∧∃ i:Nat,n=i∧i≤s.length∧K (.str (s.drop i)) []
   | .int _ n,.sl k es,some y=>z1g tt y=some k∧∃ i:Nat,n=i∧i≤es.length∧K (.sl k (es.drop i)) []
   | .int _ n,.ref r,some y=>match H r with
     | some (.row k es)=>z1g tt y=some k∧∃ i:Nat,n=i∧i≤es.length∧K (.sl k (es.drop i)) [(r,none)]
     | _=>False
   | _,_,_=>False
 | .slice t _ none (some _) none,[x,a]=>match a,x,tt t with
   | .int _ n,.str s,some y=>z9n y=true∧∃ i:Nat,n=i∧i≤s.length∧K (.str (s.take i)) []
   | .int _ n,.sl k es,some y=>z1g tt y=some k∧∃ i:Nat,n=i∧i≤es.length∧K (.sl k (es.take i)) []
   | .int _ n,.ref r,some y=>match H r with
     | some (.row k es)=>z1g tt y=some k∧∃ i:Nat,n=i∧i≤es.length∧K (.sl k (es.take i)) [(r,none)]
     | _=>False
   | _,_,_=>False
 | .slice t _ (some _) (some _) none,[x,a,b]=>match a,b,x,tt t with
   | .int _ n,.int _ m,.str s,some y=>z9n y=true∧∃ i j:Nat,n=i∧m=j∧i≤j∧j≤s.length∧K (.str ((s.take j).drop i)) []
   | .int _ n,.int _ m,.sl k es,some y=>z1g tt y=some k∧∃ i j:Nat,n=i∧m=j∧i≤j∧j≤es.length∧K (.sl k ((es.take j).drop i)) []
   | _,_,_,_=>False
 | .makeInterface t _,[x]=>match tt t with
   | some y=>(z1g tt y).isSome=true∧(match x with
     | .ref r=>match H r with
       | some (.row _ es)=>∃ n:Nat,es.length=n∧K (.ifz t n) []
       | some (.deep _ es _)=>∃ n:Nat,es.length=n∧K (.ifz t n) []
       | _=>False
     | _=>False)
   | none=>False
 | .makeFunc fn a _,xs=>match fn,a.toList,xs with
   | .func f,[],[.ptr r i j]=>i=0∧j=0∧K (.fnp f r) []
   | .func f,[],[.ptr r i j,.ptr s k l]=>i=0∧j=0∧k=0∧l=0∧K (.fnq f r s) []
   | _,_,_=>False
 | .call c,xs=>match c.callee,xs with
   | .builtin .len,[x]=>match c.argTypes.toList with
     | [t]=>match tt t with
       | some y=>match x with
         | .str s=>z9n y=true∧K (.int .i64 (s.length:Int)) []
         | .sl _ es=>(z1g tt y).isSome=true∧∃ n:Nat,es.length=n∧K (.int .i64 (n:Int)) []
         | .ref r=>match H r with
           | some (.row _ es)=>(z1g tt y).isSome=true∧∃ n:Nat,es.length=n∧K (.int .i64 (n:Int)) []
           | some (.deep _ es _)=>(z1g tt y).isSome=true∧∃ n:Nat,es.length=n∧K (.int .i64 (n:Int)) []
           | _=>False
         | .val v=>(z1g tt y).isSome=true∧v=nilV∧K (.int .i64 0) []
         | _=>False
       | none=>False
     | _=>False
   | .builtin .min,[x,z]=>match x,z with
     | .int k n,.int _ m=>∃ r:Int,r=(if m<n then m else n)∧K (.int k r) []
     | _,_=>False
   | .builtin .max,[x,z]=>match x,z with
     | .int k n,.int _ m=>∃ r:Int,r=(if m > n then m else n)∧K (.int k r) []
     | _,_=>False
   | .builtin .append,[x,z]=>match c.argTypes.toList with
     | [t,u]=>match tt t,tt u with
       | some y,some yu=>match y.d with
         | .slice e=>match tt e with
           | some ye=>match z9o H z with
             | some (s,k2,es2)=>appD tt H ye yu x s k2 fun es gone=>k2=ye.sz∧ye.sz ≠ 0∧Nat.ble ye.by8 100000=true∧((es++es2).length:Int)≤1000000000∧K (.ref id) (z16 gone++[(id,some (.deep ye.sz (es++es2) []))])
             | none=>appT tt H ye yu x z fun k es gone=>k=ye.sz∧ye.sz ≠ 0∧Nat.ble ye.by8 100000=true∧(es.length:Int)≤1000000000∧K (.ref id) (z16 gone++[(id,some (.row ye.sz es))])
           | none=>False
         | _=>False
       | _,_=>False
     | _=>False
   | _,_=>False
 | _,_=>False
def Out (X:Cx) (id:Nat) (K:Kon) (v:Value) (w':World):Prop :=
 ∃ x upd X',K x upd∧X'.w=w'∧X'.us=X.win id∧X'.H=updL X.H upd∧Same X X'∧HR X'∧RS X' x v
def Args (X:Cx):List T→List Value→Prop
 | [],vs=>vs=[]
 | x :: xs,vs=>∃ u us,vs=u :: us∧RS X x u∧Args X xs us
section
variable {X:Cx} {id:Nat} {K:Kon} (hh:HR X) (hi:Fresh X id)
include hh hi
theorem Out.same {x:T} {v:Value} (h:K x []) (hx:RS X x v):Out X id K v X.w :=
 ⟨x,[],{ X with us:=X.win id },h,rfl,rfl,rfl,z4e X (fun _ h=>.inl h) X.w rfl rfl rfl rfl,hh.nx (fun _ h=>.inl h) X.w rfl rfl rfl rfl,hx.mono (z4e X (fun _ h=>.inl h) X.w rfl rfl rfl rfl)⟩
theorem Out.newBox {cs:List T} {C:Array Value} {t:TypeId} (h:K (.ptr id 0 0) [(id,some (.box cs))]) (hc:RSl X cs C.toList) :
 Out X id K (.pointer (some ⟨X.w.heap.size,0,none⟩)) (X.w.alloc (.cells C t)):=by
 have hs:=z8k hh hi (.box cs) X.w C t (0,0) rfl rfl rfl
 refine ⟨_,_,X.new id (.box cs) X.w C t (0,0),h,rfl,rfl,rfl,hs,hh.new hi _ X.w C t (0,0) rfl rfl rfl fun _=>?_,?_⟩
 ·refine ⟨X.w.heap.size,C,t,(0,0),by simp [Cx.new],?_,.inl (Nat.le_refl _),hc.mono hs⟩
  show (X.w.heap.push _)[_]?=_
  simp
 ·refine ⟨.inr ⟨Nat.le_refl _,by omega⟩,⟨_,rfl⟩,fun e he=>⟨X.w.heap.size,by simp [Cx.new],by simp⟩⟩
theorem Out.newRow {k n c:Nat} {es:List (List T)} {C:Array Value} {t:TypeId} {fr:Nat × Nat} (w1:World) (ho:w1.os=X.w.os) (ht:w1.tape=X.w.tape) (hu:w1.output=X.w.output) (hw:w1.heap=X.w.heap)
 (h:K (.ref id) [(id,some (.row k es))]) (hk:0<k) (hn:n=es.length) (hsz:C.size=c * k) (hnc:n≤c) (hm:c≤maxLen) (hf:z7p fr C.size)
 (hc:RE X.ow X.w k es C.toList):Out X id K (.slice (some ⟨X.w.heap.size,0,none⟩) n c) (w1.alloc (.cells C t fr)):=by
 have hs:=z8k hh hi (.row k es) w1 C t fr ho ht hu
 have hget:(X.w.heap.push (.cells C t fr))[X.w.heap.size]?=some (.cells C t fr):=by simp
 have hwa:(X.new id (.row k es) w1 C t fr).w=w1.alloc (.cells C t fr):=by simp [Cx.new,World.alloc,hw]
 subst hn
 refine ⟨_,_,X.new id (.row k es) w1 C t fr,h,hwa,rfl,rfl,hs,hh.new hi _ w1 C t fr ho ht hu fun _=>?_,?_⟩
 ·exact ⟨hk,.inr ⟨X.w.heap.size,C,t,fr,by simp [Cx.new],hget,hf,RE.mono hs.stab hc⟩⟩
 ·refine ⟨.inr ⟨Nat.le_refl _,by omega⟩,⟨_,_,_,rfl⟩,fun e' he _=>?_⟩
  change updE X.H id (some (.row k es)) id=_ at he
  rw [z0A] at he
  injection he with he;subst he
  exact .inr ⟨X.w.heap.size,c,C,t,fr,rfl,by simp [Cx.new],hget,hf,hsz,hnc,hm⟩
theorem Out.put {r:Nat} {e0 e:Ent} {g:Nat} {C0 C:Array Value} {t:TypeId} {fr:Nat × Nat} {v:Value} (h0:X.H r=some e0) (hg:X.ow g=some r) (hC:X.w.heap[g]?=some (.cells C0 t fr)) (hs:e0.shape=e.shape) (hz:C.size=C0.size)
 (h:K .any [(r,some e)]) (hnode:Same X (X.put r e g C t fr)→(X.put r e g C t fr).w.heap[g]?=some (.cells C t fr)→Node (X.put r e g C t fr) r e) :
 Out X id K v { X.w with heap:=X.w.heap.setIfInBounds g (.cells C t fr) }:=by
 have hsame:=zbQ hh h0 hg hC hs hz
 have hhr:=hh.put h0 hg hC hs hz hnode
 exact ⟨.any,_,{ X.put r e g C t fr with us:=X.win id },h,rfl,rfl,rfl,hsame.trans (z4e _ (fun _ h=>.inl h) _ rfl rfl rfl rfl),hhr.nx (fun _ h=>.inl h) _ rfl rfl rfl rfl,trivial⟩
end
end Go.Proofs.YtgmbkbggnlponaaGreatDoor
namespace Go.Proofs.YtgmbkbggnlponaaGreatDoor
set_option linter.unusedVariables false
set_option linter.unusedSimpArgs false
set_option linter.unusedSectionVars false
open Go.RowKit Pl
def Ran (P:Program) (X:Cx) (id:Nat) (K:Kon) (s:Sem Next):Prop :=
 ∃ n v w',s.run P X.w=.ok n w'∧(n=.value v ∨ (n=.skip∧v=undef))∧Out X id K v w'
theorem Ran.value {P:Program} {X:Cx} {id:Nat} {K:Kon} {s:Sem Value} {v:Value} {w':World} (h:s.run P X.w=.ok v w') (ho:Out X id K v w'):Ran P X id K (do pure (.value (← s))) :=
 ⟨.value v,v,w',by simp [h],.inl rfl,ho⟩
theorem Ran.unit {P:Program} {X:Cx} {id:Nat} {K:Kon} {s:Sem Unit} {w':World} (h:s.run P X.w=.ok () w') (ho:Out X id K undef w'):Ran P X id K (do s;pure .skip) :=
 ⟨.skip,undef,w',by simp [h],.inr ⟨rfl,rfl⟩,ho⟩
theorem z68 {X:Cx} {x:T} {v:Value} (h:Args X [x] [v]):RS X x v:=by
 obtain ⟨u,us,he,h1,h2⟩:=h
 injection he with a b;subst a;exact h1
theorem z8n {X:Cx} {x y:T} {v u:Value} (h:Args X [x,y] [v,u]):RS X x v∧RS X y u:=by
 obtain ⟨v',us,he,h1,h2⟩:=h
 injection he with a b;subst a b
 obtain ⟨u',us',he,h3,h4⟩:=h2
 injection he with a b;subst a;exact ⟨h1,h3⟩
theorem args3 {X:Cx} {x y z:T} {v u t:Value} (h:Args X [x,y,z] [v,u,t]):RS X x v∧RS X y u∧RS X z t:=by
 obtain ⟨v',us,he,h1,h2⟩:=h
 injection he with a b;subst a b
 exact ⟨h1,z8n h2⟩
theorem z1O {X:Cx} {k:IntKind} {n:Int} {v:Value} (h:RS X (.int k n) v):v=.int k n:=by simpa [RS,RS1,RS0,RV] using h
theorem z3C {X:Cx} {b:Bool} {v:Value} (h:RS X (.bool b) v):v=.bool b:=by simpa [RS,RS1,RS0,RV] using h
theorem z3D {X:Cx} {s:Bs} {v:Value} (h:RS X (.str s) v):v=.string (bs s):=by simpa [RS,RS1,RS0,RV] using h
theorem z1S (X:Cx) (k:IntKind) (n:Int):RS X (.int k n) (.int k n):=by simp [RS,RS1,RS0,RV]
theorem z2i (X:Cx) (b:Bool):RS X (.bool b) (.bool b):=by simp [RS,RS1,RS0,RV]
theorem z4b (X:Cx) (s:Bs):RS X (.str s) (.string (bs s)):=by simp [RS,RS1,RS0,RV]
theorem z69 {X:Cx} {r i j:Nat} {v:Value} (h:RS X (.ptr r i j) v):X.us r∧(∃ a,v=.pointer (some a))∧∀ e,X.H r=some e→∃ g,X.ow g=some r∧v=.pointer (some ⟨g,i * e.wd+j,none⟩):=h
theorem z6a {X:Cx} {c:List T} {j:Nat} {v:Value} (h:RS X (.rptr c j) v):∃ g o C t fr,v=.pointer (some ⟨g,o+j,none⟩)∧X.ow g=none∧X.w.heap[g]?=some (.cells C t fr)∧RL X.ow X.w c ((C.toList.drop o).take c.length):=h
theorem z6b {X:Cx} {r:Nat} {v:Value} (h:RS X (.ref r) v):X.us r∧(∃ A n c,v=.slice A n c)∧∀ k es,X.H r=some (.row k es)→Hdr X r k es.length v:=⟨h.1,h.2.1,fun _ _ hH=>h.2.2 _ hH rfl⟩
theorem z6c {X:Cx} {r:Nat} {v:Value} (h:RS X (.ref r) v):X.us r∧(∃ A n c,v=.slice A n c)∧∀ k es l,X.H r=some (.deep k es l)→Hdr X r k es.length v:=⟨h.1,h.2.1,fun _ _ _ hH=>h.2.2 _ hH rfl⟩
theorem z4z {X:Cx} {x:T} {v:Value} {cs:List T} (h:RS X x v) (hc:z4a x=some cs):RSl X cs v.cells.toList:=by
 cases x<;>simp [z4a] at hc
 case agg cs'=>subst hc;obtain ⟨vs,rfl,h⟩:=h;simpa [Value.cells] using h
 all_goals subst hc
 case int=>rw [z1O h];exact ⟨_,_,rfl,rfl,RV.rs0 (by simp [RV]),rfl⟩
 case bool=>rw [z3C h];exact ⟨_,_,rfl,rfl,RV.rs0 (by simp [RV]),rfl⟩
 case str=>rw [z3D h];exact ⟨_,_,rfl,rfl,RV.rs0 (by simp [RV]),rfl⟩
 case val x =>
  have h0:v=x∧x.oneCell'=true:=by simpa [RS,RS1,RS0,RV] using h
  obtain ⟨rfl,h1⟩:=h0
  have hv:v.cells=#[v]:=by cases v<;>first|rfl|(simp [Value.oneCell'] at h1)
  rw [hv]
  exact ⟨_,_,rfl,h1,RV.rs0 (by simp [RV,h1]),rfl⟩
 case sl k es =>
  have h0:RV X.ow X.w (.sl k es) v:=h
  have h1:=h0.one
  have hv:v.cells=#[v]:=by cases v<;>first|rfl|(simp [Value.oneCell'] at h1)
  rw [hv]
  exact ⟨_,_,rfl,h1,h0.rs0,rfl⟩
 case ref r =>
  obtain ⟨h1,⟨A,n,c,rfl⟩,h3⟩:=z6b h
  exact ⟨_,_,rfl,rfl,h,rfl⟩
 case ptr r i j =>
  obtain ⟨h1,⟨A,rfl⟩,h3⟩:=z69 h
  exact ⟨_,_,rfl,rfl,h,rfl⟩
 case rptr c j =>
  obtain ⟨g,o,C,t,fr,rfl,h3⟩:=z6a h
  exact ⟨_,_,rfl,rfl,h,rfl⟩
 case own k es=>exact (by simp [RS,RS1,RS0,RV] at h:False).elim
theorem z7E {P:Program} {t:TypeId} {y:Ty} {fs:List (Nat × TypeId)} (hy:TyOk P t y) (hd:y.d=.struct fs):∃ F:Array Field,P.underlying t=some (.struct F)∧F.toList.map (fun f=>(f.offset,f.type))=fs:=by
 obtain ⟨d,hu,he⟩:=hy.und
 rw [hd] at he
 cases d<;>simp [TD.of] at he
 exact ⟨_,hu,he⟩
theorem z2P {P:Program} {t e:TypeId} {y:Ty} (hy:TyOk P t y) (hd:y.d=.slice e):P.underlying t=some (.slice e):=by
 obtain ⟨d,hu,he⟩:=hy.und
 rw [hd] at he
 cases d<;>simp [TD.of] at he
 subst he;exact hu
theorem z6d {P:Program} {t e:TypeId} {n:Nat} {y:Ty} (hy:TyOk P t y) (hd:y.d=.array n e):P.underlying t=some (.array n e):=by
 obtain ⟨d,hu,he⟩:=hy.und
 rw [hd] at he
 cases d<;>simp [TD.of] at he
 obtain ⟨rfl,rfl⟩:=he;exact hu
theorem z2J {P:Program} {t:TypeId} {y:Ty} (hy:TyOk P t y) (hd:y.d=.string):P.underlying t=some .string:=by
 obtain ⟨d,hu,he⟩:=hy.und
 rw [hd] at he
 cases d<;>simp [TD.of] at he
 exact hu
theorem zaU {P:Program} {t:TypeId} {k:IntKind} {y:Ty} (hy:TyOk P t y) (hd:y.d=.int k):P.underlying t=some (.int k):=by
 obtain ⟨d,hu,he⟩:=hy.und
 rw [hd] at he
 cases d<;>simp [TD.of] at he
 subst he;exact hu
theorem z27 {P:Program} {t:TypeId} {y:Ty} (hy:TyOk P t y) (w:World):(sizeOf t).run P w=.ok y.sz w:=by
 obtain ⟨i,z,hi,hs,_⟩:=hy.info
 simp [sizeOf,typeInfo,hi,hs]
theorem z9p {P:Program} {t:TypeId} {y:Ty} (hy:TyOk P t y) (w:World):(isAgg t).run P w=.ok y.d.agg w:=by
 obtain ⟨d,hu,he⟩:=hy.und
 rw [← he]
 unfold isAgg
 rw [Sem.run_bind,run_underlying hu]
 cases d<;>rfl
theorem zaV {P:Program} {t:TypeId} {y:Ty} (hy:TyOk P t y) (w:World):∃ z,(zeroValue t).run P w=.ok z w∧z.cells.toList=y.zero.map zv:=by
 obtain ⟨i,z,hi,_,_,hz,hc⟩:=hy.info
 exact ⟨z,by simp [zeroValue,typeInfo,hi,hz],hc⟩
section
variable {P:Program} {tt:TT} (htt:TtOk P tt) {X:Cx} {id:Nat} {K:Kon} (hh:HR X) (hi:Fresh X id)
include htt hh hi
theorem ze3 {e:TypeId} {old:Value} (h:Eff tt (.alloc e) 0 [] X.H id K):Ran P X id K (do pure (.value (← Instr.alloc e true old))):=by
 simp only [Eff] at h
 cases hy:tt e with
 | none=>rw [hy] at h;exact h.elim
 | some y =>
   rw [hy] at h
   obtain ⟨z,hz,hc⟩:=zaV (htt _ _ hy) X.w
   refine Ran.value (v:=.pointer (some ⟨X.w.heap.size,0,none⟩)) (w':=X.w.alloc (.cells z.cells e)) ?_ (Out.newBox hh hi h ?_)
   ·simp [Instr.alloc,newVar,newRow,hz]
   ·rw [hc];exact (zbR (htt _ _ hy).zs).rsl
theorem zhh {e:TypeId} {x:T} {v:Value} (hx:RS X x v) (h:Eff tt (.box e (.tmp 0)) 0 [x] X.H id K):Ran P X id K (do pure (.value (← Instr.box e v))):=by
 simp only [Eff] at h
 split at h
 ·rename_i y cs hy hc
  refine Ran.value (v:=.pointer (some ⟨X.w.heap.size,0,none⟩)) (w':=X.w.alloc (.cells v.cells e)) ?_ (Out.newBox hh hi h (z4z hx hc))
  simp [Instr.box,newVar,newRow]
 ·exact h.elim
theorem z8o {st:TypeId} {f:Nat} {x:T} {v:Value} (hx:RS X x v) (h:Eff tt (.fieldAddr st (.tmp 0) f) 0 [x] X.H id K):Ran P X id K (do pure (.value (← Instr.fieldAt st v f))):=by
 simp only [Eff] at h
 split at h<;>try exact h.elim
 rename_i y hy
 split at h<;>try exact h.elim
 rename_i fs hd
 split at h<;>try exact h.elim
 rename_i off ft hf
 split at h<;>try exact h.elim
 rename_i yf hyf
 obtain ⟨hz,h⟩:=h
 obtain ⟨F,hu,hF⟩:=z7E (htt _ _ hy) hd
 have hF2:∃ fl:Field,F[f]?=some fl∧fl.offset=off∧fl.type=ft:=by
  rw [← hF,List.getElem?_map] at hf
  cases hff:F.toList[f]? with
  | none=>rw [hff] at hf;cases hf
  | some fl =>
    rw [hff] at hf
    simp at hf
    exact ⟨fl,by simpa using hff,hf.1,hf.2⟩
 obtain ⟨fl,hfl,rfl,rfl⟩:=hF2
 have hsz:=z27 (htt _ _ hyf) X.w
 have run:∀ g o,(Instr.fieldAt st (.pointer (some ⟨g,o,none⟩)) f).run P X.w=.ok (.pointer (some ⟨g,o+fl.offset,none⟩)) X.w:=fun g o=>by
  simp [Instr.fieldAt,run_underlying hu,hfl,Instr.sureAddr,fieldPlace,hsz,hz]
  unfold Addr.add
  split<;>simp_all
 split at h<;>try exact h.elim
 ·rename_i r i j
  obtain ⟨h1,⟨a,rfl⟩,h3⟩:=z69 hx
  cases hH:X.H r with
  | none =>
    refine Ran.value (v:=.pointer (some ((a.add fl.offset)))) (w':=X.w) ?_ (Out.same hh hi h ⟨h1,⟨_,rfl⟩,fun e he=>by rw [hH] at he;cases he⟩)
    simp [Instr.fieldAt,run_underlying hu,hfl,Instr.sureAddr,fieldPlace,hsz,hz]
  | some e =>
    obtain ⟨g,hg,hp⟩:=h3 e hH
    injection hp with hp;injection hp with hp;subst hp
    refine Ran.value (run _ _) (Out.same hh hi h ⟨h1,⟨_,rfl⟩,fun e' he=>⟨g,hg,?_⟩⟩)
    rw [hH] at he;injection he with he;subst he
    rw [Nat.add_assoc]
 ·rename_i c j
  obtain ⟨g,o,C,t,fr,rfl,h2,h3,h4⟩:=z6a hx
  exact Ran.value (run _ _) (Out.same hh hi h ⟨g,o,C,t,fr,by rw [Nat.add_assoc],h2,h3,h4⟩)
end
end Go.Proofs.YtgmbkbggnlponaaGreatDoor
namespace Go.Proofs.YtgmbkbggnlponaaGreatDoor
set_option linter.unusedVariables false
set_option linter.unusedSimpArgs false
set_option linter.unusedSectionVars false
open Go.RowKit Pl
theorem z2j (g o j:Nat):(⟨g,o,none⟩:Addr).add j=⟨g,o+j,none⟩:=by unfold Addr.add;split<;>simp_all
theorem z6e {P:Program} {t:TypeId} {y:Ty} (hy:TyOk P t y) (ha:y.d.agg=false) (w:World) {g o:Nat} {C:Array Value} {u:TypeId} {fr:Nat × Nat} (hC:w.heap[g]?=some (.cells C u fr)) {v:Value} (hv:C[o]?=some v) :
 (Instr.loadAt t (.pointer (some ⟨g,o,none⟩))).run P w=.ok v w:=by
 have:w.cell? ⟨g,o,none⟩=some v:=by simp [World.cell?,hC,hv]
 simp [Instr.loadAt,Instr.sureAddr,loadVar,z9p hy,ha,this]
theorem ze4 {P:Program} {t:TypeId} {y:Ty} (hy:TyOk P t y) (ha:y.d.agg=true) (w:World) {g o:Nat} {C:Array Value} {u:TypeId} {fr:Nat × Nat} (hC:w.heap[g]?=some (.cells C u fr)) {vs:List Value}
 (hvs:∀ j v,vs[j]?=some v→C[o+j]?=some v) (hl:vs.length=y.sz):(Instr.loadAt t (.pointer (some ⟨g,o,none⟩))).run P w=.ok (.agg vs.toArray) w:=by
 have:=run_loadCells_list (P:=P) w ⟨g,o,none⟩ vs (fun j v hv=>by rw [z2j];simp [World.cell?,hC,hvs j v hv])
 rw [hl] at this
 simp [Instr.loadAt,Instr.sureAddr,loadVar,z9p hy,ha,z27 hy,this]
theorem z17 {α:Type} {l:List α} {o n j:Nat} {v:α} (h:((l.drop o).take n)[j]?=some v):l[o+j]?=some v:=by
 rw [List.getElem?_take] at h
 split at h
 ·rwa [List.getElem?_drop] at h
 ·cases h
theorem RS0.cell {X:Cx} {c:T} {u:Value} (h:RS0 X c u):RS X c u:=h.rs
theorem z5d {P:Program} {X:Cx} {id:Nat} {K:Kon} (hh:HR X) (hi:Fresh X id) {t:TypeId} {y:Ty} (hy:TyOk P t y) {g o j:Nat} {C:Array Value} {u:TypeId} {fr:Nat × Nat} (hC:X.w.heap[g]?=some (.cells C u fr))
 {cs:List T} {vs:List Value} (hl:RSl X cs vs) (hvs:∀ j v,vs[j]?=some v→C[o+j]?=some v) (h:z7q y cs j fun c=>K c []):Ran P X id K (do pure (.value (← Instr.loadAt t (.pointer (some ⟨g,o+j,none⟩))))):=by
 unfold z7q at h
 cases ha:y.d.agg with
 | true =>
   rw [ha] at h
   obtain ⟨xs,hx,hlen,hk⟩:∃ xs,(cs.drop j).take y.sz=xs∧xs.length=y.sz∧K (.agg xs) []:=⟨_,rfl,z2h h⟩
   have hr:=(hl.drop j).take y.sz
   rw [hx] at hr
   refine Ran.value (ze4 hy ha X.w hC (vs:=(vs.drop j).take y.sz) (fun m v hm=>?_) (by rw [hr.len,hlen])) (Out.same hh hi hk ⟨_,rfl,by simpa using hr⟩)
   rw [Nat.add_assoc];exact hvs _ _ (z17 hm)
 | false =>
   rw [ha] at h
   obtain ⟨c,hc,hk⟩:=h
   obtain ⟨v,hv,_,hx⟩:=hl.get hc
   exact Ran.value (z6e hy ha X.w hC (hvs _ _ hv)) (Out.same hh hi (z1R (K:=fun c=>K c []) hk) hx.rs)
theorem z4A {α:Type} {l:List α} {i:Nat} {a:α} (h:l[i]?=some a):l.set i a=l:=by
 apply List.ext_getElem?
 intro m
 rw [List.getElem?_set]
 split
 ·rename_i hm;subst hm
  split
  ·exact h.symm
  ·rename_i hn;rw [List.getElem?_eq_none (by omega)]
 ·rfl
theorem OL.ovl {w:World}:∀ {xs cs:List T} {us vs:List Value} {bs:List Nat} (j:Nat),OL w cs vs bs→OL w xs us []→j+xs.length≤cs.length→∃ b',OL w (Go.Proofs.YtgmbkbggnlponaaGreatDoor.ovl cs j xs) (Go.Proofs.YtgmbkbggnlponaaGreatDoor.ovl vs j us) b'∧b'.Sublist bs
 | [],_,_,_,bs,j,h,h2,_=>by simp only [OL] at h2;obtain ⟨rfl,_⟩:=h2;exact ⟨bs,h,List.Sublist.refl _⟩
 | x :: xs,cs,_,vs,bs,j,h,h2,hj=>by
   simp only [OL] at h2
   obtain ⟨u,us,b1,b2,rfl,hb,h1,h3⟩:=h2
   obtain ⟨rfl,rfl⟩:=List.append_eq_nil_iff.1 hb.symm
   simp at hj
   obtain ⟨b',q1,q2⟩:=h.ovl1 (show j<cs.length by omega) h1
   obtain ⟨b'',q3,q4⟩:=OL.ovl (j+1) q1 h3 (by simp;omega)
   exact ⟨b'',q3,q4.trans q2⟩
theorem OE.ovl {w:World} {k:Nat} {es:List (List T)} {vs us:List Value} {bs:List Nat} {i j:Nat} {e xs:List T} (h:OE w k es vs bs) (he:es[i]?=some e) (hx:OL w xs us []) (hj:j+xs.length≤k):∃ b',OE w k (es.set i (Go.Proofs.YtgmbkbggnlponaaGreatDoor.ovl e j xs)) (Go.Proofs.YtgmbkbggnlponaaGreatDoor.ovl vs (i * k+j) us) b'∧b'.Sublist bs:=by
 obtain ⟨b1,b2,b3,rfl,h1,h2,h3⟩:=h.focus he
 have hlu:us.length=xs.length:=hx.len
 have hle:((vs.drop (i * k)).take k).length=k:=by rw [List.length_take,List.length_drop];omega
 have hel:e.length=k:=by rw [← h1.len,hle]
 obtain ⟨b',q1,q2⟩:=OL.ovl j h1 hx (by omega)
 refine ⟨_,?_,List.Sublist.append_left (List.Sublist.append_right q2 b3) b1⟩
 have:=h3 _ _ b' (by rw [z0H,hle]) q1
 have e1:vs.take (i * k)++Go.Proofs.YtgmbkbggnlponaaGreatDoor.ovl ((vs.drop (i * k)).take k) j us++vs.drop (i * k+k)=Go.Proofs.YtgmbkbggnlponaaGreatDoor.ovl vs (i * k+j) us:=by
  rw [z4y us vs (i * k+j) (by omega),z4y us _ j (by omega),List.take_take,Nat.min_eq_left (show j≤k by omega),List.drop_take,List.drop_drop]
  simp only [List.append_assoc]
  rw [← List.append_assoc (List.take (i * k) vs),← List.take_add]
  congr 1
  congr 1
  have e5:=List.take_append_drop (k-(j+us.length)) (vs.drop (i * k+(j+us.length)))
  rw [List.drop_drop,show i * k+(j+us.length)+(k-(j+us.length))=i * k+k by omega] at e5
  rw [show i * k+j+us.length=i * k+(j+us.length) by omega]
  exact e5
 rw [e1] at this
 exact this
def Cx.lend (X:Cx) (r id:Nat) (e e2:Ent) (gs:Option Nat) (bs:List Nat):Cx :=
 { H:=updE (updE X.H r (some e)) id (some e2),ow:=fun g=>if gs=some g then some id else X.ow g,w:=X.w,us:=X.win id,iw:=fun g=>if gs=some g then 0 else if g ∈ bs then id else X.iw g }
theorem zcY {X:Cx} {id:Nat} (hh:HR X) (hi:Fresh X id) {r k i j k2:Nat} {es es2:List (List T)} {l:List (Nat × Nat × Nat)} {e:List T} (hH:X.H r=some (.deep k es l)) (he:es[i]?=some e) (hc:e[j]?=some (.own k2 es2)) :
 ∃ g C t fr u,X.ow g=some r∧X.w.heap[g]?=some (.cells C t fr)∧C[i * k+j]?=some u∧∃ X',X'.w=X.w∧X'.us=X.win id∧X'.H=updE (updE X.H r (some (.deep k (es.set i (e.set j .any)) ((i,j,id) :: l)))) id (some (.deep k2 es2 []))∧Same X X'∧HR X'∧RS X' (.ref id) u:=by
 have hr0:=hh.ne hH
 obtain ⟨hrn,hk,hn⟩:=hh.node _ _ hH
 rcases hn with ⟨rfl,_⟩|⟨g,C,t,fr,bs,hg,hC,hf,hd,ho,hl,hq⟩
 ·simp at he
 obtain ⟨b1,b2,b3,rfl,f1,f2,f3⟩:=hl.focus he
 have hle:((C.toList.drop (i * k)).take k).length=k:=by rw [List.length_take,List.length_drop];omega
 have hel:e.length=k:=by rw [← f1.len,hle]
 have hjk:j<k:=by have:=(List.getElem?_eq_some_iff.1 hc).1;omega
 obtain ⟨u,c1,c2,c3,d1,rfl,d3,d4⟩:=f1.focus hc
 have hu1:u.oneCell'=true:=d3.one
 have hcu:C.toList[i * k+j]?=some u:=z17 d1
 have hcu':C[i * k+j]?=some u:=by simpa using hcu
 refine ⟨g,C,t,fr,u,hg,hC,hcu',?_⟩
 simp only [OV] at d3
 obtain ⟨hk2,d3⟩:=d3
 obtain ⟨gs,bs',hc2,hgs,hnode⟩:∃ (gs:Option Nat) (bs':List Nat),c2=gs.toList++bs'∧(∀ g2,gs=some g2→∃ c C2 t2 fr2,u=.slice (some ⟨g2,0,none⟩) es2.length c∧X.w.heap[g2]?=some (.cells C2 t2 fr2)∧z7p fr2 C2.size∧C2.size=c * k2∧es2.length≤c∧c≤maxLen∧OE X.w k2 es2 C2.toList bs')∧(gs=none→u=nilV∧es2=[]∧bs'=[]):=by
  rcases d3 with ⟨a,b,c⟩|⟨g2,c,C2,t2,fr2,bs',a1,a2,a3,a4,a5,a6,a7,a8⟩
  ·refine ⟨none,[],by simpa using c,⟨fun g2 h=>?_,fun _=>⟨a,b,rfl⟩⟩⟩
   cases h
  ·refine ⟨some g2,bs',by simpa using a7,⟨fun g3 h=>?_,fun h=>?_⟩⟩
   ·injection h with h;subst h;exact ⟨c,C2,t2,fr2,a1,a2,a3,a4,a5,a6,a8⟩
   ·cases h
 subst hc2
 have hin:∀ b,b ∈ gs.toList++bs'→X.iw b=r:=fun b hb=>ho b (by simp only [List.mem_append] at hb ⊢;exact Or.inr (Or.inl (Or.inr (Or.inl hb))))
 have hgr:∀ g2,gs=some g2→X.iw g2=r:=fun g2 h=>hin g2 (by simp [h])
 have hbr:∀ b,b ∈ bs'→X.iw b=r:=fun b h=>hin b (by simp [h])
 have how0:∀ b,X.iw b=r→X.ow b=some 0∧b<X.w.heap.size:=fun b h=>by
  obtain ⟨a,b,_⟩:=hh.inn b (by rw [h];exact hr0);exact ⟨a,b⟩
 have hgb:∀ g2,gs=some g2→g2 ∉ bs':=fun g2 h hm=>by
  subst h
  have h1:=hd.sublist (List.sublist_append_right b1 _)
  have h2:=h1.sublist (List.sublist_append_left _ b3)
  have h3:=h2.sublist (List.sublist_append_right c1 _)
  have h4:=h3.sublist (List.sublist_append_left _ c3)
  simp at h4
  exact h4.1 hm
 have hbd:bs'.Nodup:=by
  have h1:=hd.sublist (List.sublist_append_right b1 _)
  have h2:=h1.sublist (List.sublist_append_left _ b3)
  have h3:=h2.sublist (List.sublist_append_right c1 _)
  have h4:=h3.sublist (List.sublist_append_left _ c3)
  exact h4.sublist (List.sublist_append_right _ _)
 let e1:Ent:=.deep k (es.set i (e.set j .any)) ((i,j,id) :: l)
 let e2:Ent:=.deep k2 es2 []
 let X':=X.lend r id e1 e2 gs bs'
 have how:∀ b,gs ≠ some b→X'.ow b=X.ow b:=fun b h=>if_neg h
 have hnx:∀ a,X.us a→a ≠ id:=fun a h=>hi.ne h
 have hHo:∀ a,X.us a→a ≠ r→X'.H a=X.H a:=fun a h1 h2=>by
  show updE (updE X.H r (some e1)) id (some e2) a=_
  rw [z0j _ _ (hnx a h1),z0j _ _ h2]
 have hHr:X'.H r=some e1:=by
  show updE (updE X.H r (some e1)) id (some e2) r=_
  rw [z0j _ _ (hnx r hrn),z0A]
 have hHi:X'.H id=some e2:=z0A _ _ _
 have hs:Same X X':=by
  refine ⟨fun a h=>.inl h,rfl,rfl,rfl,Nat.le_refl _,fun b _ hb=>⟨?_,rfl⟩,fun a ha e' he'=>?_,fun b hb hb0=>⟨⟨?_,?_⟩,rfl⟩,fun a ha hne b hb=>⟨?_,fun C' t' fr' hC'=>⟨C',hC',rfl⟩⟩⟩
  ·rw [how b (fun h=>by have:=(how0 b (hgr b h)).1;rw [hb] at this;cases this)];exact hb
  ·by_cases har:a=r
   ·subst har;rw [hHr] at he';injection he' with he';subst he'
    exact ⟨_,hH,by simp [Ent.shape,e1]⟩
   ·rw [hHo a ha har] at he';exact ⟨e',he',rfl⟩
  ·rw [how b (fun h=>by rw [hgr b h] at hb0;exact hr0 hb0)];exact hb
  ·show (if gs=some b then 0 else if b ∈ bs' then id else X.iw b)=0
   rw [if_neg (fun h=>by rw [hgr b h] at hb0;exact hr0 hb0),if_neg (fun h=>by rw [hbr b h] at hb0;exact hr0 hb0)];exact hb0
  ·have ha0:a ≠ 0:=fun h=>by
    subst h
    rw [hHo 0 ha (Ne.symm hr0)] at hne;exact hne hh.zero
   rw [how b (fun h=>by have:=(how0 b (hgr b h)).1;rw [hb] at this;injection this with this;exact ha0 this)];exact hb
 have hiw:∀ b a,X.iw b=a→a ≠ r→a ≠ 0→X'.iw b=a:=fun b a h h1 _=>by
  show (if gs=some b then 0 else if b ∈ bs' then id else X.iw b)=a
  rw [if_neg (fun h2=>h1 (by rw [← h,hgr b h2])),if_neg (fun h2=>h1 (by rw [← h,hbr b h2]))];exact h
 have hru:RS X' (.ref id) u:=by
  refine ⟨.inr ⟨Nat.le_refl _,by omega⟩,?_,fun e' he' _=>?_⟩
  ·cases hgo:gs with
   | none=>rw [(hnode hgo).1];exact ⟨_,_,_,rfl⟩
   | some g2=>obtain ⟨c,_,_,_,a,_⟩:=hgs g2 hgo;rw [a];exact ⟨_,_,_,rfl⟩
  ·rw [hHi] at he';injection he' with he';subst he'
   cases hgo:gs with
   | none=>obtain ⟨a,b,_⟩:=hnode hgo;exact .inl ⟨a,by show es2.length=0;rw [b];rfl⟩
   | some g2 =>
     obtain ⟨c,C2,t2,fr2,a1,a2,a3,a4,a5,a6,a7⟩:=hgs g2 hgo
     exact .inr ⟨g2,c,C2,t2,fr2,a1,if_pos hgo,a2,a3,a4,a5,a6⟩
 refine ⟨X',rfl,rfl,rfl,hs,⟨fun a b x hx h1 h2=>?_,fun b a hb=>?_,fun a e' he'=>?_,?_,.inl hh.pos,hh.gl.mono hs.stab,fun b hb=>?_⟩,hru⟩
 ·change (if gs=some a then some id else X.ow a)=some x at h1
  change (if gs=some b then some id else X.ow b)=some x at h2
  by_cases ha:gs=some a<;>by_cases hb:gs=some b
  ·rw [ha] at hb;injection hb
  ·rw [if_pos ha] at h1;rw [if_neg hb] at h2;injection h1 with h1;subst h1
   exact absurd rfl (hnx _ (hh.lt _ _ h2).2)
  ·rw [if_neg ha] at h1;rw [if_pos hb] at h2;injection h2 with h2;subst h2
   exact absurd rfl (hnx _ (hh.lt _ _ h1).2)
  ·rw [if_neg ha] at h1;rw [if_neg hb] at h2
   refine hh.inj _ _ _ ?_ h1 h2
   by_cases hxr:x=r
   ·subst hxr;rw [hH];simp
   ·rw [← hHo x (hh.lt _ _ h1).2 hxr];exact hx
 ·change (if gs=some b then some id else X.ow b)=some a at hb
  split at hb
  ·rename_i hgb2
   injection hb with hb;subst hb
   exact ⟨(how0 b (hgr b hgb2)).2,.inr ⟨Nat.le_refl _,by omega⟩⟩
  ·obtain ⟨p1,p2⟩:=hh.lt b a hb;exact ⟨p1,.inl p2⟩
 ·by_cases hai:a=id
  ·subst hai
   rw [hHi] at he';injection he' with he';subst he'
   refine ⟨.inr ⟨Nat.le_refl _,by omega⟩,hk2,?_⟩
   cases hgo:gs with
   | none=>exact .inl ⟨(hnode hgo).2.1,rfl⟩
   | some g2 =>
     obtain ⟨c,C2,t2,fr2,a1,a2,a3,a4,a5,a6,a7⟩:=hgs g2 hgo
     refine .inr ⟨g2,C2,t2,fr2,bs',if_pos hgo,a2,a3,hbd,fun b hb=>?_,a7,fun p hp=>by cases hp⟩
     show (if gs=some b then 0 else if b ∈ bs' then a else X.iw b)=a
     rw [if_neg (fun h=>hgb b h hb),if_pos hb]
  ·by_cases har:a=r
   ·subst har
    rw [hHr] at he';injection he' with he';subst he'
    refine ⟨.inl hrn,hk,.inr ⟨g,C,t,fr,b1++((c1++([]++c3))++b3),?_,hC,hf,?_,fun b hb=>?_,?_,fun p hp=>?_⟩⟩
    ·rw [how g (fun h=>by have:=(how0 g (hgr g h)).1;rw [hg] at this;injection this with this;exact hr0 this)];exact hg
    ·refine hd.sublist (List.Sublist.append_left (List.Sublist.append_right (List.Sublist.append_left (List.Sublist.append_right (List.nil_sublist _) c3) c1) b3) b1)
    ·have hb':b ∈ b1++((c1++((gs.toList++bs')++c3))++b3):=by
      simp only [List.mem_append] at hb ⊢
      rcases hb with h|(h|h|h)|h
      ·exact Or.inl h
      ·exact Or.inr (Or.inl (Or.inl h))
      ·cases h
      ·exact Or.inr (Or.inl (Or.inr (Or.inr h)))
      ·exact Or.inr (Or.inr h)
     have hout:b ∉ gs.toList++bs':=by
      intro hm
      have hd':=hd
      simp only [List.nodup_append,List.mem_append] at hd'
      simp only [List.mem_append] at hb hm
      obtain ⟨_,⟨⟨_,⟨_,_,q3⟩,q2⟩,_,q4⟩,q1⟩:=hd'
      rcases hb with h|(h|h|h)|h
      ·exact q1 b h b (.inl (.inr (.inl hm))) rfl
      ·exact q2 b h b (.inl hm) rfl
      ·cases h
      ·exact q3 b hm b h rfl
      ·exact q4 b (.inr (.inl hm)) b h rfl
     have hbx:=ho b hb'
     show (if gs=some b then 0 else if b ∈ bs' then id else X.iw b)=a
     rw [if_neg (fun h=>hout (by simp [h])),if_neg (fun h=>hout (by simp [h]))];exact hbx
    ·have h1:=d4 .any u [] (by simp only [OV,RV];exact ⟨trivial,trivial,hu1⟩)
     have h2:=f3 _ _ _ (by rw [List.length_set,hle]) h1
     have e0:((C.toList.drop (i * k)).take k).set j u=(C.toList.drop (i * k)).take k:=z4A d1
     rw [e0] at h2
     have e3:C.toList.take (i * k)++(C.toList.drop (i * k)).take k++C.toList.drop (i * k+k)=C.toList:=by
      rw [← List.take_add,List.take_append_drop]
     rw [e3] at h2
     exact h2
    ·cases hp with
     | head=>exact ⟨hjk,u,hcu,hru⟩
     | tail _ hp=>obtain ⟨z,u',z1,z2⟩:=hq p hp;exact ⟨z,u',z1,z2.mono hs⟩
   ·have hus:X.us a:=by
     have:updE (updE X.H r (some e1)) id (some e2) a=some e':=he'
     rw [z0j _ _ hai,z0j _ _ har] at this
     exact (hh.node a e' this).1
    have he2:=he'
    rw [hHo a hus har] at he2
    obtain ⟨p1,p2⟩:=hh.node a e' he2
    exact ⟨.inl p1,p2.mono hs p1 (by rw [he'];simp) (fun b _=>rfl) (fun b hb=>⟨hiw b a hb har (hh.ne he2),rfl⟩)⟩
 ·rw [hHo 0 hh.pos (Ne.symm hr0)];exact hh.zero
 ·change (if gs=some b then 0 else if b ∈ bs' then id else X.iw b) ≠ 0 at hb
  show (if gs=some b then some id else X.ow b)=some 0∧_∧X.win id (if gs=some b then 0 else if b ∈ bs' then id else X.iw b)
  split at hb
  ·exact absurd rfl hb
  ·rename_i hgs1
   rw [if_neg hgs1,if_neg hgs1]
   split at hb
   ·rename_i hm
    obtain ⟨p1,p2⟩:=how0 b (hbr b hm)
    rw [if_pos hm];exact ⟨p1,p2,.inr ⟨Nat.le_refl _,by omega⟩⟩
   ·rename_i hm
    obtain ⟨p1,p2,p3⟩:=hh.inn b hb
    rw [if_neg hm];exact ⟨p1,p2,.inl p3⟩
theorem z9q:∀ {l:List Nat} {H:Hp} {r:Nat},updL H (z16 l) r=if r ∈ l then none else H r
 | [],H,r=>by simp [z16,updL]
 | a :: l,H,r=>by
   show updL (updE H a none) (z16 l) r=_
   rw [z9q]
   by_cases h:r ∈ l
   ·simp [h]
   ·by_cases h2:r=a
    ·subst h2;simp [h,z0A]
    ·rw [if_neg h,z0j _ _ h2,if_neg (by simp [h,h2])]
theorem zaW {X:Cx} (hh:HR X) {r k:Nat} {es:List (List T)} {u:Value} (hr:RS0 X (.ref r) u) (hH:X.H r=some (.deep k es [])):∃ bs,OV X.w (.own k es) u bs∧bs.Nodup∧∀ b ∈ bs,X.ow b=some r ∨ X.iw b=r:=by
 obtain ⟨h1,_,h3⟩:=hr
 obtain ⟨_,hk,hn⟩:=hh.node _ _ hH
 rcases h3 _ hH rfl with ⟨hu,h0⟩|⟨g,c,C,t,fr,hu,hg,hC,hf,hz,hle,hmx⟩
 ·have he:es=[]:=List.eq_nil_of_length_eq_zero h0
  exact ⟨[],by simp only [OV];exact ⟨hk,.inl ⟨hu,he,trivial⟩⟩,List.nodup_nil,fun b hb=>by cases hb⟩
 ·obtain ⟨bs,q1,q2,q3⟩:∃ bs:List Nat,bs.Nodup∧(∀ b ∈ bs,X.iw b=r)∧OE X.w k es C.toList bs:=by
   rcases hn with ⟨he,_⟩|⟨g',C',t',fr',bs,hg',hC',_,p1,p2,p3,_⟩
   ·subst he;exact ⟨[],List.nodup_nil,fun b hb=>(by cases hb),by simp only [OE]⟩
   ·obtain rfl:=hh.inj' hH hg hg'
    rw [hC] at hC';injection hC' with hC';injection hC' with a b c';subst a b c'
    exact ⟨bs,p1,p2,p3⟩
  refine ⟨g :: bs,by simp only [OV];exact ⟨hk,.inr ⟨g,c,C,t,fr,bs,hu,hC,hf,hz,hle,hmx,rfl,q3⟩⟩,List.nodup_cons.2 ⟨fun hm=>?_,q1⟩,fun b hb=>?_⟩
  ·have hi:=q2 g hm
   have:=(hh.inn g (by rw [hi];exact hh.ne hH)).1
   rw [hg] at this;injection this with this;exact hh.ne hH this
  ·rcases List.mem_cons.1 hb with rfl|hb
   ·exact .inl hg
   ·exact .inr (q2 b hb)
theorem zgR {X:Cx} (hh:HR X) {r s b:Nat} (h1:X.ow b=some r ∨ X.iw b=r) (h2:X.ow b=some s ∨ X.iw b=s) (hr:r ≠ 0) (hs:s ≠ 0):r=s:=by
 rcases h1 with h1|h1<;>rcases h2 with h2|h2
 ·rw [h1] at h2;injection h2
 ·have:=(hh.inn b (by rw [h2];exact hs)).1
  rw [h1] at this;injection this with this;exact absurd this hr
 ·have:=(hh.inn b (by rw [h1];exact hr)).1
  rw [h2] at this;injection this with this;exact absurd this hs
 ·rw [← h1,← h2]
theorem z5e {X:Cx} (hh:HR X):∀ {xs ys:List T} {rs:List Nat} {us:List Value},absb X.H xs=some (ys,rs)→RSl X xs us→∃ bs,OL X.w ys us bs∧bs.Nodup∧(∀ b ∈ bs,∃ r ∈ rs,X.ow b=some r ∨ X.iw b=r)∧∀ r ∈ rs,X.us r∧r ≠ 0
 | [],ys,rs,us,hf,h=>by
   cases h
   simp [absb] at hf
   obtain ⟨rfl,rfl⟩:=hf
   exact ⟨[],by simp [OL],List.nodup_nil,fun b hb=>(by cases hb),fun r hr=>(by cases hr)⟩
 | c :: xs,ys,rs,us,hf,⟨u,us',hu,h1,h2,h3⟩=>by
   subst hu
   simp only [absb] at hf
   split at hf<;>try (cases hf;done)
   rename_i ds rs0 hds
   obtain ⟨bs,p1,p2,p3,p4⟩:=z5e hh hds h3
   cases c<;>simp only at hf<;>try (cases hf;done)
   case ref r =>
    split at hf<;>try (cases hf;done)
    rename_i k es hH
    cases hcon:rs0.contains r with
    | true=>rw [hcon] at hf;cases hf
    | false =>
      rw [hcon] at hf
      injection hf with hf;injection hf with a b;subst a b
      have hnr:r ∉ rs0:=by simpa using hcon
      obtain ⟨b1,q1,q2,q3⟩:=zaW hh h2 hH
      refine ⟨b1++bs,by simp only [OL];exact ⟨u,us',b1,bs,rfl,rfl,q1,p1⟩,?_,fun b hb=>?_,fun r' hr'=>?_⟩
      ·refine List.nodup_append.2 ⟨q2,p2,fun a ha b hb hab=>?_⟩
       subst hab
       obtain ⟨s,hs,hs2⟩:=p3 a hb
       exact hnr ((zgR hh (q3 a ha) hs2 (hh.ne hH) (p4 s hs).2) ▸ hs)
      ·rcases List.mem_append.1 hb with hb|hb
       ·exact ⟨r,by simp,q3 b hb⟩
       ·obtain ⟨s,hs,hs2⟩:=p3 b hb;exact ⟨s,by simp [hs],hs2⟩
      ·rcases List.mem_cons.1 hr' with rfl|hr'
       ·exact ⟨(hh.node _ _ hH).1,hh.ne hH⟩
       ·exact p4 r' hr'
   all_goals
    injection hf with hf;injection hf with a b;subst a b
    refine ⟨bs,?_,p2,p3,p4⟩
    simp only [OL]
    exact ⟨u,us',[],bs,rfl,rfl,OV.of (ow:=X.ow) (w0:=X.w) trivial h2,p1⟩
theorem OL.ovlG {w:World}:∀ {xs cs:List T} {us vs:List Value} {bs bx:List Nat} (j:Nat),OL w cs vs bs→OL w xs us bx→j+xs.length≤cs.length→(∀ b ∈ bx,b ∉ bs)→bs.Nodup→bx.Nodup→∃ b',OL w (Go.Proofs.YtgmbkbggnlponaaGreatDoor.ovl cs j xs) (Go.Proofs.YtgmbkbggnlponaaGreatDoor.ovl vs j us) b'∧b'.Nodup∧∀ b ∈ b',b ∈ bs ∨ b ∈ bx
 | [],_,_,_,bs,bx,j,h,h2,_,_,hn,_=>by simp only [OL] at h2;obtain ⟨rfl,rfl⟩:=h2;exact ⟨bs,h,hn,fun b hb=>.inl hb⟩
 | x :: xs,cs,_,vs,bs,bx,j,h,h2,hj,hd,hn,hx=>by
   simp only [OL] at h2
   obtain ⟨u,us,b1,b2,rfl,rfl,h1,h3⟩:=h2
   simp at hj
   obtain ⟨u0,c1,c2,c3,q1,rfl,q2,q3⟩:=h.focus (List.getElem?_eq_getElem (show j<cs.length by omega))
   have q4:=q3 x u b1 h1
   have hx':=hx
   simp only [List.nodup_append] at hn hx'
   obtain ⟨n1,⟨n2,n3,n4⟩,n5⟩:=hn
   obtain ⟨x1,x2,x3⟩:=hx'
   have hnd:(c1++(b1++c3)).Nodup:=by
    simp only [List.nodup_append,List.mem_append]
    refine ⟨n1,⟨x1,n3,fun a ha b hb hab=>?_⟩,fun a ha b hb hab=>?_⟩
    ·subst hab;exact hd a (by simp [ha]) (by simp [hb])
    ·subst hab
     rcases hb with hb|hb
     ·exact hd a (by simp [hb]) (by simp [ha])
     ·exact n5 a ha a (by simp [hb]) rfl
   obtain ⟨b',r1,r2,r3⟩:=OL.ovlG (j+1) q4 h3 (by simp;omega) (fun b hb hm=>by
    simp only [List.mem_append] at hm
    rcases hm with hm|hm|hm
    ·exact hd b (by simp [hb]) (by simp [hm])
    ·exact x3 b hm b hb rfl
    ·exact hd b (by simp [hb]) (by simp [hm])) hnd x2
   refine ⟨b',r1,r2,fun b hb=>?_⟩
   rcases r3 b hb with h5|h5
   ·simp only [List.mem_append] at h5 ⊢
    rcases h5 with h5|h5|h5
    ·exact Or.inl (Or.inl h5)
    ·exact Or.inr (Or.inl h5)
    ·exact Or.inl (Or.inr (Or.inr h5))
   ·exact Or.inr (by simp [h5])
theorem OE.ovlG {w:World} {k:Nat} {es:List (List T)} {vs us:List Value} {bs bx:List Nat} {i j:Nat} {e xs:List T} (h:OE w k es vs bs) (he:es[i]?=some e) (hx:OL w xs us bx) (hj:j+xs.length≤k) (hd:∀ b ∈ bx,b ∉ bs) (hn:bs.Nodup) (hxn:bx.Nodup) :
 ∃ b',OE w k (es.set i (Go.Proofs.YtgmbkbggnlponaaGreatDoor.ovl e j xs)) (Go.Proofs.YtgmbkbggnlponaaGreatDoor.ovl vs (i * k+j) us) b'∧b'.Nodup∧∀ b ∈ b',b ∈ bs ∨ b ∈ bx:=by
 obtain ⟨b1,b2,b3,rfl,h1,h2,h3⟩:=h.focus he
 have hlu:us.length=xs.length:=hx.len
 have hle:((vs.drop (i * k)).take k).length=k:=by rw [List.length_take,List.length_drop];omega
 have hel:e.length=k:=by rw [← h1.len,hle]
 have hn':=hn
 simp only [List.nodup_append] at hn'
 obtain ⟨n1,⟨n2,n3,n4⟩,n5⟩:=hn'
 obtain ⟨b',q1,q2,q3⟩:=OL.ovlG j h1 hx (by omega) (fun b hb hm=>hd b hb (by simp [hm])) n2 hxn
 refine ⟨b1++(b'++b3),?_,?_,fun b hb=>?_⟩
 ·have:=h3 _ _ b' (by rw [z0H,hle]) q1
  have e1:vs.take (i * k)++Go.Proofs.YtgmbkbggnlponaaGreatDoor.ovl ((vs.drop (i * k)).take k) j us++vs.drop (i * k+k)=Go.Proofs.YtgmbkbggnlponaaGreatDoor.ovl vs (i * k+j) us:=by
   rw [z4y us vs (i * k+j) (by omega),z4y us _ j (by omega),List.take_take,Nat.min_eq_left (show j≤k by omega),List.drop_take,List.drop_drop]
   simp only [List.append_assoc]
   rw [← List.append_assoc (List.take (i * k) vs),← List.take_add]
   congr 1
   congr 1
   have e5:=List.take_append_drop (k-(j+us.length)) (vs.drop (i * k+(j+us.length)))
   rw [List.drop_drop,show i * k+(j+us.length)+(k-(j+us.length))=i * k+k by omega] at e5
   rw [show i * k+j+us.length=i * k+(j+us.length) by omega]
   exact e5
  rw [e1] at this
  exact this
 ·simp only [List.nodup_append,List.mem_append]
  refine ⟨n1,⟨q2,n3,fun a ha b hb hab=>?_⟩,fun a ha b hb hab=>?_⟩
  ·subst hab
   rcases q3 a ha with h|h
   ·exact n4 a h a hb rfl
   ·exact hd a h (by simp [hb])
  ·subst hab
   rcases hb with hb|hb
   ·rcases q3 a hb with h|h
    ·exact n5 a ha a (by simp [h]) rfl
    ·exact hd a h (by simp [ha])
   ·exact n5 a ha a (by simp [hb]) rfl
 ·simp only [List.mem_append] at hb ⊢
  rcases hb with h|h|h
  ·exact Or.inl (Or.inl h)
  ·rcases q3 b h with h|h
   ·exact Or.inl (Or.inr (Or.inl h))
   ·exact Or.inr h
  ·exact Or.inl (Or.inr (Or.inr h))
def Cx.ab (X:Cx) (r:Nat) (rs:List Nat):Cx :=
 { H:=updL X.H (z16 rs)
   ow:=fun b=>match X.ow b with
    | some q=>if q ∈ rs then some 0 else some q
    | none=>none
   iw:=fun b=>match X.ow b with
    | some q=>if q ∈ rs then r else if X.iw b ∈ rs then r else X.iw b
    | none=>X.iw b
   w:=X.w,us:=X.us }
theorem zfJ {X:Cx} (hh:HR X) {r:Nat} {rs:List Nat} (h0:0 ∉ rs) (hr0:r ≠ 0) (hru:X.us r) (hrn:r ∉ rs):Same X (X.ab r rs)∧HR (X.ab r rs)∧(∀ b q,q ∈ rs→(X.ow b=some q ∨ X.iw b=q)→(X.ab r rs).iw b=r)∧(∀ b q,q ∉ rs→X.ow b=some q→(X.ab r rs).ow b=some q)∧(∀ b,X.iw b=r→(X.ab r rs).iw b=r):=by
 have hHo:∀ a,(X.ab r rs).H a=if a ∈ rs then none else X.H a:=fun a=>z9q
 have how:∀ b q,q ∉ rs→X.ow b=some q→(X.ab r rs).ow b=some q:=fun b q h1 h2=>by
  show (match X.ow b with|some q=>if q ∈ rs then some 0 else some q|none=>none)=some q
  rw [h2];simp only;rw [if_neg h1]
 have hinv:∀ b i,(X.ab r rs).ow b=some i→(X.ow b=some i∧i ∉ rs) ∨ (i=0∧∃ q,X.ow b=some q∧q ∈ rs):=fun b i h=>by
  change (match X.ow b with|some q=>if q ∈ rs then some 0 else some q|none=>none)=some i at h
  split at h
  ·rename_i q hq
   split at h
   ·injection h with h;exact .inr ⟨h.symm,q,hq,by assumption⟩
   ·injection h with h;subst h;exact .inl ⟨hq,by assumption⟩
  ·cases h
 have hiwi:∀ b q,X.iw b=q→q ≠ 0→(X.ab r rs).iw b=if q ∈ rs then r else q:=fun b q h1 h2=>by
  show (match X.ow b with|some q=>if q ∈ rs then r else if X.iw b ∈ rs then r else X.iw b|none=>X.iw b)=_
  rw [(hh.inn b (by rw [h1];exact h2)).1];simp only
  rw [if_neg h0,h1]
 have hs:Same X (X.ab r rs):=by
  refine ⟨fun _ h=>h,rfl,rfl,rfl,Nat.le_refl _,fun b _ hb=>⟨?_,rfl⟩,fun a ha e' he'=>?_,fun b hb hb0=>⟨⟨how b 0 h0 hb,?_⟩,rfl⟩,fun a ha hne b hb=>⟨?_,fun C' t' fr' hC'=>⟨C',hC',rfl⟩⟩⟩
  ·show (match X.ow b with|some q=>_|none=>none)=none
   rw [hb]
  ·rw [hHo] at he'
   split at he'
   ·cases he'
   ·exact ⟨e',he',rfl⟩
  ·show (match X.ow b with|some q=>if q ∈ rs then r else if X.iw b ∈ rs then r else X.iw b|none=>X.iw b)=0
   rw [hb];simp only;rw [if_neg h0,hb0,if_neg h0]
  ·rw [hHo] at hne
   exact how b a (fun h=>hne (if_pos h)) hb
 refine ⟨hs,⟨fun a b x hx h1 h2=>?_,fun b a hb=>?_,fun a e' he'=>?_,?_,hh.pos,hh.gl.mono hs.stab,fun b hb=>?_⟩,fun b q hq h=>?_,how,fun b h=>?_⟩
 ·rw [hHo] at hx
  have hx0:x ≠ 0:=fun h=>by subst h;rw [if_neg h0] at hx;exact hx hh.zero
  rcases hinv a x h1 with ⟨p1,p2⟩|⟨p1,_⟩
  ·rcases hinv b x h2 with ⟨q1,q2⟩|⟨q1,_⟩
   ·rw [if_neg p2] at hx;exact hh.inj _ _ _ hx p1 q1
   ·exact absurd q1 hx0
  ·exact absurd p1 hx0
 ·rcases hinv b a hb with ⟨p1,_⟩|⟨p1,q,p2,_⟩
  ·exact hh.lt b a p1
  ·subst p1;exact ⟨(hh.lt b q p2).1,hh.pos⟩
 ·have he2:=he'
  rw [hHo] at he2
  split at he2
  ·cases he2
  ·rename_i ha
   obtain ⟨p1,p2⟩:=hh.node a e' he2
   exact ⟨p1,p2.mono hs p1 (by rw [he'];simp) (fun b _=>rfl) (fun b hb=>⟨by rw [hiwi b a hb (hh.ne he2),if_neg ha],rfl⟩)⟩
 ·rw [hHo,if_neg h0];exact hh.zero
 ·by_cases hq:∃ q,X.ow b=some q∧q ∈ rs
  ·obtain ⟨q,q1,q2⟩:=hq
   have h1:(X.ab r rs).iw b=r:=by
    show (match X.ow b with|some q=>if q ∈ rs then r else _|none=>X.iw b)=r
    rw [q1];simp only;rw [if_pos q2]
   rw [h1]
   refine ⟨?_,(hh.lt b q q1).1,hru⟩
   show (match X.ow b with|some q=>if q ∈ rs then some 0 else some q|none=>none)=some 0
   rw [q1];simp only;rw [if_pos q2]
  ·have hb0:X.iw b ≠ 0:=fun hz=>hb (by
    show (match X.ow b with|some q=>if q ∈ rs then r else if X.iw b ∈ rs then r else X.iw b|none=>X.iw b)=0
    split
    ·rename_i q q1
     rw [if_neg (fun h=>hq ⟨q,q1,h⟩),hz,if_neg h0]
    ·exact hz)
   obtain ⟨x1,x2,x3⟩:=hh.inn b hb0
   refine ⟨how b 0 h0 x1,x2,?_⟩
   rw [hiwi b _ rfl hb0]
   split
   ·exact hru
   ·exact x3
 ·rcases h with h|h
  ·show (match X.ow b with|some q=>if q ∈ rs then r else _|none=>X.iw b)=r
   rw [h];simp only;rw [if_pos hq]
  ·rw [hiwi b q h (fun hz=>h0 (hz ▸ hq)),if_pos hq]
 ·rw [hiwi b r h hr0,if_neg hrn]
theorem ze5 {X:Cx}:∀ {xs:List T} {us:List Value},RSl X xs us→xs.all (fun c=>match c with|.ref _=>false|.ptr _ _ _=>false|.rptr _ _=>false|.any=>false|.agg _=>false|.tup _=>false|.fnp _ _=>false|.fnq _ _ _=>false|_=>true)=true→RL X.ow X.w xs us
 | [],_,h,_=>by cases h;simp [RL]
 | c :: xs,_,⟨u0,us,hv,h1,h2,h3⟩,hf=>by
   subst hv
   simp only [List.all_cons,Bool.and_eq_true] at hf
   simp only [RL]
   refine ⟨_,_,rfl,?_,ze5 h3 hf.2⟩
   cases c<;>first|exact h2|(simp at hf)
section
variable {P:Program} {tt:TT} (htt:TtOk P tt) {X:Cx} {id:Nat} {K:Kon} (hh:HR X) (hi:Fresh X id)
include htt hh hi
theorem zfK {t:TypeId} {x:T} {v:Value} (hx:RS X x v) (h:Eff tt (.load t (.tmp 0)) 0 [x] X.H id K):Ran P X id K (do pure (.value (← Instr.loadAt t v))):=by
 simp only [Eff] at h
 split at h<;>try exact h.elim
 rename_i y hy
 split at h<;>try exact h.elim
 ·rename_i r i j
  obtain ⟨h1,_,h3⟩:=z69 hx
  split at h<;>try exact h.elim
  ·rename_i cs hH
   obtain ⟨rfl,h⟩:=h
   obtain ⟨g,hg,rfl⟩:=h3 _ hH
   obtain ⟨g',C,u,fr,hg',hC,hf,hl⟩:=(hh.node _ _ hH).2
   obtain rfl:=hh.inj' hH hg hg'
   have:=z5d (P:=P) hh hi (htt _ _ hy) (o:=0) hC hl (fun m v hm=>by simpa using hm) h
   simpa [Ent.wd] using this
  ·rename_i k es hH
   obtain ⟨e,he,h⟩:=h
   obtain ⟨g,hg,rfl⟩:=h3 _ hH
   obtain ⟨_,hn⟩:=(hh.node _ _ hH).2
   rcases hn with rfl|⟨g',C,u,fr,hg',hC,hf,hl⟩
   ·cases he
   ·obtain rfl:=hh.inj' hH hg hg'
    obtain ⟨hr,_⟩:=RE.get hl he
    exact z5d (P:=P) hh hi (htt _ _ hy) (o:=i * k) hC hr.rsl (fun m v hm=>by simpa using z17 hm) h
  ·rename_i k es l hH
   obtain ⟨hag,e,he,c,hc,h⟩:=h
   obtain ⟨g,hg,rfl⟩:=h3 _ hH
   simp only [Ent.wd]
   by_cases hown:∃ k2 es2,c=.own k2 es2
   ·obtain ⟨k2,es2,rfl⟩:=hown
    simp only at h
    obtain ⟨g',C,t',fr,u,hg',hC,hu,X',w1,w2,w3,w4,w5,w6⟩:=zcY hh hi hH he hc
    obtain rfl:=hh.inj' hH hg hg'
    refine Ran.value (z6e (htt _ _ hy) hag X.w hC hu) ⟨_,_,X',h,w1,w2,?_,w4,w5,w6⟩
    rw [w3];rfl
   ·have h:z24 c fun c=>K c []:=by
     cases c<;>first|exact h|exact absurd ⟨_,_,rfl⟩ hown
    obtain ⟨_,hn⟩:=(hh.node _ _ hH).2
    rcases hn with ⟨rfl,_⟩|⟨g',C,t',fr,bs,hg',hC,hf,hd,ho,hl,hq⟩
    ·simp at he
    obtain rfl:=hh.inj' hH hg hg'
    obtain ⟨b1,b2,b3,_,f1,_,_⟩:=hl.focus he
    obtain ⟨u,b,q1,q2⟩:=f1.get hc
    obtain ⟨_,q3,q4⟩:=q2.flat (fun k es hx=>hown ⟨k,es,hx⟩)
    have hcu:=z17 q1
    refine Ran.value (z6e (htt _ _ hy) hag X.w hC (by simpa using hcu)) (Out.same hh hi (z1R (K:=fun c=>K c []) h) ?_)
    exact (RV.rs0 (z3x q3 q4)).rs
 ·rename_i c j
  obtain ⟨g,o,C,u,fr,rfl,hg,hC,hr⟩:=z6a hx
  exact z5d (P:=P) hh hi (htt _ _ hy) hC hr.rsl (fun m v hm=>by simpa using z17 hm) h
theorem z8p {t:TypeId} {x i:T} {v u:Value} (hx:RS X x v) (hiv:RS X i u) (h:Eff tt (.indexAddr t (.tmp 0) (.tmp 1)) 0 [x,i] X.H id K):Ran P X id K (do pure (.value (← Instr.indexAt t v u))):=by
 simp only [Eff] at h
 split at h<;>try exact h.elim
 rename_i kk n y hy
 obtain rfl:=z1O hiv
 split at h<;>try exact h.elim
 ·rename_i e hd
  have hu:=z2P (htt _ _ hy) hd
  split at h<;>try exact h.elim
  rename_i ye hye
  have run:∀ (g o L c:Nat) (m:Nat),m<L→(Instr.indexAt t (.slice (some ⟨g,o,none⟩) L c) (.int kk (m:Int))).run P X.w=.ok (.pointer (some ⟨g,o+m * ye.sz,none⟩)) X.w:=fun g o L c m hm=>by
   have hm1:(0:Int)≤(m:Int)∧(m:Int)<(L:Int):=by omega
   simp [Instr.indexAt,run_underlying hu,asIntOf,hm1,z27 (htt _ _ hye),z2j]
   omega
  split at h<;>try exact h.elim
  ·rename_i r
   split at h<;>try exact h.elim
   rename_i k es hH
   obtain ⟨rfl,m,rfl,hm,h⟩:=h
   obtain ⟨h1,_,h3⟩:=z6b hx
   rcases h3 _ _ hH with ⟨_,h0⟩|⟨g,c,C,tb,fr,rfl,hg,hC,_⟩
   ·omega
   ·refine Ran.value (run g 0 es.length c m hm) (Out.same hh hi h ⟨h1,⟨_,rfl⟩,fun e' he'=>⟨g,hg,?_⟩⟩)
    rw [hH] at he';injection he' with he';subst he'
    simp [Ent.wd]
   rename_i k es l hH
   obtain ⟨rfl,m,rfl,hm,h⟩:=h
   obtain ⟨h1,_,h3⟩:=z6c hx
   rcases h3 _ _ _ hH with ⟨_,h0⟩|⟨g,c,C,tb,fr,rfl,hg,hC,_⟩
   ·omega
   ·refine Ran.value (run g 0 es.length c m hm) (Out.same hh hi h ⟨h1,⟨_,rfl⟩,fun e' he'=>⟨g,hg,?_⟩⟩)
    rw [hH] at he';injection he' with he';subst he'
    simp [Ent.wd]
  ·rename_i k es
   obtain ⟨rfl,m,e0,rfl,he,h⟩:=h
   have hx':RV X.ow X.w (.sl ye.sz es) v:=hx
   simp only [RV] at hx'
   obtain ⟨A,c,rfl,_,hx'⟩:=hx'
   have hm:=(List.getElem?_eq_some_iff.1 he).1
   rcases hx' with rfl|⟨g,o,C,tb,fr,rfl,hg,hC,hr⟩
   ·cases he
   ·obtain ⟨h5,h6⟩:=RE.get hr he
    have hel:=hr.elen e0 (List.mem_of_getElem? he)
    refine Ran.value (run g o es.length c m hm) (Out.same hh hi h ⟨g,o+m * ye.sz,C,tb,fr,rfl,hg,hC,?_⟩)
    rw [hel,← List.drop_drop];exact h5
 ·rename_i len e hd
  have hu:=z6d (htt _ _ hy) hd
  split at h<;>try exact h.elim
  rename_i ye hye
  obtain ⟨m,rfl,hm,h⟩:=h
  have run:∀ a:Addr,(Instr.indexAt t (.pointer (some a)) (.int kk (m:Int))).run P X.w=.ok (.pointer (some (a.add (m * ye.sz)))) X.w:=fun a=>by
   have hm1:(0:Int)≤(m:Int)∧(m:Int)<(len:Int):=by omega
   simp [Instr.indexAt,run_underlying hu,asIntOf,hm1,z27 (htt _ _ hye),Instr.sureAddr]
   omega
  split at h<;>try exact h.elim
  ·rename_i r i j
   obtain ⟨h1,⟨a,rfl⟩,h3⟩:=z69 hx
   refine Ran.value (run a) (Out.same hh hi h ⟨h1,⟨_,rfl⟩,fun e' he'=>?_⟩)
   obtain ⟨g,hg,hp⟩:=h3 _ he'
   injection hp with hp;injection hp with hp;subst hp
   exact ⟨g,hg,by rw [z2j,Nat.add_assoc]⟩
  ·rename_i c j
   obtain ⟨g,o,C,tb,fr,rfl,hg,hC,hr⟩:=z6a hx
   exact Ran.value (run _) (Out.same hh hi h ⟨g,o,C,tb,fr,by rw [z2j,Nat.add_assoc],hg,hC,hr⟩)
theorem ze6 {t:TypeId} {x i:T} {v u:Value} (hx:RS X x v) (hiv:RS X i u) (h:Eff tt (.index t (.tmp 0) (.tmp 1)) 0 [x,i] X.H id K):Ran P X id K (do pure (.value (← Instr.index t v u))):=by
 simp only [Eff] at h
 split at h<;>try exact h.elim
 ·rename_i kk n s y hy
  obtain rfl:=z1O hiv
  obtain rfl:=z3D hx
  split at h<;>try exact h.elim
  rename_i hd
  obtain ⟨m,rfl,hm,h⟩:=h
  refine Ran.value (v:=.int .u8 ((s.getD m 0).toNat:Int)) ?_ (Out.same hh hi h (z1S _ _ _))
  have hb:(bs s)[m]?=some (s.getD m 0):=by
   have h1:m<(bs s).size:=by rw [z19];exact hm
   rw [getElem?_pos (bs s) m h1]
   have h2:(bs s)[m]=s[m]:=rfl
   rw [h2];simp [List.getD,List.getElem?_eq_getElem hm];rfl
  simp [Instr.index,run_underlying (z2J (htt _ _ hy) hd),asIntOf,hb]
 ·rename_i kk n cs y hy
  obtain rfl:=z1O hiv
  split at h<;>try exact h.elim
  rename_i len e hd
  split at h<;>try exact h.elim
  rename_i ye hye
  obtain ⟨hag,hsz,m,rfl,hm,c,hc,h⟩:=h
  have h:=z1R (K:=fun c=>K c []) h
  obtain ⟨vs,rfl,hl⟩:=hx
  obtain ⟨u,hu,h1,h0⟩:=hl.get hc
  refine Ran.value (v:=u) ?_ (Out.same hh hi h h0.rs)
  have hu':vs[m]?=some u:=by simpa using hu
  have hpart:(part e vs m).run P X.w=.ok u X.w:=by simp [part,z9p (htt _ _ hye),hag,hu']
  have hlt:((m:Int)<(len:Int)):=by omega
  simp [Instr.index,run_underlying (z6d (htt _ _ hy) hd),asIntOf,z27 (htt _ _ hye),hsz,hlt,hpart]
  intro h9;omega
end
end Go.Proofs.YtgmbkbggnlponaaGreatDoor
namespace Go.Proofs.YtgmbkbggnlponaaGreatDoor
set_option linter.unusedVariables false
set_option linter.unusedSimpArgs false
set_option linter.unusedSectionVars false
open Go.RowKit Pl
theorem z8q {α:Type} [DecidableEq α] [BEq α] [LawfulBEq α] (a b:α):(a == b)=decide (a=b):=by rw [Bool.eq_iff_iff];simp
theorem z2q (a:Bs):(bs a).toList=a:=by rw [toList_data,z1Z]
theorem ze7 (a b:Bs):bs a++bs b=bs (a++b):=z5P (by rw [data_append,z1Z,z1Z,z1Z])
theorem zcZ (s:Bs) (i j:Nat):(bs s).extract i j=bs ((s.drop i).take (j-i)):=z5P (by rw [z2V,z1Z,z1Z])
section
variable {P:Program} {X:Cx} {id:Nat} {K:Kon} (hh:HR X) (hi:Fresh X id)
include hh hi
theorem zhi {op:BinOp} {t:TypeId} {x y:T} {v u:Value} {ox oy:Operand} (hx:RS X x v) (hy:RS X y u) (h:binT op x y fun r=>K r []) :
 Ran P X id K (do pure (.value (← (do eqGuard op t ox oy v u;binOp op t v u)))):=by
 cases x<;>cases y<;>simp only [binT] at h
 case int.int k a k' b =>
  obtain rfl:=z1O hx
  obtain rfl:=z1O hy
  rw [eqGuard_at_int]
  have fin:∀ {r:Int},K (.int k r) []→(binOp op t (.int k a) (.int k' b)).run P X.w=.ok (.int k r) X.w→Ran P X id K (do pure (.value (← (do pure ();binOp op t (.int k a) (.int k' b))))):=fun hk hr=>Ran.value (by simp [hr]) (Out.same hh hi hk (z1S _ _ _))
  have finb:∀ {r:Bool},K (.bool r) []→(binOp op t (.int k a) (.int k' b)).run P X.w=.ok (.bool r) X.w→Ran P X id K (do pure (.value (← (do pure ();binOp op t (.int k a) (.int k' b))))):=fun hk hr=>Ran.value (by simp [hr]) (Out.same hh hi hk (z2i _ _))
  cases op<;>simp only at h
  case shl=>obtain ⟨h1,h2,r,rfl,hk⟩:=h;exact fin hk (by rw [binOp_shl,shift_shl _ _ _ _ h1 h2];rfl)
  case shr=>obtain ⟨h1,h2,r,rfl,hk⟩:=h;exact fin hk (by rw [binOp_shr,shift_shr _ _ _ _ h1 h2];rfl)
  case add=>obtain ⟨rfl,r,rfl,hk⟩:=h;exact fin hk (by rw [binOp_add];rfl)
  case sub=>obtain ⟨rfl,r,rfl,hk⟩:=h;exact fin hk (by rw [binOp_sub];rfl)
  case mul=>obtain ⟨rfl,r,rfl,hk⟩:=h;exact fin hk (by rw [binOp_mul];rfl)
  case quo=>obtain ⟨rfl,hb,r,rfl,hk⟩:=h;exact fin hk (by rw [binOp_quo,Op.intDiv,if_neg hb];rfl)
  case rem=>obtain ⟨rfl,hb,r,rfl,hk⟩:=h;exact fin hk (by rw [binOp_rem,Op.intDiv,if_neg hb];rfl)
  case and=>obtain ⟨rfl,r,rfl,hk⟩:=h;exact fin hk (by rw [binOp_and,intBits_and];rfl)
  case or=>obtain ⟨rfl,r,rfl,hk⟩:=h;exact fin hk (by rw [binOp_or,intBits_or];rfl)
  case xor=>obtain ⟨rfl,r,rfl,hk⟩:=h;exact fin hk (by rw [binOp_xor,intBits_xor];rfl)
  case andNot=>obtain ⟨rfl,r,rfl,hk⟩:=h;exact fin hk (by rw [binOp_andNot,intBits_andNot];rfl)
  case eql=>obtain ⟨rfl,hk⟩:=h;exact finb hk (by rw [binOp_eql];simp [z8q])
  case neq=>obtain ⟨rfl,hk⟩:=h;exact finb hk (by rw [binOp_neq];simp [bne,z8q])
  case lss=>obtain ⟨rfl,hk⟩:=h;exact finb hk (by rw [binOp_lss];rfl)
  case leq=>obtain ⟨rfl,hk⟩:=h;exact finb hk (by rw [binOp_leq];rfl)
  case gtr=>obtain ⟨rfl,hk⟩:=h;exact finb hk (by rw [binOp_gtr];rfl)
  case geq=>obtain ⟨rfl,hk⟩:=h;exact finb hk (by rw [binOp_geq];rfl)
 case str.str a b =>
  obtain rfl:=z3D hx
  obtain rfl:=z3D hy
  rw [eqGuard_at_string]
  have hbin:binOp op t (.string (bs a)) (.string (bs b))=Op.stringOp op (bs a) (bs b):=by cases op<;>rfl
  rw [hbin]
  have finb:∀ {r:Bool},K (.bool r) []→(Op.stringOp op (bs a) (bs b)).run P X.w=.ok (.bool r) X.w→Ran P X id K (do pure (.value (← (do pure ();Op.stringOp op (bs a) (bs b))))):=fun hk hr=>Ran.value (by simp [hr]) (Out.same hh hi hk (z2i _ _))
  have hbeq:((bs a).toList == (bs b).toList)=decide (a=b):=by rw [z2q,z2q,z8q]
  cases op<;>simp only at h
  case add =>
   obtain ⟨hl,hk⟩:=h
   refine Ran.value (v:=.string (bs (a++b))) (w':=X.w) ?_ (Out.same hh hi hk (z4b _ _))
   have:¬ (((bs a).size+(bs b).size:Nat):Int) > IntKind.i64.max:=by rw [IntKind.max_i64,z19,z19];omega
   simp only [Op.stringOp,if_neg this]
   rw [← ze7];rfl
  case eql=>exact finb h (by simp only [Op.stringOp,hbeq];rfl)
  case neq=>exact finb h (by simp only [Op.stringOp,hbeq];rfl)
  case lss=>exact finb h (by simp only [Op.stringOp,z2q];rfl)
  case leq=>exact finb h (by simp only [Op.stringOp,hbeq];simp only [z2q];rfl)
  case gtr=>exact finb h (by simp only [Op.stringOp,hbeq];simp only [z2q];rfl)
  case geq=>exact finb h (by simp only [Op.stringOp,z2q];rfl)
  all_goals exact h.elim
 all_goals exact h.elim
theorem z9r:∀ {zs xs:List T} {us:List Value},z1b zs xs=true→RSl X xs us→us=xs.map zv
 | [],[],us,_,h=>h
 | [],_ :: _,_,h,_=>by simp [z1b] at h
 | z :: zs,[],_,h,_=>by cases z<;>simp [z1b] at h
 | z :: zs,x :: xs,us,h,⟨u,us',hu,_,h2,h3⟩=>by
   subst hu
   cases z<;>cases x<;>simp only [z1b,Bool.and_eq_true] at h<;>try (cases h;done)
   case int.int k n k' n'=>rw [z9r h.2 h3];have:u=.int k' n':=by simpa [RS0,RV] using h2
                           subst this;rfl
   case bool.bool a b=>rw [z9r h h3];have:u=.bool b:=by simpa [RS0,RV] using h2
                       subst this;rfl
   case str.str a b=>rw [z9r h h3];have:u=.string (bs b):=by simpa [RS0,RV] using h2
                     subst this;rfl
omit hh hi in
theorem z2X (w:World) (d:Nat):∀ {fs:List Field} {i:Nat} {zs xs ys:List T} {A B:Array Value},zfI P fs i zs→z1b zs xs=true→z1b zs ys=true→A.toList.drop i=xs.map zv→B.toList.drop i=ys.map zv →
 (Op.eqFields (d+1) A B fs).run P w=.ok (eqC xs ys) w
 | [],i,zs,xs,ys,A,B,hf,hx,hy,hA,hB=>by
   have:zs=[]:=hf
   subst this
   cases xs<;>cases ys<;>simp [z1b] at hx hy
   rfl
 | f :: fs,i,[],xs,ys,A,B,hf,hx,hy,hA,hB=>hf.elim
 | f :: fs,i,z :: zs,xs,ys,A,B,⟨hn,ho,hu,hf⟩,hx,hy,hA,hB=>by
   cases xs with
   | nil=>cases z<;>simp [z1b] at hx
   | cons x xs=>cases ys with
     | nil=>cases z<;>simp [z1b] at hy
     | cons y ys =>
       have hA1:A[i]?=some (zv x):=by
        have:=congrArg (·[0]?) hA
        simpa using this
       have hB1:B[i]?=some (zv y):=by
        have:=congrArg (·[0]?) hB
        simpa using this
       have hA2:A.toList.drop (i+1)=xs.map zv:=by rw [← List.drop_drop,hA];rfl
       have hB2:B.toList.drop (i+1)=ys.map zv:=by rw [← List.drop_drop,hB];rfl
       simp only [Op.eqFields,ho]
       rw [if_pos hn]
       cases z<;>cases x<;>simp only [z1b,Bool.and_eq_true] at hx<;>try (cases hx;done)
       all_goals (cases y<;>simp only [z1b,Bool.and_eq_true] at hy<;>try (cases hy;done))
       case int.int.int k n k1 n1 k2 n2 =>
        have e1:k1=k2:=(of_decide_eq_true hx.1).symm.trans (of_decide_eq_true hy.1)
        subst e1
        have ih:=z2X w d hf hx.2 hy.2 hA2 hB2
        have p:∀ (C:Array Value) (v:Value),C[i]?=some v→(part f.type C i).run P w=.ok v w:=fun C v hC=>by simp [part,isAgg,run_underlying hu,hC]
        simp only [Sem.run_bind,p _ _ hA1,p _ _ hB1,Result.andThen_ok,zv,run_equalIn_int _ _ _ _ _ _ _ hu,eqC]
        by_cases h:n1=n2
        ·subst h;simp [ih]
        ·simp [h]
       case bool.bool.bool b b1 b2 =>
        have ih:=z2X w d hf hx hy hA2 hB2
        have p:∀ (C:Array Value) (v:Value),C[i]?=some v→(part f.type C i).run P w=.ok v w:=fun C v hC=>by simp [part,isAgg,run_underlying hu,hC]
        simp only [Sem.run_bind,p _ _ hA1,p _ _ hB1,Result.andThen_ok,zv,run_equalIn_bool' _ _ _ _ _ hu,eqC]
        by_cases h:b1=b2
        ·subst h;simp [ih]
        ·simp [h]
       case str.str.str s s1 s2 =>
        have ih:=z2X w d hf hx hy hA2 hB2
        have p:∀ (C:Array Value) (v:Value),C[i]?=some v→(part f.type C i).run P w=.ok v w:=fun C v hC=>by simp [part,isAgg,run_underlying hu,hC]
        simp only [Sem.run_bind,p _ _ hA1,p _ _ hB1,Result.andThen_ok,zv,run_equalIn_string _ _ _ _ _ hu,eqC,z2q]
        by_cases h:s1=s2
        ·subst h;simp [ih]
        ·simp [h]
omit hh hi in
theorem z3E:∀ {us zs xs:List T},z1b (us++zs) xs=true→∃ xs1 xs2,xs=xs1++xs2∧z1b us xs1=true∧z1b zs xs2=true
 | [],zs,xs,h=>⟨[],xs,rfl,rfl,h⟩
 | u :: us,zs,[],h=>by cases u<;>simp [z1b] at h
 | u :: us,zs,x :: xs,h=>by
   have h:z1b (u :: (us++zs)) (x :: xs)=true:=h
   cases u<;>cases x<;>simp only [z1b,Bool.and_eq_true] at h<;>try (cases h;done)
   case int.int k n k' n' =>
    obtain ⟨x1,x2,rfl,h1,h2⟩:=z3E h.2
    exact ⟨_ :: x1,x2,rfl,by simp only [z1b,Bool.and_eq_true];exact ⟨h.1,h1⟩,h2⟩
   case bool.bool p q =>
    obtain ⟨x1,x2,rfl,h1,h2⟩:=z3E h
    exact ⟨_ :: x1,x2,rfl,by simp only [z1b];exact h1,h2⟩
   case str.str p q =>
    obtain ⟨x1,x2,rfl,h1,h2⟩:=z3E h
    exact ⟨_ :: x1,x2,rfl,by simp only [z1b];exact h1,h2⟩
omit hh hi in
theorem z4B:∀ {us xs:List T},z1b us xs=true→xs.length=us.length
 | [],[],_=>rfl
 | [],_ :: _,h=>by simp [z1b] at h
 | u :: us,[],h=>by cases u<;>simp [z1b] at h
 | u :: us,x :: xs,h=>by
   cases u<;>cases x<;>simp only [z1b,Bool.and_eq_true] at h<;>try (cases h;done)
   all_goals first
    | (rw [List.length_cons,List.length_cons,z4B h.2];done)
    | (rw [List.length_cons,List.length_cons,z4B h];done)
omit hh hi in
theorem z8r:∀ {us xs1 ys1 xs2 ys2:List T},z1b us xs1=true→z1b us ys1=true→eqC (xs1++xs2) (ys1++ys2)=(eqC xs1 ys1&&eqC xs2 ys2)
 | [],[],[],_,_,_,_=>by simp [eqC]
 | [],_ :: _,_,_,_,h,_=>by simp [z1b] at h
 | [],[],_ :: _,_,_,_,h=>by simp [z1b] at h
 | u :: us,[],_,_,_,h,_=>by cases u<;>simp [z1b] at h
 | u :: us,_ :: _,[],_,_,_,h=>by cases u<;>simp [z1b] at h
 | u :: us,x :: xs,y :: ys,xs2,ys2,hx,hy=>by
   cases u<;>cases x<;>simp only [z1b,Bool.and_eq_true] at hx<;>try (cases hx;done)
   all_goals (cases y<;>simp only [z1b,Bool.and_eq_true] at hy<;>try (cases hy;done))
   case int.int.int=>simp only [List.cons_append,eqC,z8r hx.2 hy.2,Bool.and_assoc]
   case bool.bool.bool=>simp only [List.cons_append,eqC,z8r hx hy,Bool.and_assoc]
   case str.str.str=>simp only [List.cons_append,eqC,z8r hx hy,Bool.and_assoc]
omit hh hi in
theorem zhj (w:World) {n:Nat} {fs:List Field} {i:Nat} {zs:List T} (hf:FlatN P n fs i zs):∀ (d:Nat) {xs ys:List T} {A B:Array Value},n≤d→z1b zs xs=true→z1b zs ys=true→A.toList.drop i=xs.map zv→B.toList.drop i=ys.map zv →
 (Op.eqFields (d+1) A B fs).run P w=.ok (eqC xs ys) w:=by
 induction hf with
 | flat h=>intro d xs ys A B _ hx hy hA hB;exact z2X w d h hx hy hA hB
 | @cell n f fs i z zs hn ho hu hf ih =>
   intro d xs ys A B hd hx hy hA hB
   cases xs with
   | nil=>cases z<;>simp [z1b] at hx
   | cons x xs=>cases ys with
     | nil=>cases z<;>simp [z1b] at hy
     | cons y ys =>
       have hA1:A[i]?=some (zv x):=by
        have:=congrArg (·[0]?) hA
        simpa using this
       have hB1:B[i]?=some (zv y):=by
        have:=congrArg (·[0]?) hB
        simpa using this
       have hA2:A.toList.drop (i+1)=xs.map zv:=by rw [← List.drop_drop,hA];rfl
       have hB2:B.toList.drop (i+1)=ys.map zv:=by rw [← List.drop_drop,hB];rfl
       simp only [Op.eqFields,ho]
       rw [if_pos hn]
       cases z<;>cases x<;>simp only [z1b,Bool.and_eq_true] at hx<;>try (cases hx;done)
       all_goals (cases y<;>simp only [z1b,Bool.and_eq_true] at hy<;>try (cases hy;done))
       case int.int.int k n k1 n1 k2 n2 =>
        have e1:k1=k2:=(of_decide_eq_true hx.1).symm.trans (of_decide_eq_true hy.1)
        subst e1
        have ih:=ih d hd hx.2 hy.2 hA2 hB2
        have p:∀ (C:Array Value) (v:Value),C[i]?=some v→(part f.type C i).run P w=.ok v w:=fun C v hC=>by simp [part,isAgg,run_underlying hu,hC]
        simp only [Sem.run_bind,p _ _ hA1,p _ _ hB1,Result.andThen_ok,zv,run_equalIn_int _ _ _ _ _ _ _ hu,eqC]
        by_cases h:n1=n2
        ·subst h;simp [ih]
        ·simp [h]
       case bool.bool.bool b b1 b2 =>
        have ih:=ih d hd hx hy hA2 hB2
        have p:∀ (C:Array Value) (v:Value),C[i]?=some v→(part f.type C i).run P w=.ok v w:=fun C v hC=>by simp [part,isAgg,run_underlying hu,hC]
        simp only [Sem.run_bind,p _ _ hA1,p _ _ hB1,Result.andThen_ok,zv,run_equalIn_bool' _ _ _ _ _ hu,eqC]
        by_cases h:b1=b2
        ·subst h;simp [ih]
        ·simp [h]
       case str.str.str s s1 s2 =>
        have ih:=ih d hd hx hy hA2 hB2
        have p:∀ (C:Array Value) (v:Value),C[i]?=some v→(part f.type C i).run P w=.ok v w:=fun C v hC=>by simp [part,isAgg,run_underlying hu,hC]
        simp only [Sem.run_bind,p _ _ hA1,p _ _ hB1,Result.andThen_ok,zv,run_equalIn_string _ _ _ _ _ hu,eqC,z2q]
        by_cases h:s1=s2
        ·subst h;simp [ih]
        ·simp [h]
 | @sub n f fs i G us zs hn ho hu hst hsz hG hf ihG ih =>
   intro d xs ys A B hd hx hy hA hB
   obtain ⟨d,rfl⟩:∃ m,d=m+1:=⟨d-1,by omega⟩
   obtain ⟨x1,x2,rfl,hx1,hx2⟩:=z3E hx
   obtain ⟨y1,y2,rfl,hy1,hy2⟩:=z3E hy
   have lx:=z4B hx1
   have ly:=z4B hy1
   have cut:∀ (C:Array Value) (z1 z2:List T),z1.length=us.length→C.toList.drop i=(z1++z2).map zv→(C.extract i (i+us.length)).toList.drop 0=z1.map zv∧C.toList.drop (i+us.length)=z2.map zv:=fun C z1 z2 hl hC=>by
    refine ⟨?_,?_⟩
    ·rw [List.drop_zero,Array.toList_extract,List.extract_eq_take_drop,hC,List.map_append,List.take_append_of_le_length (by rw [List.length_map];omega),List.take_of_length_le (by rw [List.length_map];omega)]
    ·rw [← List.drop_drop,hC,List.map_append,List.drop_append_of_le_length (by rw [List.length_map];omega),List.drop_of_length_le (by rw [List.length_map];omega),List.nil_append]
   obtain ⟨a1,a2⟩:=cut A x1 x2 lx hA
   obtain ⟨b1,b2⟩:=cut B y1 y2 ly hB
   have hfo:P.fieldsOf f.type=G:=by simp [Program.fieldsOf,hu]
   have p:∀ (C:Array Value),(part f.type C i).run P w=.ok (.agg (C.extract i (i+us.length))) w:=fun C=>by simp [part,isAgg,run_underlying hu,hsz]
   have e:=run_equalIn_agg w (d+1) f.type (A.extract i (i+us.length)) (B.extract i (i+us.length)) (by rw [hfo];exact hu) hst
   rw [hfo] at e
   simp only [Op.eqFields,ho]
   rw [if_pos hn]
   have ihG:=ihG d (by omega) hx1 hy1 a1 b1
   have ih:=ih (d+1) hd hx2 hy2 a2 b2
   rw [z8r hx1 hy1]
   simp only [Sem.run_bind,p,Result.andThen_ok,e,ihG]
   cases h:eqC x1 y1
   ·simp
   ·simp [ih]
theorem zfL {tt:TT} (htt:TtOk P tt) {op:BinOp} {t:TypeId} {xs ys:List T} {v u:Value} {ox oy:Operand} (hx:RS X (.agg xs) v) (hy:RS X (.agg ys) u) (h:eqT tt op t xs ys fun r=>K r []) :
 Ran P X id K (do pure (.value (← (do eqGuard op t ox oy v u;binOp op t v u)))):=by
 unfold eqT at h
 split at h<;>try exact h.elim
 rename_i y hty
 obtain ⟨hc,h1,h2,h⟩:=h
 obtain ⟨g1,g2,F,g3,n4,n5,g4⟩:=(htt _ _ hty).cm hc
 obtain ⟨vs,rfl,hl⟩:=hx
 obtain ⟨us,rfl,hr⟩:=hy
 have e1:=z9r hh hi h1 hl
 have e2:=z9r hh hi h2 hr
 have hfo:P.fieldsOf t=F:=by simp [Program.fieldsOf,g3]
 have key:(Op.equalIn 10000 t (.agg vs) (.agg us)).run P X.w=.ok (eqC xs ys) X.w:=by
  rw [run_equalIn_agg _ _ _ _ _ (by rw [hfo];exact g3) g2,hfo]
  exact zhj X.w g4 9998 (by omega) h1 h2 (by simpa using e1) (by simpa using e2)
 cases op<;>simp only at h<;>try exact h.elim
 ·exact Ran.value (v:=.bool (eqC xs ys)) (by simp [run_eqGuard_agg _ _ _ _ _ _ _ g1,run_eql_struct,key]) (Out.same hh hi h (z2i _ _))
 ·exact Ran.value (v:=.bool (!eqC xs ys)) (by simp [run_eqGuard_agg _ _ _ _ _ _ _ g1,run_neq_struct,key]) (Out.same hh hi h (z2i _ _))
theorem zfM {tt:TT} (htt:TtOk P tt) {op:BinOp} {t:TypeId} {a b:Bool} {v u:Value} {ox oy:Operand} (hx:RS X (.bool a) v) (hy:RS X (.bool b) u) (h:eqB tt op t a b fun r=>K r []) :
 Ran P X id K (do pure (.value (← (do eqGuard op t ox oy v u;binOp op t v u)))):=by
 obtain rfl:=z3C hx
 obtain rfl:=z3C hy
 unfold eqB at h
 split at h<;>try exact h.elim
 rename_i y hty
 split at h<;>try exact h.elim
 rename_i hd
 have hu:P.underlying t=some .bool:=by
  obtain ⟨d,h1,h2⟩:=(htt _ _ hty).und
  rw [hd] at h2
  cases d<;>simp [TD.of] at h2
  exact h1
 rw [eqGuard_at_bool]
 have key:(Op.equal t (.bool a) (.bool b)).run P X.w=.ok (decide (a=b)) X.w:=by
  have:=run_equalIn_bool' (P:=P) X.w 9999 t a b hu
  rw [z8q] at this;exact this
 cases op<;>simp only at h<;>try exact h.elim
 ·exact Ran.value (v:=.bool (decide (a=b))) (by simp [binOp,key]) (Out.same hh hi h (z2i _ _))
 ·exact Ran.value (v:=.bool (!decide (a=b))) (by simp [binOp,key]) (Out.same hh hi h (z2i _ _))
theorem eff_un {op:UnOp} {x:T} {v:Value} (hx:RS X x v) (h:unT op x fun r=>K r []):Ran P X id K (do pure (.value (← Op.unary op v))):=by
 cases op<;>cases x<;>simp only [unT] at h
 case not.bool b=>obtain rfl:=z3C hx;exact Ran.value (v:=.bool !b) rfl (Out.same hh hi h (z2i _ _))
 case neg.int k n=>obtain rfl:=z1O hx;obtain ⟨r,rfl,h⟩:=h;exact Ran.value (v:=.int k _) rfl (Out.same hh hi h (z1S _ _ _))
 case xor.int k n=>obtain rfl:=z1O hx;obtain ⟨r,rfl,h⟩:=h;exact Ran.value (v:=.int k _) rfl (Out.same hh hi h (z1S _ _ _))
 all_goals exact h.elim
theorem zbS {x:T} {v:Value} (hx:RS X x v) (h:z24 x fun x=>K x []):Ran P X id K (pure (.value v)) :=
 ⟨_,v,X.w,rfl,.inl rfl,Out.same hh hi (z1R (K:=fun x=>K x []) h) hx⟩
theorem zfN {c a b:T} {vc va vb:Value} (hc:RS X c vc) (ha:RS X a va) (hb:RS X b vb) (h:zcW c (z24 a fun a=>K a []) (z24 b fun b=>K b [])):Ran P X id K (do pure (.value (if ← asBool vc then va else vb))):=by
 cases c<;>simp only [zcW] at h
 case bool b0 =>
  obtain rfl:=z3C hc
  cases b0
  ·exact ⟨_,vb,X.w,by simp [asBool],.inl rfl,Out.same hh hi (z1R (K:=fun x=>K x []) (h.2 rfl)) hb⟩
  ·exact ⟨_,va,X.w,by simp [asBool],.inl rfl,Out.same hh hi (z1R (K:=fun x=>K x []) (h.1 rfl)) ha⟩
 all_goals exact h.elim
theorem zaX {x:T} {v:Value} {i:Nat} {tt:TT} (hx:RS X x v) (h:Eff tt (.extract (.tmp 0) i) 0 [x] X.H id K):Ran P X id K (do pure (.value (← Instr.extract v i))):=by
 simp only [Eff] at h
 split at h<;>try exact h.elim
 rename_i cs
 split at h<;>try exact h.elim
 rename_i c hc
 obtain ⟨vs,rfl,hl⟩:∃ vs,v=.tuple vs∧RSt X cs vs.toList:=hx
 have:∃ u,vs[i]?=some u∧RS1 X c u:=by
  have key:∀ (cs:List T) (us:List Value) (i:Nat),RSt X cs us→cs[i]?=some c→∃ u,us[i]?=some u∧RS1 X c u:=by
   intro cs
   induction cs with
   | nil=>intro us i _ hc;simp at hc
   | cons c0 cs ih =>
     rintro us i ⟨u0,us,rfl,h1,h2⟩ hc
     cases i with
     | zero=>simp at hc;subst hc;exact ⟨u0,rfl,h1⟩
     | succ i=>simp at hc;simpa using ih us i h2 hc
  simpa using key cs vs.toList i hl hc
 obtain ⟨u,hu,h1⟩:=this
 exact Ran.value (v:=u) (w':=X.w) (by simp [Instr.extract,hu]) (Out.same hh hi (z1R (K:=fun c=>K c []) h) h1.rs)
theorem z9s {x:T} {v:Value} {tt:TT} {o:Operand} {ρ:Operand→Value} (hρ:ρ o=v) (hx:RS X x v) (h:Eff tt (.nilCheck o) 0 [x] X.H id K):∃ a,v=.pointer (some a)∧Out X id K v X.w:=by
 simp only [Eff] at h
 split at h<;>try exact h.elim
 ·obtain ⟨h1,⟨a,rfl⟩,h3⟩:=z69 hx
  exact ⟨a,rfl,Out.same hh hi h hx⟩
 ·obtain ⟨g,o,C,t,fr,rfl,h3⟩:=z6a hx
  exact ⟨_,rfl,Out.same hh hi h hx⟩
end
end Go.Proofs.YtgmbkbggnlponaaGreatDoor
namespace Go.Proofs.YtgmbkbggnlponaaGreatDoor
set_option linter.unusedVariables false
set_option linter.unusedSimpArgs false
set_option linter.unusedSectionVars false
open Go.RowKit Pl
theorem zbT {P:Program} {tt:TT} (htt:TtOk P tt) {e:TypeId} (h:isU8 tt e=true):P.underlying e=some (.int .u8):=by
 unfold isU8 at h
 split at h<;>try (cases h;done)
 rename_i y hy
 split at h<;>try (cases h;done)
 rename_i hd
 exact zaU (htt _ _ hy) hd
theorem z4f {P:Program} {tt:TT} (htt:TtOk P tt) {t:TypeId} {y:Ty} (hy:tt t=some y) (h:z66 tt y=true):∃ e,P.underlying t=some (.slice e)∧P.underlying e=some (.int .u8):=by
 unfold z66 at h
 split at h<;>try (cases h;done)
 rename_i e hd
 exact ⟨e,z2P (htt _ _ hy) hd,zbT htt h⟩
theorem z33 {P:Program} {tt:TT} (htt:TtOk P tt) {t:TypeId} {y:Ty} (hy:tt t=some y) (h:z9n y=true):P.underlying t=some .string:=by
 unfold z9n at h
 split at h<;>try (cases h;done)
 rename_i hd
 exact z2J (htt _ _ hy) hd
theorem z1c {P:Program} {tt:TT} (htt:TtOk P tt) {t:TypeId} {y:Ty} {k:Nat} (hy:tt t=some y) (h:z1g tt y=some k):∃ e ye,P.underlying t=some (.slice e)∧tt e=some ye∧ye.sz=k:=by
 unfold z1g at h
 split at h<;>try (cases h;done)
 rename_i e hd
 split at h<;>try (cases h;done)
 rename_i ye hye
 injection h with h
 exact ⟨e,ye,z2P (htt _ _ hy) hd,hye,h⟩
theorem z8s {ow:Own} {w:World}:∀ (l:Bs),RE ow w 1 (z0f l) (l.map fun b=>Value.int .u8 (b.toNat:Int))
 | []=>by simp [z0f,RE]
 | b :: l=>by
   simp only [z0f,List.map_cons,RE]
   exact ⟨[.int .u8 (b.toNat:Int)],_,rfl,rfl,by simp [z49,RL,RV],z8s l⟩
theorem zbU {ow:Own} {w:World} {k:Nat}:∀ {l:Bs} {vs:List Value},RE ow w k (z0f l) vs→l ≠ []→k=1∧∀ j:Nat,(h:j<l.length)→vs[j]?=some (.int .u8 (l[j].toNat:Int))
 | [],_,_,h=>absurd rfl h
 | b :: l,vs,h,_=>by
   simp only [z0f,List.map_cons,RE] at h
   obtain ⟨us,rest,rfl,hk,h1,h2⟩:=h
   have hk1:k=1:=by rw [← hk,h1.len];rfl
   subst hk1
   simp only [z49,RL,RV] at h1
   obtain ⟨u,us',rfl,rfl,rfl⟩:=h1
   refine ⟨rfl,fun j hj=>?_⟩
   cases j with
   | zero=>rfl
   | succ j =>
     simp at hj
     have:=(zbU (l:=l) h2 (by intro e;subst e;simp at hj)).2 j hj
     simpa using this
section
variable {P:Program} {tt:TT} (htt:TtOk P tt) {X:Cx} {id:Nat} {K:Kon} (hh:HR X) (hi:Fresh X id)
include htt hh hi
theorem z3Y {src dst:TypeId} (hs:∃ e,P.underlying src=some (.slice e)∧P.underlying e=some (.int .u8)) (hd:P.underlying dst=some .string) {l:Bs} {A:Option Addr} {c:Nat} {k:Nat}
 (hA:z0f l=[] ∨ ∃ g o C t fr,A=some ⟨g,o,none⟩∧X.w.heap[g]?=some (.cells C t fr)∧RE X.ow X.w k (z0f l) (C.toList.drop o)) (h:K (.str l) []) :
 Ran P X id K (do pure (.value (← convert src dst (.slice A (z0f l).length c)))):=by
 obtain ⟨e,hsu,he⟩:=hs
 refine Ran.value (v:=.string (bs l)) (w':=X.w) ?_ (Out.same hh hi h (z4b _ _))
 have hlen:(z0f l).length=l.length:=by simp [z0f]
 rw [hlen]
 by_cases hl:l=[]
 ·subst hl
  cases A with
  | none=>exact run_convert_bytes_nil X.w _ _ hsu he _ _ _ hd
  | some a=>exact run_convert_bytes_back X.w _ _ _ a c [] hsu he hd (fun j hj=>by simp at hj)
 ·rcases hA with hA|⟨g,o,C,t,fr,rfl,hC,hr⟩
  ·exact absurd (by cases l with|nil=>rfl|cons b l=>simp [z0f] at hA) hl
  ·obtain ⟨rfl,hj⟩:=zbU hr hl
   refine run_convert_bytes_back X.w _ _ _ _ c l hsu he hd (fun j hjl=>?_)
   rw [z2j]
   have:=hj j hjl
   rw [List.getElem?_drop] at this
   simpa [World.cell?,hC] using this
theorem zaY {t:TypeId} {x:T} {v:Value} {ox:Operand} (hx:RS X x v) (h:Eff tt (.makeInterface t ox) 0 [x] X.H id K):Ran P X id K (do pure (.value (← Instr.makeInterface t v))):=by
 simp only [Eff] at h
 split at h<;>try exact h.elim
 rename_i y hy
 obtain ⟨d,hsu,hds⟩:=(htt _ _ hy).und
 obtain ⟨hs,h⟩:=h
 have hrun:∀ u w,(Instr.makeInterface t u).run P w=.ok (.iface t u) w:=fun u w=>by
  unfold z1g at hs
  cases d<;>simp only [TD.of] at hds<;>(rw [← hds] at hs)<;>first|(simp at hs;done)|(simp [Instr.makeInterface,run_underlying hsu])
 split at h<;>try exact h.elim
 rename_i r
 split at h<;>try exact h.elim
 ·rename_i k es hH
  obtain ⟨n,rfl,h⟩:=h
  obtain ⟨_,_,hr⟩:=z6b hx
  have hv:∃ A c,v=.slice A es.length c:=by
   rcases hr k es hH with ⟨rfl,h0⟩|⟨g,c,C,t',fr,rfl,_⟩
   ·exact ⟨none,0,by rw [h0];rfl⟩
   ·exact ⟨_,_,rfl⟩
  obtain ⟨A,c,rfl⟩:=hv
  exact Ran.value (v:=.iface t (.slice A es.length c)) (by simp [hrun]) (Out.same hh hi h (RV.rs0 (x:=.ifz t es.length) (by simp only [RV];exact ⟨A,c,rfl⟩)).rs)
 ·rename_i k es l hH
  obtain ⟨n,rfl,h⟩:=h
  obtain ⟨_,_,hr⟩:=z6c hx
  have hv:∃ A c,v=.slice A es.length c:=by
   rcases hr k es l hH with ⟨rfl,h0⟩|⟨g,c,C,t',fr,rfl,_⟩
   ·exact ⟨none,0,by rw [h0];rfl⟩
   ·exact ⟨_,_,rfl⟩
  obtain ⟨A,c,rfl⟩:=hv
  exact Ran.value (v:=.iface t (.slice A es.length c)) (by simp [hrun]) (Out.same hh hi h (RV.rs0 (x:=.ifz t es.length) (by simp only [RV];exact ⟨A,c,rfl⟩)).rs)
theorem zaZ {src dst:TypeId} {x:T} {v:Value} {ox:Operand} (hx:RS X x v) (h:Eff tt (.convert src dst ox) 0 [x] X.H id K):Ran P X id K (do pure (.value (← convert src dst v))):=by
 simp only [Eff] at h
 split at h<;>try exact h.elim
 rename_i ys yd hys hyd
 obtain ⟨ds,hsu,hds⟩:=(htt _ _ hys).und
 split at h<;>try exact h.elim
 ·rename_i k k' n hd
  obtain rfl:=z1O hx
  obtain ⟨r,rfl,h⟩:=h
  have hdu:=zaU (htt _ _ hyd) hd
  exact Ran.value (v:=.int k (k.wrap n)) (by simp [convert,run_underlying hsu,run_underlying hdu,Conv.intToInt]) (Out.same hh hi h (z1S _ _ _))
 ·rename_i s hd
  obtain rfl:=z3D hx
  have hdu:=z2J (htt _ _ hyd) hd
  exact Ran.value (v:=.string (bs s)) (by simp [convert,run_underlying hsu,run_underlying hdu]) (Out.same hh hi h (z4b _ _))
 ·rename_i e s hd
  obtain ⟨hst,h8,hl,h⟩:=h
  obtain rfl:=z3D hx
  have hdu:=z2P (htt _ _ hyd) hd
  have heu:=zbT htt h8
  have hcn:=grownCap_ge X.w (bs s).size 0 e
  have hcm:grownCap X.w (bs s).size 0 e≤maxLen:=grownCap_le_maxLen X.w _ 0 e (by rw [z19];unfold maxLen;omega)
  have hrun:=run_bytes_of_string (P:=P) X.w src dst e (bs s) (z33 htt hys hst) hdu heu
  generalize grownCap X.w (bs s).size 0 e=c at hcn hcm hrun
  rw [z19] at hrun hcn
  have hd0:(bs s).data.toList=s:=z1Z s
  have hd1:(bs s).data.size=s.length:=by rw [← Array.length_toList,hd0]
  have hsz:(bytesRow (bs s) c).size=c:=by simp only [bytesRow,Array.size_append,Array.size_map,Array.size_replicate,z19,hd1];omega
  refine Ran.value hrun (Out.newRow hh hi (k:=1) X.w.drew rfl rfl rfl rfl h (by omega) (by simp [z0f]) (by omega) hcn hcm (.inr (Nat.le_refl _)) ?_)
  exact (z8s (ow:=X.ow) (w:=X.w) s).ext (us:=(bytesRow (bs s) c).toList) ⟨List.replicate (c-s.length) (.int .u8 0),by simp only [bytesRow,Array.toList_append,Array.toList_map,Array.toList_replicate,hd0,z19];rw [List.take_of_length_le (by simp [z0f])]⟩
 ·rename_i r hd
  split at h<;>try exact h.elim
  rename_i k es hH
  obtain ⟨h8,l,rfl,h⟩:=h
  obtain ⟨h1,_,h3⟩:=z6b hx
  have hb:=z4f htt hys h8
  have hdu:=z2J (htt _ _ hyd) hd
  rcases h3 _ _ hH with ⟨rfl,h0⟩|⟨g,c,C,t,fr,rfl,hg,hC,_⟩
  ·have:z0f l=[]:=List.eq_nil_of_length_eq_zero h0
   have:=z3Y htt hh hi (A:=none) (c:=0) (k:=k) hb hdu (.inl this) h
   rw [h0] at this;exact this
  ·obtain ⟨_,hn⟩:=(hh.node _ _ hH).2
   refine z3Y htt hh hi (k:=k) hb hdu ?_ h
   rcases hn with hn|⟨g',C',t',fr',hg',hC',hf,hl⟩
   ·exact .inl hn
   ·obtain rfl:=hh.inj' hH hg hg'
    exact .inr ⟨g,0,C',t',fr',rfl,hC',by simpa using hl⟩
 ·rename_i k es hd
  obtain ⟨h8,l,rfl,h⟩:=h
  have hx':RV X.ow X.w (.sl k (z0f l)) v:=hx
  simp only [RV] at hx'
  obtain ⟨A,c,rfl,_,hx'⟩:=hx'
  refine z3Y htt hh hi (k:=k) (z4f htt hys h8) (z2J (htt _ _ hyd) hd) ?_ h
  rcases hx' with hx'|⟨g,o,C,t,fr,hA,_,hC,hr⟩
  ·exact .inl hx'
  ·exact .inr ⟨g,o,C,t,fr,hA,hC,hr⟩
 ·rename_i v0 hd
  obtain ⟨h8,rfl,h⟩:=h
  have hx':v=nilV∧nilV.oneCell'=true:=by simpa [RS,RS1,RS0,RV] using hx
  obtain ⟨rfl,_⟩:=hx'
  exact z3Y htt hh hi (l:=[]) (A:=none) (c:=0) (k:=1) (z4f htt hys h8) (z2J (htt _ _ hyd) hd) (.inl rfl) h
end
end Go.Proofs.YtgmbkbggnlponaaGreatDoor
namespace Go.Proofs.YtgmbkbggnlponaaGreatDoor
set_option linter.unusedVariables false
set_option linter.unusedSimpArgs false
set_option linter.unusedSectionVars false
open Go.RowKit Pl
theorem z3F:∀ (l:List Value) (n off:Nat) (A:Array Value),((l.zipIdx n).foldl (fun cs (p:Value × Nat)=>cs.setIfInBounds (off+p.2) p.1) A).toList=ovl A.toList (off+n) l
 | [],n,off,A=>rfl
 | v :: l,n,off,A=>by
   rw [List.zipIdx_cons,List.foldl_cons,z3F l (n+1) off]
   simp [ovl,Nat.add_assoc]
def z8t (X:Cx):List (Nat × T)→List (Nat × Value)→Prop
 | [],vs=>vs=[]
 | (i,x) :: l,vs=>∃ v us,vs=(i,v) :: us∧RS X x v∧z8t X l us
theorem z6f {X:Cx} {ρ:Operand→Value}:∀ (ps:List (Nat × Operand)) (xs:List T),Args X xs ((ps.map (·.2)).map ρ)→z8t X (z2o ps xs) (ps.map fun p=>(p.1,ρ p.2))
 | [],xs,h=>rfl
 | (i,o) :: ps,[],h=>by cases h
 | (i,o) :: ps,x :: xs,⟨u,us,he,h1,h2⟩=>by
   rw [List.map_cons,List.map_cons] at he
   injection he with a b
   subst a b
   exact ⟨_,_,rfl,h1,z6f ps xs h2⟩
theorem z5f {X:Cx} {place place':Nat→Option (Nat × Nat)} (hp:∀ i q,place i=some q→place' i=some q):∀ {l:List (Nat × T)} {vl:List (Nat × Value)} {cells cells':List T} {A:Array Value},
 z8t X l vl→RSl X cells A.toList→zcX place cells l=some cells'→∃ A',Instr.fill place' A vl=some A'∧RSl X cells' A'.toList
 | [],_,cells,cells',A,h,hc,hf=>by
   cases h
   simp [zcX] at hf;subst hf
   exact ⟨A,rfl,hc⟩
 | (i,x) :: l,_,cells,cells',A,⟨v,us,hv,h1,h2⟩,hc,hf=>by
   subst hv
   simp only [zcX] at hf
   split at hf<;>try (cases hf;done)
   rename_i o sz xs hpl hcx
   have hcs:=z4z h1 hcx
   cases hb:(Nat.beq xs.length sz&&Nat.ble (o+sz) cells.length) with
   | false=>rw [hb] at hf;cases hf
   | true =>
     rw [hb] at hf
     simp only [Bool.and_eq_true] at hb
     have e1:=Nat.eq_of_beq_eq_true hb.1
     have e2:=Nat.le_of_ble_eq_true hb.2
     have hlen:v.cells.size=sz:=by rw [← e1,← hcs.len];simp
     have hA:A.size=cells.length:=by rw [← hc.len];simp
     have hcond:¬ (v.cells.size ≠ sz || decide (o+v.cells.size > A.size))=true:=by simp [hlen];omega
     obtain ⟨A',h3,h4⟩:=z5f (A:=v.cells.zipIdx.foldl (fun cs (p:Value × Nat)=>cs.setIfInBounds (o+p.2) p.1) A) hp h2 (cells:=ovl cells o xs) (by
      rw [← Array.foldl_toList,Array.toList_zipIdx,z3F,Nat.add_zero]
      exact RSl.ovl o hc hcs) hf
     refine ⟨A',?_,h4⟩
     simp only [Instr.fill,hp _ _ hpl]
     rw [if_neg (by simpa using hcond)]
     exact h3
section
variable {P:Program} {tt:TT} (htt:TtOk P tt) {X:Cx} {id:Nat} {K:Kon} (hh:HR X) (hi:Fresh X id)
include htt hh hi
theorem z9t {e:TypeId} {y:Ty} (hy:tt e=some y):∃ i,P.info? e=some i∧i.size=y.sz:=by
 obtain ⟨i,z,h1,h2,_⟩:=(htt _ _ hy).info
 exact ⟨i,h1,h2⟩
theorem ze8 {t:TypeId} {parts:Array (Nat × Operand)} {xs:List T} {ρ:Operand→Value} (hx:Args X xs ((parts.toList.map (·.2)).map ρ)) (h:Eff tt (.build t parts) 0 xs X.H id K) :
 Ran P X id K (do pure (.value (← Instr.build t (parts.map fun (i,x)=>(i,ρ x))))):=by
 simp only [Eff] at h
 have hp:=z6f parts.toList xs hx
 have hpl:(parts.map fun (i,x)=>(i,ρ x)).toList=parts.toList.map fun p=>(p.1,ρ p.2):=by simp
 split at h<;>try exact h.elim
 rename_i y hy
 obtain ⟨it,z,hit,hsz,hby,hz,hzc⟩:=(htt _ _ hy).info
 have hz0:RSl X y.zero z.cells.toList:=by rw [hzc];exact (zbR (htt _ _ hy).zs).rsl
 split at h<;>try exact h.elim
 ·rename_i fs hd
  obtain ⟨hall,h⟩:=h
  obtain ⟨F,hu,hF⟩:=z7E (htt _ _ hy) hd
  split at h<;>try exact h.elim
  rename_i cells hf
  have hmap:∃ places,F.toList.mapM (fun f=>(P.info? f.type).map fun i=>(f.offset,i.size))=some places∧∀ i q,z7D tt fs i=some q→places[i]?=some q:=by
   have key:∀ (l:List Field),(l.map (fun f=>(f.offset,f.type))).all (fun f=>(tt f.2).isSome)=true→∃ places,l.mapM (fun f=>(P.info? f.type).map fun i=>(f.offset,i.size))=some places∧∀ i q,z7D tt (l.map (fun f=>(f.offset,f.type))) i=some q→places[i]?=some q:=by
    intro l
    induction l with
    | nil=>intro _;exact ⟨[],rfl,fun i q hq=>by simp [z7D] at hq⟩
    | cons f l ih =>
      intro ha
      simp at ha
      obtain ⟨yf,hyf⟩:=Option.isSome_iff_exists.1 ha.1
      obtain ⟨places,h1,h2⟩:=ih (by simpa using ha.2)
      obtain ⟨i0,hi0,hs0⟩:=z9t htt hh hi hyf
      refine ⟨(f.offset,i0.size) :: places,by simp [List.mapM_cons,hi0,h1],fun i q hq=>?_⟩
      cases i with
      | zero=>simp [z7D,hyf] at hq;rw [← hq,hs0];rfl
      | succ i=>simpa using h2 i q (by simpa [z7D] using hq)
   rw [← hF] at hall ⊢
   exact key _ hall
  obtain ⟨places,h1,h2⟩:=hmap
  obtain ⟨A',h3,h4⟩:=z5f (place':=(places[·]?)) h2 hp hz0 hf
  refine Ran.value (v:=.agg A') (w':=X.w) (run_build X.w t _ A' ?_) (Out.same hh hi h ⟨A',rfl,h4⟩)
  unfold Program.built
  rw [hpl]
  simp only [hit,hu,hz,h1]
  simpa using h3
 ·rename_i n e hd
  have hu:=z6d (htt _ _ hy) hd
  split at h<;>try exact h.elim
  rename_i ye hye
  obtain ⟨ie,hie,hse⟩:=z9t htt hh hi hye
  split at h<;>try exact h.elim
  rename_i cells hf
  obtain ⟨A',h3,h4⟩:=z5f (place':=fun i=>some (i * ie.size,ie.size)) (fun i q hq=>by rw [hse];exact hq) hp hz0 hf
  refine Ran.value (v:=.agg A') (w':=X.w) (run_build X.w t _ A' ?_) (Out.same hh hi h ⟨A',rfl,h4⟩)
  unfold Program.built
  rw [hpl]
  simp only [hit,hu,hz,hie]
  exact h3
end
end Go.Proofs.YtgmbkbggnlponaaGreatDoor
namespace Go.Proofs.YtgmbkbggnlponaaGreatDoor
set_option linter.unusedVariables false
set_option linter.unusedSimpArgs false
set_option linter.unusedSectionVars false
open Go.RowKit Pl
def Cx.dropL (X:Cx):List Nat→Cx
 | []=>X
 | r :: l=>(X.drop r).dropL l
theorem z3G (X:Cx):∀ (l:List Nat),(X.dropL l).H=updL X.H (z16 l)
 | []=>rfl
 | r :: l=>z3G (X.drop r) l
theorem z3j (X:Cx):∀ (l:List Nat),(X.dropL l).w=X.w
 | []=>rfl
 | r :: l=>z3j (X.drop r) l
theorem z3k (X:Cx):∀ (l:List Nat),(X.dropL l).us=X.us
 | []=>rfl
 | r :: l=>z3k (X.drop r) l
theorem z2Q {X:Cx} {id:Nat} (l:List Nat) (h:Fresh X id):Fresh (X.dropL l) id:=fun r h1 h2 h3=>h r h1 h2 (by rwa [z3k] at h3)
theorem z4C (X:Cx) (id:Nat) (l:List Nat):(X.dropL l).win id=X.win id:=by unfold Cx.win;rw [z3k]
theorem z13 (X:Cx):∀ (l:List Nat),Same X (X.dropL l)
 | []=>.refl X
 | r :: l=>(z3B X r).trans (z13 (X.drop r) l)
theorem HR.dropL {X:Cx} (hh:HR X):∀ (l:List Nat),HR (X.dropL l)
 | []=>hh
 | r :: l=>HR.dropL (hh.drop r) l
theorem zhk {X:Cx} {r g:Nat} (h:X.ow g=none):(X.drop r).ow g=none:=by
 show (if r ≠ 0∧X.ow g=some r then none else X.ow g)=none
 rw [h];simp
theorem z7F {X:Cx} {g:Nat}:∀ (l:List Nat),X.ow g=none→(X.dropL l).ow g=none
 | [],h=>h
 | r :: l,h=>z7F l (zhk h)
theorem z8u {X:Cx} {r g:Nat} (hr:r ≠ 0):∀ (l:List Nat),r ∈ l→X.ow g=some r→(X.dropL l).ow g=none
 | r' :: l,hm,h=>by
   by_cases he:r'=r
   ·subst he
    exact z7F l (z8l hr h)
   ·cases hm with
    | head=>exact absurd rfl he
    | tail _ hm=>exact z8u hr l hm (by show (if r' ≠ 0∧X.ow g=some r' then none else X.ow g)=some r;rw [h,if_neg (fun e=>he (by have:=e.2;injection this with e;exact e.symm))])
theorem z7G {X X':Cx} (hh:HR X) (hs:Stab X.ow X.w X'.ow X'.w) {r k:Nat} {es:List (List T)} {u:Value} (hr:RS0 X (.ref r) u) (hH:X.H r=some (.row k es)) (hn:∀ g,X.ow g=some r→X'.ow g=none) (hw:∀ g,X.ow g=some r→X'.w.heap[g]?=X.w.heap[g]?):RV X'.ow X'.w (.sl k es) u:=by
 obtain ⟨_,_,h3⟩:=hr
 simp only [RV]
 rcases h3 _ hH rfl with ⟨rfl,h0⟩|⟨g,c,C,t,fr,rfl,hg,hC,_,_,hle,_⟩
 ·have h0:es.length=0:=h0
  exact ⟨none,0,by rw [h0];rfl,by rw [h0];exact Nat.le_refl _,.inl (List.eq_nil_of_length_eq_zero h0)⟩
 ·refine ⟨_,c,rfl,hle,?_⟩
  obtain ⟨_,hnd⟩:=(hh.node _ _ hH).2
  rcases hnd with hnd|⟨g',C',t',fr',hg',hC',hf,hl⟩
  ·exact .inl hnd
  ·obtain rfl:=hh.inj' hH hg hg'
   exact .inr ⟨g,0,C',t',fr',rfl,hn g hg,(hw g hg).trans hC',RE.mono hs (by simpa using hl)⟩
theorem z6g {X:Cx} (hh:HR X) {gone:List Nat}:∀ {xs ys:List T} {rs:List Nat} {us:List Value},frz X.H xs=some (ys,rs)→RSl X xs us→(∀ r ∈ rs,r ∈ gone)→RL (X.dropL gone).ow (X.dropL gone).w ys us
 | [],ys,rs,us,hf,h,hg=>by
   cases h
   simp [frz] at hf
   obtain ⟨rfl,rfl⟩:=hf
   simp [RL]
 | c :: xs,ys,rs,us,hf,⟨u,us',hu,h1,h2,h3⟩,hg=>by
   subst hu
   simp only [frz] at hf
   split at hf<;>try (cases hf;done)
   rename_i ds rs0 hds
   have hs:=z13 X gone
   have rest:(∀ r ∈ rs0,r ∈ gone)→RL (X.dropL gone).ow (X.dropL gone).w ds us':=z6g hh hds h3
   cases c<;>simp only at hf<;>try (cases hf;done)
   case ref r =>
    split at hf<;>try (cases hf;done)
    rename_i k es hH
    injection hf with hf;injection hf with a b;subst a b
    simp only [RL]
    exact ⟨u,us',rfl,z7G hh hs.stab h2 hH (fun g hg'=>z8u (hh.ne hH) gone (hg r (by simp)) hg') (fun g _=>by rw [z3j]),rest (fun r' hr'=>hg r' (by simp [hr']))⟩
   all_goals
    injection hf with hf;injection hf with a b;subst a b
    simp only [RL]
    exact ⟨u,us',rfl,RV.mono hs.stab h2,rest hg⟩
theorem Out.dropped {X:Cx} {id:Nat} {K:Kon} (hh:HR X) (hi:Fresh X id) {x:T} {v:Value} {r:Nat} (h:K x [(r,none)]) (hx:RS (X.drop r) x v):Out X id K v X.w :=
 ⟨x,[(r,none)],{ X.drop r with us:=X.win id },h,rfl,rfl,rfl,(z3B X r).trans (z4e (X.drop r) (fun _ h=>.inl h) _ rfl rfl rfl rfl),(hh.drop r).nx (fun _ h=>.inl h) _ rfl rfl rfl rfl,hx.mono (z4e (X.drop r) (fun _ h=>.inl h) _ rfl rfl rfl rfl)⟩
theorem zbV {α:Type} {e ys:List α} (h:ys.length=e.length):ovl e 0 ys=ys:=by
 rw [z4y ys e 0 (by omega),h];simp
theorem z7H {X:Cx} {r g:Nat}:∀ (l:List Nat),r ∉ l→X.ow g=some r→(X.dropL l).ow g=some r
 | [],_,h=>h
 | r' :: l,hn,h=>z7H l (fun c=>hn (List.mem_cons_of_mem _ c)) (by
   show (if r' ≠ 0∧X.ow g=some r' then none else X.ow g)=some r
   rw [if_neg (fun e=>by rw [h] at e;have:=e.2;injection this with e2;exact hn (by rw [e2];exact List.mem_cons_self))]
   exact h)
section
variable {P:Program} {tt:TT} (htt:TtOk P tt) {X:Cx} {id:Nat} {K:Kon} (hh:HR X) (hi:Fresh X id)
include htt hh hi
theorem ze9 {t:TypeId} {p x:T} {v u:Value} (hp:RS X p v) (hx:RS X x u) (h:Eff tt (.store t (.tmp 0) (.tmp 1)) 0 [p,x] X.H id K):Ran P X id K (do Instr.storeAt t v u;pure .skip):=by
 simp only [Eff] at h
 split at h<;>try exact h.elim
 rename_i y xs hy hc
 obtain ⟨hlen,h⟩:=h
 have hcs:=z4z hx hc
 split at h<;>try exact h.elim
 rename_i r i j
 obtain ⟨h1,_,h3⟩:=z69 hp
 have hsz:u.cells.toList.length=y.sz:=by rw [hcs.len,hlen]
 have run:∀ (g o:Nat) (C:Array Value) (tb:TypeId) (fr:Nat × Nat),X.w.heap[g]?=some (.cells C tb fr)→z7p fr C.size→o+y.sz≤C.size →
  (Instr.storeAt t (.pointer (some ⟨g,o,none⟩)) u).run P X.w=.ok () { X.w with heap:=X.w.heap.setIfInBounds g (.cells (ovl C.toList o u.cells.toList).toArray tb fr) }:=fun g o C tb fr hC hf ho=>by
  have:=z2n (P:=P) g o tb fr u.cells.toList 0 C X.w hC hf (by rw [hsz];omega) hcs.one
  simp only [Nat.add_zero] at this
  have hsz2:u.cells.size=y.sz:=by simpa using hsz
  simp [Instr.storeAt,Instr.sureAddr,storeVar,z27 (htt _ _ hy),hsz2,this]
 split at h<;>try exact h.elim
 ·rename_i cs hH
  obtain ⟨rfl,hb,h⟩:=h
  obtain ⟨g,hg,rfl⟩:=h3 _ hH
  obtain ⟨g',C,tb,fr,hg',hC,hf,hl⟩:=(hh.node _ _ hH).2
  obtain rfl:=hh.inj' hH hg hg'
  have hCl:C.size=cs.length:=by rw [← hl.len];simp
  have e0:0 * (Ent.box cs).wd+j=j:=by simp
  rw [e0]
  refine Ran.unit (run g j C tb fr hC hf (by omega)) (Out.put hh hi hH hg hC ?_ ?_ h fun hs hn=>⟨g,_,tb,fr,hg,hn,?_,?_⟩)
  ·simp [Ent.shape,z0H]
  ·simp [z0H]
  ·simpa [z0H] using hf
  ·exact RSl.ovl j (hl.mono hs) (hcs.mono hs)
 ·rename_i k es hH
  cases hrf:ze2 xs with
  | true =>
    rw [hrf] at h
    simp only [cond_true] at h
    split at h<;>try exact h.elim
    rename_i ys rs hfz
    obtain ⟨hnr,e,he,hb,h⟩:=h
    have hnr:r ∉ rs:=by simpa using hnr
    obtain ⟨g,hg,rfl⟩:=h3 _ hH
    obtain ⟨hk,hn⟩:=(hh.node _ _ hH).2
    rcases hn with rfl|⟨g',C,tb,fr,hg',hC,hf,hl⟩
    ·cases he
    ·obtain rfl:=hh.inj' hH hg hg'
     obtain ⟨_,hfit⟩:=RE.get hl he
     have hfit2:i * k+j+y.sz≤C.size:=by rw [Nat.add_mul] at hfit;simp at hfit;omega
     have hrl:=z6g hh hfz hcs (gone:=rs) (fun q hq=>hq)
     have hyl:ys.length=y.sz:=by rw [← hrl.len];exact hsz
     have f1:=z13 X rs
     have hHX:(X.dropL rs).H r=some (.row k es):=by rw [z3G,z9q,if_neg hnr];exact hH
     have hgX:(X.dropL rs).ow g=some r:=z7H rs hnr hg
     have hput:=Out.put (K:=fun x u=>K x (z16 rs++u)) (X:=X.dropL rs) (id:=id) (hh.dropL rs) (z2Q rs hi) (r:=r) (e0:=.row k es) (e:=.row k (es.set i (ovl e j ys))) (g:=g) (C0:=C) (C:=(ovl C.toList (i * k+j) u.cells.toList).toArray) (t:=tb) (fr:=fr) (v:=undef) hHX hgX (by rw [z3j];exact hC) (by simp [Ent.shape]) (by simp [z0H]) h (fun hs hn=>⟨hk,.inr ⟨g,_,tb,fr,hgX,hn,by simpa [z0H] using hf,by
      have hes:=z4A he
      have:=RE.ovl (xs:=ys) (e:=e) j (es:=es) (i:=i) (by rw [hes];exact RE.mono hs.stab (RE.mono f1.stab hl)) (List.getElem?_eq_some_iff.1 he).1 (RL.mono hs.stab hrl) (by omega)
      simpa using this⟩⟩)
     obtain ⟨xx,upd,X',p1,p2,p3,p4,p5,p6,p7⟩:=hput
     refine Ran.unit (run g (i * k+j) C tb fr hC hf hfit2) ⟨xx,z16 rs++upd,X',p1,by rw [p2,z3j],p3.trans (z4C X id rs),?_,f1.trans p5,p6,p7⟩
     have hkey:∀ (a:Upd) (H:Hp) (b:Upd),updL (updL H a) b=updL H (a++b):=fun a=>by
      induction a with
      | nil=>intro H b;rfl
      | cons p a ih=>intro H b;obtain ⟨r,e⟩:=p;exact ih _ _
     rw [p4,z3G,← hkey]
  | false =>
  rw [hrf] at h
  simp only [cond_false] at h
  obtain ⟨hflat,e,he,hb,h⟩:=h
  obtain ⟨g,hg,rfl⟩:=h3 _ hH
  obtain ⟨hk,hn⟩:=(hh.node _ _ hH).2
  rcases hn with rfl|⟨g',C,tb,fr,hg',hC,hf,hl⟩
  ·cases he
  ·obtain rfl:=hh.inj' hH hg hg'
   obtain ⟨_,hfit⟩:=RE.get hl he
   have hfit2:i * k+j+y.sz≤C.size:=by rw [Nat.add_mul] at hfit;simp at hfit;omega
   refine Ran.unit (run g (i * k+j) C tb fr hC hf hfit2) (Out.put hh hi hH hg hC ?_ ?_ h fun hs hn=>⟨hk,.inr ⟨g,_,tb,fr,hg,hn,?_,?_⟩⟩)
   ·simp [Ent.shape]
   ·simp [z0H]
   ·simpa [z0H] using hf
   ·have hes:=z4A he
    have hrl:=ze5 hcs hflat
    have:=RE.ovl (xs:=xs) (e:=e) j (es:=es) (i:=i) (by rw [hes];exact RE.mono hs.stab hl) (List.getElem?_eq_some_iff.1 he).1 (RL.mono hs.stab hrl) (by omega)
    simpa using this
 ·rename_i k es l hH
  obtain ⟨hlent,h⟩:=h
  split at h<;>try exact h.elim
  rename_i ys rs habs
  obtain ⟨hnr,e,he,hb,h⟩:=h
  have hnr:r ∉ rs:=by simpa using hnr
  obtain ⟨g,hg,rfl⟩:=h3 _ hH
  obtain ⟨hru,hk,hn⟩:=hh.node _ _ hH
  obtain ⟨bx,a1,a2,a3,a4⟩:=z5e hh habs hcs
  have h0g:0 ∉ rs:=fun h=>(a4 0 h).2 rfl
  obtain ⟨f1,f2,f3,f4,f5⟩:=zfJ hh h0g (hh.ne hH) hru hnr
  have hHX:(X.ab r rs).H r=some (.deep k es l):=by
   show updL X.H (z16 rs) r=_
   rw [z9q,if_neg hnr];exact hH
  rcases hn with ⟨rfl,_⟩|⟨g',C,tb,fr,bs,hg',hC,hf,hd,ho,hl,hq⟩
  ·simp at he
  obtain rfl:=hh.inj' hH hg hg'
  obtain ⟨_,_,_,_,_,hfit,_⟩:=hl.focus he
  have hfit2:i * k+j+y.sz≤C.size:=by simp at hfit;omega
  have hyl:ys.length=y.sz:=by rw [← a1.len];exact hsz
  have hdis:∀ b ∈ bx,b ∉ bs:=fun b hb1 hb2=>by
   obtain ⟨q,q1,q2⟩:=a3 b hb1
   exact hnr ((zgR hh (.inr (ho b hb2)) q2 (hh.ne hH) (a4 q q1).2) ▸ q1)
  obtain ⟨b',o1,o2,o3⟩:=hl.ovlG (j:=j) he a1 (by omega) hdis hd a2
  have hiw:∀ b ∈ b',(X.ab r rs).iw b=r:=fun b hb=>by
   rcases o3 b hb with hb|hb
   ·exact f5 b (ho b hb)
   ·obtain ⟨q,q1,q2⟩:=a3 b hb;exact f3 b q q1 q2
  have hgX:(X.ab r rs).ow g=some r:=f4 g r hnr hg
  have hput:=Out.put (K:=fun x u=>K x (z16 rs++u)) (id:=id) f2 hi (r:=r) (e0:=.deep k es l) (e:=.deep k (es.set i (ovl e j ys)) l) (g:=g) (C0:=C) (C:=(ovl C.toList (i * k+j) u.cells.toList).toArray) (t:=tb) (fr:=fr) (v:=undef) hHX hgX hC (by simp [Ent.shape]) (by simp [z0H]) h (fun hs hn=>⟨hk,.inr ⟨g,_,tb,fr,b',hgX,hn,?_,o2,hiw,?_,fun p hp=>?_⟩⟩)
  ·obtain ⟨xx,upd,X',p1,p2,p3,p4,p5,p6,p7⟩:=hput
   refine Ran.unit (run g (i * k+j) C tb fr hC hf hfit2) ⟨xx,z16 rs++upd,X',p1,p2,p3,?_,f1.trans p5,p6,p7⟩
   have hkey:∀ (a:Upd) (H:Hp) (b:Upd),updL (updL H a) b=updL H (a++b):=fun a=>by
    induction a with
    | nil=>intro H b;rfl
    | cons p a ih=>intro H b;obtain ⟨r,e⟩:=p;exact ih _ _
   rw [p4,← hkey];rfl
  ·simpa [z0H] using hf
  ·refine OE.mono (w:=X.w) (by simpa using o1) (fun b hm=>?_)
   have hb2:=(f2.inn b (by rw [hiw b hm];exact hh.ne hH)).1
   show (X.w.heap.setIfInBounds g _)[b]?=_
   rw [Array.getElem?_setIfInBounds,if_neg]
   intro hx;subst hx;rw [hgX] at hb2;injection hb2 with hb2;exact hh.ne hH hb2
  ·obtain ⟨z,u',z1,z2⟩:=hq p hp
   refine ⟨z,u',?_,(z2.mono f1).mono hs⟩
   have hle:=List.all_eq_true.1 hlent p hp
   simp only [Bool.or_eq_true] at hle
   have hcs2:u.cells.toList.length=y.sz:=hsz
   simp only [List.toList_toArray]
   rw [z4y _ _ _ (by rw [hcs2];simpa using hfit2)]
   have hlt:p.1 * k+p.2.1<i * k+j ∨ i * k+j+y.sz≤p.1 * k+p.2.1:=by
    rcases Nat.lt_trichotomy p.1 i with h1|h1|h1
    ·left
     have:=Nat.mul_le_mul_right k (show p.1+1≤i by omega)
     rw [Nat.add_mul] at this;omega
    ·rw [h1]
     rcases hle with h2|h2
     ·left;simp [Nat.blt] at h2;omega
     ·right;have:=Nat.le_of_ble_eq_true h2;omega
    ·right
     have:=Nat.mul_le_mul_right k (show i+1≤p.1 by omega)
     rw [Nat.add_mul] at this;omega
   rcases hlt with hlt|hlt
   ·rw [List.append_assoc,List.getElem?_append_left (by rw [List.length_take,Array.length_toList];omega),List.getElem?_take,if_pos hlt];exact z1
   ·have hl1:(C.toList.take (i * k+j)++u.cells.toList).length=i * k+j+y.sz:=by rw [List.length_append,List.length_take,hcs2,Nat.min_eq_left (by simp;omega)]
    rw [List.getElem?_append_right (by rw [hl1];exact hlt),hl1,hcs2,List.getElem?_drop,← z1]
    congr 1;omega
end
theorem z7I (H:Hp) (sz:Nat):∀ {l:List (Nat × T)} {es es':List (List T)} {g g':List Nat},z65 H sz es g l=some (es',g')→∀ r ∈ g,r ∈ g'
 | [],es,es',g,g',h=>by simp [z65] at h;obtain ⟨_,rfl⟩:=h;exact fun r hr=>hr
 | (i,x) :: l,es,es',g,g',h=>by
   simp only [z65] at h
   split at h<;>try (cases h;done)
   split at h<;>try (cases h;done)
   rename_i ys rs _
   cases hb:(Nat.beq ys.length sz&&Nat.blt i es.length) with
   | false=>rw [hb] at h;cases h
   | true=>rw [hb] at h;exact fun r hr=>z7I H sz h r (by simp [hr])
theorem z6h {X:Cx} (hh:HR X) {sz:Nat} {gone:List Nat}:∀ {l:List (Nat × T)} {vl:List (Nat × Value)} {es es':List (List T)} {g0:List Nat} {A:Array Value},
 z8t X l vl→RE (X.dropL gone).ow (X.dropL gone).w sz es A.toList→A.size=es.length * sz→z65 X.H sz es g0 l=some (es',gone)→∃ A',Instr.fill (fun i=>some (i * sz,sz)) A vl=some A'∧RE (X.dropL gone).ow (X.dropL gone).w sz es' A'.toList∧A'.size=A.size∧es'.length=es.length
 | [],_,es,es',g0,A,h,hc,hA,hf=>by
   cases h
   simp [z65] at hf;obtain ⟨rfl,_⟩:=hf
   exact ⟨A,rfl,hc,rfl,rfl⟩
 | (i,x) :: l,_,es,es',g0,A,⟨v,us,hv,h1,h2⟩,hc,hA,hf=>by
   subst hv
   simp only [z65] at hf
   split at hf<;>try (cases hf;done)
   rename_i xs hcx
   split at hf<;>try (cases hf;done)
   rename_i ys rs hfz
   cases hb:(Nat.beq ys.length sz&&Nat.blt i es.length) with
   | false=>rw [hb] at hf;cases hf
   | true =>
     rw [hb] at hf
     simp only [Bool.and_eq_true] at hb
     have e1:=Nat.eq_of_beq_eq_true hb.1
     have e2:i<es.length:=by have h5:=hb.2;simp [Nat.blt] at h5;omega
     have hcs:=z4z h1 hcx
     have hrl:=z6g hh hfz hcs (gone:=gone) (fun r hr=>z7I X.H sz hf r (by simp [hr]))
     have hlen:v.cells.size=sz:=by rw [← e1,← hrl.len];simp
     have hfit:i * sz+sz≤A.size:=by
      rw [hA]
      calc i * sz+sz=(i+1) * sz:=by rw [Nat.add_mul];omega
       _≤es.length * sz:=Nat.mul_le_mul_right _ e2
     have hcond:¬ (v.cells.size ≠ sz || decide (i * sz+v.cells.size > A.size))=true:=by simp [hlen];omega
     have hel:es[i].length=sz:=hc.elen _ (List.getElem_mem e2)
     have hre:RE (X.dropL gone).ow (X.dropL gone).w sz (es.set i ys) (v.cells.zipIdx.foldl (fun cs (p:Value × Nat)=>cs.setIfInBounds (i * sz+p.2) p.1) A).toList:=by
      rw [← Array.foldl_toList,Array.toList_zipIdx,z3F,Nat.add_zero]
      have:=RE.ovl (e:=es[i]) (xs:=ys) 0 (es:=es) (i:=i) (by rw [z4A (List.getElem?_eq_getElem e2)];exact hc) e2 hrl (by omega)
      rw [zbV (by omega)] at this
      simpa using this
     have hsz:(v.cells.zipIdx.foldl (fun cs (p:Value × Nat)=>cs.setIfInBounds (i * sz+p.2) p.1) A).size=A.size:=by
      rw [← Array.length_toList,← Array.foldl_toList,Array.toList_zipIdx,z3F,z0H];simp
     obtain ⟨A',h3,h4,h5,h6⟩:=z6h hh h2 hre (by rw [hsz,hA];simp) hf
     refine ⟨A',?_,h4,by rw [h5,hsz],by rw [h6];simp⟩
     simp only [Instr.fill]
     rw [if_neg (by simpa using hcond)]
     exact h3
theorem z9u (z:List Value):∀ (n:Nat),(List.range (n * z.length)).map (fun i=>z.getD (i % z.length) undef)=(List.replicate n z).flatten
 | 0=>by simp
 | n+1=>by
   have hk:(n+1) * z.length=z.length+n * z.length:=by rw [Nat.add_mul];omega
   rw [hk,List.range_add,List.map_append,List.replicate_succ,List.flatten_cons,← z9u z n]
   congr 1
   ·apply List.ext_getElem
    ·simp
    ·intro i h1 h2
     simp at h1
     simp [Nat.mod_eq_of_lt h1,List.getD,List.getElem?_eq_getElem h1]
   ·rw [List.map_map]
    apply List.map_congr_left
    intro i _
    simp
theorem z5x {ow:Own} {w:World} {zs:List T} {vs r:List Value} (h:RL ow w zs vs):∀ (n:Nat),RE ow w zs.length (List.replicate n zs) ((List.replicate n vs).flatten++r)
 | 0=>by simp [RE]
 | n+1=>by
   simp only [List.replicate_succ,RE,List.flatten_cons]
   exact ⟨vs,(List.replicate n vs).flatten++r,by simp,h.len,h,z5x h n⟩
theorem z6i (ow:Own) (w:World) {P:Program} {t:TypeId} {y:Ty} (hy:TyOk P t y) {z:Value} (hz:z.cells.toList=y.zero.map zv) (n:Nat) (hsz:y.sz ≠ 0) :
 RE ow w y.sz (List.replicate n y.zero) ((Array.range (n * y.sz)).map (fun i=>z.cells[i % z.cells.size]!)).toList:=by
 have hl:z.cells.toList.length=y.sz:=by rw [hz,List.length_map,hy.len]
 have hl2:z.cells.size=y.sz:=by simpa using hl
 have h1:((Array.range (n * y.sz)).map (fun i=>z.cells[i % z.cells.size]!)).toList=(List.replicate n z.cells.toList).flatten:=by
  rw [← z9u,hl]
  simp only [Array.toList_map,Array.toList_range]
  apply List.map_congr_left
  intro i _
  have:i % z.cells.size<z.cells.size:=Nat.mod_lt _ (by omega)
  rw [getElem!_pos z.cells _ this]
  simp [List.getD,hl2]
  rw [Array.getElem?_eq_getElem (by rw [← hl2];exact this)]
  simp [hl2]
 rw [h1,← hy.len]
 have:=z5x (r:=[]) (show RL ow w y.zero z.cells.toList by rw [hz];exact zbR hy.zs) n
 simpa using this
end Go.Proofs.YtgmbkbggnlponaaGreatDoor
namespace Go.Proofs.YtgmbkbggnlponaaGreatDoor
set_option linter.unusedVariables false
set_option linter.unusedSimpArgs false
set_option linter.unusedSectionVars false
open Go.RowKit Pl
theorem z5R (s:Bs) (i j:Nat):(bs s).extract i j=bs ((s.take j).drop i):=by
 rw [zcZ]
 congr 1
 rw [List.drop_take]
theorem z4D {P:Program} {t e:TypeId} (h:P.underlying t=some (.slice e)):P.underlying t=some (.slice (P.elem t))∧P.elem t=e:=by
 have:P.elem t=e:=by simp [Program.elem,h]
 exact ⟨by rw [this];exact h,this⟩
theorem z6j {ow:Own} {w:World} {k:Nat} {es:List (List T)} {A:Option Addr} {c i j:Nat} (hij:i≤j) (hj:j≤es.length) (hc:es.length≤c)
 (hA:es=[] ∨ ∃ g o C t fr,A=some ⟨g,o,none⟩∧ow g=none∧w.heap[g]?=some (.cells C t fr)∧RE ow w k es (C.toList.drop o)):RV ow w (.sl k ((es.take j).drop i)) (sliced A i j c k):=by
 have hl:((es.take j).drop i).length=j-i:=by simp;omega
 simp only [RV,sliced]
 refine ⟨_,c-i,by rw [hl],by rw [hl];omega,?_⟩
 rcases hA with rfl|⟨g,o,C,t,fr,rfl,hg,hC,hr⟩
 ·left;simp
 ·by_cases hci:c=i
  ·left
   exact List.eq_nil_of_length_eq_zero (by rw [hl];omega)
  ·right
   refine ⟨g,o+i * k,C,t,fr,by simp [hci,z2j],hg,hC,?_⟩
   rw [← List.drop_drop]
   exact (hr.take j).drop i
def Cx.re (X:Cx) (id:Nat) (e:Ent) (gone ab:List Nat) (root:Option Nat) (w':World):Cx :=
 { H:=updE (updL X.H (z16 gone)) id (some e)
   ow:=fun g=>if root=some g then some id else match X.ow g with
    | some r=>if r ∈ ab then some 0 else if r ∈ gone then none else some r
    | none=>none
   iw:=fun g=>match X.ow g with
    | some r=>if r ∈ ab then id else if X.iw g ∈ gone then id else X.iw g
    | none=>X.iw g
   w:=w',us:=X.win id }
theorem z5S {X:Cx} {id:Nat} (hh:HR X) (hi:Fresh X id) {e:Ent} {gone ab:List Nat} {root:Option Nat} {w':World} (h0:0 ∉ gone) (hab:∀ r ∈ ab,r ∈ gone) (hgu:∀ r ∈ gone,X.us r)
 (hroot:∀ g,root=some g→g<w'.heap.size∧(g=X.w.heap.size ∨ ∃ r,X.ow g=some r∧r ∈ gone∧r ∉ ab)) (hos:w'.os=X.w.os) (htp:w'.tape=X.w.tape) (hout:w'.output=X.w.output) (hsz:X.w.heap.size≤w'.heap.size)
 (hheap:∀ g,g<X.w.heap.size→root ≠ some g→w'.heap[g]?=X.w.heap[g]?)
 (hnode:Same X (X.re id e gone ab root w')→Node (X.re id e gone ab root w') id e):Same X (X.re id e gone ab root w')∧HR (X.re id e gone ab root w'):=by
 have hnx:∀ a,X.us a→a ≠ id:=fun a h=>hi.ne h
 have hidg:id ∉ gone:=fun h=>hnx id (hgu id h) rfl
 have h0a:0 ∉ ab:=fun h=>h0 (hab 0 h)
 have hHo:∀ a,a ≠ id→(X.re id e gone ab root w').H a=if a ∈ gone then none else X.H a:=fun a h=>by
  show updE (updL X.H (z16 gone)) id (some e) a=_
  rw [z0j _ _ h,z9q]
 have hrow:∀ g r,root=some g→X.ow g=some r→r ∈ gone∧r ∉ ab:=fun g r h1 h2=>by
  rcases (hroot g h1).2 with h3|⟨r',h3,h4,h5⟩
  ·have:=(hh.lt g r h2).1;omega
  ·rw [h2] at h3;injection h3 with h3;subst h3;exact ⟨h4,h5⟩
 have how:∀ g r,X.ow g=some r→r ∉ gone→(X.re id e gone ab root w').ow g=some r:=fun g r h1 h2=>by
  show (if root=some g then some id else match X.ow g with|some r=>_|none=>none)=some r
  rw [if_neg (fun h=>h2 (hrow g r h h1).1),h1]
  simp only
  rw [if_neg (fun h=>h2 (hab r h)),if_neg h2]
 have hinv:∀ g i,(X.re id e gone ab root w').ow g=some i→(root=some g∧i=id) ∨ (root ≠ some g∧X.ow g=some i∧i ∉ gone) ∨ (root ≠ some g∧i=0∧∃ r,X.ow g=some r∧r ∈ ab):=fun g i h=>by
  change (if root=some g then some id else match X.ow g with|some r=>if r ∈ ab then some 0 else if r ∈ gone then none else some r|none=>none)=some i at h
  split at h
  ·injection h with h;exact .inl ⟨by assumption,h.symm⟩
  ·rename_i hr
   split at h
   ·rename_i r hx
    split at h
    ·injection h with h;exact .inr (.inr ⟨hr,h.symm,r,hx,by assumption⟩)
    ·split at h
     ·cases h
     ·injection h with h;subst h;exact .inr (.inl ⟨hr,hx,by assumption⟩)
   ·cases h
 have hiw0:∀ g,X.iw g ≠ 0→X.iw g ∉ gone→(X.re id e gone ab root w').iw g=X.iw g:=fun g h1 h2=>by
  have h3:=(hh.inn g h1).1
  show (match X.ow g with|some r=>if r ∈ ab then id else if X.iw g ∈ gone then id else X.iw g|none=>X.iw g)=_
  rw [h3];simp only
  rw [if_neg h0a,if_neg h2]
 have hs:Same X (X.re id e gone ab root w'):=by
  refine ⟨fun a h=>.inl h,hos,htp,hout,hsz,fun b hb hn=>⟨?_,?_⟩,fun a ha e' he'=>?_,fun b hb hb0=>⟨⟨how b 0 hb h0,?_⟩,?_⟩,fun a ha hne b hb=>⟨?_,fun C' t' fr' hC'=>⟨C',?_,rfl⟩⟩⟩
  ·show (if root=some b then some id else match X.ow b with|some r=>_|none=>none)=none
   rw [if_neg,hn]
   intro h
   rcases (hroot b h).2 with h3|⟨r',h3,_⟩
   ·omega
   ·rw [hn] at h3;cases h3
  ·refine hheap b hb fun h=>?_
   rcases (hroot b h).2 with h3|⟨r',h3,_⟩
   ·omega
   ·rw [hn] at h3;cases h3
  ·rw [hHo a (hnx a ha)] at he'
   split at he'
   ·cases he'
   ·exact ⟨e',he',rfl⟩
  ·show (match X.ow b with|some r=>if r ∈ ab then id else if X.iw b ∈ gone then id else X.iw b|none=>X.iw b)=0
   rw [hb];simp only
   rw [if_neg h0a,hb0,if_neg h0]
  ·exact hheap b (hh.lt b 0 hb).1 fun h=>h0 (hrow b 0 h hb).1
  ·rw [hHo a (hnx a ha)] at hne
   exact how b a hb (fun h=>hne (if_pos h))
  ·rw [hHo a (hnx a ha)] at hne
   exact (hheap b (hh.lt b a hb).1 fun h=>hne (if_pos (hrow b a h hb).1)).trans hC'
 refine ⟨hs,⟨fun a b x hx h1 h2=>?_,fun b a hb=>?_,fun a e' he'=>?_,?_,.inl hh.pos,hh.gl.mono hs.stab,fun b hb=>?_⟩⟩
 ·have hx0:x ≠ 0:=fun h=>by
   subst h
   rw [hHo 0 (hnx 0 hh.pos),if_neg h0] at hx;exact hx hh.zero
  rcases hinv a x h1 with ⟨p1,p2⟩|⟨p1,p2,p3⟩|⟨_,p2,_⟩
  ·rcases hinv b x h2 with ⟨q1,q2⟩|⟨q1,q2,q3⟩|⟨_,q2,_⟩
   ·rw [p1] at q1;injection q1
   ·subst p2;exact absurd rfl (hnx _ (hh.lt _ _ q2).2)
   ·exact absurd q2 hx0
  ·rcases hinv b x h2 with ⟨q1,q2⟩|⟨q1,q2,q3⟩|⟨_,q2,_⟩
   ·subst q2;exact absurd rfl (hnx _ (hh.lt _ _ p2).2)
   ·rw [hHo x (hnx x (hh.lt _ _ p2).2),if_neg p3] at hx
    exact hh.inj _ _ _ hx p2 q2
   ·exact absurd q2 hx0
  ·exact absurd p2 hx0
 ·rcases hinv b a hb with ⟨p1,p2⟩|⟨p1,p2,p3⟩|⟨_,p2,r,p3,_⟩
  ·subst p2;exact ⟨(hroot b p1).1,.inr ⟨Nat.le_refl _,by omega⟩⟩
  ·obtain ⟨q1,q2⟩:=hh.lt b a p2;exact ⟨Nat.lt_of_lt_of_le q1 hsz,.inl q2⟩
  ·subst p2;exact ⟨Nat.lt_of_lt_of_le (hh.lt b r p3).1 hsz,.inl hh.pos⟩
 ·by_cases hai:a=id
  ·subst hai
   have:updE (updL X.H (z16 gone)) a (some e) a=some e':=he'
   rw [z0A] at this;injection this with this;subst this
   exact ⟨.inr ⟨Nat.le_refl _,by omega⟩,hnode hs⟩
  ·have he2:=he'
   rw [hHo a hai] at he2
   split at he2
   ·cases he2
   ·rename_i hag
    obtain ⟨p1,p2⟩:=hh.node a e' he2
    refine ⟨.inl p1,p2.mono hs p1 (by rw [he'];simp) (fun b hb=>hheap b (hh.lt b a hb).1 fun h=>hag (hrow b a h hb).1) (fun b hb=>?_)⟩
    have hb0:X.iw b ≠ 0:=by rw [hb];exact hh.ne he2
    obtain ⟨q1,q2,_⟩:=hh.inn b hb0
    refine ⟨by rw [hiw0 b hb0 (by rw [hb];exact hag)];exact hb,hheap b q2 fun h=>h0 (hrow b 0 h q1).1⟩
 ·rw [hHo 0 (hnx 0 hh.pos),if_neg h0];exact hh.zero
 ·have key:X.ow b=none ∨ ∃ r,X.ow b=some r:=by cases X.ow b<;>simp
  rcases key with hn|⟨r,hr⟩
  ·have h1:(X.re id e gone ab root w').iw b=X.iw b:=by
    show (match X.ow b with|some r=>_|none=>X.iw b)=_
    rw [hn]
   rw [h1] at hb
   have:=(hh.inn b hb).1
   rw [hn] at this;cases this
  ·by_cases hra:r ∈ ab
   ·have h1:(X.re id e gone ab root w').iw b=id:=by
     show (match X.ow b with|some r=>if r ∈ ab then id else _|none=>X.iw b)=_
     rw [hr];simp only;rw [if_pos hra]
    rw [h1]
    refine ⟨?_,Nat.lt_of_lt_of_le (hh.lt b r hr).1 hsz,.inr ⟨Nat.le_refl _,by omega⟩⟩
    show (if root=some b then some id else match X.ow b with|some r=>_|none=>none)=some 0
    rw [if_neg (fun h=>(hrow b r h hr).2 hra),hr];simp only;rw [if_pos hra]
   ·have h1:(X.re id e gone ab root w').iw b=if X.iw b ∈ gone then id else X.iw b:=by
     show (match X.ow b with|some r=>if r ∈ ab then id else _|none=>X.iw b)=_
     rw [hr];simp only;rw [if_neg hra]
    have hb0:X.iw b ≠ 0:=fun h=>by
     rw [h1,h,if_neg h0] at hb;exact hb rfl
    obtain ⟨q1,q2,q3⟩:=hh.inn b hb0
    refine ⟨how b 0 q1 h0,Nat.lt_of_lt_of_le q2 hsz,?_⟩
    rw [h1]
    split
    ·exact .inr ⟨Nat.le_refl _,by omega⟩
    ·exact .inl q3
theorem zhl {X:Cx} (hh:HR X) {id:Nat} {e:Ent} {gone ab:List Nat} {root:Option Nat} {w':World} {b r:Nat} (h0:0 ∉ gone) (hr:r ∈ gone) (hab:∀ r ∈ ab,r ∈ gone) (h:(X.ow b=some r∧r ∈ ab) ∨ X.iw b=r):(X.re id e gone ab root w').iw b=id:=by
 show (match X.ow b with|some r=>if r ∈ ab then id else if X.iw b ∈ gone then id else X.iw b|none=>X.iw b)=id
 rcases h with ⟨h1,h2⟩|h
 ·rw [h1];simp only;rw [if_pos h2]
 ·have hb0:X.iw b ≠ 0:=by rw [h];exact fun hz=>h0 (hz ▸ hr)
  rw [(hh.inn b hb0).1];simp only
  rw [if_neg (fun hz=>h0 (hab 0 hz)),h,if_pos hr]
section
variable {P:Program} {tt:TT} (htt:TtOk P tt) {X:Cx} {id:Nat} {K:Kon} (hh:HR X) (hi:Fresh X id)
include htt hh hi
theorem z7r {t:TypeId} {len:Nat} {parts:Array (Nat × Operand)} {xs:List T} {ρ:Operand→Value} (hx:Args X xs ((parts.toList.map (·.2)).map ρ)) (h:Eff tt (.buildSlice t len parts) 0 xs X.H id K) :
 Ran P X id K (do pure (.value (← Instr.buildSlice t len (parts.map fun (i,x)=>(i,ρ x))))):=by
 simp only [Eff] at h
 have hp:=z6f parts.toList xs hx
 have hpl:(parts.map fun (i,x)=>(i,ρ x)).toList=parts.toList.map fun p=>(p.1,ρ p.2):=by simp
 split at h<;>try exact h.elim
 rename_i y hy
 split at h<;>try exact h.elim
 rename_i e hd
 have hu:=z2P (htt _ _ hy) hd
 split at h<;>try exact h.elim
 rename_i ye hye
 obtain ⟨hble,hsz,h⟩:=h
 split at h
 case h_2 =>
  split at h<;>try exact h.elim
  rename_i i x hzp
  split at h<;>try exact h.elim
  rename_i cs hcx
  split at h<;>try exact h.elim
  rename_i ys rs habs
  obtain ⟨rfl,rfl,hcl,h⟩:=h
  obtain ⟨z,hz,hzc⟩:=zaV (htt _ _ hye) X.w
  rw [hzp] at hp
  obtain ⟨v,vl,hvl,hv1,hv2⟩:=hp
  have hv2:vl=[]:=hv2
  subst hv2
  have hcs:=z4z hv1 hcx
  obtain ⟨bs,o1,o2,o3,o4⟩:=z5e hh habs hcs
  have hvs:v.cells.toList.length=ye.sz:=by rw [hcs.len,hcl]
  have hvs2:v.cells.size=ye.sz:=by simpa using hvs
  have h1z:¬ (1 * ye.sz=0):=by omega
  have hif:¬ (1 * ye.sz > 2 ^ 24):=by have:=Nat.le_of_ble_eq_true hble;omega
  obtain ⟨A',hA1,hA2⟩:∃ A',Instr.fill (fun i=>some (i * ye.sz,ye.sz)) ((Array.range (1 * ye.sz)).map (fun i=>z.cells[i % z.cells.size]!)) [(0,v)]=some A'∧A'.toList=v.cells.toList:=by
   refine ⟨v.cells.zipIdx.foldl (fun cs (p:Value × Nat)=>cs.setIfInBounds (0 * ye.sz+p.2) p.1) ((Array.range (1 * ye.sz)).map (fun i=>z.cells[i % z.cells.size]!)),?_,?_⟩
   ·simp only [Instr.fill]
    rw [if_neg (by simp [hvs2])]
   ·rw [← Array.foldl_toList,Array.toList_zipIdx,z3F,Nat.add_zero,Nat.zero_mul]
    exact zbV (by rw [hvs];simp)
  have hAs:A'.size=ye.sz:=by rw [← Array.length_toList,hA2,hvs]
  have h0g:0 ∉ rs:=fun h=>(o4 0 h).2 rfl
  have hre:=z5S hh hi (e:=.deep ye.sz [ys] []) (gone:=rs) (ab:=rs) (root:=some X.w.heap.size) (w':=X.w.alloc (.cells A' e)) h0g (fun _ h=>h) (fun r h=>(o4 r h).1) (fun g hg=>by
   injection hg with hg;subst hg
   exact ⟨by show X.w.heap.size<(X.w.heap.push _).size;rw [Array.size_push];omega,.inl rfl⟩) rfl rfl rfl (by show X.w.heap.size≤(X.w.heap.push _).size;rw [Array.size_push];omega) (fun g hg _=>by show (X.w.heap.push _)[g]?=_;rw [Array.getElem?_push,if_neg (by omega)]) (fun hs=>?_)
  rotate_left
  ·have hheap:(X.re id (.deep ye.sz [ys] []) rs rs (some X.w.heap.size) (X.w.alloc (.cells A' e))).w.heap[X.w.heap.size]?=some (.cells A' e (0,0)):=by
    show (X.w.heap.push _)[_]?=_
    simp
   refine ⟨by omega,.inr ⟨X.w.heap.size,A',e,(0,0),bs,if_pos rfl,hheap,.inl (Nat.le_refl _),o2,fun b hb=>?_,?_,fun p hp=>by cases hp⟩⟩
   ·obtain ⟨r,hr,hb2⟩:=o3 b hb
    exact zhl hh h0g hr (fun _ h=>h) (hb2.imp (fun h=>⟨h,hr⟩) _root_.id)
   ·have hoe:OE X.w ye.sz [ys] A'.toList bs:=by
     simp only [OE]
     exact ⟨v.cells.toList,[],bs,[],by rw [hA2];simp,hvs,by simp,o1,rfl⟩
    refine hoe.mono fun b hb=>?_
    obtain ⟨r,hr,hb2⟩:=o3 b hb
    have hlt:b<X.w.heap.size:=by
     rcases hb2 with hb2|hb2
     ·exact (hh.lt b r hb2).1
     ·exact (hh.inn b (by rw [hb2];exact (o4 r hr).2)).2.1
    show (X.w.heap.push _)[b]?=_
    rw [Array.getElem?_push,if_neg (by omega)]
  ·obtain ⟨hs,hhr⟩:=hre
   refine Ran.value (v:=.slice (some ⟨X.w.heap.size,0,none⟩) 1 1) (w':=X.w.alloc (.cells A' e)) ?_ ⟨_,_,_,h,rfl,rfl,?_,hs,hhr,⟨.inr ⟨Nat.le_refl _,by omega⟩,⟨_,_,_,rfl⟩,fun e' he' _=>?_⟩⟩
   ·simp only [Instr.buildSlice,Sem.run_bind,run_underlying hu,Result.andThen_ok,z27 (htt _ _ hye),hif,if_false]
    simp only [h1z,if_false,Sem.run_bind,hz,Result.andThen_ok,Sem.run_pure,hpl,hvl,hA1,newRow,run_newObj,World.alloc_eq]
   ·show updE (updL X.H (z16 rs)) id _=updL X.H (z16 rs++[(id,some (.deep ye.sz [ys] []))])
    have hkey:∀ (a:Upd) (H:Hp) (b:Upd),updL (updL H a) b=updL H (a++b):=fun a=>by
     induction a with
     | nil=>intro H b;rfl
     | cons p a ih=>intro H b;obtain ⟨r,e⟩:=p;exact ih _ _
    rw [← hkey];rfl
   ·have:updE (updL X.H (z16 rs)) id (some (.deep ye.sz [ys] [])) id=some e':=he'
    rw [z0A] at this;injection this with this;subst this
    refine .inr ⟨X.w.heap.size,1,A',e,(0,0),rfl,if_pos rfl,?_,.inl (Nat.le_refl _),?_,by simp [Ent.shape],by decide⟩
    ·show (X.w.heap.push _)[_]?=_
     simp
    ·show A'.size=1 * ye.sz
     omega
 rename_i es gone hf
 obtain ⟨z,hz,hzc⟩:=zaV (htt _ _ hye) X.w
 have hbl:=Nat.le_of_ble_eq_true hble
 obtain ⟨A',h3,h4,h5,h6⟩:=z6h hh (A:=(Array.range (len * ye.sz)).map (fun i=>z.cells[i % z.cells.size]!)) hp (z6i _ _ (htt _ _ hye) hzc len hsz) (by simp) hf
 have hlen0:es.length=len:=by rw [h6];simp
 have hfinal:=Out.newRow (X:=X.dropL gone) (id:=id) (K:=fun x u=>K x (z16 gone++u)) (hh.dropL gone) (z2Q gone hi) (k:=ye.sz) (n:=len) (c:=len) (es:=es) (C:=A') (t:=e) (fr:=(0,0)) (X.dropL gone).w rfl rfl rfl rfl h (by omega) hlen0.symm
  (by rw [h5];simp) (Nat.le_refl _) (by
    have:len≤len * ye.sz:=Nat.le_mul_of_pos_right _ (by omega)
    unfold maxLen;omega) (.inl (Nat.le_refl _)) h4
 refine Ran.value (v:=.slice (some ⟨X.w.heap.size,0,none⟩) len len) (w':=X.w.alloc (.cells A' e)) ?_ ?_
 ·have hif:¬ (len * ye.sz > 2 ^ 24):=by omega
  simp only [Instr.buildSlice,Sem.run_bind,run_underlying hu,Result.andThen_ok,z27 (htt _ _ hye),hif,if_false]
  by_cases h0:len * ye.sz=0
  ·have hl0:len=0:=by
    rcases Nat.mul_eq_zero.1 h0 with h1|h1
    ·exact h1
    ·exact absurd h1 hsz
   subst hl0
   simp only [Nat.zero_mul] at h3 ⊢
   have e1:((Array.range 0).map (fun i=>z.cells[i % z.cells.size]!))=#[]:=by simp
   rw [e1] at h3
   have e3:∀ f:Nat→Value,(Array.range 0).map f=#[]:=fun f=>by simp [Array.range]
   simp [h3,hpl,newRow,e3]
  ·simp only [h0,if_false,Sem.run_bind,hz,Result.andThen_ok,Sem.run_pure,hpl,h3,newRow,run_newObj,World.alloc_eq]
 ·obtain ⟨x,upd,X',hk,hw,hn,hH,hs,hr,hv⟩:=hfinal
  rw [z3j] at hw hv
  exact ⟨x,z16 gone++upd,X',hk,hw,hn.trans (z4C X id gone),by
   rw [hH,z3G]
   have key:∀ (a:Upd) (H:Hp) (b:Upd),updL (updL H a) b=updL H (a++b):=fun a=>by
    induction a with
    | nil=>intro H b;rfl
    | cons p a ih=>intro H b;obtain ⟨r,e⟩:=p;exact ih _ _
   exact key _ _ _,(z13 X gone).trans hs,hr,hv⟩
theorem z8v {t:TypeId} {l c:T} {vl vc:Value} {ol oc:Operand} (hl:RS X l vl) (hc:RS X c vc) (h:Eff tt (.makeSlice t ol oc) 0 [l,c] X.H id K):Ran P X id K (do pure (.value (← Instr.makeSlice t vl vc))):=by
 simp only [Eff] at h
 split at h<;>try exact h.elim
 rename_i k n k' n' y hy
 split at h<;>try exact h.elim
 rename_i e hd
 have hu:=z2P (htt _ _ hy) hd
 split at h<;>try exact h.elim
 rename_i ye hye
 obtain ⟨hsz,hble,m,rfl,rfl,hm,h⟩:=h
 obtain rfl:=z1O hl
 obtain rfl:=z1O hc
 obtain ⟨it,z,hit,hs,hb,hz,hzc⟩:=(htt _ _ hye).info
 have hbl:=Nat.le_of_ble_eq_true hble
 have hbytes:(it.bytes:Int) * (m:Int)≤281474976710656:=by
  have h1:it.bytes * m≤100000 * 1000000000:=Nat.mul_le_mul (by omega) (by omega)
  have:((it.bytes * m:Nat):Int)≤281474976710656:=by omega
  rwa [Int.natCast_mul] at this
 have hr:=run_make (P:=P) X.w t e it z hu hit hz k k' m m (by omega) (Int.le_refl _) hbytes (by omega)
 simp only [Int.toNat_natCast] at hr
 refine Ran.value hr (Out.newRow hh hi (k:=ye.sz) X.w rfl rfl rfl rfl h (by omega) (by simp) (by simp [madeCells,hs]) (Nat.le_refl _) (by unfold maxLen;omega) (.inl (Nat.le_refl _)) ?_)
 have:=z6i X.ow X.w (htt _ _ hye) hzc m hsz
 rw [hs]
 exact this
theorem zd0 {t:TypeId} {x a:T} {vx va:Value} {ox oa:Operand} (hx:RS X x vx) (ha:RS X a va) (h:Eff tt (.slice t ox (some oa) none none) 0 [x,a] X.H id K):Ran P X id K (do pure (.value (← Instr.sliceAt t vx (some va) none none))):=by
 simp only [Eff] at h
 split at h<;>try exact h.elim
 ·rename_i k n s y hy
  obtain rfl:=z1O ha
  obtain rfl:=z3D hx
  obtain ⟨hst,i,rfl,hil,h⟩:=h
  have hu:=z33 htt hy hst
  refine Ran.value (v:=.string (bs (s.drop i))) (w':=X.w) ?_ (Out.same hh hi h (z4b _ _))
  rw [run_sliceAt_string X.w _ _ _ _ _ hu,run_slice_string_l X.w _ _ hu _ _ (by omega) (by rw [z19];omega)]
  rw [Int.toNat_natCast,z19,z5R,List.take_length]
 ·rename_i k n kz es y hy
  obtain rfl:=z1O ha
  obtain ⟨hsz,i,rfl,hil,h⟩:=h
  obtain ⟨e,ye,hu,hye,rfl⟩:=z1c htt hy hsz
  have hx':RV X.ow X.w (.sl ye.sz es) vx:=hx
  simp only [RV] at hx'
  obtain ⟨A,c,rfl,hc,hA⟩:=hx'
  obtain ⟨hu2,hel⟩:=z4D hu
  refine Ran.value (v:=sliced A i es.length c ye.sz) (w':=X.w) ?_ (Out.same hh hi h (RV.rs0 ?_).rs)
  ·rw [run_sliceAt_slice X.w _ _ _ _ _ hu2,run_slice_l X.w _ _ _ _ hu2 _ _ (by omega) (by omega),hel,z27 (htt _ _ hye),Int.toNat_natCast]
   rfl
  ·have:=z6j (i:=i) (j:=es.length) hil (Nat.le_refl _) hc hA
   rwa [List.take_length] at this
 ·rename_i k n r y hy
  obtain rfl:=z1O ha
  split at h<;>try exact h.elim
  rename_i kz es hH
  obtain ⟨hsz,i,rfl,hil,h⟩:=h
  obtain ⟨e,ye,hu,hye,rfl⟩:=z1c htt hy hsz
  obtain ⟨hu2,hel⟩:=z4D hu
  have hx':=z7G hh (z3B X r).stab hx hH (fun g hg=>z8l (hh.ne hH) hg) (fun g _=>rfl)
  simp only [RV] at hx'
  obtain ⟨A,c,rfl,hc,hA⟩:=hx'
  refine Ran.value (v:=sliced A i es.length c ye.sz) (w':=X.w) ?_ (Out.dropped hh hi h ?_)
  ·rw [run_sliceAt_slice X.w _ _ _ _ _ hu2,run_slice_l X.w _ _ _ _ hu2 _ _ (by omega) (by omega),hel,z27 (htt _ _ hye),Int.toNat_natCast]
   rfl
  ·have:=z6j (i:=i) (j:=es.length) hil (Nat.le_refl _) hc hA
   rw [List.take_length] at this
   exact (RV.rs0 this).rs
theorem zd1 {t:TypeId} {x a:T} {vx va:Value} {ox oa:Operand} (hx:RS X x vx) (ha:RS X a va) (h:Eff tt (.slice t ox none (some oa) none) 0 [x,a] X.H id K):Ran P X id K (do pure (.value (← Instr.sliceAt t vx none (some va) none))):=by
 simp only [Eff] at h
 split at h<;>try exact h.elim
 ·rename_i k n s y hy
  obtain rfl:=z1O ha
  obtain rfl:=z3D hx
  obtain ⟨hst,i,rfl,hil,h⟩:=h
  have hu:=z33 htt hy hst
  refine Ran.value (v:=.string (bs (s.take i))) (w':=X.w) ?_ (Out.same hh hi h (z4b _ _))
  rw [run_sliceAt_string X.w _ _ _ _ _ hu,run_slice_string_h X.w _ _ hu _ _ (by omega) (by rw [z19];omega)]
  rw [Int.toNat_natCast,z5R,List.drop_zero]
 ·rename_i k n kz es y hy
  obtain rfl:=z1O ha
  obtain ⟨hsz,i,rfl,hil,h⟩:=h
  obtain ⟨e,ye,hu,hye,rfl⟩:=z1c htt hy hsz
  have hx':RV X.ow X.w (.sl ye.sz es) vx:=hx
  simp only [RV] at hx'
  obtain ⟨A,c,rfl,hc,hA⟩:=hx'
  obtain ⟨hu2,hel⟩:=z4D hu
  refine Ran.value (v:=sliced A 0 i c ye.sz) (w':=X.w) ?_ (Out.same hh hi h (RV.rs0 ?_).rs)
  ·rw [run_sliceAt_slice X.w _ _ _ _ _ hu2,run_slice_h X.w _ _ _ _ hu2 _ _ (by omega) (by omega),hel,z27 (htt _ _ hye),Int.toNat_natCast]
   rfl
  ·have:=z6j (i:=0) (j:=i) (Nat.zero_le _) hil hc hA
   rwa [List.drop_zero] at this
 ·rename_i k n r y hy
  obtain rfl:=z1O ha
  split at h<;>try exact h.elim
  rename_i kz es hH
  obtain ⟨hsz,i,rfl,hil,h⟩:=h
  obtain ⟨e,ye,hu,hye,rfl⟩:=z1c htt hy hsz
  obtain ⟨hu2,hel⟩:=z4D hu
  have hx':=z7G hh (z3B X r).stab hx hH (fun g hg=>z8l (hh.ne hH) hg) (fun g _=>rfl)
  simp only [RV] at hx'
  obtain ⟨A,c,rfl,hc,hA⟩:=hx'
  refine Ran.value (v:=sliced A 0 i c ye.sz) (w':=X.w) ?_ (Out.dropped hh hi h ?_)
  ·rw [run_sliceAt_slice X.w _ _ _ _ _ hu2,run_slice_h X.w _ _ _ _ hu2 _ _ (by omega) (by omega),hel,z27 (htt _ _ hye),Int.toNat_natCast]
   rfl
  ·have:=z6j (i:=0) (j:=i) (Nat.zero_le _) hil hc hA
   rw [List.drop_zero] at this
   exact (RV.rs0 this).rs
theorem zd2 {t:TypeId} {x a b:T} {vx va vb:Value} {ox oa ob:Operand} (hx:RS X x vx) (ha:RS X a va) (hb:RS X b vb) (h:Eff tt (.slice t ox (some oa) (some ob) none) 0 [x,a,b] X.H id K):Ran P X id K (do pure (.value (← Instr.sliceAt t vx (some va) (some vb) none))):=by
 simp only [Eff] at h
 split at h<;>try exact h.elim
 ·rename_i k n k' n' s y hy
  obtain rfl:=z1O ha
  obtain rfl:=z1O hb
  obtain rfl:=z3D hx
  obtain ⟨hst,i,j,rfl,rfl,hij,hjl,h⟩:=h
  have hu:=z33 htt hy hst
  refine Ran.value (v:=.string (bs ((s.take j).drop i))) (w':=X.w) ?_ (Out.same hh hi h (z4b _ _))
  rw [run_sliceAt_string X.w _ _ _ _ _ hu,run_slice_string X.w _ _ _ _ _ _ hu (by omega) (by omega) (by rw [z19];omega)]
  rw [Int.toNat_natCast,Int.toNat_natCast,z5R]
 ·rename_i k n k' n' kz es y hy
  obtain rfl:=z1O ha
  obtain rfl:=z1O hb
  obtain ⟨hsz,i,j,rfl,rfl,hij,hjl,h⟩:=h
  obtain ⟨e,ye,hu,hye,rfl⟩:=z1c htt hy hsz
  have hx':RV X.ow X.w (.sl ye.sz es) vx:=hx
  simp only [RV] at hx'
  obtain ⟨A,c,rfl,hc,hA⟩:=hx'
  obtain ⟨hu2,hel⟩:=z4D hu
  refine Ran.value (v:=sliced A i j c ye.sz) (w':=X.w) ?_ (Out.same hh hi h (RV.rs0 (z6j hij hjl hc hA)).rs)
  rw [run_sliceAt_slice X.w _ _ _ _ _ hu2,run_slice_lh X.w _ _ _ _ hu2 _ _ _ _ (by omega) (by omega) (by omega),hel,z27 (htt _ _ hye),Int.toNat_natCast,Int.toNat_natCast]
  rfl
end
end Go.Proofs.YtgmbkbggnlponaaGreatDoor
namespace Go.Proofs.YtgmbkbggnlponaaGreatDoor
set_option linter.unusedVariables false
set_option linter.unusedSimpArgs false
set_option linter.unusedSectionVars false
open Go.RowKit Pl
def zea (P:Program) (u:TypeId):Prop:=(∃ e,P.underlying u=some (.slice e)) ∨ P.underlying u=some .string
def z7J (P:Program) (w:World) (u:TypeId) (i:TypeInfo) (m:Nat) (x:Value) (news:List Value):Prop :=
 (zea P u∧Builtin.lenOf x=pure m∧(Builtin.firstCells i.size m x).run P w=.ok news.toArray w) ∨
 (∃ kk z,P.underlying u=some (.int kk)∧x=.int kk (m:Int)∧i.zero=some z∧i.size ≠ 0∧(m:Int)≤1000000000∧i.bytes≤100000∧news.toArray=Builtin.zeroCells z.cells m)
theorem zfO {n:Int} (h1:-9223372036854775808≤n) (h2:n≤9223372036854775807):IntKind.i64.wrap n=n:=by
 show (if (true&&decide (n % 2 ^ 64 ≥ 2 ^ (64-1)))=true then n % 2 ^ 64-2 ^ 64 else n % 2 ^ 64)=n
 simp only [Bool.true_and,decide_eq_true_eq,show (2:Int) ^ 64=18446744073709551616 from rfl,show (2:Int) ^ (64-1)=9223372036854775808 from rfl]
 split<;>omega
theorem z7K {m:Nat} (h:(m:Int)≤1000000000):IntKind.i64.wrap (m:Int)=(m:Int):=zfO (by omega) (by omega)
theorem z6k:IntKind.i64.wrap 0=0:=by decide
theorem z7L (cs:Array Value):Builtin.zeroCells cs 0=#[]:=by simp [Builtin.zeroCells,Array.range]
theorem z9v {m b:Nat} (h1:(m:Int)≤1000000000) (h2:b≤100000):¬ (281474976710656<(m:Int) * (b:Int)):=by
 have h3:m * b≤1000000000 * 100000:=Nat.mul_le_mul (by omega) h2
 have h4:((m * b:Nat):Int)≤100000000000000:=by omega
 rw [Int.natCast_mul] at h4
 omega
theorem z2r {P:Program} (w:World) {t u ty e:TypeId} {i:TypeInfo} (ht:P.underlying t=some (.slice e)) (hi:P.info? e=some i)
 (base:Option Addr) (n c m:Nat) (x:Value) (news:List Value) (hs:z7J P w u i m x news) (hroom:n+m≤c) :
 (Builtin.append_ #[t,u] ty #[.slice base n c,x]).run P w=(match base with
   | some a=>((storeCells (a.add (n * i.size)) news).run P w).andThen fun _ w'=>.ok (.slice base (n+m) c) w'
   | none=>.ok (.slice none (n+m) c) w):=by
 rcases hs with ⟨⟨e2,hu⟩|hu,hlen,hx⟩|⟨kk,z,hu,rfl,hz,hsz,h9,hb,hn⟩
 ·cases base with
  | none=>simp [Builtin.append_,run_underlying ht,run_underlying hu,sizeOf,typeInfo,hi,hlen,hroom,hx]
  | some a=>simp [Builtin.append_,run_underlying ht,run_underlying hu,sizeOf,typeInfo,hi,hlen,hroom,hx]
 ·cases base with
  | none=>simp [Builtin.append_,run_underlying ht,run_underlying hu,sizeOf,typeInfo,hi,hlen,hroom,hx]
  | some a=>simp [Builtin.append_,run_underlying ht,run_underlying hu,sizeOf,typeInfo,hi,hlen,hroom,hx]
 ·have hw:IntKind.i64.wrap (m:Int)=(m:Int):=z7K h9
  have h0:¬ ((m:Int)<0):=by omega
  have hf:=z9v h9 hb
  have hl:news=(Builtin.zeroCells z.cells m).toList:=by rw [← hn]
  by_cases hm:m=0
  ·subst hm
   rw [z7L] at hl
   subst hl
   have hn0:n≤c:=by omega
   have hn1:¬ (c<n):=by omega
   cases base with
   | none=>simp [Builtin.append_,run_underlying ht,run_underlying hu,sizeOf,typeInfo,hi,asInt,asIntOf,z6k,hn0,hn1]
   | some a=>simp [Builtin.append_,run_underlying ht,run_underlying hu,sizeOf,typeInfo,hi,asInt,asIntOf,z6k,hn0,hn1]
  ·have hms:¬ (m * i.size=0):=fun h=>(Nat.mul_eq_zero.1 h).elim hm hsz
   subst hl
   cases base with
   | none=>simp [Builtin.append_,run_underlying ht,run_underlying hu,sizeOf,typeInfo,zeroValue,hi,hz,asInt,asIntOf,hw,h0,hf,hroom,hms,hm,hsz]
   | some a=>simp [Builtin.append_,run_underlying ht,run_underlying hu,sizeOf,typeInfo,zeroValue,hi,hz,asInt,asIntOf,hw,h0,hf,hroom,hms,hm,hsz]
theorem z5y {P:Program} (w:World) {t u ty e:TypeId} {i:TypeInfo} {z:Value} (ht:P.underlying t=some (.slice e)) (hi:P.info? e=some i) (hz:i.zero=some z)
 (base:Option Addr) (n c m:Nat) (x:Value) (olds news:List Value) (hs:z7J P w.drew u i m x news)
 (ho:(Builtin.firstCells i.size n (.slice base n c)).run P w.drew=.ok olds.toArray w.drew) (hroom:c<n+m) (h63:((n+m:Nat):Int)≤9223372036854775807) (hfit:Builtin.nextslicecap (n+m) c * i.bytes≤281474976710656) :
 (Builtin.append_ #[t,u] ty #[.slice base n c,x]).run P w=.ok (.slice (some ⟨w.heap.size,0,none⟩) (n+m) (grownCap w (n+m) c e))
   (w.drew.alloc (.cells (olds.toArray++news.toArray++Builtin.zeroCells z.cells (grownCap w (n+m) c e-(n+m))) e)):=by
 have hn:¬ (n+m≤c):=by omega
 have h63':¬ (9223372036854775807<((n:Int)+(m:Int))):=by omega
 have h48':¬ (281474976710656<Builtin.nextslicecap (n+m) c * i.bytes):=by omega
 rcases hs with ⟨⟨e2,hu⟩|hu,hlen,hx⟩|⟨kk,z2,hu,rfl,hz2,hsz,h9,hb,hne⟩
 ·simp [Builtin.append_,run_underlying ht,run_underlying hu,sizeOf,typeInfo,zeroValue,hi,hz,hlen,hn,h63',h48',Question.forced,hx,ho,newRow,grownCap]
  congr 2
  apply Array.ext'
  simp [List.append_assoc]
 ·simp [Builtin.append_,run_underlying ht,run_underlying hu,sizeOf,typeInfo,zeroValue,hi,hz,hlen,hn,h63',h48',Question.forced,hx,ho,newRow,grownCap]
  congr 2
  apply Array.ext'
  simp [List.append_assoc]
 ·rw [hz] at hz2;injection hz2 with hz2;subst hz2
  have hw:IntKind.i64.wrap (m:Int)=(m:Int):=z7K h9
  have h0:¬ ((m:Int)<0):=by omega
  have hf:=z9v h9 hb
  have hl:news=(Builtin.zeroCells z.cells m).toList:=by rw [← hne]
  subst hl
  by_cases hm:m=0
  ·subst hm
   have hn2:¬ (n≤c):=by omega
   have h63b:¬ (9223372036854775807<(n:Int)):=by omega
   have h48b:¬ (281474976710656<Builtin.nextslicecap n c * i.bytes):=by simpa using h48'
   simp [Builtin.append_,run_underlying ht,run_underlying hu,sizeOf,typeInfo,zeroValue,hi,hz,asInt,asIntOf,z6k,hn2,h63b,h48b,Question.forced,ho,newRow,grownCap,z7L]
  ·have hms:¬ (m * i.size=0):=fun h=>(Nat.mul_eq_zero.1 h).elim hm hsz
   simp [Builtin.append_,run_underlying ht,run_underlying hu,sizeOf,typeInfo,zeroValue,hi,hz,asInt,asIntOf,hw,h0,hf,hn,h63',h48',Question.forced,ho,newRow,grownCap,hms,hm,hsz]
   try (congr 2;apply Array.ext';simp [List.append_assoc])
structure Src (P:Program) (X:Cx) (u e:TypeId) (k:Nat) (es:List (List T)) (v:Value) (us:List Value):Prop where
 src:∀ it,P.info? e=some it→it.size=k→∀ w:World,w.heap=X.w.heap→z7J P w u it es.length v us
 cnt:us.length=es.length * k
 rel:RE X.ow X.w k es us
 one:∀ v ∈ us,v.oneCell'=true
theorem zeb {ow:Own} {w:World} {k:Nat}:∀ {es:List (List T)} {us:List Value},RE ow w k es us→us.length=es.length * k→∀ v ∈ us,v.oneCell'=true
 | [],us,_,hl,v,hv=>by
   have:us=[]:=List.eq_nil_of_length_eq_zero (by simpa using hl)
   subst this;cases hv
 | e :: es,_,h,hl,v,hv=>by
   simp only [RE] at h
   obtain ⟨xs,rest,rfl,hx,h1,h2⟩:=h
   rw [List.length_append,List.length_cons,Nat.add_mul,hx] at hl
   rcases List.mem_append.1 hv with hv|hv
   ·exact h1.one v hv
   ·exact zeb h2 (by omega) v hv
theorem z4E {P:Program} {X:Cx} {u e:TypeId} {k:Nat} {es:List (List T)} {A:Option Addr} {c:Nat} (hu:zea P u) (h:es=[] ∨ ∃ g o C t fr,A=some ⟨g,o,none⟩∧X.w.heap[g]?=some (.cells C t fr)∧RE X.ow X.w k es (C.toList.drop o)) :
 ∃ us,Src P X u e k es (.slice A es.length c) us:=by
 rcases h with rfl|⟨g,o,C,t,fr,rfl,hC,hr⟩
 ·refine ⟨[],⟨fun it hit hk w hw=>.inl ⟨hu,rfl,?_⟩,by simp,by simp [RE],by simp⟩⟩
  cases A with
  | none=>simp [Builtin.firstCells]
  | some a=>simp [Builtin.firstCells,loadCells,loadCellsFrom]
 ·have hlen:=hr.len
  refine ⟨(C.toList.drop o).take (es.length * k),⟨fun it hit hk w hw=>.inl ⟨hu,rfl,?_⟩,by rw [List.length_take];omega,hr.ext ⟨[],by simp [List.take_take]⟩,?_⟩⟩
  ·rw [hk]
   exact run_firstCells_some (P:=P) w k es.length ⟨g,o,none⟩ es.length c _ (by rw [List.length_take];omega) (fun j v hv=>by
    rw [z2j]
    have:=z17 hv
    simp only [World.cell?,hw,hC]
    simpa using this)
  ·exact zeb (hr.ext ⟨[],by simp [List.take_take]⟩) (by rw [List.length_take];omega)
theorem z7M {P:Program} {tt:TT} (htt:TtOk P tt) {X:Cx} (hh:HR X) {ye yu:Ty} {u:TypeId} {e:TypeId} (hyu:tt u=some yu) (hye:tt e=some ye) {z:T} {v:Value} {K:Nat→List (List T)→Prop} (hz:RS X z v) (h:z67 tt X.H ye yu z K) :
 ∃ k es us,K k es∧Src P X u e k es v us:=by
 unfold z67 at h
 split at h<;>try exact h.elim
 ·rename_i s
  split at h<;>try exact h.elim
  rename_i k es hH
  obtain ⟨hsz,hk⟩:=h
  obtain ⟨e',ye',hu',_,_⟩:=z1c htt hyu hsz
  obtain ⟨_,_,h3⟩:=z6b hz
  rcases h3 _ _ hH with ⟨rfl,h0⟩|⟨g,c,C,t,fr,rfl,hg,hC,_⟩
  ·have he:es=[]:=List.eq_nil_of_length_eq_zero h0
   subst he
   obtain ⟨us,hs⟩:=z4E (P:=P) (X:=X) (u:=u) (e:=e) (k:=k) (es:=[]) (A:=none) (c:=0) (.inl ⟨_,hu'⟩) (.inl rfl)
   exact ⟨k,[],us,hk,hs⟩
  ·obtain ⟨_,hn⟩:=(hh.node _ _ hH).2
   have:es=[] ∨ ∃ g' o C t fr,(some ⟨g,0,none⟩:Option Addr)=some ⟨g',o,none⟩∧X.w.heap[g']?=some (.cells C t fr)∧RE X.ow X.w k es (C.toList.drop o):=by
    rcases hn with hn|⟨g',C',t',fr',hg',hC',hf,hl⟩
    ·exact .inl hn
    ·obtain rfl:=hh.inj' hH hg hg'
     exact .inr ⟨g,0,C',t',fr',rfl,hC',by simpa using hl⟩
   obtain ⟨us,hs⟩:=z4E (P:=P) (u:=u) (e:=e) (c:=c) (.inl ⟨_,hu'⟩) this
   exact ⟨k,es,us,hk,hs⟩
 ·rename_i k es
  obtain ⟨hsz,hk⟩:=h
  obtain ⟨e',ye',hu',_,_⟩:=z1c htt hyu hsz
  have hx':RV X.ow X.w (.sl k es) v:=hz
  simp only [RV] at hx'
  obtain ⟨A,c,rfl,hc,hA⟩:=hx'
  have:es=[] ∨ ∃ g o C t fr,A=some ⟨g,o,none⟩∧X.w.heap[g]?=some (.cells C t fr)∧RE X.ow X.w k es (C.toList.drop o):=by
   rcases hA with hA|⟨g,o,C,t,fr,hA,_,hC,hr⟩
   ·exact .inl hA
   ·exact .inr ⟨g,o,C,t,fr,hA,hC,hr⟩
  obtain ⟨us,hs⟩:=z4E (P:=P) (u:=u) (e:=e) (c:=c) (.inl ⟨_,hu'⟩) this
  exact ⟨k,es,us,hk,hs⟩
 ·obtain ⟨rfl,hsz,hk⟩:=h
  obtain ⟨e',ye',hu',_,_⟩:=z1c htt hyu hsz
  have hx':v=nilV∧nilV.oneCell'=true:=by simpa [RS,RS1,RS0,RV] using hz
  obtain ⟨rfl,_⟩:=hx'
  obtain ⟨us,hs⟩:=z4E (P:=P) (X:=X) (u:=u) (e:=e) (k:=ye.sz) (es:=[]) (A:=none) (c:=0) (.inl ⟨_,hu'⟩) (.inl rfl)
  exact ⟨_,[],us,hk,hs⟩
 ·rename_i b
  obtain ⟨hst,_,hk⟩:=h
  have hu':=z33 htt hyu hst
  obtain rfl:=z3D hz
  refine ⟨1,z0f b,b.map fun x=>Value.int .u8 (x.toNat:Int),hk,⟨fun it hit hk1 w hw=>.inl ⟨.inr hu',by simp [Builtin.lenOf,z19,z0f],?_⟩,by simp [z0f],z8s b,?_⟩⟩
  ·have hb:((bs b).extract 0 b.length)=bs b:=by
    rw [z5R,List.drop_zero,List.take_length]
   simp only [Builtin.firstCells,z0f,List.length_map,hb]
   simp [bs]
  ·intro v hv
   simp at hv
   obtain ⟨x,_,rfl⟩:=hv
   rfl
 ·rename_i kk n
  obtain ⟨hd,hsz,hble,m,rfl,hm,hk⟩:=h
  have hu':P.underlying u=some (.int kk):=by
   split at hd<;>try exact hd.elim
   rename_i k' hd'
   subst hd
   exact zaU (htt _ _ hyu) hd'
  obtain rfl:=z1O hz
  obtain ⟨it,z,hit,hs,hb,hz,hzc⟩:=(htt _ _ hye).info
  have hbl:=Nat.le_of_ble_eq_true hble
  have hzl:z.cells.size=ye.sz:=by have:=(htt _ _ hye).len;rw [← Array.length_toList,hzc,List.length_map,this]
  have hre:=z6i X.ow X.w (htt _ _ hye) hzc m hsz
  have hcl:(Builtin.zeroCells z.cells m).toList.length=(List.replicate m ye.zero).length * ye.sz:=by simp [Builtin.zeroCells,hzl]
  have he:(Builtin.zeroCells z.cells m).toList=((Array.range (m * ye.sz)).map (fun i=>z.cells[i % z.cells.size]!)).toList:=by simp [Builtin.zeroCells,hzl]
  rw [← he] at hre
  refine ⟨ye.sz,List.replicate m ye.zero,(Builtin.zeroCells z.cells m).toList,hk,⟨fun it' hit' hk1 w hw=>.inr ⟨kk,z,hu',by simp,?_,by omega,by simpa using hm,?_,by simp⟩,hcl,hre,zeb hre hcl⟩⟩
  ·rw [hit] at hit';injection hit' with hit';subst hit';exact hz
  ·rw [hit] at hit';injection hit' with hit';subst hit';omega
def Cx.move (X:Cx) (r id:Nat) (e:Ent) (g:Nat) (C:Array Value) (t:TypeId) (fr:Nat × Nat):Cx :=
 { H:=updE (updE X.H r none) id (some e),ow:=fun j=>if j=g then some id else if X.ow j=some r then none else X.ow j,w:={ X.w with heap:=X.w.heap.setIfInBounds g (.cells C t fr) },us:=X.win id,iw:=X.iw }
section
variable {X:Cx} {id:Nat} {K:Kon} (hh:HR X) (hi:Fresh X id)
include hh hi
theorem zd3 {r:Nat} {e0 e:Ent} {g:Nat} {C0 C:Array Value} {t:TypeId} {fr:Nat × Nat} (h0:X.H r=some e0) (hg:X.ow g=some r) (hC:X.w.heap[g]?=some (.cells C0 t fr))
 (hnode:Same X (X.move r id e g C t fr)→(X.move r id e g C t fr).w.heap[g]?=some (.cells C t fr)→Node (X.move r id e g C t fr) id e):Same X (X.move r id e g C t fr)∧HR (X.move r id e g C t fr)∧(X.move r id e g C t fr).w.heap[g]?=some (.cells C t fr)∧(X.move r id e g C t fr).ow g=some id:=by
 have hlt:=z1f hC
 have hrn:=(hh.node _ _ h0).1
 have hget:∀ i,(X.move r id e g C t fr).w.heap[i]?=if i=g then some (.cells C t fr) else X.w.heap[i]?:=fun i=>by
  show (X.w.heap.setIfInBounds g _)[i]?=_
  rw [Array.getElem?_setIfInBounds]
  by_cases hi:g=i
  ·subst hi;simp [hlt]
  ·rw [if_neg hi,if_neg (fun h=>hi h.symm)]
 have how:∀ j i,(X.move r id e g C t fr).ow j=some i→(j=g∧i=id) ∨ (j ≠ g∧i ≠ r∧X.ow j=some i):=fun j i h=>by
  change (if j=g then some id else if X.ow j=some r then none else X.ow j)=some i at h
  split at h
  ·injection h with h;exact .inl ⟨by assumption,h.symm⟩
  ·split at h
   ·cases h
   ·rename_i h1 h2
    exact .inr ⟨h1,fun hir=>h2 (by rw [h,hir]),h⟩
 have hH:∀ i,(X.move r id e g C t fr).H i=if i=id then some e else if i=r then none else X.H i:=fun i=>by
  show updE (updE X.H r none) id (some e) i=_
  by_cases h1:i=id
  ·subst h1;rw [z0A];simp
  ·rw [z0j _ _ h1,if_neg h1]
   by_cases h2:i=r
   ·subst h2;rw [z0A];simp
   ·rw [z0j _ _ h2,if_neg h2]
 have hs:Same X (X.move r id e g C t fr):=by
  refine ⟨fun _ h=>.inl h,rfl,rfl,rfl,by show _≤(X.w.heap.setIfInBounds g _).size;simp,fun i hi hno=>⟨?_,?_⟩,fun i hi' e' he=>?_,fun i hi0 hi1=>?_,fun i hi' hne j hj=>⟨?_,fun C' t' fr' hC'=>?_⟩⟩
  ·show (if i=g then some id else if X.ow i=some r then none else X.ow i)=none
   have:i ≠ g:=fun h=>by subst h;rw [hg] at hno;cases hno
   rw [if_neg this,hno];simp
  ·rw [hget,if_neg]
   intro h;subst h;rw [hg] at hno;cases hno
  ·rw [hH,if_neg (hi.ne hi')] at he
   split at he
   ·cases he
   ·exact ⟨e',he,rfl⟩
  ·have h1:i ≠ g:=fun h=>by subst h;rw [hg] at hi0;injection hi0 with hi0;exact hh.ne h0 hi0
   refine ⟨⟨?_,hi1⟩,by rw [hget,if_neg h1]⟩
   show (if i=g then some id else if X.ow i=some r then none else X.ow i)=some 0
   rw [if_neg h1,hi0,if_neg (fun h=>hh.ne h0 (by injection h with h;exact h.symm))]
  ·rw [hH,if_neg (hi.ne hi')] at hne
   have hir:i ≠ r:=fun h=>by subst h;simp at hne
   show (if j=g then some id else if X.ow j=some r then none else X.ow j)=some i
   have hjg:j ≠ g:=fun h=>by subst h;rw [hg] at hj;injection hj with hj;exact hir hj.symm
   rw [if_neg hjg,hj,if_neg (fun h=>hir (by injection h))]
  ·rw [hH,if_neg (hi.ne hi')] at hne
   have hir:i ≠ r:=fun h=>by subst h;simp at hne
   have hjg:j ≠ g:=fun h=>by subst h;rw [hg] at hj;injection hj with hj;exact hir hj.symm
   rw [hget,if_neg hjg]
   exact ⟨C',hC',rfl⟩
 have hgg:(X.move r id e g C t fr).w.heap[g]?=some (.cells C t fr):=by rw [hget,if_pos rfl]
 refine ⟨hs,⟨fun a b i hi0 h1 h2=>?_,fun a i h1=>?_,fun i e' he=>?_,by rw [hH,if_neg (hi.ne hh.pos)];split<;>first|rfl|exact hh.zero,.inl hh.pos,hh.gl.mono hs.stab,fun j hj=>?_⟩,hgg,by show (if g=g then some id else _)=some id;simp⟩
 rotate_right
 ·obtain ⟨a,b,c⟩:=hh.inn j hj
  have h1:j ≠ g:=fun h=>by subst h;rw [hg] at a;injection a with a;exact hh.ne h0 a
  refine ⟨?_,by show j<(X.w.heap.setIfInBounds g _).size;simpa using b,.inl c⟩
  show (if j=g then some id else if X.ow j=some r then none else X.ow j)=some 0
  rw [if_neg h1,a,if_neg (fun h=>hh.ne h0 (by injection h with h;exact h.symm))]
 ·rcases how _ _ h1 with ⟨p1,p2⟩|⟨h3,h4,h5⟩<;>rcases how _ _ h2 with ⟨p3,p4⟩|⟨h6,h7,h8⟩
  ·omega
  ·subst p2;exact absurd rfl (hi.ne (hh.lt _ _ h8).2)
  ·subst p4;exact absurd rfl (hi.ne (hh.lt _ _ h5).2)
  ·rw [hH,if_neg (hi.ne (hh.lt _ _ h5).2),if_neg h4] at hi0
   exact hh.inj _ _ _ hi0 h5 h8
 ·rcases how _ _ h1 with ⟨rfl,rfl⟩|⟨h3,h4,h5⟩
  ·exact ⟨by show a<(X.w.heap.setIfInBounds a _).size;simpa using hlt,.inr ⟨Nat.le_refl _,by omega⟩⟩
  ·obtain ⟨q1,q2⟩:=hh.lt _ _ h5
   exact ⟨by show a<(X.w.heap.setIfInBounds g _).size;simpa using q1,.inl q2⟩
 ·rw [hH] at he
  split at he
  ·rename_i h1;subst h1
   injection he with he;subst he
   exact ⟨.inr ⟨Nat.le_refl _,by omega⟩,hnode hs hgg⟩
  ·split at he
   ·cases he
   ·rename_i h1 h2
    obtain ⟨q1,q2⟩:=hh.node i e' he
    refine ⟨.inl q1,q2.mono hs q1 (by rw [hH,if_neg h1,if_neg h2,he];simp) (fun j hj=>?_) (fun b hb=>⟨hb,?_⟩)⟩
    ·rw [hget,if_neg]
     intro h;subst h;rw [hg] at hj;injection hj with hj;exact h2 hj.symm
    ·have hb2:=(hh.inn b (by rw [hb];exact hh.ne he)).1
     rw [hget,if_neg]
     intro h;subst h;rw [hg] at hb2;injection hb2 with hb2;exact hh.ne h0 hb2
theorem Out.emptyRow {k:Nat} {gone:List Nat} (hk:0<k) (h:K (.ref id) (z16 gone++[(id,some (.row k []))])):Out X id K nilV X.w:=by
 have hd:=z13 X gone
 have hr:=hh.dropL gone
 have hkey:∀ (a:Upd) (H:Hp) (b:Upd),updL (updL H a) b=updL H (a++b):=fun a=>by
  induction a with
  | nil=>intro H b;rfl
  | cons p a ih=>intro H b;obtain ⟨r,e⟩:=p;exact ih _ _
 let Y:Cx:={ X.dropL gone with H:=updE (X.dropL gone).H id (some (.row k [])),us:=X.win id }
 have hfr:=z2Q gone hi
 have hno:∀ g,(X.dropL gone).ow g ≠ some id:=fun g h=>hfr.ne (hr.lt g id h).2 rfl
 have hs:Same (X.dropL gone) Y:=by
  refine ⟨fun r h=>.inl (by rwa [z3k] at h),rfl,rfl,rfl,Nat.le_refl _,fun g _ h=>⟨h,rfl⟩,fun r hr e' he=>?_,fun g h h0=>⟨⟨h,h0⟩,rfl⟩,fun r hr _ g hg=>⟨hg,fun C t fr hC=>⟨C,hC,rfl⟩⟩⟩
  change updE (X.dropL gone).H id _ r=_ at he
  rw [z0j _ _ (hfr.ne hr)] at he
  exact ⟨e',he,rfl⟩
 refine ⟨.ref id,_,Y,h,z3j X gone,rfl,?_,hd.trans hs,⟨fun g g' r h0 h1 h2=>hr.inj g g' r (by change updE (X.dropL gone).H id _ r ≠ none at h0;rwa [z0j _ _ (hfr.ne (hr.lt g r h1).2)] at h0) h1 h2,fun g r hg=>?_,fun r e he=>?_,by show updE (X.dropL gone).H id _ 0=none;rw [z0j _ _ (hi.ne hh.pos)];exact hr.zero,.inl hh.pos,hr.gl.mono hs.stab,fun g hg=>by
  obtain ⟨a,b,c⟩:=hr.inn g hg
  exact ⟨a,b,.inl (by rwa [z3k] at c)⟩⟩,⟨.inr ⟨Nat.le_refl _,by omega⟩,⟨_,_,_,rfl⟩,fun e' he _=>?_⟩⟩
 ·show updE (X.dropL gone).H id _=_
  rw [z3G,← hkey];rfl
 ·obtain ⟨q1,q2⟩:=hr.lt g r hg
  exact ⟨q1,.inl (by rwa [z3k] at q2)⟩
 ·change updE (X.dropL gone).H id _ r=_ at he
  by_cases hrid:r=id
  ·subst hrid
   rw [z0A] at he;injection he with he;subst he
   exact ⟨.inr ⟨Nat.le_refl _,by omega⟩,hk,.inl rfl⟩
  ·rw [z0j _ _ hrid] at he
   obtain ⟨q1,q2⟩:=hr.node r e he
   refine ⟨.inl (by rwa [z3k] at q1),q2.mono hs q1 (by show updE (X.dropL gone).H id _ r ≠ none;rw [z0j _ _ hrid,he];simp) (fun g _=>rfl) (fun b hb=>⟨hb,rfl⟩)⟩
 ·change updE (X.dropL gone).H id _ id=_ at he
  rw [z0A] at he;injection he with he;subst he
  exact .inl ⟨rfl,rfl⟩
end
end Go.Proofs.YtgmbkbggnlponaaGreatDoor
