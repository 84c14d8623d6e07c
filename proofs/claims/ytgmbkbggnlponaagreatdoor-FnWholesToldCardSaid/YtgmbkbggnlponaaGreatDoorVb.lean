/- One operation, told by content: lengths and appends, proved. Contracts by content, and what a call does. Contracts by content, and what a call does. What a call leaves behind. One state tells as much as another, under other numbers. What a text asks of the contents, and what it gives: the whole code but regions that draw. -/
import Derived.Test.YtgmbkbggnlponaaGreatDoorVa
namespace Go.Proofs.YtgmbkbggnlponaaGreatDoor
set_option linter.unusedVariables false
set_option linter.unusedSimpArgs false
set_option linter.unusedSectionVars false
open Go.RowKit Pl
theorem z4g:∀ (a:Upd) (H:Hp) (b:Upd),updL (updL H a) b=updL H (a++b)
 | [],H,b=>rfl
 | (r,e) :: a,H,b=>z4g a _ b
theorem OE.one {w:World} {k:Nat}:∀ {es:List (List T)} {us:List Value} {bs:List Nat},OE w k es us bs→us.length=es.length * k→∀ v ∈ us,v.oneCell'=true
 | [],us,_,_,hl,v,hv=>by
   have:us=[]:=List.eq_nil_of_length_eq_zero (by simpa using hl)
   subst this;cases hv
 | e :: es,_,_,h,hl,v,hv=>by
   simp only [OE] at h
   obtain ⟨xs,rest,b1,b2,rfl,hx,rfl,h1,h2⟩:=h
   rw [List.length_append,List.length_cons,Nat.add_mul,hx] at hl
   rcases List.mem_append.1 hv with hv|hv
   ·exact h1.one v hv
   ·exact OE.one h2 (by omega) v hv
theorem zec {X:Cx} {id:Nat} {K:Kon} {e:Ent} {gone ab:List Nat} {root:Option Nat} {w':World} {v:Value} (hre:Same X (X.re id e gone ab root w')∧HR (X.re id e gone ab root w')) (h:K (.ref id) (z16 gone++[(id,some e)]))
 (hv:RS (X.re id e gone ab root w') (.ref id) v):Out X id K v w':=⟨_,_,_,h,rfl,rfl,by rw [← z4g];rfl,hre.1,hre.2,hv⟩
theorem z9w {P:Program} {tt:TT} (htt:TtOk P tt) {X:Cx} (hh:HR X) {yu:Ty} {u e:TypeId} (hyu:tt u=some yu) {s k:Nat} {es:List (List T)} {v:Value} (hsz:z1g tt yu=some k) (hz:RS X (.ref s) v) (hH:X.H s=some (.deep k es [])) :
 ∃ us bs,(∀ it,P.info? e=some it→it.size=k→∀ w:World,w.heap=X.w.heap→z7J P w u it es.length v us)∧us.length=es.length * k∧(∀ v ∈ us,v.oneCell'=true)∧OE X.w k es us bs∧bs.Nodup∧∀ b ∈ bs,X.iw b=s:=by
 obtain ⟨e',ye',hu',_,_⟩:=z1c htt hyu hsz
 obtain ⟨_,_,h3⟩:=z6c hz
 have hnil:es=[]→∀ A c,v=.slice A 0 c→∃ us bs,(∀ it,P.info? e=some it→it.size=k→∀ w:World,w.heap=X.w.heap→z7J P w u it es.length v us)∧us.length=es.length * k∧(∀ v ∈ us,v.oneCell'=true)∧OE X.w k es us bs∧bs.Nodup∧∀ b ∈ bs,X.iw b=s:=fun he A c hv=>by
  subst he hv
  refine ⟨[],[],fun it hit hk w hw=>.inl ⟨.inl ⟨_,hu'⟩,rfl,?_⟩,by simp,by simp,by simp [OE],List.nodup_nil,fun b hb=>by cases hb⟩
  cases A with
  | none=>simp [Builtin.firstCells]
  | some a=>simp [Builtin.firstCells,loadCells,loadCellsFrom]
 rcases h3 _ _ _ hH with ⟨hv,h0⟩|⟨g,c,C,t,fr,hv,hg,hC,_⟩
 ·exact hnil (List.eq_nil_of_length_eq_zero h0) none 0 hv
 ·obtain ⟨_,hn⟩:=(hh.node _ _ hH).2
  rcases hn with ⟨he,_⟩|⟨g',C',t',fr',bs,hg',hC',hf,hd,ho,hl,_⟩
  ·exact hnil he _ _ (by rw [hv,he];rfl)
  ·obtain rfl:=hh.inj' hH hg hg'
   have hfit:=hl.fits
   have hext:OE X.w k es (C'.toList.take (es.length * k)) bs:=hl.ext ⟨[],by simp [List.take_take]⟩
   have hul:(C'.toList.take (es.length * k)).length=es.length * k:=by rw [List.length_take];omega
   refine ⟨C'.toList.take (es.length * k),bs,fun it hit hk w hw=>.inl ⟨.inl ⟨_,hu'⟩,by rw [hv];rfl,?_⟩,hul,hext.one hul,hext,hd,ho⟩
   rw [hk,hv]
   exact run_firstCells_some (P:=P) w k es.length ⟨g,0,none⟩ es.length c _ hul (fun j q hq=>by
    rw [z2j]
    have hq2:C'.toList[j]?=some q:=by
     rw [List.getElem?_take] at hq
     split at hq
     ·exact hq
     ·cases hq
    simp only [World.cell?,hw,hC']
    simpa using hq2)
theorem zfP {P:Program} {tt:TT} (htt:TtOk P tt) {X:Cx} {id:Nat} {K:Kon} (hh:HR X) (hi:Fresh X id) {t u ty e:TypeId} {yu ye:Ty} {x:T} {v zv:Value} {s k:Nat} {es:List (List T)}
 (ht:P.underlying t=some (.slice e)) (hyu:tt u=some yu) (hye:tt e=some ye) (hH:X.H s=some (.deep k es [])) (hx:RS X x v) (hz:RS X (.ref s) zv)
 (h:appD tt X.H ye yu x s k fun es0 gone=>k=ye.sz∧ye.sz ≠ 0∧Nat.ble ye.by8 100000=true∧((es0++es).length:Int)≤1000000000∧K (.ref id) (z16 gone++[(id,some (.deep ye.sz (es0++es) []))])) :
 ∃ q w',(Builtin.append_ #[t,u] ty #[v,zv]).run P X.w=.ok q w'∧Out X id K q w':=by
 obtain ⟨it,z0,hit,hsz2,hb2,hz0,hzc⟩:=(htt _ _ hye).info
 have hs0:s ≠ 0:=hh.ne hH
 have hsu:X.us s:=(hh.node _ _ hH).1
 have main:∀ (es0:List (List T)) (gone:List Nat) (us0 us:List Value) (bs0 bs:List Nat) (base:Option Addr) (c:Nat),v=.slice base es0.length c→s ∈ gone→0 ∉ gone→(∀ r ∈ gone,X.us r)→k=ye.sz→ye.sz ≠ 0→Nat.ble ye.by8 100000=true→((es0++es).length:Int)≤1000000000→K (.ref id) (z16 gone++[(id,some (.deep ye.sz (es0++es) []))]) →
  (∀ it,P.info? e=some it→it.size=k→∀ w:World,w.heap=X.w.heap→z7J P w u it es.length zv us)→us.length=es.length * k→(∀ v ∈ us,v.oneCell'=true)→OE X.w k es us bs→bs.Nodup→(∀ b ∈ bs,X.iw b=s) →
  us0.length=es0.length * k→OE X.w k es0 us0 bs0→bs0.Nodup→(∀ b ∈ bs0,∃ r ∈ gone,r ≠ s∧X.iw b=r)→(∀ w:World,w.heap=X.w.heap→(Builtin.firstCells k es0.length (.slice base es0.length c)).run P w=.ok us0.toArray w) →
  (es0.length+es.length≤c→(base=none∧es=[]∧es0=[]∧c=0) ∨ ∃ g C tb fr r,base=some ⟨g,0,none⟩∧X.ow g=some r∧r ∈ gone∧X.w.heap[g]?=some (.cells C tb fr)∧z7p fr C.size∧C.size=c * k∧c≤maxLen∧C.toList.take (es0.length * k)=us0) →
  ∃ q w',(Builtin.append_ #[t,u] ty #[v,zv]).run P X.w=.ok q w'∧Out X id K q w':=by
  rintro es0 gone us0 us bs0 bs base c rfl hsg h0g hgu rfl hsz hble hlen hk n1 n2 n3 n4 n5 n6 m1 m2 m3 m4 m5 m6
  have hbl:=Nat.le_of_ble_eq_true hble
  have hl2:(es0++es).length=es0.length+es.length:=List.length_append
  have hlenN:es0.length+es.length≤1000000000:=by omega
  have hbsn:(bs0++bs).Nodup:=List.nodup_append.2 ⟨m3,n5,fun a ha b hb hab=>by
   subst hab
   obtain ⟨r,_,hr,hr2⟩:=m4 a ha
   exact hr (by rw [← hr2,n6 a hb])⟩
  have hiw:∀ b ∈ bs0++bs,∃ r ∈ gone,X.iw b=r:=fun b hb=>by
   rcases List.mem_append.1 hb with hb|hb
   ·obtain ⟨r,a,_,c⟩:=m4 b hb;exact ⟨r,a,c⟩
   ·exact ⟨s,hsg,n6 b hb⟩
  have hin:∀ b ∈ bs0++bs,X.ow b=some 0∧b<X.w.heap.size:=fun b hb=>by
   obtain ⟨r,a,c⟩:=hiw b hb
   obtain ⟨p,q,_⟩:=hh.inn b (by rw [c];exact fun h=>h0g (h ▸ a))
   exact ⟨p,q⟩
  by_cases hroom:es0.length+es.length≤c
  ·rcases m6 hroom with ⟨rfl,rfl,rfl,rfl⟩|⟨g,C,tb,fr,r,rfl,hg,hrg,hC,hf,hcs,hmx,htk⟩
   ·have hus:us=[]:=List.eq_nil_of_length_eq_zero (by simpa using n2)
    subst hus
    have hrun:=z2r (P:=P) X.w (ty:=ty) ht hit none 0 0 0 zv [] (n1 it hit hsz2 _ rfl) (Nat.le_refl _)
    refine ⟨_,_,hrun,zec (ab:=[]) (root:=none) (z5S hh hi (e:=.deep ye.sz ([]++[]) []) h0g (fun _ h=>by cases h) hgu (fun g hg=>by cases hg) rfl rfl rfl (Nat.le_refl _) (fun g _ _=>rfl) (fun _=>⟨by omega,.inl ⟨rfl,rfl⟩⟩)) hk ⟨.inr ⟨Nat.le_refl _,by omega⟩,⟨_,_,_,rfl⟩,fun e' he' _=>?_⟩⟩
    have:updE (updL X.H (z16 gone)) id (some (.deep ye.sz ([]++[]) [])) id=some e':=he'
    rw [z0A] at this;injection this with this;subst this
    exact .inl ⟨rfl,rfl⟩
   ·have hus1:us.length=es.length * ye.sz:=n2
    have hCl:C.toList.length=C.size:=Array.length_toList
    have hfit:es0.length * ye.sz+us.length≤C.size:=by rw [hus1,hcs,← Nat.add_mul];exact Nat.mul_le_mul_right _ hroom
    have hst:=z2n (P:=P) g (es0.length * ye.sz) tb fr us 0 C X.w hC hf (by omega) n3
    have hrr:=z2r (P:=P) X.w (ty:=ty) ht hit (some ⟨g,0,none⟩) es0.length c es.length zv us (n1 it hit hsz2 _ rfl) hroom
    simp only [hsz2,z2j,Nat.zero_add,hst,Result.andThen_ok,Nat.add_zero] at hrr
    have hgl:=z1f hC
    have hgg:(X.w.heap.setIfInBounds g (.cells (ovl C.toList (es0.length * ye.sz) us).toArray tb fr))[g]?=some (.cells (ovl C.toList (es0.length * ye.sz) us).toArray tb fr):=by
     rw [Array.getElem?_setIfInBounds];simp [hgl]
    have hne:∀ b ∈ bs0++bs,b ≠ g:=fun b hb h=>by
     subst h
     have:=(hin b hb).1
     rw [hg] at this;injection this with this
     exact h0g (this ▸ hrg)
    have hre:=z5S hh hi (e:=.deep ye.sz (es0++es) []) (gone:=gone) (ab:=[]) (root:=some g) (w':={ X.w with heap:=X.w.heap.setIfInBounds g (.cells (ovl C.toList (es0.length * ye.sz) us).toArray tb fr) }) h0g (fun _ h=>by cases h) hgu (fun g' hg'=>by
     injection hg' with hg';subst hg'
     exact ⟨by show g<(X.w.heap.setIfInBounds g _).size;simpa using hgl,.inr ⟨r,hg,hrg,fun h=>by cases h⟩⟩) rfl rfl rfl (by show _≤(X.w.heap.setIfInBounds g _).size;simp) (fun b _ hb=>by
      show (X.w.heap.setIfInBounds g _)[b]?=_
      rw [Array.getElem?_setIfInBounds,if_neg (fun h=>hb (by rw [h]))]) (fun hs=>⟨by omega,.inr ⟨g,_,tb,fr,bs0++bs,if_pos rfl,hgg,by simpa [z0H] using hf,hbsn,fun b hb=>?_,?_,fun p hp=>by cases hp⟩⟩)
    ·refine ⟨_,_,hrr,zec hre hk ⟨.inr ⟨Nat.le_refl _,by omega⟩,⟨_,_,_,rfl⟩,fun e' he' _=>?_⟩⟩
     have:updE (updL X.H (z16 gone)) id (some (.deep ye.sz (es0++es) [])) id=some e':=he'
     rw [z0A] at this;injection this with this;subst this
     exact .inr ⟨g,c,_,tb,fr,by simp [Ent.shape],if_pos rfl,hgg,by simpa [z0H] using hf,by simpa [z0H,Ent.shape] using hcs,by simpa [Ent.shape] using hroom,hmx⟩
    ·obtain ⟨r',p1,p2⟩:=hiw b hb
     exact zhl hh h0g p1 (fun _ h=>by cases h) (.inr p2)
    ·have hap:=OE.app (r:=C.toList.drop (es0.length * ye.sz+us.length)) m2 m1 n4
     rw [← htk,← z4y us C.toList (es0.length * ye.sz) (by omega)] at hap
     refine OE.mono (w:=X.w) (by simpa using hap) fun b hb=>?_
     show (X.w.heap.setIfInBounds g _)[b]?=_
     rw [Array.getElem?_setIfInBounds,if_neg (fun h=>hne b hb h.symm)]
  ·have hge:=grownCap_ge X.w (es0.length+es.length) c e
   have hcm:grownCap X.w (es0.length+es.length) c e≤maxLen:=grownCap_le_maxLen X.w _ c e (by unfold maxLen;omega)
   have hroom':c<es0.length+es.length:=by omega
   have hfit:Builtin.nextslicecap (es0.length+es.length) c * it.bytes≤281474976710656:=growslice_fits hroom' (by
    calc (es0.length+es.length) * it.bytes≤1000000000 * 100000:=Nat.mul_le_mul hlenN (by omega)
     _≤140737488355328:=by decide)
   have hrun:=z5y (P:=P) X.w (ty:=ty) ht hit hz0 base es0.length c es.length zv us0 us (n1 it hit hsz2 _ rfl) (by rw [hsz2];exact m5 _ rfl) hroom' (by omega) hfit
   have hzl:z0.cells.size=ye.sz:=by have:=(htt _ _ hye).len;rw [← Array.length_toList,hzc,List.length_map,this]
   have hget:∀ (C:Array Value),(X.w.heap.push (.cells C e (0,0)))[X.w.heap.size]?=some (.cells C e (0,0)):=fun C=>by simp
   have hre:=z5S hh hi (e:=.deep ye.sz (es0++es) []) (gone:=gone) (ab:=[]) (root:=some X.w.heap.size) (w':=X.w.drew.alloc (.cells (us0.toArray++us.toArray++Builtin.zeroCells z0.cells (grownCap X.w (es0.length+es.length) c e-(es0.length+es.length))) e)) h0g (fun _ h=>by cases h) hgu (fun g' hg'=>by
    injection hg' with hg';subst hg'
    exact ⟨by show X.w.heap.size<(X.w.heap.push _).size;rw [Array.size_push];omega,.inl rfl⟩) rfl rfl rfl (by show X.w.heap.size≤(X.w.heap.push _).size;rw [Array.size_push];omega) (fun b hb _=>by
     show (X.w.heap.push _)[b]?=_
     rw [Array.getElem?_push,if_neg (by omega)]) (fun hs=>⟨by omega,.inr ⟨X.w.heap.size,_,e,(0,0),bs0++bs,if_pos rfl,hget _,.inl (Nat.le_refl _),hbsn,fun b hb=>?_,?_,fun p hp=>by cases hp⟩⟩)
   ·refine ⟨_,_,hrun,zec hre hk ⟨.inr ⟨Nat.le_refl _,by omega⟩,⟨_,_,_,rfl⟩,fun e' he' _=>?_⟩⟩
    have:updE (updL X.H (z16 gone)) id (some (.deep ye.sz (es0++es) [])) id=some e':=he'
    rw [z0A] at this;injection this with this;subst this
    refine .inr ⟨X.w.heap.size,grownCap X.w (es0.length+es.length) c e,_,e,(0,0),by simp [Ent.shape],if_pos rfl,hget _,.inl (Nat.le_refl _),?_,by simpa [Ent.shape] using hge,hcm⟩
    simp only [Array.size_append,List.size_toArray,Builtin.zeroCells,Array.size_map,Array.size_range,hzl,m1,n2,← Nat.add_mul,Ent.shape]
    congr 1;omega
   ·obtain ⟨r',p1,p2⟩:=hiw b hb
    exact zhl hh h0g p1 (fun _ h=>by cases h) (.inr p2)
   ·have hap:=OE.app (r:=(Builtin.zeroCells z0.cells (grownCap X.w (es0.length+es.length) c e-(es0.length+es.length))).toList) m2 m1 n4
    refine OE.mono (w:=X.w) (by simpa using hap) fun b hb=>?_
    show (X.w.heap.push _)[b]?=_
    rw [Array.getElem?_push,if_neg (by have:=(hin b hb).2;omega)]
 unfold appD at h
 split at h<;>try exact h.elim
 ·rename_i v0
  obtain ⟨rfl,hsz,h1,h2,h3,h4,h5⟩:=h
  have hx':v=nilV∧nilV.oneCell'=true:=by simpa [RS,RS1,RS0,RV] using hx
  obtain ⟨rfl,_⟩:=hx'
  obtain ⟨us,bs,n1,n2,n3,n4,n5,n6⟩:=z9w htt hh hyu (e:=e) hsz hz hH
  exact main [] [s] [] us [] bs none 0 rfl (by simp) (by simpa using Ne.symm hs0) (fun r hr=>by rw [List.mem_singleton] at hr;subst hr;exact hsu) h1 h2 h3 h4 h5 n1 n2 n3 n4 n5 n6 (by simp) (by simp [OE]) List.nodup_nil (fun b hb=>by cases hb) (fun w _=>by simp [Builtin.firstCells])
   (fun hr=>.inl ⟨rfl,List.eq_nil_of_length_eq_zero (by simpa using hr),rfl,rfl⟩)
 ·rename_i r
  split at h<;>try exact h.elim
  rename_i k0 es0 hHr
  obtain ⟨hne,rfl,hsz,h1,h2,h3,h4,h5⟩:=h
  have hsr:s ≠ r:=fun he=>by subst he;simp at hne
  have hr0:=hh.ne hHr
  obtain ⟨us,bs,n1,n2,n3,n4,n5,n6⟩:=z9w htt hh hyu (e:=e) hsz hz hH
  obtain ⟨hru,hk0,hnd⟩:=hh.node _ _ hHr
  obtain ⟨_,_,hdr⟩:=z6c hx
  have hgs:0 ∉ [r,s]:=by simp [Ne.symm hr0,Ne.symm hs0]
  have hgu:∀ r' ∈ [r,s],X.us r':=fun r' hr'=>by
   simp only [List.mem_cons,List.not_mem_nil,or_false] at hr'
   rcases hr' with rfl|rfl
   ·exact hru
   ·exact hsu
  rcases hdr _ _ _ hHr with ⟨rfl,h0⟩|⟨g,c,C,tb,fr,rfl,hg,hC,hf,hcs,hle,hmx⟩
  ·have he0:es0=[]:=List.eq_nil_of_length_eq_zero h0
   subst he0
   exact main [] [r,s] [] us [] bs none 0 rfl (by simp) hgs hgu h1 h2 h3 h4 h5 n1 n2 n3 n4 n5 n6 (by simp) (by simp [OE]) List.nodup_nil (fun b hb=>by cases hb) (fun w _=>by simp [Builtin.firstCells])
    (fun hr=>.inl ⟨rfl,List.eq_nil_of_length_eq_zero (by simpa using hr),rfl,rfl⟩)
  ·obtain ⟨bs0,p1,p2,p3⟩:∃ bs0:List Nat,bs0.Nodup∧(∀ b ∈ bs0,X.iw b=r)∧OE X.w k0 es0 C.toList bs0:=by
    rcases hnd with ⟨he,_⟩|⟨g',C',t',fr',bs',hg',hC',_,q1,q2,q3,_⟩
    ·subst he;exact ⟨[],List.nodup_nil,fun b hb=>(by cases hb),by simp only [OE]⟩
    ·obtain rfl:=hh.inj' hHr hg hg'
     rw [hC] at hC';injection hC' with hC';injection hC' with a b c';subst a b c'
     exact ⟨bs',q1,q2,q3⟩
   have hfit0:es0.length * k0≤C.toList.length:=by
    have hcs':C.size=c * k0:=hcs
    have hle':es0.length≤c:=hle
    exact Nat.le_trans (Nat.mul_le_mul_right k0 hle') (by rw [← hcs'];simp)
   have hul:(C.toList.take (es0.length * k0)).length=es0.length * k0:=by rw [List.length_take];omega
   refine main es0 [r,s] (C.toList.take (es0.length * k0)) us bs0 bs (some ⟨g,0,none⟩) c rfl (by simp) hgs hgu h1 h2 h3 h4 h5 n1 n2 n3 n4 n5 n6 hul (p3.ext ⟨[],by simp [List.take_take]⟩) p1 (fun b hb=>⟨r,by simp,Ne.symm hsr,p2 b hb⟩) (fun w hw=>?_)
    (fun _=>.inr ⟨g,C,tb,fr,r,rfl,hg,by simp,hC,hf,hcs,hmx,rfl⟩)
   exact run_firstCells_some (P:=P) w k0 es0.length ⟨g,0,none⟩ _ _ _ hul (fun j q hq=>by
    rw [z2j]
    have hq2:C.toList[j]?=some q:=by
     rw [List.getElem?_take] at hq
     split at hq
     ·exact hq
     ·cases hq
    simp only [World.cell?,hw,hC]
    simpa using hq2)
section
variable {P:Program} {tt:TT} (htt:TtOk P tt) {X:Cx} {id:Nat} {K:Kon} (hh:HR X) (hi:Fresh X id)
include htt hh hi
theorem zhm {c:Call} {ty:TypeId} {x:T} {v:Value} {consts:Array Bool} (hc:c.callee=.builtin .len) (hx:RS X x v) (h:Eff tt (.call c) 0 [x] X.H id K):∃ u,(builtin .len c.argTypes ty consts #[v]).run P X.w=.ok (.value u) X.w∧Out X id K u X.w:=by
 simp only [Eff,hc] at h
 split at h<;>try exact h.elim
 rename_i t hat
 have hat2:c.argTypes=#[t]:=by rw [← Array.toArray_toList (xs:=c.argTypes),hat]
 rw [hat2]
 split at h<;>try exact h.elim
 rename_i y hy
 have lenS:∀ {A:Option Addr} {n c:Nat},(z1g tt y).isSome=true→(builtin .len #[t] ty consts #[.slice A n c]).run P X.w=.ok (.value (.int .i64 (n:Int))) X.w:=fun {A n c} hs=>by
  obtain ⟨k,hk⟩:=Option.isSome_iff_exists.1 hs
  obtain ⟨e,ye,hu,_,_⟩:=z1c htt hy hk
  simp [builtin,Builtin.len_,run_underlying hu,goInt]
 split at h<;>try exact h.elim
 ·rename_i s
  obtain ⟨hst,h⟩:=h
  obtain rfl:=z3D hx
  refine ⟨.int .i64 (s.length:Int),?_,Out.same hh hi h (z1S _ _ _)⟩
  simp [builtin,Builtin.len_,run_underlying (z33 htt hy hst),goInt,z19]
 ·rename_i k es
  obtain ⟨hs,n,rfl,h⟩:=h
  have hx':RV X.ow X.w (.sl k es) v:=hx
  simp only [RV] at hx'
  obtain ⟨A,c,rfl,_⟩:=hx'
  exact ⟨_,lenS hs,Out.same hh hi h (z1S _ _ _)⟩
 ·rename_i r
  split at h<;>try exact h.elim
  rename_i k es hH
  obtain ⟨hs,n,rfl,h⟩:=h
  obtain ⟨_,_,h3⟩:=z6b hx
  rcases h3 _ _ hH with ⟨rfl,h0⟩|⟨g,c,C,t,fr,rfl,_⟩
  ·rw [h0] at h
   exact ⟨_,lenS hs,Out.same hh hi h (z1S _ _ _)⟩
  ·exact ⟨_,lenS hs,Out.same hh hi h (z1S _ _ _)⟩
  rename_i k es l hH
  obtain ⟨hs,n,rfl,h⟩:=h
  obtain ⟨_,_,h3⟩:=z6c hx
  rcases h3 _ _ _ hH with ⟨rfl,h0⟩|⟨g,c,C,t,fr,rfl,_⟩
  ·rw [h0] at h
   exact ⟨_,lenS hs,Out.same hh hi h (z1S _ _ _)⟩
  ·exact ⟨_,lenS hs,Out.same hh hi h (z1S _ _ _)⟩
 ·obtain ⟨hs,rfl,h⟩:=h
  have hx':v=nilV∧nilV.oneCell'=true:=by simpa [RS,RS1,RS0,RV] using hx
  obtain ⟨rfl,_⟩:=hx'
  exact ⟨_,lenS hs,Out.same hh hi h (z1S _ _ _)⟩
theorem zhn {c:Call} {ty:TypeId} {x z:T} {v v2:Value} {consts:Array Bool} (hc:c.callee=.builtin .min) (hx:RS X x v) (hz:RS X z v2) (h:Eff tt (.call c) 0 [x,z] X.H id K):∃ u,(builtin .min c.argTypes ty consts #[v,v2]).run P X.w=.ok (.value u) X.w∧Out X id K u X.w:=by
 simp only [Eff,hc] at h
 split at h<;>try exact h.elim
 rename_i k n k2 m
 obtain ⟨r,rfl,h⟩:=h
 have h1:v=.int k n:=by simpa [RS,RS1,RS0,RV] using hx
 have h2:v2=.int k2 m:=by simpa [RS,RS1,RS0,RV] using hz
 subst h1
 subst h2
 refine ⟨_,?_,Out.same hh hi h (z1S _ _ _)⟩
 simp [builtin,Builtin.min_,Builtin.min2]
theorem zho {c:Call} {ty:TypeId} {x z:T} {v v2:Value} {consts:Array Bool} (hc:c.callee=.builtin .max) (hx:RS X x v) (hz:RS X z v2) (h:Eff tt (.call c) 0 [x,z] X.H id K):∃ u,(builtin .max c.argTypes ty consts #[v,v2]).run P X.w=.ok (.value u) X.w∧Out X id K u X.w:=by
 simp only [Eff,hc] at h
 split at h<;>try exact h.elim
 rename_i k n k2 m
 obtain ⟨r,rfl,h⟩:=h
 have h1:v=.int k n:=by simpa [RS,RS1,RS0,RV] using hx
 have h2:v2=.int k2 m:=by simpa [RS,RS1,RS0,RV] using hz
 subst h1
 subst h2
 refine ⟨_,?_,Out.same hh hi h (z1S _ _ _)⟩
 simp [builtin,Builtin.max_,Builtin.max2]
theorem z6l {t u ty e:TypeId} {ye:Ty} (ht:P.underlying t=some (.slice e)) (hye:tt e=some ye) {gone:List Nat} {base:Option Addr} {n c:Nat} {x:Value} {es0 es:List (List T)} {us0 us:List Value}
 (hsz:ye.sz ≠ 0) (h0l:us0.length=n * ye.sz) (hn:n=es0.length) (ho:∀ w:World,w.heap=X.w.heap→(Builtin.firstCells ye.sz n (.slice base n c)).run P w=.ok us0.toArray w) (hr0:RE X.ow X.w ye.sz es0 us0)
 (hs:Src P X u e ye.sz es x us) (hroom:c<n+es.length) (hby:ye.by8≤100000) (hlen:((es0++es).length:Int)≤1000000000)
 (h:K (.ref id) (z16 gone++[(id,some (.row ye.sz (es0++es)))])):∃ v w',(Builtin.append_ #[t,u] ty #[.slice base n c,x]).run P X.w=.ok v w'∧Out X id K v w':=by
 obtain ⟨it,z,hit,hsz2,hb2,hz,hzc⟩:=(htt _ _ hye).info
 have hlen2:n+es.length≤1000000000:=by rw [List.length_append] at hlen;omega
 have hge:=grownCap_ge X.w (n+es.length) c e
 have hcm:grownCap X.w (n+es.length) c e≤maxLen:=grownCap_le_maxLen X.w _ c e (by unfold maxLen;omega)
 have hfit:Builtin.nextslicecap (n+es.length) c * it.bytes≤281474976710656:=growslice_fits hroom (by
  calc (n+es.length) * it.bytes≤1000000000 * 100000:=Nat.mul_le_mul hlen2 (by omega)
   _≤140737488355328:=by decide)
 have hrun:=z5y (P:=P) X.w (ty:=ty) ht hit hz base n c es.length x us0 us (hs.src it hit hsz2 _ rfl) (by rw [hsz2];exact ho _ rfl) hroom (by omega) hfit
 have hzl:z.cells.size=ye.sz:=by have:=(htt _ _ hye).len;rw [← Array.length_toList,hzc,List.length_map,this]
 refine ⟨_,_,hrun,?_⟩
 have hdw:(X.dropL gone).w=X.w:=z3j X gone
 have hst:=(z13 X gone).stab
 have hfinal:=Out.newRow (X:=X.dropL gone) (id:=id) (K:=fun x u=>K x (z16 gone++u)) (hh.dropL gone) (z2Q gone hi) (k:=ye.sz) (n:=n+es.length) (c:=grownCap X.w (n+es.length) c e) (es:=es0++es)
  (C:=us0.toArray++us.toArray++Builtin.zeroCells z.cells (grownCap X.w (n+es.length) c e-(n+es.length))) (t:=e) (fr:=(0,0)) X.w.drew (by rw [hdw];rfl) (by rw [hdw];rfl) (by rw [hdw];rfl) (by rw [hdw];rfl) h (by omega) (by simp [hn]) (by
    simp only [Array.size_append,List.size_toArray,Builtin.zeroCells,Array.size_map,Array.size_range,hzl,h0l,hs.cnt,← Nat.add_mul]
    congr 1;omega) hge hcm (.inl (Nat.le_refl _)) (by
    have:=RE.app (r:=(Builtin.zeroCells z.cells (grownCap X.w (n+es.length) c e-(n+es.length))).toList) (RE.mono hst hr0) (by rw [h0l,hn]) (RE.mono hst hs.rel)
    simpa using this)
 obtain ⟨xx,upd,X',hk,hw,hnx,hH,hsm,hr,hv⟩:=hfinal
 rw [hdw] at hv
 exact ⟨xx,z16 gone++upd,X',hk,hw,hnx.trans (z4C X id gone),by rw [hH,z3G,z4g],(z13 X gone).trans hsm,hr,hv⟩
theorem zd4 {c:Call} {ty:TypeId} {x z:T} {v u:Value} {consts:Array Bool} (hc:c.callee=.builtin .append) (hx:RS X x v) (hz:RS X z u) (h:Eff tt (.call c) 0 [x,z] X.H id K) :
 ∃ q w',(builtin .append c.argTypes ty consts #[v,u]).run P X.w=.ok (.value q) w'∧Out X id K q w':=by
 simp only [Eff,hc] at h
 split at h<;>try exact h.elim
 rename_i t tu hat
 have hat2:c.argTypes=#[t,tu]:=by rw [← Array.toArray_toList (xs:=c.argTypes),hat]
 rw [hat2]
 split at h<;>try exact h.elim
 rename_i y yu hy hyu
 split at h<;>try exact h.elim
 rename_i e hd
 have ht:=z2P (htt _ _ hy) hd
 split at h<;>try exact h.elim
 rename_i ye hye
 obtain ⟨it,zz,hit,hsz2,hb2,_⟩:=(htt _ _ hye).info
 suffices hgoal:∃ q w',(Builtin.append_ #[t,tu] ty #[v,u]).run P X.w=.ok q w'∧Out X id K q w' by
  obtain ⟨q,w',hr,ho⟩:=hgoal
  exact ⟨q,w',by simp [builtin,hr],ho⟩
 split at h
 ·rename_i s k2 es2 hdo
  obtain ⟨hzr,hHs⟩:z=.ref s∧X.H s=some (.deep k2 es2 []):=by
   unfold z9o at hdo
   split at hdo<;>try (cases hdo;done)
   split at hdo<;>try (cases hdo;done)
   rename_i s' _ k' es' hH'
   injection hdo with hdo;injection hdo with a b;injection b with b c;subst a b c
   exact ⟨rfl,hH'⟩
  subst hzr
  exact zfP htt hh hi ht hyu hye hHs hx hz h
 unfold appT at h
 split at h<;>try exact h.elim
 ·
   rename_i v0
   obtain ⟨rfl,h⟩:=h
   have hx':v=nilV∧nilV.oneCell'=true:=by simpa [RS,RS1,RS0,RV] using hx
   obtain ⟨rfl,_⟩:=hx'
   obtain ⟨k,es,us,⟨rfl,hsz,hble,hlen,h⟩,hs⟩:=z7M htt hh hyu hye hz h
   have hbl:=Nat.le_of_ble_eq_true hble
   by_cases hm:es.length=0
   ·have he:es=[]:=List.eq_nil_of_length_eq_zero hm
    subst he
    have hus:us=[]:=List.eq_nil_of_length_eq_zero (by simpa using hs.cnt)
    subst hus
    refine ⟨nilV,X.w,?_,Out.emptyRow (gone:=[]) hh hi (by omega) h⟩
    have:=z2r (P:=P) X.w (ty:=ty) ht hit none 0 0 0 u [] (hs.src it hit hsz2 _ rfl) (Nat.le_refl _)
    simpa [nilV] using this
   ·exact z6l htt hh hi (gone:=[]) (es0:=[]) (us0:=[]) ht hye hsz (by simp) rfl (fun w _=>by simp [Builtin.firstCells]) (by simp [RE]) hs (by omega) hbl hlen h
 ·rename_i r
  split at h<;>try exact h.elim
  rename_i k0 es0 hH
  obtain ⟨hne,h⟩:=h
  obtain ⟨k,es,us,⟨rfl,rfl,hsz,hble,hlen,h⟩,hs⟩:=z7M htt hh hyu hye hz h
  have hbl:=Nat.le_of_ble_eq_true hble
  obtain ⟨_,_,h3⟩:=z6b hx
  obtain ⟨hk0,hnd⟩:=(hh.node _ _ hH).2
  rcases h3 _ _ hH with ⟨rfl,h0⟩|⟨g,cc,C,tb,fr,rfl,hg,hC,hf,hcs,hle,hmx⟩
  ·have he0:es0=[]:=List.eq_nil_of_length_eq_zero h0
   subst he0
   by_cases hm:es.length=0
   ·have he:es=[]:=List.eq_nil_of_length_eq_zero hm
    subst he
    have hus:us=[]:=List.eq_nil_of_length_eq_zero (by simpa using hs.cnt)
    subst hus
    refine ⟨nilV,X.w,?_,Out.emptyRow (gone:=[r]) hh hi (by omega) h⟩
    have:=z2r (P:=P) X.w (ty:=ty) ht hit none 0 0 0 u [] (hs.src it hit hsz2 _ rfl) (Nat.le_refl _)
    simpa [nilV] using this
   ·exact z6l htt hh hi (gone:=[r]) (es0:=[]) (us0:=[]) ht hye hsz (by simp) rfl (fun w _=>by simp [Builtin.firstCells]) (by simp [RE]) hs (by omega) hbl hlen h
  ·
    have hold:es0=[] ∨ RE X.ow X.w ye.sz es0 C.toList:=by
     rcases hnd with hnd|⟨g',C',t',fr',hg',hC',hf',hl⟩
     ·exact .inl hnd
     ·obtain rfl:=hh.inj' hH hg hg'
      rw [hC] at hC';injection hC' with hC';injection hC' with a b c';subst a b c'
      exact .inr hl
    have hold2:RE X.ow X.w ye.sz es0 C.toList:=by
     rcases hold with rfl|hl
     ·simp [RE]
     ·exact hl
    have hCl:C.toList.length=C.size:=Array.length_toList
    have hfit0:es0.length * ye.sz≤C.size:=by rw [hcs];exact Nat.mul_le_mul_right _ hle
    by_cases hroom:es0.length+es.length≤cc
    ·have hfit:es0.length * ye.sz+us.length≤C.size:=by rw [hs.cnt,hcs,← Nat.add_mul];exact Nat.mul_le_mul_right _ hroom
     have hst:=z2n (P:=P) g (es0.length * ye.sz) tb fr us 0 C X.w hC hf (by omega) hs.one
     have hrr:=z2r (P:=P) X.w (ty:=ty) ht hit (some ⟨g,0,none⟩) es0.length cc es.length u us (hs.src it hit hsz2 _ rfl) hroom
     simp only [hsz2,z2j,Nat.zero_add,hst,Result.andThen_ok,Nat.add_zero] at hrr
     refine ⟨_,_,hrr,?_⟩
     have hmv:=zd3 hh hi (r:=r) (id:=id) (e:=.row ye.sz (es0++es)) (g:=g) (C0:=C) (C:=(ovl C.toList (es0.length * ye.sz) us).toArray) (t:=tb) (fr:=fr) hH hg hC
      (fun hsm hgg=>⟨hk0,.inr ⟨g,_,tb,fr,by simp [Cx.move],hgg,by simpa [z0H] using hf,by
        have:=RE.app (r:=C.toList.drop (es0.length * ye.sz+us.length)) (RE.mono hsm.stab (hold2.ext (us:=C.toList.take (es0.length * ye.sz)) ⟨[],by simp⟩)) (by rw [List.length_take,hCl];omega) (RE.mono hsm.stab hs.rel)
        rw [← z4y us C.toList (es0.length * ye.sz) (by simpa using hfit)] at this
        simpa using this⟩⟩)
     obtain ⟨m1,m2,m3,m4⟩:=hmv
     refine ⟨.ref id,_,_,h,rfl,rfl,rfl,m1,m2,⟨.inr ⟨Nat.le_refl _,by omega⟩,⟨_,_,_,rfl⟩,fun e' he _=>?_⟩⟩
     change updE (updE X.H r none) id _ id=_ at he
     rw [z0A] at he;injection he with he;subst he
     refine .inr ⟨g,cc,_,tb,fr,by simp [Ent.shape],m4,m3,by simpa [z0H] using hf,by simpa [z0H,Ent.shape] using hcs,by simpa [Ent.shape] using hroom,hmx⟩
    ·exact z6l htt hh hi (gone:=[r]) (es0:=es0) (us0:=C.toList.take (es0.length * ye.sz)) ht hye hsz (by rw [List.length_take,hCl];omega) rfl
      (fun w hw=>run_firstCells_some (P:=P) w ye.sz es0.length ⟨g,0,none⟩ _ _ _ (by rw [List.length_take,hCl];omega) (fun j q hq=>by
        rw [z2j]
        have hq2:C.toList[j]?=some q:=by
         rw [List.getElem?_take] at hq
         split at hq
         ·exact hq
         ·cases hq
        simp only [World.cell?,hw,hC]
        simpa using hq2)) (hold2.ext ⟨[],by simp⟩) hs (by omega) hbl hlen h
end
end Go.Proofs.YtgmbkbggnlponaaGreatDoor
namespace Go.Proofs.YtgmbkbggnlponaaGreatDoor
set_option linter.unusedVariables false
set_option linter.unusedSimpArgs false
set_option linter.unusedSectionVars false
open Go.RowKit Pl
theorem z9x {P:Program} {tt:TT} (htt:TtOk P tt) {X:Cx} {id:Nat} {K:Kon} (hh:HR X) (hi:Fresh X id) {o:Oper} {a:Act} {args:List T}
 (ha:Args X args ((z48 o.op).map a.eval)) (h:Eff tt o.op o.type args X.H id K):Ran P X id K (execOp a.eval o):=by
 obtain ⟨dst,op,ty,pos,after,guard⟩:=o
 have l0:∀ {f:T→Prop},args=[]→(z48 op).map a.eval=[]→True:=fun _ _=>trivial
 cases op<;>simp only [z48,List.map_cons,List.map_nil] at ha
 case move x=>match args,ha,h with
  | [y],ha,h=>exact zbS hh hi (z68 ha) h
 case assign x=>match args,ha,h with
  | [y],ha,h=>exact zbS hh hi (z68 ha) h
 case pick c x y=>match args,ha,h with
  | [t,u,v],ha,h=>obtain ⟨h1,h2,h3⟩:=args3 ha;exact zfN hh hi h1 h2 h3 h
 case alloc e=>match args,ha,h with
  | [],ha,h=>exact ze3 htt hh hi h
 case box e x=>match args,ha,h with
  | [y],ha,h=>exact zhh htt hh hi (z68 ha) h
 case build t ps=>exact ze8 htt hh hi ha h
 case buildSlice t n ps=>exact z7r htt hh hi ha h
 case load t x=>match args,ha,h with
  | [y],ha,h=>exact zfK htt hh hi (z68 ha) h
 case store t x y=>match args,ha,h with
  | [u,v],ha,h=>obtain ⟨h1,h2⟩:=z8n ha;exact ze9 htt hh hi h1 h2 h
 case nilCheck x=>match args,ha,h with
  | [y],ha,h =>
    obtain ⟨ad,hv,ho⟩:=z9s (tt:=tt) (o:=x) (ρ:=a.eval) (v:=a.eval x) hh hi rfl (z68 ha) h
    refine ⟨.value (a.eval x),a.eval x,X.w,?_,.inl rfl,ho⟩
    simp [execOp,hv]
 case binOp op t x y yt=>match args,ha,h with
  | [u,v],ha,h =>
    obtain ⟨h1,h2⟩:=z8n ha
    cases u<;>cases v<;>first|exact zhi hh hi h1 h2 h|exact zfL hh hi htt h1 h2 h|exact zfM hh hi htt h1 h2 h
 case unOp op t x=>match args,ha,h with
  | [y],ha,h=>exact eff_un hh hi (z68 ha) h
 case makeInterface t x=>match args,ha,h with
  | [y],ha,h=>exact zaY (ox:=x) htt hh hi (z68 ha) h
 case convert s d x=>match args,ha,h with
  | [y],ha,h=>exact zaZ (ox:=x) htt hh hi (z68 ha) h
 case makeSlice t l c=>match args,ha,h with
  | [u,v],ha,h=>obtain ⟨h1,h2⟩:=z8n ha;exact z8v (ol:=l) (oc:=c) htt hh hi h1 h2 h
 case slice t x lo hi' mx =>
  cases lo<;>cases hi'<;>cases mx<;>simp only [Option.toList,List.append_nil,List.nil_append,List.map_cons,List.map_nil,List.singleton_append,List.cons_append] at ha
  case some.none.none l=>match args,ha,h with
   | [u,v],ha,h=>obtain ⟨h1,h2⟩:=z8n ha;exact zd0 (ox:=x) (oa:=l) htt hh hi h1 h2 h
  case none.some.none l=>match args,ha,h with
   | [u,v],ha,h=>obtain ⟨h1,h2⟩:=z8n ha;exact zd1 (ox:=x) (oa:=l) htt hh hi h1 h2 h
  case some.some.none l m=>match args,ha,h with
   | [u,v,t],ha,h=>obtain ⟨h1,h2,h3⟩:=args3 ha;exact zd2 (ox:=x) (oa:=l) (ob:=m) htt hh hi h1 h2 h3 h
  all_goals (simp only [Eff] at h)
 case makeFunc fn fa fb =>
  simp only [Eff] at h
  split at h<;>try exact h.elim
  rotate_left
  ·rename_i f r i j s k l hfirst
   obtain ⟨rfl,rfl,rfl,rfl,h⟩:=h
   rw [hfirst,List.nil_append] at ha
   have hb:∃ y y',fb.toList=[y,y']:=by
    cases hq:fb.toList with
    | nil=>rw [hq] at ha;obtain ⟨_,_,q,_⟩:=ha;cases q
    | cons y l =>
      rw [hq] at ha
      obtain ⟨_,_,q,_,q2⟩:=ha
      cases hl:l with
      | nil=>rw [hl] at q;obtain ⟨_,_,q3,_⟩:=q2;subst q3;simp at q
      | cons y' l' =>
        obtain ⟨_,_,q3,_,q4⟩:=q2
        have:_=[]:=q4
        subst this
        subst q3
        rw [hl] at q
        simp only [List.map_cons,List.cons.injEq] at q
        exact ⟨y,y',by rw [List.map_eq_nil_iff.1 q.2.2]⟩
   obtain ⟨y,y',hb⟩:=hb
   rw [hb] at ha
   have e1:fa=#[]:=by rw [← Array.toArray_toList (xs:=fa),hfirst]
   have e2:fb=#[y,y']:=by rw [← Array.toArray_toList (xs:=fb),hb]
   subst e1 e2
   obtain ⟨hy,hy'⟩:=z8n ha
   refine ⟨.value (.func (.func f) #[] #[a.eval y,a.eval y']),.func (.func f) #[] #[a.eval y,a.eval y'],X.w,?_,.inl rfl,?_⟩
   ·simp [execOp,Instr.makeFunc]
   ·exact Out.same hh hi h ⟨_,_,rfl,hy,hy'⟩
  rename_i f r i j hfirst
  obtain ⟨rfl,rfl,h⟩:=h
  rw [hfirst,List.nil_append] at ha
  have hb:∃ y,fb.toList=[y]:=by
   cases hq:fb.toList with
   | nil=>rw [hq] at ha;obtain ⟨_,_,q,_⟩:=ha;cases q
   | cons y l =>
     rw [hq] at ha
     obtain ⟨_,_,q,_,q2⟩:=ha
     have:_=[]:=q2
     subst this
     simp only [List.map_cons,List.cons.injEq] at q
     exact ⟨y,by rw [List.map_eq_nil_iff.1 q.2]⟩
  obtain ⟨y,hb⟩:=hb
  rw [hb] at ha
  have e1:fa=#[]:=by rw [← Array.toArray_toList (xs:=fa),hfirst]
  have e2:fb=#[y]:=by rw [← Array.toArray_toList (xs:=fb),hb]
  subst e1 e2
  have hy:=z68 ha
  refine ⟨.value (.func (.func f) #[] #[a.eval y]),.func (.func f) #[] #[a.eval y],X.w,?_,.inl rfl,?_⟩
  ·simp [execOp,Instr.makeFunc]
  ·exact Out.same hh hi h ⟨_,rfl,hy⟩
 case fieldAddr s x f=>match args,ha,h with
  | [y],ha,h=>exact z8o htt hh hi (z68 ha) h
 case indexAddr t x i=>match args,ha,h with
  | [u,v],ha,h=>obtain ⟨h1,h2⟩:=z8n ha;exact z8p htt hh hi h1 h2 h
 case index t x i=>match args,ha,h with
  | [u,v],ha,h=>obtain ⟨h1,h2⟩:=z8n ha;exact ze6 htt hh hi h1 h2 h
 case extract x i=>match args,ha,h with
  | [y],ha,h=>exact zaX (tt:=tt) hh hi (z68 ha) h
 case call c =>
  cases hc:c.callee with
  | value f=>simp only [Eff,hc] at h
  | invoke r m=>simp only [Eff,hc] at h
  | builtin b =>
    simp only [hc,List.nil_append] at ha
    cases b<;>try (simp only [Eff,hc] at h;done)
    case append =>
     match hargs:args,ha,h with
     | [x,z],ha,h =>
       obtain ⟨u,us,he,h1,u2,us2,rfl,h2,h3⟩:=ha
       have h3':us2=[]:=h3
       subst h3'
       obtain ⟨q,w',hr,ho⟩:=zd4 htt hh hi (ty:=ty) (consts:=c.args.map fun|.const _=>true|_=>false) hc h1 h2 h
       refine ⟨.value q,q,w',?_,.inl rfl,ho⟩
       have hm:c.args.map a.eval=#[u,u2]:=by rw [← Array.toArray_toList (xs:=c.args.map a.eval),Array.toList_map,he]
       simp only [execOp,resolve,hc,invoke,Sem.run_bind,Sem.run_pure,Result.andThen_ok,hm]
       exact hr
     | [],ha,h=>simp only [Eff,hc] at h
     | [_],ha,h=>simp only [Eff,hc] at h
     | _ :: _ :: _ :: _,ha,h=>simp only [Eff,hc] at h
    case min =>
     match hargs:args,ha,h with
     | [x,z],ha,h =>
       obtain ⟨u,us,he,h1,u2,us2,rfl,h2,h3⟩:=ha
       have h3':us2=[]:=h3
       subst h3'
       obtain ⟨q,hr,ho⟩:=zhn htt hh hi (ty:=ty) (consts:=c.args.map fun|.const _=>true|_=>false) hc h1 h2 h
       refine ⟨.value q,q,X.w,?_,.inl rfl,ho⟩
       have hm:c.args.map a.eval=#[u,u2]:=by rw [← Array.toArray_toList (xs:=c.args.map a.eval),Array.toList_map,he]
       simp only [execOp,resolve,hc,invoke,Sem.run_bind,Sem.run_pure,Result.andThen_ok,hm]
       exact hr
     | [],ha,h=>simp only [Eff,hc] at h
     | [_],ha,h=>simp only [Eff,hc] at h
     | _ :: _ :: _ :: _,ha,h=>simp only [Eff,hc] at h
    case max =>
     match hargs:args,ha,h with
     | [x,z],ha,h =>
       obtain ⟨u,us,he,h1,u2,us2,rfl,h2,h3⟩:=ha
       have h3':us2=[]:=h3
       subst h3'
       obtain ⟨q,hr,ho⟩:=zho htt hh hi (ty:=ty) (consts:=c.args.map fun|.const _=>true|_=>false) hc h1 h2 h
       refine ⟨.value q,q,X.w,?_,.inl rfl,ho⟩
       have hm:c.args.map a.eval=#[u,u2]:=by rw [← Array.toArray_toList (xs:=c.args.map a.eval),Array.toList_map,he]
       simp only [execOp,resolve,hc,invoke,Sem.run_bind,Sem.run_pure,Result.andThen_ok,hm]
       exact hr
     | [],ha,h=>simp only [Eff,hc] at h
     | [_],ha,h=>simp only [Eff,hc] at h
     | _ :: _ :: _ :: _,ha,h=>simp only [Eff,hc] at h
    case len =>
     match hargs:args,ha,h with
     | [x],ha,h =>
       obtain ⟨u,us,he,h1,h3⟩:=ha
       have h3':us=[]:=h3
       subst h3'
       obtain ⟨q,hr,ho⟩:=zhm htt hh hi (ty:=ty) (consts:=c.args.map fun|.const _=>true|_=>false) hc h1 h
       refine ⟨.value q,q,X.w,?_,.inl rfl,ho⟩
       have hm:c.args.map a.eval=#[u]:=by rw [← Array.toArray_toList (xs:=c.args.map a.eval),Array.toList_map,he]
       simp only [execOp,resolve,hc,invoke,Sem.run_bind,Sem.run_pure,Result.andThen_ok,hm]
       exact hr
     | [],ha,h=>simp only [Eff,hc] at h
     | _ :: _ :: _,ha,h=>simp only [Eff,hc] at h
 all_goals (simp only [Eff] at h)
end Go.Proofs.YtgmbkbggnlponaaGreatDoor
namespace Go.Proofs.YtgmbkbggnlponaaGreatDoor
set_option linter.unusedVariables false
set_option linter.unusedSimpArgs false
set_option linter.unusedSectionVars false
open Go.RowKit Pl
def live:Ent→Option Ent
 | .row 0 _=>none
 | e=>some e
theorem z6m {e e1:Ent} (h:live e=some e1):e1=e:=by
 unfold live at h
 split at h
 ·cases h
 ·injection h with h;exact h.symm
def idxE (He:List Ent) (r:Nat):Option Ent:=if r=0 then none else match He[r-1]? with
 | some e=>live e
 | none=>none
def CT (P:Program) (f:FuncId) (He:List Ent) (ts:List T) (r:T) (He':List Ent):Prop :=
 (∃ fn, P.funcs[f]? = some fn ∧ (fn.name == "runtime.NumGoroutine") = false ∧ fn.body.isNone = false) ∧
 ∀ X:Cx,HR X→X.H=idxE He→(X.us=fun i=>i<He.length+1)→∀ vs,Args X ts vs →
   Calls P f vs.toArray X.w fun e w'=>∃ v X',e=.returned v∧X'.w=w'∧X'.H=idxE He'∧(X'.us=fun i=>i<He'.length+1)∧HR X'∧RS X' r v∧Same X X'
def ren0 (ρ:Nat→Nat):T→T
 | .ref r=>.ref (ρ r)
 | .ptr r i j=>.ptr (ρ r) i j
 | .fnp f r=>.fnp f (ρ r)
 | .fnq f r s=>.fnq f (ρ r) (ρ s)
 | x=>x
def ren1 (ρ:Nat→Nat):T→T
 | .agg cs=>.agg (cs.map (ren0 ρ))
 | x=>ren0 ρ x
def ren2 (ρ:Nat→Nat):T→T
 | .tup cs=>.tup (cs.map (ren1 ρ))
 | x=>ren1 ρ x
def renE (ρ:Nat→Nat):Ent→Ent
 | .box cs=>.box (cs.map (ren0 ρ))
 | .row k es=>.row k es
 | .deep k es l=>.deep k es l
mutual
def ucT:T→T
 | .own k es=>.sl k (ucE es)
 | x=>x
def ucL:List T→List T
 | []=>[]
 | c :: cs=>ucT c :: ucL cs
def ucE:List (List T)→List (List T)
 | []=>[]
 | e :: es=>ucL e :: ucE es
end
theorem zb0:∀ (es:List (List T)),(ucE es).length=es.length
 | []=>by simp [ucE]
 | e :: es=>by simp [ucE,zb0 es]
mutual
theorem OV.sl {w:World} {ow:Own}:∀ {x:T} {v:Value} {bs:List Nat},OV w x v bs→(∀ b ∈ bs,ow b=none)→RV ow w (ucT x) v
 | .own k es,v,bs,h,hb=>by
   simp only [OV] at h
   simp only [ucT,RV]
   rcases h.2 with ⟨rfl,rfl,_⟩|⟨g,c,C,t,fr,bs',rfl,hC,_,_,hle,_,rfl,h2⟩
   ·exact ⟨none,0,rfl,Nat.le_refl _,.inl (by simp [ucE])⟩
   ·exact ⟨_,c,by rw [zb0],by rw [zb0];exact hle,.inr ⟨g,0,C,t,fr,rfl,hb g (by simp),hC,by simpa using OE.sl h2 (fun b hm=>hb b (by simp [hm]))⟩⟩
 | .int _ _,v,bs,h,_=>by simp only [OV] at h;simp only [ucT];exact z3x h.2.1 h.2.2
 | .bool _,v,bs,h,_=>by simp only [OV] at h;simp only [ucT];exact z3x h.2.1 h.2.2
 | .str _,v,bs,h,_=>by simp only [OV] at h;simp only [ucT];exact z3x h.2.1 h.2.2
 | .val _,v,bs,h,_=>by simp only [OV] at h;simp only [ucT];exact z3x h.2.1 h.2.2
 | .sl _ _,v,bs,h,_=>by simp only [OV] at h;simp only [ucT];exact z3x h.2.1 h.2.2
 | .any,v,bs,h,_=>by simp only [OV] at h;simp only [ucT];exact z3x h.2.1 h.2.2
 | .ifz _ _,v,bs,h,_=>by simp only [OV] at h;simp only [ucT];exact z3x h.2.1 h.2.2
 | .fna,v,bs,h,_=>by simp only [OV] at h;simp only [ucT];exact z3x h.2.1 h.2.2
 | .agg _,v,bs,h,_=>by simp only [OV,RV] at h;exact h.2.2.elim
 | .tup _,v,bs,h,_=>by simp only [OV,RV] at h;exact h.2.2.elim
 | .ref _,v,bs,h,_=>by simp only [OV,RV] at h;exact h.2.2.elim
 | .ptr _ _ _,v,bs,h,_=>by simp only [OV,RV] at h;exact h.2.2.elim
 | .rptr _ _,v,bs,h,_=>by simp only [OV,RV] at h;exact h.2.2.elim
 | .fnp _ _,v,bs,h,_=>by simp only [OV,RV] at h;exact h.2.2.elim
 | .fnq _ _ _,v,bs,h,_=>by simp only [OV,RV] at h;exact h.2.2.elim
theorem OL.sl {w:World} {ow:Own}:∀ {cs:List T} {vs:List Value} {bs:List Nat},OL w cs vs bs→(∀ b ∈ bs,ow b=none)→RL ow w (ucL cs) vs
 | [],_,_,h,_=>by simp only [OL] at h;simp only [ucL,RL];exact h.1
 | c :: cs,_,_,h,hb=>by
   simp only [OL] at h
   obtain ⟨u,us,b1,b2,rfl,rfl,h1,h2⟩:=h
   simp only [ucL,RL]
   exact ⟨u,us,rfl,OV.sl h1 (fun b hm=>hb b (by simp [hm])),OL.sl h2 (fun b hm=>hb b (by simp [hm]))⟩
theorem OE.sl {w:World} {ow:Own} {k:Nat}:∀ {es:List (List T)} {vs:List Value} {bs:List Nat},OE w k es vs bs→(∀ b ∈ bs,ow b=none)→RE ow w k (ucE es) vs
 | [],_,_,_,_=>by simp only [ucE,RE]
 | e :: es,_,_,h,hb=>by
   simp only [OE] at h
   obtain ⟨us,rest,b1,b2,rfl,hl,rfl,h1,h2⟩:=h
   simp only [ucE,RE]
   exact ⟨us,rest,rfl,hl,OL.sl h1 (fun b hm=>hb b (by simp [hm])),OE.sl h2 (fun b hm=>hb b (by simp [hm]))⟩
end
def rho (σ:List Nat) (id:Nat) (r:Nat):Nat:=bif Nat.ble r σ.length then σ.getD (r-1) 0 else id+(r-σ.length-1)
def AM0 (σ:List Nat) (H:Hp) (x t:T):Prop:=match x with
 | .ref r=>match t with
   | .sl k es=>(match H r with
     | some (.deep k' es' [])=>k=k'∧es=ucE es'
     | o=>o=some (.row k es))∧σ.contains r=false
   | .ref i=>i ≠ 0∧σ[i-1]?=some r
   | _=>False
 | .ptr r a b=>match t with
   | .ptr i a' b'=>i ≠ 0∧σ[i-1]?=some r∧a'=a∧b'=b
   | _=>False
 | .val v=>match t with
   | .sl _ es=>v=nilV∧es=[]
   | .val v'=>v=v'
   | _=>False
 | .agg _=>False
 | .tup _=>False
 | .fnp _ _=>t=.fna
 | .fnq _ _ _=>False
 | x=>t=x
def AMl (σ:List Nat) (H:Hp):List T→List T→Prop
 | [],ts=>ts=[]
 | x :: xs,ts=>match ts with
   | t :: ts'=>AM0 σ H x t∧AMl σ H xs ts'
   | []=>False
def AM1 (σ:List Nat) (H:Hp) (x t:T):Prop:=match x with
 | .agg xs=>match t with
   | .agg ts=>AMl σ H xs ts
   | _=>False
 | x=>AM0 σ H x t
def AM (σ:List Nat) (H:Hp):List T→List T→Prop
 | [],ts=>ts=[]
 | x :: xs,ts=>match ts with
   | t :: ts'=>AM1 σ H x t∧AM σ H xs ts'
   | []=>False
def z4F (m:Nat):T→Bool
 | .ref r=>Nat.blt 0 r&&Nat.ble r m
 | .ptr r _ _=>Nat.blt 0 r&&Nat.ble r m
 | .fnp _ _=>false
 | .fnq _ _ _=>false
 | _=>true
def zbW (m:Nat):T→Bool
 | .agg cs=>cs.all (z4F m)
 | x=>z4F m x
def z7N (m:Nat):T→Bool
 | .tup cs=>cs.all (zbW m)
 | x=>zbW m x
def z6n (m:Nat):Ent→Bool
 | .box cs=>cs.all (z4F m)
 | .row _ _=>true
 | .deep _ _ l=>l.isEmpty
def HM (σ:List Nat) (H:Hp) (m:Nat):List Nat→List Ent→Prop
 | [],He=>He=[]
 | s :: l,He=>match He with
   | e :: He'=>H s=some (renE (rho σ 0) e)∧(match e with|.box cs=>cs.all (z4F m)=true|.row _ _=>True|.deep _ _ l=>l=[])∧HM σ H m l He'
   | []=>False
def own0:T→Prop
 | .sl _ es=>es=[]
 | .rptr _ _=>False
 | _=>True
def own1:T→Prop
 | .agg cs=>∀ c ∈ cs,own0 c
 | x=>own0 x
def own2:T→Prop
 | .tup cs=>∀ c ∈ cs,own1 c
 | x=>own1 x
def ownE:Ent→Prop
 | .box cs=>∀ c ∈ cs,own0 c
 | .row _ es=>∀ e ∈ es,∀ c ∈ e,own0 c
 | .deep _ _ _=>True
def zbX:T→Bool
 | .ref _=>false
 | _=>true
def z2E:T→Bool
 | .agg cs=>cs.all zbX
 | x=>zbX x
def z9y (ρ:Nat→Nat) (e:Ent):Option Ent:=match live e with
 | some e=>some (renE ρ e)
 | none=>none
theorem z5T {ρ:Nat→Nat} {e e':Ent} (h:z9y ρ e=some e'):live e=some e∧renE ρ e=e':=by
 unfold z9y at h
 split at h
 ·rename_i e1 he
  have:=z6m he
  subst this
  injection h with h
  exact ⟨he,h⟩
 ·cases h
theorem zed {ρ:Nat→Nat} {e:Ent} {x:Option Ent} (hx:x=z9y ρ e) (h:x ≠ none):live e=some e:=by
 subst hx
 cases hl:live e with
 | none=>exact absurd (by unfold z9y;rw [hl]) h
 | some e1=>rw [z6m hl]
def z5K (ρ:Nat→Nat):List Ent→Nat→Upd
 | [],_=>[]
 | e :: l,i=>(ρ i,z9y ρ e) :: z5K ρ l (i+1)
def zbY (P:Program) (f:FuncId) (xs:List T) (H:Hp) (id:Nat) (K:List Nat→Kon):Prop :=
 ∃ σ He ts r He',CT P f He ts r He'∧AM σ H xs ts∧HM σ H He.length σ He∧(σ.Nodup∧0 ∉ σ)∧(He.length≤He'.length∧He'.length≤He.length+16) ∧
   (z7N He'.length r=true∧He'.all (z6n He'.length)=true)∧(xs.all z2E=true ∨ (own2 r∧∀ e ∈ He',ownE e))∧K σ (ren2 (rho σ id) r) (z5K (rho σ id) He' 1)
theorem HM.get {σ:List Nat} {H:Hp} {m:Nat}:∀ {l:List Nat} {He:List Ent} {i:Nat} {e:Ent},HM σ H m l He→He[i]?=some e→∃ s,l[i]?=some s∧H s=some (renE (rho σ 0) e)∧(match e with|.box cs=>cs.all (z4F m)=true|.row _ _=>True|.deep _ _ l=>l=[])
 | [],He,i,e,h,he=>by have:He=[]:=h;subst this;simp at he
 | s :: l,[],i,e,h,he=>h.elim
 | s :: l,e0 :: He,i,e,h,he=>by
   obtain ⟨h1,h2,h3⟩:=h
   cases i with
   | zero=>simp at he;subst he;exact ⟨s,rfl,h1,h2⟩
   | succ i=>simp at he;simpa using HM.get h3 he
theorem HM.len {σ:List Nat} {H:Hp} {m:Nat}:∀ {l:List Nat} {He:List Ent},HM σ H m l He→l.length=He.length
 | [],He,h=>by have:He=[]:=h;subst this;rfl
 | s :: l,[],h=>h.elim
 | s :: l,e0 :: He,h=>by simp [HM.len h.2.2]
theorem z34 (ρ:Nat→Nat) (e:Ent):(renE ρ e).shape=e.shape:=by cases e<;>simp [renE,Ent.shape]
theorem zee (ρ:Nat→Nat) (e:Ent):(renE ρ e).wd=e.wd:=Ent.wd_shape (z34 ρ e)
def byv0 (s:Nat):T→Prop
 | .ref r=>r=s
 | _=>False
def byv1 (s:Nat):T→Prop
 | .agg cs=>∃ c ∈ cs,byv0 s c
 | x=>byv0 s x
open Classical in
noncomputable def z0s (Y:Cx) (σ:List Nat) (by_:Nat→Prop):Own:=fun g=>match Y.ow g with
 | none=>none
 | some s=>if s ∈ σ then some (σ.idxOf s+1) else if (s ≠ 0∧by_ s) ∨ (s=0∧Y.iw g ≠ 0∧Y.iw g ∉ σ∧by_ (Y.iw g)) then none else some 0
def z0Z (Y:Cx) (σ:List Nat):Nat→Nat:=fun g=>if Y.iw g ∈ σ then σ.idxOf (Y.iw g)+1 else 0
noncomputable def z2k (Y:Cx) (σ:List Nat) (by_:Nat→Prop) (He:List Ent):Cx:={ H:=idxE He,ow:=z0s Y σ by_,w:=Y.w,us:=fun i=>i<He.length+1,iw:=z0Z Y σ }
theorem z1v {He:List Ent} {r:Nat} {e:Ent}:idxE He r=some e ↔ r ≠ 0∧He[r-1]?=some e∧live e=some e:=by
 unfold idxE
 by_cases h:r=0
 ·simp [h]
 ·rw [if_neg h]
  cases hg:He[r-1]? with
  | none=>simp
  | some e0 =>
    refine ⟨fun hl=>?_,fun hl=>?_⟩
    ·have he:live e0=some e:=hl
     have:=z6m he
     subst this
     exact ⟨h,rfl,he⟩
    ·obtain ⟨_,h1,h2⟩:=hl
     injection h1 with h1;subst h1
     exact h2
theorem zhp {He:List Ent} {r:Nat} {e:Ent} (h:idxE He r=some e):0<r∧r≤He.length:=by
 obtain ⟨h1,h2,_⟩:=z1v.1 h
 have:=(List.getElem?_eq_some_iff.1 h2).1
 omega
section
variable {Y:Cx} {σ:List Nat} {by_:Nat→Prop} {He:List Ent} (hh:HR Y) (hm:HM σ Y.H He.length σ He) (hnd:σ.Nodup) (h0:0 ∉ σ)
include hh hm hnd h0
theorem z4G {g:Nat} (h:Y.ow g=none):z0s Y σ by_ g=none:=by simp [z0s,h]
theorem z6o {g i s:Nat} (hi:i ≠ 0) (hs:σ[i-1]?=some s) (h:Y.ow g=some s):z0s Y σ by_ g=some i:=by
 have hm':s ∈ σ:=List.mem_of_getElem? hs
 have hlt:=(List.getElem?_eq_some_iff.1 hs).1
 have hx:σ.idxOf s=i-1:=by
  have:=List.getElem?_eq_some_iff.1 hs
  obtain ⟨h1,h2⟩:=this
  rw [← h2]
  exact hnd.idxOf_getElem _ h1
 simp only [z0s,h,hm',if_true,hx]
 congr 1;omega
theorem zb1 {g i:Nat} (h:z0s Y σ by_ g=some i) (hi:i ≠ 0):∃ s,Y.ow g=some s∧σ[i-1]?=some s:=by
 unfold z0s at h
 cases hy:Y.ow g with
 | none=>rw [hy] at h;cases h
 | some s =>
   rw [hy] at h
   simp only at h
   split at h
   ·rename_i hs
    injection h with h
    refine ⟨s,rfl,?_⟩
    rw [← h,Nat.add_sub_cancel,List.getElem?_eq_getElem (List.idxOf_lt_length_of_mem hs),List.getElem_idxOf]
   ·split at h
    ·cases h
    ·injection h with h;exact absurd h.symm hi
theorem z9z {i s:Nat} (hs:σ[i]?=some s):∃ e,He[i]?=some e∧Y.H s=some (renE (rho σ 0) e)∧Y.us s∧s ≠ 0:=by
 have hl:=hm.len
 have hi:=(List.getElem?_eq_some_iff.1 hs).1
 obtain ⟨s',h1,h2,_⟩:=hm.get (List.getElem?_eq_getElem (show i<He.length by omega))
 rw [hs] at h1;injection h1 with h1;subst h1
 exact ⟨_,List.getElem?_eq_getElem (by omega),h2,(hh.node _ _ h2).1,fun h=>h0 (h ▸ List.mem_of_getElem? hs)⟩
theorem iw_at {g i s:Nat} (hi:i ≠ 0) (hs:σ[i-1]?=some s) (h:Y.iw g=s):z0Z Y σ g=i:=by
 have hm':s ∈ σ:=List.mem_of_getElem? hs
 have hx:σ.idxOf s=i-1:=by
  obtain ⟨h1,h2⟩:=List.getElem?_eq_some_iff.1 hs
  rw [← h2]
  exact hnd.idxOf_getElem _ h1
 unfold z0Z
 rw [h,if_pos hm',hx];omega
theorem z5U {g:Nat} (h:z0Z Y σ g ≠ 0):Y.iw g ∈ σ∧Y.ow g=some 0∧g<Y.w.heap.size∧z0s Y σ by_ g=some 0∧z0Z Y σ g<He.length+1:=by
 unfold z0Z at h ⊢
 split at h
 ·rename_i hm'
  rw [if_pos hm']
  have hz:Y.iw g ≠ 0:=fun he=>h0 (he ▸ hm')
  obtain ⟨a,b,_⟩:=hh.inn g hz
  refine ⟨hm',a,b,?_,?_⟩
  ·simp only [z0s,a]
   rw [if_neg h0,if_neg]
   rintro (⟨q,_⟩|⟨_,_,q,_⟩)
   ·exact q rfl
   ·exact q hm'
  ·have:=List.idxOf_lt_length_of_mem hm'
   have:=hm.len
   omega
 ·exact absurd rfl h
theorem zb2:Stab Y.ow Y.w (z2k Y σ by_ He).ow (z2k Y σ by_ He).w:=fun g _ h=>⟨z4G hh hm hnd h0 h,rfl⟩
theorem zfQ {i s k n:Nat} {u:Value} (hi:i ≠ 0) (hs:σ[i-1]?=some s) (h:Hdr Y s k n u):Hdr (z2k Y σ by_ He) i k n u:=by
 rcases h with h|⟨g,c,C,t,fr,hv,hg,hr⟩
 ·exact .inl h
 ·exact .inr ⟨g,c,C,t,fr,hv,z6o hh hm hnd h0 hi hs hg,hr⟩
theorem z6p {i s:Nat} {u:Value} (hi:i ≠ 0) (hs:σ[i-1]?=some s) (h:RS0 Y (.ref s) u):RS0 (z2k Y σ by_ He) (.ref i) u:=by
 obtain ⟨h1,h2,h3⟩:=h
 have hl:=hm.len
 have hil:=(List.getElem?_eq_some_iff.1 hs).1
 refine ⟨by show i<He.length+1;omega,h2,fun e' he hf=>?_⟩
 obtain ⟨_,he2,_⟩:=z1v.1 he
 obtain ⟨e,h4,h5,_⟩:=z9z hh hm hnd h0 hs
 rw [h4] at he2;injection he2 with he2;subst he2
 have h6:=h3 _ h5
 rw [z34] at h6
 exact zfQ hh hm hnd h0 hi hs (h6 hf)
theorem z6q {i s a b:Nat} {u:Value} (hi:i ≠ 0) (hs:σ[i-1]?=some s) (h:RS0 Y (.ptr s a b) u):RS0 (z2k Y σ by_ He) (.ptr i a b) u:=by
 obtain ⟨h1,h2,h3⟩:=h
 have hl:=hm.len
 have hil:=(List.getElem?_eq_some_iff.1 hs).1
 refine ⟨by show i<He.length+1;omega,h2,fun e he=>?_⟩
 obtain ⟨_,he2,_⟩:=z1v.1 he
 obtain ⟨e',h4,h5,_⟩:=z9z hh hm hnd h0 hs
 rw [h4] at he2;injection he2 with he2;subst he2
 obtain ⟨g,hg,hv⟩:=h3 _ h5
 rw [zee] at hv
 exact ⟨g,z6o hh hm hnd h0 hi hs hg,hv⟩
theorem back0 {c:T} {u:Value} (hc:z4F He.length c=true) (h:RS0 Y (ren0 (rho σ 0) c) u):RS0 (z2k Y σ by_ He) c u:=by
 have hl:=hm.len
 have key:∀ r,(Nat.blt 0 r&&Nat.ble r He.length)=true→r ≠ 0∧σ[r-1]?=some (rho σ 0 r):=fun r hr=>by
  simp only [Bool.and_eq_true] at hr
  have h1:0<r:=by have:=hr.1;simp [Nat.blt] at this;omega
  have h2:=Nat.le_of_ble_eq_true hr.2
  refine ⟨by omega,?_⟩
  have hb:Nat.ble r σ.length=true:=Nat.ble_eq_true_of_le (by omega)
  simp only [rho,hb,cond_true]
  rw [List.getElem?_eq_getElem (by omega)]
  simp [List.getD,List.getElem?_eq_getElem (show r-1<σ.length by omega)]
 cases c
 case ref r=>obtain ⟨a,b⟩:=key r hc;exact z6p hh hm hnd h0 a b h
 case ptr r i j=>obtain ⟨a,b⟩:=key r hc;exact z6q hh hm hnd h0 a b h
 case rptr c j =>
  obtain ⟨g,o,C,t,fr,hv,hg,hC,hr⟩:=h
  exact ⟨g,o,C,t,fr,hv,z4G hh hm hnd h0 hg,hC,RL.mono (zb2 hh hm hnd h0) hr⟩
 case any=>trivial
 case fnp f r=>cases hc
 case fnq f r s=>cases hc
 all_goals exact RV.mono (zb2 hh hm hnd h0) h
theorem zfR:HR (z2k Y σ by_ He):=by
 have hl:=hm.len
 refine ⟨fun g g' r hr h1 h2=>?_,fun g r hg=>?_,fun r e he=>?_,rfl,by show 0<He.length+1;omega,hh.gl.mono (zb2 hh hm hnd h0),fun g hg=>?_⟩
 rotate_right
 ·obtain ⟨_,_,a,b,c⟩:=z5U (by_:=by_) hh hm hnd h0 hg
  exact ⟨b,a,c⟩
 ·have hr0:r ≠ 0:=fun h=>by subst h;exact hr rfl
  obtain ⟨s,a,b⟩:=zb1 hh hm hnd h0 h1 hr0
  obtain ⟨s',a',b'⟩:=zb1 hh hm hnd h0 h2 hr0
  rw [b] at b';injection b' with b';subst b'
  obtain ⟨e,_,h5,_⟩:=z9z hh hm hnd h0 b
  exact hh.inj' h5 a a'
 ·by_cases hr0:r=0
  ·subst hr0
   refine ⟨?_,by show 0<He.length+1;omega⟩
   change z0s Y σ by_ g=some 0 at hg
   cases hy:Y.ow g with
   | none=>rw [z4G hh hm hnd h0 hy] at hg;cases hg
   | some s=>exact (hh.lt g s hy).1
  ·obtain ⟨s,a,b⟩:=zb1 hh hm hnd h0 hg hr0
   have:=(List.getElem?_eq_some_iff.1 b).1
   exact ⟨(hh.lt g s a).1,by show r<He.length+1;omega⟩
 ·obtain ⟨hr0,he2,_⟩:=z1v.1 he
  have hb:=zhp he
  refine ⟨by show r<He.length+1;omega,?_⟩
  obtain ⟨s,h1,h2,h3⟩:=hm.get he2
  have hn:=(hh.node _ _ h2).2
  cases e with
  | box cs =>
    obtain ⟨g,C,t,fr,hg,hC,hf,hrl⟩:=hn
    refine ⟨g,C,t,fr,z6o hh hm hnd h0 hr0 h1 hg,hC,hf,?_⟩
    have key:∀ (cs:List T) (us:List Value),cs.all (z4F He.length)=true→RSl Y (cs.map (ren0 (rho σ 0))) us→RSl (z2k Y σ by_ He) cs us:=by
     intro cs
     induction cs with
     | nil=>intro us _ h;exact h
     | cons c cs ih =>
       rintro us hc ⟨u,us',hu,q1,q2,q3⟩
       simp only [List.all_cons,Bool.and_eq_true] at hc
       exact ⟨u,us',hu,q1,back0 hh hm hnd h0 hc.1 q2,ih us' hc.2 q3⟩
    exact key cs _ h3 hrl
  | row k es =>
    refine ⟨hn.1,?_⟩
    rcases hn.2 with q|⟨g,C,t,fr,hg,hC,hf,hrl⟩
    ·exact .inl q
    ·exact .inr ⟨g,C,t,fr,z6o hh hm hnd h0 hr0 h1 hg,hC,hf,RE.mono (zb2 hh hm hnd h0) hrl⟩
  | deep k es l =>
    have h3:l=[]:=h3
    subst h3
    refine ⟨hn.1,hn.2.imp _root_.id ?_⟩
    rintro ⟨g,C,t,fr,bs,hg,hC,hf,hd,ho,hl2,_⟩
    exact ⟨g,C,t,fr,bs,z6o hh hm hnd h0 hr0 h1 hg,hC,hf,hd,fun b hb=>iw_at hh hm hnd h0 hr0 h1 (ho b hb),hl2,fun p hp=>by cases hp⟩
theorem z9A {x t:T} {v:Value} (hx:RS0 Y x v) (hb:∀ s,byv0 s x→by_ s) (h:AM0 σ Y.H x t):RS0 (z2k Y σ by_ He) t v:=by
 cases x<;>simp only [AM0] at h
 case ref r =>
  cases t<;>simp only at h
  case sl k es =>
   obtain ⟨h1,h2⟩:=h
   have hr:r ∉ σ:=by simpa using h2
   split at h1
   ·rename_i k' es' hHd
    obtain ⟨rfl,rfl⟩:=h1
    have hb1:by_ r:=hb r rfl
    obtain ⟨bs,q1,_,q3⟩:=zaW hh hx hHd
    have h5:=q1.sl (ow:=z0s Y σ by_) (fun b hm2=>by
     rcases q3 b hm2 with q|q
     ·simp only [z0s,q]
      rw [if_neg hr,if_pos (.inl ⟨hh.ne hHd,hb1⟩)]
     ·have hz:Y.iw b ≠ 0:=by rw [q];exact hh.ne hHd
      simp only [z0s,(hh.inn b hz).1]
      rw [if_neg h0,if_pos (.inr ⟨rfl,hz,by rw [q];exact hr,by rw [q];exact hb1⟩)])
    simp only [ucT] at h5
    exact h5.rs0
   refine (z7G hh (zb2 hh hm hnd h0) hx h1 (fun g hg=>?_) (fun g _=>rfl)).rs0
   show z0s Y σ by_ g=none
   have hb1:by_ r:=hb r rfl
   simp only [z0s,hg]
   rw [if_neg hr,if_pos (.inl ⟨hh.ne h1,hb1⟩)]
  case ref i=>exact z6p hh hm hnd h0 h.1 h.2 hx
 case ptr r a b =>
  cases t<;>simp only at h
  case ptr i a' b' =>
   obtain ⟨h1,h2,rfl,rfl⟩:=h
   exact z6q hh hm hnd h0 h1 h2 hx
 case val v0 =>
  have hx':v=v0∧v0.oneCell'=true:=by simpa [RS0,RV] using hx
  cases t<;>simp only at h
  case sl k es =>
   obtain ⟨rfl,rfl⟩:=h
   obtain ⟨rfl,_⟩:=hx'
   exact RV.rs0 (by simp only [RV];exact ⟨none,0,rfl,Nat.le_refl _,.inl trivial⟩)
  case val v'=>subst h;exact RV.rs0 (by simpa only [RV] using hx')
 case rptr c j =>
  subst h
  obtain ⟨g,o,C,t,fr,hv,hg,hC,hr⟩:=hx
  exact ⟨g,o,C,t,fr,hv,z4G hh hm hnd h0 hg,hC,RL.mono (zb2 hh hm hnd h0) hr⟩
 case any=>subst h;trivial
 case fnp f r=>subst h;obtain ⟨u,rfl,_⟩:=hx;exact RV.rs0 (by simp only [RV];exact ⟨_,_,_,rfl⟩)
 all_goals (subst h;exact RV.mono (zb2 hh hm hnd h0) hx)
theorem zef {x t:T} {v:Value} (hx:RS1 Y x v) (hb:∀ s,byv1 s x→by_ s) (h:AM1 σ Y.H x t):RS1 (z2k Y σ by_ He) t v:=by
 have one:∀ {x t:T} {v:Value},RS0 Y x v→(∀ s,byv0 s x→by_ s)→AM0 σ Y.H x t→RS1 (z2k Y σ by_ He) t v:=fun hx hb h=>by
  have h1:=z9A hh hm hnd h0 hx hb h
  rename_i x t v
  cases t<;>first|exact h1|(simp only [RS0,RV] at h1;done)
 cases x
 case agg cs =>
  cases t<;>simp only [AM1] at h
  case agg ts =>
   obtain ⟨vs,hv,hl⟩:=hx
   refine ⟨vs,hv,?_⟩
   have hb':∀ s,(∃ c ∈ cs,byv0 s c)→by_ s:=hb
   clear hb hv
   generalize vs.toList=us at hl
   induction cs generalizing ts us with
   | nil=>have:ts=[]:=h;subst this;exact hl
   | cons c cs ih =>
     obtain ⟨u,us',hu,q1,q2,q3⟩:=hl
     cases ts with
     | nil=>exact h.elim
     | cons t ts =>
       exact ⟨u,us',hu,q1,z9A hh hm hnd h0 q2 (fun s hs=>hb' s ⟨c,by simp,hs⟩) h.1,ih ts h.2 (fun s ⟨c',hc',hs⟩=>hb' s ⟨c',by simp [hc'],hs⟩) us' q3⟩
 all_goals (simp only [RS1] at hx;simp only [AM1] at h;exact one hx hb h)
theorem zbZ:∀ {xs ts:List T} {vs:List Value},Args Y xs vs→(∀ x ∈ xs,∀ s,byv1 s x→by_ s)→AM σ Y.H xs ts→Args (z2k Y σ by_ He) ts vs
 | [],ts,vs,ha,_,h=>by have:ts=[]:=h;subst this;exact ha
 | x :: xs,[],vs,ha,_,h=>h.elim
 | x :: xs,t :: ts,vs,⟨u,us,hu,h1,h2⟩,hb,h=>by
   refine ⟨u,us,hu,?_,zbZ h2 (fun x hx=>hb x (by simp [hx])) h.2⟩
   have hx1:RS1 Y x u:=by
    cases x
    case tup cs=>exact (by simpa [AM1,AM0] using h.1:False).elim
    all_goals exact h1
   exact (zef hh hm hnd h0 hx1 (fun s hs=>hb x (by simp) s hs) h.1).rs
end
end Go.Proofs.YtgmbkbggnlponaaGreatDoor
namespace Go.Proofs.YtgmbkbggnlponaaGreatDoor
set_option linter.unusedVariables false
set_option linter.unusedSimpArgs false
set_option linter.unusedSectionVars false
open Go.RowKit Pl
theorem zgS {ow ow':Own} {w w':World} {c:T} {u:Value} (hc:own0 c) (h:RV ow w c u):RV ow' w' c u:=by
 cases c<;>simp only [RV] at h ⊢<;>try exact h
 case sl k es =>
  have he:es=[]:=hc
  subst he
  obtain ⟨A,cc,hv,hl,_⟩:=h
  exact ⟨A,cc,hv,hl,.inl rfl⟩
theorem zgT {ow ow':Own} {w w':World}:∀ {cs:List T} {us:List Value},(∀ c ∈ cs,own0 c)→RL ow w cs us→RL ow' w' cs us
 | [],us,_,h=>by simpa only [RL] using h
 | c :: cs,us,hc,h=>by
   simp only [RL] at h ⊢
   obtain ⟨u,us',hu,h1,h2⟩:=h
   exact ⟨u,us',hu,zgS (hc c (by simp)) h1,zgT (fun c h=>hc c (by simp [h])) h2⟩
theorem zgU {ow ow':Own} {w w':World} {k:Nat}:∀ {es:List (List T)} {us:List Value},(∀ e ∈ es,∀ c ∈ e,own0 c)→RE ow w k es us→RE ow' w' k es us
 | [],us,_,h=>by simp only [RE]
 | e :: es,us,hc,h=>by
   simp only [RE] at h ⊢
   obtain ⟨vs,rest,hu,hl,h1,h2⟩:=h
   exact ⟨vs,rest,hu,hl,zgT (hc e (by simp)) h1,zgU (fun e h=>hc e (by simp [h])) h2⟩
theorem z9B {xs:List T} (h:xs.all z2E=true):∀ x ∈ xs,∀ s,¬ byv1 s x:=by
 intro x hx s hb
 have h1:=List.all_eq_true.1 h x hx
 cases x<;>simp only [byv1,byv0] at hb
 case ref r=>simp [z2E,zbX] at h1
 case agg cs =>
  obtain ⟨c,hc,hb⟩:=hb
  simp only [z2E] at h1
  have h2:=List.all_eq_true.1 h1 c hc
  cases c<;>simp only [byv0] at hb
  simp [zbX] at h2
theorem z4h {ρ:Nat→Nat}:∀ {l:List Ent} {a:Nat} {H:Hp} {r:Nat},(∀ i,i<l.length→ρ (a+i) ≠ r)→updL H (z5K ρ l a) r=H r
 | [],a,H,r,_=>rfl
 | e :: l,a,H,r,h=>by
   simp only [z5K,updL]
   rw [z4h (fun i hi=>by have:=h (i+1) (by simp;omega);rwa [show a+(i+1)=a+1+i by omega] at this),z0j]
   exact fun hr=>h 0 (by simp) (by simpa using hr.symm)
theorem zc0 {ρ:Nat→Nat}:∀ {l:List Ent} {a i:Nat} {H:Hp} {e:Ent},(∀ j k,j<l.length→k<l.length→ρ (a+j)=ρ (a+k)→j=k)→l[i]?=some e→updL H (z5K ρ l a) (ρ (a+i))=z9y ρ e
 | [],a,i,H,e,_,h=>by simp at h
 | e0 :: l,a,i,H,e,hinj,h=>by
   simp only [z5K,updL]
   cases i with
   | zero =>
     simp at h;subst h
     rw [z4h,Nat.add_zero,z0A]
     intro i hi hr
     have:=hinj (i+1) 0 (by simp;omega) (by simp) (by rw [show a+(i+1)=a+1+i by omega];exact hr)
     omega
   | succ i =>
     simp at h
     have:=zc0 (ρ:=ρ) (a:=a+1) (i:=i) (H:=updE H (ρ a) (z9y ρ e0)) (fun j k hj hk he=>by
      have:=hinj (j+1) (k+1) (by simp;omega) (by simp;omega) (by rw [show a+(j+1)=a+1+j by omega,show a+(k+1)=a+1+k by omega];exact he)
      omega) h
     rwa [show a+(i+1)=a+1+i by omega]
open Classical in
noncomputable def backX (Y:Cx) (σ:List Nat) (id:Nat) (ow:Own) (X':Cx) (He':List Ent):Cx :=
 { H:=updL Y.H (z5K (rho σ id) He' 1)
   ow:=fun g=>match X'.ow g with
    | none=>if ow g=none then Y.ow g else none
    | some i=>if i=0 then (if ow g=some 0 then Y.ow g else some 0) else some (rho σ id i)
   w:=X'.w
   us:=Y.win id
   iw:=fun g=>match X'.iw g with
    | 0=>if z0Z Y σ g=0 then Y.iw g else 0
    | i=>rho σ id i }
theorem zb3 {P:Program} {Y:Cx} {id:Nat} {K:Kon} (hh:HR Y) (hi:Fresh Y id) {f:FuncId} {xs:List T} {vs:List Value} (ha:Args Y xs vs) (h:zbY P f xs Y.H id fun _=>K) :
 Calls P f vs.toArray Y.w fun e w'=>∃ v,e=.returned v∧Out Y id K v w':=by
 obtain ⟨σ,He,ts,r,He',hct,ham,hm,⟨hnd,h0⟩,⟨hl1,hl2⟩,⟨hsc1,hsc2⟩,hown,hk⟩:=h
 have hl:=hm.len
 let by_:Nat→Prop:=fun s=>∃ x ∈ xs,byv1 s x
 have hX:=zfR (by_:=by_) hh hm hnd h0
 have hargs:=zbZ (by_:=by_) hh hm hnd h0 ha (fun x hx s hs=>⟨x,hx,hs⟩) ham
 refine (hct.2 (z2k Y σ by_ He) hX rfl rfl vs hargs).mono ?_
 rintro e w' ⟨v,X',rfl,rfl,hH',hn',hr',hv',hs'⟩
 refine ⟨v,rfl,?_⟩
 have rlo:∀ i,i ≠ 0→i≤He.length→σ[i-1]?=some (rho σ id i):=fun i h1 h2=>by
  have hb:Nat.ble i σ.length=true:=Nat.ble_eq_true_of_le (by omega)
  simp only [rho,hb,cond_true]
  rw [List.getElem?_eq_getElem (by omega)]
  simp [List.getD,List.getElem?_eq_getElem (show i-1<σ.length by omega)]
 have rhi:∀ i,He.length<i→rho σ id i=id+(i-He.length-1):=fun i h1=>by
  have hb:Nat.ble i σ.length=false:=by
   cases hb:Nat.ble i σ.length with
   | false=>rfl
   | true=>have:=Nat.le_of_ble_eq_true hb;omega
  unfold rho
  rw [hb,cond_false,hl]
 have siglt:∀ i s,σ[i]?=some s→Y.us s∧s ≠ 0:=fun i s hs=>by
  obtain ⟨e,_,_,a,b⟩:=z9z hh hm hnd h0 hs
  exact ⟨a,b⟩
 have rinj:∀ i j,i ≠ 0→j ≠ 0→i≤He'.length→j≤He'.length→rho σ id i=rho σ id j→i=j:=fun i j h1 h2 hil hjl he=>by
  by_cases hi1:i≤He.length<;>by_cases hj1:j≤He.length
  ·have a:=rlo i h1 hi1
   have b:=rlo j h2 hj1
   rw [he] at a
   obtain ⟨p,a⟩:=List.getElem?_eq_some_iff.1 a
   obtain ⟨q,b⟩:=List.getElem?_eq_some_iff.1 b
   have p1:=hnd.idxOf_getElem _ p
   have q1:=hnd.idxOf_getElem _ q
   rw [a.trans b.symm] at p1
   have:=p1.symm.trans q1
   omega
  ·have a:=(siglt _ _ (rlo i h1 hi1)).1
   rw [he,rhi j (by omega)] at a;exact absurd a (hi _ (by omega) (by omega))
  ·have a:=(siglt _ _ (rlo j h2 hj1)).1
   rw [← he,rhi i (by omega)] at a;exact absurd a (hi _ (by omega) (by omega))
  ·rw [rhi i (by omega),rhi j (by omega)] at he;omega
 have rne:∀ i,i ≠ 0→i≤He'.length→rho σ id i ≠ 0:=fun i h1 hil=>by
  by_cases hi1:i≤He.length
  ·exact (siglt _ _ (rlo i h1 hi1)).2
  ·rw [rhi i (by omega)];exact fun hz=>hi 0 (by omega) (by omega) hh.pos
 have rlt:∀ i,i ≠ 0→i≤He'.length→Y.win id (rho σ id i):=fun i h1 h2=>by
  by_cases hi1:i≤He.length
  ·exact .inl (siglt _ _ (rlo i h1 hi1)).1
  ·rw [rhi i (by omega)];exact .inr ⟨by omega,by omega⟩
 have rold:∀ i,i ≠ 0→i≤He'.length→Y.us (rho σ id i)→i≤He.length:=fun i h1 hil h2=>by
  by_cases hi1:i≤He.length
  ·exact hi1
  ·rw [rhi i (by omega)] at h2;exact absurd h2 (hi _ (by omega) (by omega))
 let Z:=backX Y σ id (z0s Y σ by_) X' He'
 have hat:∀ i e,i ≠ 0→He'[i-1]?=some e→Z.H (rho σ id i)=z9y (rho σ id) e:=fun i e h1 h2=>by
  have:=zc0 (ρ:=rho σ id) (l:=He') (a:=1) (i:=i-1) (H:=Y.H) (e:=e) (fun j k _ _ he=>by have:=rinj _ _ (by omega) (by omega) (by omega) (by omega) he;omega) h2
  rwa [show 1+(i-1)=i by omega] at this
 have hoth:∀ r,(∀ i,i ≠ 0→i≤He'.length→rho σ id i ≠ r)→Z.H r=Y.H r:=fun r h1 =>
  z4h (fun i hi=>h1 _ (by omega) (by omega))
 have himg:∀ r,(∃ i,i ≠ 0∧i≤He'.length∧rho σ id i=r) ∨ (∀ i,i ≠ 0→i≤He'.length→rho σ id i ≠ r):=fun r=>by
  by_cases hx:∃ i,i ≠ 0∧i≤He'.length∧rho σ id i=r
  ·exact .inl hx
  ·exact .inr fun i h1 h2 h3=>hx ⟨i,h1,h2,h3⟩
 have hsig:∀ s,s ∈ σ→∃ i,i ≠ 0∧i≤He.length∧σ[i-1]?=some s∧rho σ id i=s:=fun s hs=>by
  obtain ⟨j,hj⟩:=List.getElem?_of_mem hs
  have hjl:=(List.getElem?_eq_some_iff.1 hj).1
  have:=rlo (j+1) (by omega) (by omega)
  rw [Nat.add_sub_cancel,hj] at this
  injection this with this
  exact ⟨j+1,by omega,by omega,by simpa using hj,this.symm⟩
 have hwY:∀ g,g<Y.w.heap.size→(z0s Y σ by_ g=none ∨ z0s Y σ by_ g=some 0)→z0Z Y σ g=0→(X'.ow g=z0s Y σ by_ g∧X'.iw g=0)∧X'.w.heap[g]?=Y.w.heap[g]?:=fun g hg hc hci=>by
  rcases hc with hc|hc
  ·obtain ⟨a,b⟩:=hs'.stab g hg hc
   refine ⟨⟨by rw [a,hc],?_⟩,b⟩
   cases hx:X'.iw g with
   | zero=>rfl
   | succ n =>
     have:=(hr'.inn g (by rw [hx];omega)).1
     rw [a] at this;cases this
  ·obtain ⟨a,b⟩:=hs'.fra g hc hci
   exact ⟨⟨by rw [a.1,hc],a.2⟩,b⟩
 have hZiw:∀ g,g<Y.w.heap.size→(z0s Y σ by_ g=none ∨ z0s Y σ by_ g=some 0)→z0Z Y σ g=0→Z.iw g=Y.iw g:=fun g hg hc hci=>by
  obtain ⟨⟨_,a⟩,_⟩:=hwY g hg hc hci
  show (match X'.iw g with|0=>_|i=>_)=_
  rw [a];simp only;rw [if_pos hci]
 have hci0:∀ g s,Y.ow g=some s→s ≠ 0→z0Z Y σ g=0:=fun g s hs hs0=>by
  by_cases h:z0Z Y σ g=0
  ·exact h
  ·have:=(z5U (by_:=by_) hh hm hnd h0 h).2.1
   rw [hs] at this;injection this with this;exact absurd this hs0
 have hcin:∀ g,Y.ow g=none→z0Z Y σ g=0:=fun g hs=>by
  by_cases h:z0Z Y σ g=0
  ·exact h
  ·have:=(z5U (by_:=by_) hh hm hnd h0 h).2.1
   rw [hs] at this;cases this
 have hcir:∀ g,Y.iw g ∉ σ→z0Z Y σ g=0:=fun g h=>by unfold z0Z;rw [if_neg h]
 have hZow:∀ g,(z0s Y σ by_ g=none ∨ z0s Y σ by_ g=some 0)→z0Z Y σ g=0→g<Y.w.heap.size→Z.ow g=Y.ow g:=fun g hc hci hg=>by
  obtain ⟨⟨a,_⟩,_⟩:=hwY g hg hc hci
  show (match X'.ow g with|none=>_|some i=>_)=_
  rcases hc with hc|hc
  ·rw [a,hc];simp [hc]
  ·rw [a,hc];simp [hc]
 have hZinv:∀ g r,Z.ow g=some r→(∃ i,i ≠ 0∧X'.ow g=some i∧r=rho σ id i) ∨ r=0∧X'.ow g=some 0 ∨ (Y.ow g=some r∧r ∉ σ):=fun g r hg=>by
  change (match X'.ow g with|none=>if z0s Y σ by_ g=none then Y.ow g else none|some i=>if i=0 then (if z0s Y σ by_ g=some 0 then Y.ow g else some 0) else some (rho σ id i))=some r at hg
  have notσ:Y.ow g=some r→(z0s Y σ by_ g=none ∨ z0s Y σ by_ g=some 0)→r ∉ σ:=fun hy hc hr=>by
   obtain ⟨i,h1,h2,h3,_⟩:=hsig r hr
   rw [z6o hh hm hnd h0 h1 h3 hy] at hc
   rcases hc with hc|hc
   ·cases hc
   ·injection hc with hc;exact h1 hc
  split at hg
  ·split at hg
   ·rename_i h1 h2;exact .inr (.inr ⟨hg,notσ hg (.inl h2)⟩)
   ·cases hg
  ·rename_i i hxi
   split at hg
   ·rename_i h1;subst h1
    split at hg
    ·rename_i h2;exact .inr (.inr ⟨hg,notσ hg (.inr h2)⟩)
    ·injection hg with hg;exact .inr (.inl ⟨hg.symm,hxi⟩)
   ·rename_i h1;injection hg with hg;exact .inl ⟨i,h1,hxi,hg.symm⟩
 have hZat:∀ g i,i ≠ 0→X'.ow g=some i→Z.ow g=some (rho σ id i):=fun g i h1 h2=>by
  show (match X'.ow g with|none=>_|some i=>_)=_
  rw [h2];simp [h1]
 have hcb:∀ g s,Y.ow g=some s→s ∉ σ→z0s Y σ by_ g=none ∨ z0s Y σ by_ g=some 0:=fun g s hy hs=>by
  simp only [z0s,hy,hs,if_false]
  by_cases hb:(s ≠ 0∧by_ s) ∨ (s=0∧Y.iw g ≠ 0∧Y.iw g ∉ σ∧by_ (Y.iw g))
  ·left;rw [if_pos hb]
  ·right;rw [if_neg hb]
 have hsame:Same Y Z:=by
  refine ⟨fun r hr=>.inl hr,hs'.os,hs'.tape,hs'.output,hs'.size,fun g hg hn=>?_,fun r hr e' he'=>?_,fun g hg hg0=>?_,fun r hr hne g hg=>?_⟩
  ·have hc:z0s Y σ by_ g=none:=z4G hh hm hnd h0 hn
   exact ⟨by rw [hZow g (.inl hc) (hcin g hn) hg,hn],(hwY g hg (.inl hc) (hcin g hn)).2⟩
  ·rcases himg r with ⟨i,h1,h2,rfl⟩|h1
   ·have hi1:=rold i h1 h2 hr
    have hgi:He'[i-1]?=some He'[i-1]:=List.getElem?_eq_getElem (by omega)
    rw [hat i _ h1 hgi] at he'
    obtain ⟨hlv,he'⟩:=z5T he'
    subst he'
    obtain ⟨e,q1,q2⟩:=hs'.ent i (by show i<He.length+1;omega) _ (by rw [hH'];exact z1v.2 ⟨h1,hgi,hlv⟩)
    obtain ⟨_,q3,_⟩:=z1v.1 q1
    obtain ⟨e0,q4,q5,_⟩:=z9z hh hm hnd h0 (rlo i h1 hi1)
    rw [q3] at q4;injection q4 with q4;subst q4
    exact ⟨_,q5,by rw [z34,z34];exact q2⟩
   ·rw [hoth r h1] at he';exact ⟨e',he',rfl⟩
  ·have hc:=hcb g 0 hg h0
   have hgl:=(hh.lt g 0 hg).1
   have hci:=hcir g (by rw [hg0];exact h0)
   exact ⟨⟨by rw [hZow g hc hci hgl,hg],by rw [hZiw g hgl hc hci,hg0]⟩,(hwY g hgl hc hci).2⟩
  ·have hgl:=(hh.lt g r hg).1
   by_cases hrs:r ∈ σ
   ·obtain ⟨i,h1,h2,h3,rfl⟩:=hsig r hrs
    have hxi:z0s Y σ by_ g=some i:=z6o hh hm hnd h0 h1 h3 hg
    have hgi:He'[i-1]?=some He'[i-1]:=List.getElem?_eq_getElem (by omega)
    have hlv:=zed (hat i _ h1 hgi) hne
    obtain ⟨a,b⟩:=hs'.pin i (by show i<He.length+1;omega) (by rw [hH',z1v.2 ⟨h1,hgi,hlv⟩];simp) g hxi
    exact ⟨hZat g i h1 a,b⟩
   ·have hc:=hcb g r hg hrs
    have hr0:r ≠ 0:=fun h=>by
     subst h
     rw [hoth 0 (fun i h1 h2=>rne i h1 h2),hh.zero] at hne;exact hne rfl
    have hci:=hci0 g r hg hr0
    refine ⟨by rw [hZow g hc hci hgl,hg],fun C t fr hC=>⟨C,?_,rfl⟩⟩
    show X'.w.heap[g]?=_
    rw [(hwY g hgl hc hci).2,hC]
 have fstab:xs.all z2E=true→Stab X'.ow X'.w Z.ow Z.w:=fun hno g hg hn=>by
  refine ⟨?_,rfl⟩
  show (match X'.ow g with|none=>if z0s Y σ by_ g=none then Y.ow g else none|some i=>_)=none
  rw [hn]
  simp only
  split
  ·rename_i hc
   cases hy:Y.ow g with
   | none=>rfl
   | some s =>
     exfalso
     unfold z0s at hc
     rw [hy] at hc
     simp only at hc
     split at hc
     ·cases hc
     ·split at hc
      ·rename_i hb
       rcases hb with ⟨_,x,hx,hbx⟩|⟨_,_,_,x,hx,hbx⟩
       ·exact z9B hno x hx s hbx
       ·exact z9B hno x hx _ hbx
      ·cases hc
  ·rfl
 have fhdr:∀ i k n u,i ≠ 0→Hdr X' i k n u→Hdr Z (rho σ id i) k n u:=fun i k n u h1 h2=>by
  rcases h2 with h2|⟨g,c,C,t,fr,hv,hg,hr⟩
  ·exact .inl h2
  ·exact .inr ⟨g,c,C,t,fr,hv,hZat g i h1 hg,hr⟩
 have scop:∀ r,(Nat.blt 0 r&&Nat.ble r He'.length)=true→r ≠ 0∧r≤He'.length:=fun r hr=>by
  simp only [Bool.and_eq_true] at hr
  have h1:0<r:=by have:=hr.1;simp [Nat.blt] at this;omega
  exact ⟨by omega,Nat.le_of_ble_eq_true hr.2⟩
 have f0:∀ c u,z4F He'.length c=true→(xs.all z2E=true ∨ own0 c)→RS0 X' c u→RS0 Z (ren0 (rho σ id) c) u:=fun c u hc ho h=>by
  cases c
  case ref j =>
   obtain ⟨h1,h2⟩:=scop j hc
   obtain ⟨q1,q2,q3⟩:=h
   refine ⟨rlt j h1 h2,q2,fun e' he hf=>?_⟩
   have hgj:He'[j-1]?=some He'[j-1]:=List.getElem?_eq_getElem (by omega)
   rw [hat j _ h1 hgj] at he
   obtain ⟨hlv,he⟩:=z5T he
   subst he
   rw [z34] at hf ⊢
   exact fhdr j _ _ _ h1 (q3 _ (by rw [hH'];exact z1v.2 ⟨h1,hgj,hlv⟩) hf)
  case ptr j a b =>
   obtain ⟨h1,h2⟩:=scop j hc
   obtain ⟨q1,q2,q3⟩:=h
   refine ⟨rlt j h1 h2,q2,fun e he=>?_⟩
   have hgj:He'[j-1]?=some He'[j-1]:=List.getElem?_eq_getElem (by omega)
   rw [hat j _ h1 hgj] at he
   obtain ⟨hlv,he⟩:=z5T he
   subst he
   obtain ⟨g,hg,hv⟩:=q3 _ (by rw [hH'];exact z1v.2 ⟨h1,hgj,hlv⟩)
   exact ⟨g,hZat g j h1 hg,by rw [zee];exact hv⟩
  case rptr cs j =>
   rcases ho with ho|ho
   ·obtain ⟨g,o,C,t,fr,hv,hg,hC,hr⟩:=h
    exact ⟨g,o,C,t,fr,hv,(fstab ho g (z1f hC) hg).1,hC,RL.mono (fstab ho) hr⟩
   ·exact ho.elim
  case any=>trivial
  case fnp f j=>cases hc
  case fnq f j s=>cases hc
  all_goals
   rcases ho with ho|ho
   ·exact RV.mono (fstab ho) h
   ·exact zgS (ow:=X'.ow) (w:=X'.w) ho h
 have fl:∀ cs us,cs.all (z4F He'.length)=true→(xs.all z2E=true ∨ ∀ c ∈ cs,own0 c)→RSl X' cs us→RSl Z (cs.map (ren0 (rho σ id))) us:=by
  intro cs
  induction cs with
  | nil=>intro us _ _ h;exact h
  | cons c cs ih =>
    rintro us hc ho ⟨u,us',hu,q1,q2,q3⟩
    simp only [List.all_cons,Bool.and_eq_true] at hc
    exact ⟨u,us',hu,q1,f0 c u hc.1 (ho.imp _root_.id fun h=>h c (by simp)) q2,ih us' hc.2 (ho.imp _root_.id fun h c hc=>h c (by simp [hc])) q3⟩
 have f1:∀ c u,zbW He'.length c=true→(xs.all z2E=true ∨ own1 c)→RS1 X' c u→RS1 Z (ren1 (rho σ id) c) u:=fun c u hc ho h=>by
  cases c
  case agg cs=>obtain ⟨us,hu,hl⟩:=h;exact ⟨us,hu,fl cs _ hc ho hl⟩
  case ref j=>exact f0 (.ref j) u hc ho h
  case ptr j a b=>exact f0 (.ptr j a b) u hc ho h
  case rptr cs j=>exact f0 (.rptr cs j) u hc ho h
  case fnp f j=>exact f0 (.fnp f j) u hc ho h
  case fnq f j s=>exact f0 (.fnq f j s) u hc ho h
  case sl k es=>exact f0 (.sl k es) u hc ho h
  case any=>trivial
  case int k n=>exact f0 (.int k n) u hc ho h
  case bool b=>exact f0 (.bool b) u hc ho h
  case str s=>exact f0 (.str s) u hc ho h
  case val v=>exact f0 (.val v) u hc ho h
  case tup cs=>exact f0 (.tup cs) u hc ho h
  case own k es=>exact f0 (.own k es) u hc ho h
  case ifz t n=>exact f0 (.ifz t n) u hc ho h
  case fna=>exact f0 .fna u hc ho h
 have ft:∀ cs us,cs.all (zbW He'.length)=true→(xs.all z2E=true ∨ ∀ c ∈ cs,own1 c)→RSt X' cs us→RSt Z (cs.map (ren1 (rho σ id))) us:=by
  intro cs
  induction cs with
  | nil=>intro us _ _ h;exact h
  | cons c cs ih =>
    rintro us hc ho ⟨u,us',hu,q2,q3⟩
    simp only [List.all_cons,Bool.and_eq_true] at hc
    exact ⟨u,us',hu,f1 c u hc.1 (ho.imp _root_.id fun h=>h c (by simp)) q2,ih us' hc.2 (ho.imp _root_.id fun h c hc=>h c (by simp [hc])) q3⟩
 have f2:RS Z (ren2 (rho σ id) r) v:=by
  have ho:xs.all z2E=true ∨ own2 r:=hown.imp _root_.id fun h=>h.1
  cases r with
  | tup cs=>obtain ⟨us,hu,hl⟩:=hv';exact ⟨us,hu,ft cs _ hsc1 ho hl⟩
  | int k n=>exact (f1 (.int k n) v hsc1 ho hv').rs
  | bool b=>exact (f1 (.bool b) v hsc1 ho hv').rs
  | str s=>exact (f1 (.str s) v hsc1 ho hv').rs
  | val x=>exact (f1 (.val x) v hsc1 ho hv').rs
  | agg cs=>exact (f1 (.agg cs) v hsc1 ho hv').rs
  | sl k es=>exact (f1 (.sl k es) v hsc1 ho hv').rs
  | ref j=>exact (f1 (.ref j) v hsc1 ho hv').rs
  | ptr j a b=>exact (f1 (.ptr j a b) v hsc1 ho hv').rs
  | rptr cs j=>exact (f1 (.rptr cs j) v hsc1 ho hv').rs
  | fnp f j=>exact (f1 (.fnp f j) v hsc1 ho hv').rs
  | fnq f j s=>exact (f1 (.fnq f j s) v hsc1 ho hv').rs
  | any=>trivial
  | own k es=>exact (f1 (.own k es) v hsc1 ho hv').rs
  | ifz t n=>exact (f1 (.ifz t n) v hsc1 ho hv').rs
  | fna=>exact (f1 .fna v hsc1 ho hv').rs
 refine ⟨_,_,Z,hk,rfl,rfl,rfl,hsame,⟨fun g g' r hr h1 h2=>?_,fun g r hg=>?_,fun r e he=>?_,?_,.inl hh.pos,hh.gl.mono hsame.stab,fun g hg=>?_⟩,f2⟩
 rotate_right
 ·change (match X'.iw g with|0=>if z0Z Y σ g=0 then Y.iw g else 0|i=>rho σ id i) ≠ 0 at hg
  show Z.ow g=some 0∧g<X'.w.heap.size∧Y.win id (match X'.iw g with|0=>if z0Z Y σ g=0 then Y.iw g else 0|i=>rho σ id i)
  cases hx:X'.iw g with
  | zero =>
    rw [hx] at hg
    simp only at hg ⊢
    by_cases hci:z0Z Y σ g=0
    ·rw [if_pos hci] at hg ⊢
     obtain ⟨a,b,c⟩:=hh.inn g hg
     exact ⟨by rw [hZow g (hcb g 0 a h0) hci b,a],Nat.lt_of_lt_of_le b hs'.size,.inl c⟩
    ·rw [if_neg hci] at hg;exact absurd rfl hg
  | succ n =>
    simp only
    obtain ⟨a,b,c⟩:=hr'.inn g (by rw [hx];omega)
    rw [hx,hn'] at c
    have c:n+1<He'.length+1:=c
    refine ⟨?_,b,rlt (n+1) (by omega) (by omega)⟩
    show (match X'.ow g with|none=>_|some i=>if i=0 then (if z0s Y σ by_ g=some 0 then Y.ow g else some 0) else _)=some 0
    rw [a];simp only [if_true]
    by_cases hco:z0s Y σ by_ g=some 0
    ·rw [if_pos hco]
     by_cases hci:z0Z Y σ g=0
     ·have:=(hs'.fra g hco hci).1.2
      rw [hx] at this;cases this
     ·exact (z5U (by_:=by_) hh hm hnd h0 hci).2.1
    ·rw [if_neg hco]
 ·have hr0:r ≠ 0:=fun h=>by
   subst h
   rw [hoth 0 (fun i h1 h2=>rne i h1 h2),hh.zero] at hr;exact hr rfl
  have notimg:∀ r,Y.us r→r ∉ σ→∀ i,i ≠ 0→i≤He'.length→rho σ id i ≠ r:=fun r h1 h2 i h3 h4 h5=>by
   have:=rold i h3 h4 (h5 ▸ h1)
   exact h2 (h5 ▸ List.mem_of_getElem? (rlo i h3 this))
  have hlti:∀ g i,X'.ow g=some i→i≤He'.length:=fun g i h=>by have h2:=(hr'.lt g i h).2;rw [hn'] at h2;exact Nat.le_of_lt_succ h2
  rcases hZinv g r h1 with ⟨i,a1,a2,a3⟩|⟨a1,_⟩|⟨a1,a2⟩
  ·rcases hZinv g' r h2 with ⟨j,b1,b2,b3⟩|⟨b1,_⟩|⟨b1,b2⟩
   ·have:=rinj i j a1 b1 (hlti g i a2) (hlti g' j b2) (a3.symm.trans b3)
    subst this
    refine hr'.inj g g' i ?_ a2 b2
    have hl2:=hlti g i a2
    have hgi:He'[i-1]?=some He'[i-1]:=List.getElem?_eq_getElem (by omega)
    have hlv:=zed (hat i _ a1 hgi) (a3 ▸ hr)
    rw [hH',z1v.2 ⟨a1,hgi,hlv⟩];simp
   ·exact absurd b1 hr0
   ·exact absurd a3.symm (notimg r (hh.lt _ _ b1).2 b2 i a1 (hlti g i a2))
  ·exact absurd a1 hr0
  ·rcases hZinv g' r h2 with ⟨j,b1,b2,b3⟩|⟨b1,_⟩|⟨b1,b2⟩
   ·exact absurd b3.symm (notimg r (hh.lt _ _ a1).2 a2 j b1 (hlti g' j b2))
   ·exact absurd b1 hr0
   ·rw [hoth r (notimg r (hh.lt _ _ a1).2 a2)] at hr
    exact hh.inj g g' r hr a1 b1
 ·rcases hZinv g r hg with ⟨i,a1,a2,a3⟩|⟨a1,a2⟩|⟨a1,a2⟩
  ·obtain ⟨p1,p2⟩:=hr'.lt g i a2
   exact ⟨p1,by rw [a3];exact rlt i a1 (by rw [hn'] at p2;exact Nat.le_of_lt_succ p2)⟩
  ·exact ⟨(hr'.lt g 0 a2).1,.inl (a1 ▸ hh.pos)⟩
  ·obtain ⟨p1,p2⟩:=hh.lt g r a1
   exact ⟨Nat.lt_of_lt_of_le p1 hs'.size,.inl p2⟩
 ·rcases himg r with ⟨i,h1,h2,rfl⟩|h1
  ·have hgi:He'[i-1]?=some He'[i-1]:=List.getElem?_eq_getElem (by omega)
   rw [hat i _ h1 hgi] at he
   obtain ⟨hlv,he⟩:=z5T he
   subst he
   refine ⟨rlt i h1 h2,?_⟩
   have hnode:=(hr'.node i _ (by rw [hH'];exact z1v.2 ⟨h1,hgi,hlv⟩)).2
   have hmem:He'[i-1] ∈ He':=List.getElem_mem _
   have hsc:=List.all_eq_true.1 hsc2 _ hmem
   have ho:xs.all z2E=true ∨ ownE He'[i-1]:=hown.imp _root_.id fun h=>h.2 _ hmem
   generalize He'[i-1]=e at hnode hsc ho
   cases e with
   | box cs =>
     obtain ⟨g,C,t,fr,hg,hC,hf,hrl⟩:=hnode
     exact ⟨g,C,t,fr,hZat g i h1 hg,hC,hf,fl cs _ hsc ho hrl⟩
   | row k es =>
     refine ⟨hnode.1,hnode.2.imp _root_.id ?_⟩
     rintro ⟨g,C,t,fr,hg,hC,hf,hrl⟩
     refine ⟨g,C,t,fr,hZat g i h1 hg,hC,hf,?_⟩
     rcases ho with ho|ho
     ·exact RE.mono (fstab ho) hrl
     ·exact zgU ho hrl
   | deep k es l =>
     have hsc:l=[]:=by simpa [z6n] using hsc
     subst hsc
     refine ⟨hnode.1,hnode.2.imp _root_.id ?_⟩
     rintro ⟨g,C,t,fr,bs,hg,hC,hf,hd,ho2,hl3,_⟩
     refine ⟨g,C,t,fr,bs,hZat g i h1 hg,hC,hf,hd,fun b hb=>?_,hl3,fun p hp=>by cases hp⟩
     show (match X'.iw b with|0=>_|i=>rho σ id i)=_
     have:=ho2 b hb
     cases hx:X'.iw b with
     | zero=>rw [hx] at this;exact absurd this.symm h1
     | succ n=>rw [hx] at this;subst this;rfl
  ·rw [hoth r h1] at he
   obtain ⟨p1,p2⟩:=hh.node r e he
   have hrs:r ∉ σ:=fun hr=>by
    obtain ⟨i,q1,q2,_,q3⟩:=hsig r hr
    exact h1 i q1 (by omega) q3
   refine ⟨.inl p1,p2.mono hsame p1 (by rw [hoth r h1,he];simp) (fun g hg=>?_) (fun b hb=>?_)⟩
   ·exact (hwY g (hh.lt g r hg).1 (hcb g r hg hrs) (hci0 g r hg (hh.ne he))).2
   ·have hb0:Y.iw b ≠ 0:=by rw [hb];exact hh.ne he
    obtain ⟨a,b2,_⟩:=hh.inn b hb0
    have hci:=hcir b (by rw [hb];exact hrs)
    have hc:=hcb b 0 a h0
    exact ⟨by rw [hZiw b b2 hc hci];exact hb,(hwY b b2 hc hci).2⟩
 ·rw [hoth 0 (fun i h1 h2=>rne i h1 h2)];exact hh.zero
def frz0 (gs:List Nat) (H:Hp):T→T
 | .ref r=>bif gs.contains r then (match H r with
   | some (.row k es)=>.sl k es
   | _=>.ref r) else .ref r
 | x=>x
def frz1 (gs:List Nat) (H:Hp):T→T
 | .agg cs=>.agg (cs.map (frz0 gs H))
 | x=>frz0 gs H x
def z0u (P:Program) (f:FuncId) (xs:List T) (H:Hp) (id:Nat) (K:List Nat→Kon):Prop :=
 ∃ gs,zbY P f (xs.map (frz1 gs H)) (updL H (z16 gs)) id fun σ x u=>K σ x (z16 gs++u)
theorem z7O {X:Cx} (hh:HR X) (gs:List Nat) {x:T} {v:Value} (hx:RS0 X x v):RS0 (X.dropL gs) (frz0 gs X.H x) v:=by
 cases x
 case ref r =>
  simp only [frz0]
  cases hg:gs.contains r with
  | false=>exact hx.mono (z13 X gs)
  | true =>
    simp only [cond_true]
    split
    ·rename_i k es hH
     have hm:r ∈ gs:=by simpa using hg
     exact (z7G hh (z13 X gs).stab hx hH (fun g h=>z8u (hh.ne hH) gs hm h) (fun g _=>by rw [z3j])).rs0
    ·exact hx.mono (z13 X gs)
 all_goals exact hx.mono (z13 X gs)
theorem zd5 {X:Cx} (hh:HR X) (gs:List Nat) {x:T} {v:Value} (hx:RS X x v):RS (X.dropL gs) (frz1 gs X.H x) v:=by
 cases x
 case agg cs =>
  obtain ⟨vs,hv,hl⟩:=hx
  refine ⟨vs,hv,?_⟩
  clear hv
  generalize vs.toList=us at hl
  induction cs generalizing us with
  | nil=>exact hl
  | cons c cs ih =>
    obtain ⟨u,us',hu,q1,q2,q3⟩:=hl
    exact ⟨u,us',hu,q1,z7O hh gs q2,ih us' q3⟩
 case ref r =>
  have h0:RS0 X (.ref r) v:=hx
  have h1:=z7O hh gs h0
  have hs:frz1 gs X.H (.ref r)=frz0 gs X.H (.ref r):=rfl
  rw [hs]
  have key:∀ y:T,(∃ k es,y=.sl k es) ∨ (∃ r,y=.ref r)→RS0 (X.dropL gs) y v→RS (X.dropL gs) y v:=by
   rintro y (⟨k,es,rfl⟩|⟨r,rfl⟩) h
   ·exact h
   ·exact h
  refine key _ ?_ h1
  simp only [frz0]
  cases gs.contains r with
  | false=>exact .inr ⟨r,rfl⟩
  | true =>
    simp only [cond_true]
    split
    ·exact .inl ⟨_,_,rfl⟩
    ·exact .inr ⟨r,rfl⟩
 all_goals exact hx.mono (z13 X gs)
theorem zc1 {X:Cx} (hh:HR X) (gs:List Nat):∀ {xs:List T} {vs:List Value},Args X xs vs→Args (X.dropL gs) (xs.map (frz1 gs X.H)) vs
 | [],vs,h=>h
 | x :: xs,vs,⟨u,us,hu,h1,h2⟩=>⟨u,us,hu,zd5 hh gs h1,zc1 hh gs h2⟩
theorem zc2:∀ (u v:Upd) (H:Hp),updL H (u++v)=updL (updL H u) v
 | [],v,H=>rfl
 | (r,e) :: u,v,H=>zc2 u v (updE H r e)
theorem zd6 {P:Program} {Y:Cx} {id:Nat} {K:Kon} (hh:HR Y) (hi:Fresh Y id) {f:FuncId} {xs:List T} {vs:List Value} (ha:Args Y xs vs) (h:z0u P f xs Y.H id fun _=>K) :
 Calls P f vs.toArray Y.w fun e w'=>∃ v,e=.returned v∧Out Y id K v w':=by
 obtain ⟨gs,h⟩:=h
 have hc:=zb3 (K:=fun x u=>K x (z16 gs++u)) (hh.dropL gs) (z2Q gs hi) (zc1 hh gs ha) (by rw [z3G];exact h)
 rw [z3j] at hc
 refine hc.mono ?_
 rintro e w' ⟨v,he,x,u,X',hk,hw,hu,hH,hs,hr,hv⟩
 exact ⟨v,he,x,_,X',hk,hw,by rw [hu,z4C],by rw [hH,z3G,zc2],(z13 Y gs).trans hs,hr,hv⟩
end Go.Proofs.YtgmbkbggnlponaaGreatDoor
namespace Go.Proofs.YtgmbkbggnlponaaGreatDoor
set_option linter.unusedVariables false
set_option linter.unusedSimpArgs false
set_option linter.unusedSectionVars false
open Go.RowKit Pl
def lk {α:Type}:List (Nat × α)→Nat→Option α
 | [],_=>none
 | (k,v) :: l,t=>bif Nat.beq k t then some v else lk l t
def hpH (l:List (Nat × Option Ent)):Hp:=fun r=>match lk l r with
 | some e=>e
 | none=>none
abbrev Sub:=List (Nat × Nat)
def M0 (σ:Sub) (H:Hp) (x x':T):Prop:=match x' with
 | .any=>True
 | .ref r'=>match x with
   | .ref r=>lk σ r'=some r
   | .val v=>v=nilV∧lk σ r'=none
   | _=>False
 | .ptr r' i' j'=>match x with
   | .ptr r i j=>lk σ r'=some r∧i=i'∧j=j'
   | _=>False
 | .fnp f' r'=>match x with
   | .fnp f r=>f=f'∧lk σ r'=some r
   | _=>False
 | .fnq f' r' s'=>match x with
   | .fnq f r s=>f=f'∧lk σ r'=some r∧lk σ s'=some s
   | _=>False
 | .sl k' es'=>match x with
   | .sl k es=>k=k'∧es=es'
   | .ref r=>H r=some (.row k' es')∧(σ.all fun p=>!Nat.beq p.2 r)=true
   | .val v=>v=nilV∧es'=[]
   | _=>False
 | .int k' n'=>match x with
   | .int k n=>k=k'∧n=n'
   | _=>False
 | .bool b'=>match x with
   | .bool b=>b=b'
   | _=>False
 | .str s'=>match x with
   | .str s=>s=s'
   | _=>False
 | x'=>x=x'
def Ml (σ:Sub) (H:Hp):List T→List T→Prop
 | [],xs'=>xs'=[]
 | x :: xs,xs'=>match xs' with
   | x' :: ys=>M0 σ H x x'∧Ml σ H xs ys
   | []=>False
def M1 (σ:Sub) (H:Hp) (x x':T):Prop:=match x' with
 | .agg cs'=>match x with
   | .agg cs=>Ml σ H cs cs'
   | _=>False
 | x'=>M0 σ H x x'
def Mt (σ:Sub) (H:Hp):List T→List T→Prop
 | [],xs'=>xs'=[]
 | x :: xs,xs'=>match xs' with
   | x' :: ys=>M1 σ H x x'∧Mt σ H xs ys
   | []=>False
def M2 (σ:Sub) (H:Hp) (x x':T):Prop:=match x' with
 | .tup cs'=>match x with
   | .tup cs=>Mt σ H cs cs'
   | _=>False
 | x'=>M1 σ H x x'
def CvE (es es':List (List T)):Prop:=(∀ e ∈ es,∀ c ∈ e,cl0 c)∧∃ f:T→T,(∀ c,f c=c ∨ (c=.val nilV∧∃ k,0<k∧f c=.own k []))∧es'=es.map (List.map f)
theorem CvE.refl {es:List (List T)} (h:∀ e ∈ es,∀ c ∈ e,cl0 c):CvE es es:=⟨h,fun c=>c,fun c=>.inl rfl,by
 have:(List.map fun c:T=>c)=(fun l=>l):=by funext l;simp
 rw [this];simp⟩
theorem cv_oe {ow:Own} {w:World} {k:Nat} {f:T→T} (hf:∀ c,f c=c ∨ (c=.val nilV∧∃ k,0<k∧f c=.own k [])):∀ {es:List (List T)} {vs:List Value},(∀ e ∈ es,∀ c ∈ e,cl0 c)→RE ow w k es vs→OE w k (es.map (List.map f)) vs []
 | [],_,_,_=>by simp only [List.map_nil,OE]
 | e :: es,_,hc,h=>by
   simp only [RE] at h
   obtain ⟨us,rest,rfl,hl,h1,h2⟩:=h
   simp only [List.map_cons,OE]
   refine ⟨us,rest,[],[],rfl,hl,rfl,?_,cv_oe hf (fun e h=>hc e (by simp [h])) h2⟩
   have key:∀ {cs:List T} {us:List Value},(∀ c ∈ cs,cl0 c)→RL ow w cs us→OL w (cs.map f) us []:=by
    intro cs
    induction cs with
    | nil=>intro us _ h;simp only [RL] at h;simp only [List.map_nil,OL];exact ⟨h,trivial⟩
    | cons c cs ih =>
      intro us hc h
      simp only [RL] at h
      obtain ⟨u,us',rfl,q1,q2⟩:=h
      simp only [List.map_cons,OL]
      refine ⟨u,us',[],[],rfl,rfl,?_,ih (fun c h=>hc c (by simp [h])) q2⟩
      rcases hf c with h|⟨rfl,k',hk,h⟩
      ·rw [h];exact OV.of (hc c (by simp)) q1
      ·rw [h]
       simp only [RV] at q1
       simp only [OV]
       exact ⟨hk,.inl ⟨q1.1,trivial,trivial⟩⟩
   exact key (hc e (by simp)) h1
def HpM (σ:Sub) (H:Hp) (base n':Nat):List (Nat × Option Ent)→Prop
 | []=>True
 | (r',e') :: l=>(Nat.blt 0 r'&&Nat.blt r' n')=true∧(match e' with
   | none=>True
   | some e'=>match lk σ r' with
     | some r=>match e' with
       | .box cs'=>match H r with
         | some (.box cs)=>Ml σ H cs cs'
         | _=>False
       | .row k' es'=>match H r with
         | some (.row k es)=>k=k'∧es=es'
         | _=>False
       | .deep k' es' l'=>match H r with
         | some (.deep k es l)=>k=k'∧l=[]∧l'=[]∧es=es'
         | some (.row k es)=>k=k'∧l'=[]∧CvE es es'
         | _=>False
     | none=>Nat.ble base r'=true∧(match e' with
       | .row k es=>k ≠ 0∧es=[]
       | .deep k es l=>k ≠ 0∧es=[]∧l=[]
       | _=>False))∧HpM σ H base n' l
def sgOk (base:Nat):Sub→Bool
 | []=>true
 | (a,b) :: l=>Nat.blt 0 a&&Nat.blt 0 b&&(bif Nat.blt a base || Nat.blt b base then Nat.beq a b else true)&&l.all (fun p=>!Nat.beq p.1 a&&!Nat.beq p.2 b)&&sgOk base l
theorem z1P {α:Type}:∀ {l:List (Nat × α)} {k:Nat} {v:α},lk l k=some v→(k,v) ∈ l
 | [],k,v,h=>by cases h
 | (k0,v0) :: l,k,v,h=>by
   simp only [lk] at h
   cases hb:Nat.beq k0 k with
   | true =>
     rw [hb] at h;simp at h;subst h
     have:=Nat.eq_of_beq_eq_true hb
     subst this;simp
   | false=>rw [hb] at h;simp at h;exact List.mem_cons_of_mem _ (z1P h)
theorem z7s {base:Nat}:∀ {σ:Sub} {a b:Nat},sgOk base σ=true→(a,b) ∈ σ→lk σ a=some b∧a ≠ 0∧b ≠ 0∧(a<base ∨ b<base→a=b)
 | [],a,b,_,h=>by cases h
 | (a0,b0) :: l,a,b,hs,h=>by
   simp only [sgOk,Bool.and_eq_true] at hs
   obtain ⟨⟨⟨⟨h1,h2⟩,h3⟩,h4⟩,h5⟩:=hs
   have c1:a0 ≠ 0:=by simp [Nat.blt] at h1;omega
   have c2:b0 ≠ 0:=by simp [Nat.blt] at h2;omega
   cases h with
   | head =>
     refine ⟨by simp [lk],c1,c2,fun hb=>?_⟩
     have:(Nat.blt a0 base || Nat.blt b0 base)=true:=by
      rcases hb with hb|hb
      ·simp [Nat.blt,Nat.ble_eq_true_of_le (show a0+1≤base by omega)]
      ·simp [Nat.blt,Nat.ble_eq_true_of_le (show b0+1≤base by omega)]
     rw [this] at h3
     exact Nat.eq_of_beq_eq_true h3
   | tail _ hm =>
     obtain ⟨q1,q2⟩:=z7s h5 hm
     have:=List.all_eq_true.1 h4 _ hm
     simp only [Bool.and_eq_true] at this
     have hne:Nat.beq a0 a=false:=by
      have:=this.1
      cases hb:Nat.beq a0 a with
      | false=>rfl
      | true=>have e:=Nat.eq_of_beq_eq_true hb;subst e;simp at this
     exact ⟨by simp [lk,hne,q1],q2⟩
theorem zeg {base:Nat}:∀ {σ:Sub} {a a' b:Nat},sgOk base σ=true→(a,b) ∈ σ→(a',b) ∈ σ→a=a'
 | [],a,a',b,_,h,_=>by cases h
 | (a0,b0) :: l,a,a',b,hs,h,h'=>by
   simp only [sgOk,Bool.and_eq_true] at hs
   obtain ⟨⟨_,h4⟩,h5⟩:=hs
   have key:∀ x,(x,b0) ∈ l→False:=fun x hx=>by
    have:=List.all_eq_true.1 h4 _ hx
    simp at this
   cases h with
   | head=>cases h' with
     | head=>rfl
     | tail _ hm=>exact (key _ hm).elim
   | tail _ hm=>cases h' with
     | head=>exact (key _ hm).elim
     | tail _ hm'=>exact zeg h5 hm hm'
open Classical in
noncomputable def Cx.ren (X:Cx) (σ:Sub) (H':Hp) (n':Nat):Cx :=
 { H:=H',ow:=fun g=>match X.ow g with
    | none=>none
    | some r=>if r=0 then some 0 else if h:∃ a,(a,r) ∈ σ then some h.choose else none
   w:=X.w,us:=fun i=>i<n'
   iw:=fun g=>if h:X.iw g ≠ 0∧∃ a,(a,X.iw g) ∈ σ then h.2.choose else 0 }
theorem Ml.len {σ:Sub} {H:Hp}:∀ {xs ys:List T},Ml σ H xs ys→xs.length=ys.length
 | [],ys,h=>by have:ys=[]:=h;subst this;rfl
 | x :: xs,[],h=>h.elim
 | x :: xs,y :: ys,h=>by simp [Ml.len h.2]
section
variable {X0 X:Cx} {σ:Sub} {hp':List (Nat × Option Ent)} {n' base:Nat} (hs:Same X0 X) (hh:HR X) (hσ:sgOk base σ=true) (hm:HpM σ X.H base n' hp') (hn:(∀ r,X0.us r→r<base)∧base≤n') (hd:(σ.all fun p=>Nat.blt p.1 n')=true)
include hs hh hσ hm hn hd
theorem z3H {g r a:Nat} (ha:(a,r) ∈ σ) (h:X.ow g=some r):(X.ren σ (hpH hp') n').ow g=some a:=by
 have hr:=(z7s hσ ha).2.2.1
 have hx:∃ a,(a,r) ∈ σ:=⟨a,ha⟩
 show (match X.ow g with|none=>none|some r=>_)=_
 rw [h]
 simp only [hr,if_false,dif_pos hx]
 exact congrArg some (zeg hσ hx.choose_spec ha)
theorem z5V {g:Nat} (h:X.ow g=none):(X.ren σ (hpH hp') n').ow g=none:=by
 show (match X.ow g with|none=>none|some r=>_)=_
 rw [h]
theorem zc3 {g r:Nat} (h:X.ow g=some r) (hr:r ≠ 0) (hl:∀ a,(a,r) ∉ σ):(X.ren σ (hpH hp') n').ow g=none:=by
 have hx:¬ ∃ a,(a,r) ∈ σ:=fun ⟨a,ha⟩=>hl a ha
 show (match X.ow g with|none=>none|some r=>_)=_
 rw [h]
 simp only [hr,if_false,dif_neg hx]
theorem zb4 {g a:Nat} (h:(X.ren σ (hpH hp') n').ow g=some a):(a=0∧X.ow g=some 0) ∨ (a ≠ 0∧∃ r,(a,r) ∈ σ∧X.ow g=some r):=by
 cases hx:X.ow g with
 | none=>rw [z5V hs hh hσ hm hn hd hx] at h;cases h
 | some r =>
   by_cases hr:r=0
   ·subst hr
    change (match X.ow g with|none=>none|some r=>_)=_ at h
    rw [hx] at h
    simp at h
    exact .inl ⟨h.symm,rfl⟩
   ·by_cases he:∃ a,(a,r) ∈ σ
    ·obtain ⟨a',ha'⟩:=he
     rw [z3H hs hh hσ hm hn hd ha' hx] at h
     injection h with h;subst h
     exact .inr ⟨(z7s hσ ha').2.1,r,ha',rfl⟩
    ·rw [zc3 hs hh hσ hm hn hd hx hr (fun a ha=>he ⟨a,ha⟩)] at h;cases h
open Classical in
theorem ren_iw {g r a:Nat} (ha:(a,r) ∈ σ) (h:X.iw g=r):(X.ren σ (hpH hp') n').iw g=a:=by
 have hr:=(z7s hσ ha).2.2.1
 subst h
 have hx:X.iw g ≠ 0∧∃ a,(a,X.iw g) ∈ σ:=⟨hr,a,ha⟩
 show (if h:X.iw g ≠ 0∧∃ a,(a,X.iw g) ∈ σ then h.2.choose else 0)=a
 rw [dif_pos hx]
 exact zeg hσ hx.2.choose_spec ha
open Classical in
theorem zhq {g:Nat} (h:X.iw g=0):(X.ren σ (hpH hp') n').iw g=0:=by
 show (if h:X.iw g ≠ 0∧∃ a,(a,X.iw g) ∈ σ then h.2.choose else 0)=0
 rw [dif_neg (fun hx=>hx.1 h)]
open Classical in
theorem zd7 {g:Nat} (h:(X.ren σ (hpH hp') n').iw g ≠ 0):X.iw g ≠ 0∧((X.ren σ (hpH hp') n').iw g,X.iw g) ∈ σ:=by
 change (if h:X.iw g ≠ 0∧∃ a,(a,X.iw g) ∈ σ then h.2.choose else 0) ≠ 0 at h
 show X.iw g ≠ 0∧((if h:X.iw g ≠ 0∧∃ a,(a,X.iw g) ∈ σ then h.2.choose else 0),X.iw g) ∈ σ
 split at h
 ·rename_i hx
  rw [dif_pos hx]
  exact ⟨hx.1,hx.2.choose_spec⟩
 ·exact absurd rfl h
theorem zc4 {g:Nat} (h:X.ow g=some 0):(X.ren σ (hpH hp') n').ow g=some 0:=by
 show (match X.ow g with|none=>none|some r=>_)=_
 rw [h];simp
theorem z8w:Stab X.ow X.w (X.ren σ (hpH hp') n').ow X.w:=fun g _ h=>⟨z5V hs hh hσ hm hn hd h,rfl⟩
theorem z2y {a:Nat} {e':Ent} (h:hpH hp' a=some e'):a ≠ 0∧a<n'∧((∃ r e,lk σ a=some r∧X.H r=some e∧e.shape=e'.shape∧(match e,e' with|.box cs,.box cs'=>Ml σ X.H cs cs'|.row k es,.row k' es'=>k=k'∧es=es'|.deep k es l,.deep k' es' l'=>k=k'∧l=[]∧l'=[]∧es=es'|.row k es,.deep k' es' l'=>k=k'∧l'=[]∧CvE es es'|_,_=>False)) ∨ (lk σ a=none∧base≤a∧∃ k,k ≠ 0∧(e'=.row k [] ∨ e'=.deep k [] []))):=by
 have key:∀ {l:List (Nat × Option Ent)},HpM σ X.H base n' l→(a,some e') ∈ l→a ≠ 0∧a<n'∧((∃ r e,lk σ a=some r∧X.H r=some e∧e.shape=e'.shape∧(match e,e' with|.box cs,.box cs'=>Ml σ X.H cs cs'|.row k es,.row k' es'=>k=k'∧es=es'|.deep k es l,.deep k' es' l'=>k=k'∧l=[]∧l'=[]∧es=es'|.row k es,.deep k' es' l'=>k=k'∧l'=[]∧CvE es es'|_,_=>False)) ∨ (lk σ a=none∧base≤a∧∃ k,k ≠ 0∧(e'=.row k [] ∨ e'=.deep k [] []))):=by
  intro l
  induction l with
  | nil=>intro _ h;cases h
  | cons p l ih =>
    obtain ⟨a0,e0⟩:=p
    rintro ⟨h1,h2,h3⟩ hmem
    cases hmem with
    | tail _ hmem=>exact ih h3 hmem
    | head =>
      simp only [Bool.and_eq_true] at h1
      refine ⟨by have:=h1.1;simp [Nat.blt] at this;omega,by have:=h1.2;simp [Nat.blt] at this;omega,?_⟩
      simp only at h2
      cases hl:lk σ a with
      | some r =>
        left
        rw [hl] at h2
        cases e' with
        | box cs' =>
          simp only at h2
          split at h2
          ·rename_i cs hH;exact ⟨r,_,rfl,hH,by simp [Ent.shape,Ml.len h2],h2⟩
          ·exact h2.elim
        | row k' es' =>
          simp only at h2
          split at h2
          ·rename_i k es hH;obtain ⟨rfl,rfl⟩:=h2;exact ⟨r,_,rfl,hH,rfl,rfl,rfl⟩
          ·exact h2.elim
        | deep k' es' l' =>
          simp only at h2
          split at h2
          ·rename_i k es l hH;obtain ⟨rfl,rfl,rfl,rfl⟩:=h2;exact ⟨r,_,rfl,hH,rfl,rfl,rfl,rfl,rfl⟩
          ·rename_i k es hH
           obtain ⟨rfl,rfl,hcv⟩:=h2
           refine ⟨r,_,rfl,hH,?_,rfl,rfl,hcv⟩
           obtain ⟨_,f,_,he⟩:=hcv
           rw [he];simp [Ent.shape]
          ·exact h2.elim
      | none =>
        right
        rw [hl] at h2
        cases e' with
        | box cs'=>exact h2.2.elim
        | row k' es'=>obtain ⟨q1,q2,rfl⟩:=h2;exact ⟨rfl,Nat.le_of_ble_eq_true q1,k',q2,.inl rfl⟩
        | deep k' es' l'=>obtain ⟨q1,q2,rfl,rfl⟩:=h2;exact ⟨rfl,Nat.le_of_ble_eq_true q1,k',q2,.inr rfl⟩
 unfold hpH at h
 split at h
 ·rename_i e hl;subst h;exact key hm (z1P hl)
 ·cases h
theorem zgV {a r:Nat} (h:lk σ a=some r):a<n':=by
 have:=List.all_eq_true.1 hd _ (z1P h)
 simp [Nat.blt] at this;omega
theorem zfS {x x':T} {v:Value} (h:RS0 X x v) (ho:v.oneCell'=true) (hx:M0 σ X.H x x') (hlt:∀ r',(x'=.ref r' ∨ (∃ i j,x'=.ptr r' i j) ∨ (∃ f,x'=.fnp f r') ∨ ∃ f s,x'=.fnq f r' s ∨ x'=.fnq f s r')→r'<n'):RS0 (X.ren σ (hpH hp') n') x' v:=by
 have hst:=z8w hs hh hσ hm hn hd
 cases x'
 case any=>trivial
 case ref a =>
  simp only [M0] at hx
  cases x<;>simp only at hx
  case ref r =>
   obtain ⟨h1,h2,h3⟩:=h
   refine ⟨hlt a (.inl rfl),h2,fun e' he hf=>?_⟩
   obtain ⟨_,_,hc⟩:=z2y hs hh hσ hm hn hd he
   rcases hc with ⟨r',e,q1,q2,q3,q4⟩|⟨q1,_⟩
   ·rw [hx] at q1;injection q1 with q1;subst q1
    rw [← q3] at hf ⊢
    rcases h3 _ q2 hf with h4|⟨g,c,C,t,fr,hv,hg,hr⟩
    ·exact .inl h4
    ·exact .inr ⟨g,c,C,t,fr,hv,z3H hs hh hσ hm hn hd (z1P hx) hg,hr⟩
   ·rw [hx] at q1;cases q1
  case val v0 =>
   obtain ⟨rfl,hx⟩:=hx
   have hv:v=nilV∧nilV.oneCell'=true:=by simpa [RS0,RV] using h
   obtain ⟨rfl,_⟩:=hv
   refine ⟨hlt a (.inl rfl),⟨_,_,_,rfl⟩,fun e' he _=>?_⟩
   obtain ⟨_,_,hc⟩:=z2y hs hh hσ hm hn hd he
   rcases hc with ⟨r',e,q1,_⟩|⟨_,_,k',_,rfl|rfl⟩
   ·rw [hx] at q1;cases q1
   ·exact .inl ⟨rfl,rfl⟩
   ·exact .inl ⟨rfl,rfl⟩
 case ptr a i j =>
  simp only [M0] at hx
  cases x<;>simp only at hx
  case ptr r i0 j0 =>
   obtain ⟨hx,rfl,rfl⟩:=hx
   obtain ⟨h1,h2,h3⟩:=h
   refine ⟨hlt a (.inr (.inl ⟨_,_,rfl⟩)),h2,fun e' he=>?_⟩
   obtain ⟨_,_,hc⟩:=z2y hs hh hσ hm hn hd he
   rcases hc with ⟨r',e,q1,q2,q3,q4⟩|⟨q1,_⟩
   ·rw [hx] at q1;injection q1 with q1;subst q1
    obtain ⟨g,hg,hv⟩:=h3 _ q2
    exact ⟨g,z3H hs hh hσ hm hn hd (z1P hx) hg,by rw [← Ent.wd_shape q3];exact hv⟩
   ·rw [hx] at q1;cases q1
 case sl k' es' =>
  simp only [M0] at hx
  cases x<;>simp only at hx
  case sl k es=>obtain ⟨rfl,rfl⟩:=hx;exact RV.mono hst h
  case ref r =>
   obtain ⟨h1,h2⟩:=hx
   have hno:∀ a,(a,r) ∉ σ:=fun a ha=>by have:=List.all_eq_true.1 h2 _ ha;simp at this
   exact (z7G hh hst h h1 (fun g hg=>zc3 hs hh hσ hm hn hd hg (hh.ne h1) hno) (fun g _=>rfl)).rs0
  case val v0 =>
   obtain ⟨rfl,rfl⟩:=hx
   have hv:v=nilV∧nilV.oneCell'=true:=by simpa [RS0,RV] using h
   obtain ⟨rfl,_⟩:=hv
   exact RV.rs0 (by simp only [RV];exact ⟨none,0,rfl,Nat.le_refl _,.inl trivial⟩)
 case int k' n0 =>
  simp only [M0] at hx
  cases x<;>simp only at hx
  case int k n=>obtain ⟨rfl,rfl⟩:=hx;exact RV.mono hst h
 case bool b' =>
  simp only [M0] at hx
  cases x<;>simp only at hx
  case bool b=>subst hx;exact RV.mono hst h
 case str s' =>
  simp only [M0] at hx
  cases x<;>simp only at hx
  case str s=>subst hx;exact RV.mono hst h
 case rptr c j =>
  simp only [M0] at hx
  subst hx
  obtain ⟨g,o,C,t,fr,hv,hg,hC,hr⟩:=h
  exact ⟨g,o,C,t,fr,hv,z5V hs hh hσ hm hn hd hg,hC,RL.mono hst hr⟩
 case fnp f a =>
  simp only [M0] at hx
  cases x<;>simp only at hx
  case fnp f0 r =>
   obtain ⟨rfl,hx⟩:=hx
   obtain ⟨u,hu,h1,h2,h3⟩:=h
   refine ⟨u,hu,hlt a (.inr (.inr (.inl ⟨_,rfl⟩))),h2,fun e' he=>?_⟩
   obtain ⟨_,_,hc⟩:=z2y hs hh hσ hm hn hd he
   rcases hc with ⟨r',e,q1,q2,q3,q4⟩|⟨q1,_⟩
   ·rw [hx] at q1;injection q1 with q1;subst q1
    obtain ⟨g,hg,hv⟩:=h3 _ q2
    exact ⟨g,z3H hs hh hσ hm hn hd (z1P hx) hg,by rw [hv,Nat.zero_mul,Nat.zero_mul]⟩
   ·rw [hx] at q1;cases q1
 case fnq f a b =>
  simp only [M0] at hx
  cases x<;>simp only at hx
  case fnq f0 r s =>
   obtain ⟨rfl,hx,hy⟩:=hx
   obtain ⟨u,u',hu,⟨h1,h2,h3⟩,⟨k1,k2,k3⟩⟩:=h
   refine ⟨u,u',hu,⟨hlt a (.inr (.inr (.inr ⟨_,_,.inl rfl⟩))),h2,fun e' he=>?_⟩,⟨hlt b (.inr (.inr (.inr ⟨_,_,.inr rfl⟩))),k2,fun e' he=>?_⟩⟩
   ·obtain ⟨_,_,hc⟩:=z2y hs hh hσ hm hn hd he
    rcases hc with ⟨r',e,q1,q2,q3,q4⟩|⟨q1,_⟩
    ·rw [hx] at q1;injection q1 with q1;subst q1
     obtain ⟨g,hg,hv⟩:=h3 _ q2
     exact ⟨g,z3H hs hh hσ hm hn hd (z1P hx) hg,by rw [hv,Nat.zero_mul,Nat.zero_mul]⟩
    ·rw [hx] at q1;cases q1
   ·obtain ⟨_,_,hc⟩:=z2y hs hh hσ hm hn hd he
    rcases hc with ⟨r',e,q1,q2,q3,q4⟩|⟨q1,_⟩
    ·rw [hy] at q1;injection q1 with q1;subst q1
     obtain ⟨g,hg,hv⟩:=k3 _ q2
     exact ⟨g,z3H hs hh hσ hm hn hd (z1P hy) hg,by rw [hv,Nat.zero_mul,Nat.zero_mul]⟩
    ·rw [hy] at q1;cases q1
 case val v0=>simp only [M0] at hx;subst hx;exact RV.mono hst h
 case agg cs=>simp only [M0] at hx;subst hx;simp [RS0,RV] at h
 case tup cs=>simp only [M0] at hx;subst hx;simp [RS0,RV] at h
 case own k es=>simp only [M0] at hx;subst hx;simp [RS0,RV] at h
 case ifz t n=>simp only [M0] at hx;subst hx;exact RV.mono hst h
 case fna=>simp only [M0] at hx;subst hx;exact RV.mono hst h
def z4H (n':Nat):T→Bool
 | .ref r=>Nat.blt r n'
 | .ptr r _ _=>Nat.blt r n'
 | .fnp _ r=>Nat.blt r n'
 | .fnq _ r s=>Nat.blt r n'&&Nat.blt s n'
 | _=>true
def z9C (n':Nat):T→Bool
 | .agg cs=>cs.all (z4H n')
 | x=>z4H n' x
def z9D (n':Nat):T→Bool
 | .tup cs=>cs.all (z9C n')
 | x=>z9C n' x
theorem z9E {x x':T} {v:Value} (h:RS0 X x v) (ho:v.oneCell'=true) (hx:M0 σ X.H x x') (hb:z4H n' x'=true):RS0 (X.ren σ (hpH hp') n') x' v :=
 zfS hs hh hσ hm hn hd h ho hx (fun r' hr=>by
  rcases hr with rfl|⟨i,j,rfl⟩|⟨f,rfl⟩|⟨f,s,rfl|rfl⟩<;>(simp [z4H,Nat.blt] at hb;omega))
theorem z8x:∀ {xs ys:List T} {vs:List Value},RSl X xs vs→Ml σ X.H xs ys→ys.all (z4H n')=true→RSl (X.ren σ (hpH hp') n') ys vs
 | [],ys,vs,h,hx,_=>by have:ys=[]:=hx;subst this;exact h
 | x :: xs,[],vs,h,hx,_=>hx.elim
 | x :: xs,y :: ys,vs,⟨u,us,hu,h1,h2,h3⟩,hx,hb=>by
   simp only [List.all_cons,Bool.and_eq_true] at hb
   exact ⟨u,us,hu,h1,z9E hs hh hσ hm hn hd h2 h1 hx.1 hb.1,z8x h3 hx.2 hb.2⟩
theorem zc5 {x x':T} {v:Value} (h:RS1 X x v) (hx:M1 σ X.H x x') (hb:z9C n' x'=true):RS1 (X.ren σ (hpH hp') n') x' v:=by
 have base:∀ y,(∀ cs,y ≠ .agg cs)→M0 σ X.H x y→z4H n' y=true→RS0 (X.ren σ (hpH hp') n') y v:=fun y hy hm0 hb0=>by
  by_cases hany:y=.any
  ·subst hany;trivial
  have hone:RS0 X x v∧v.oneCell'=true:=by
   cases x<;>simp only [RS1] at h
   case agg cs=>cases y<;>simp only [M0] at hm0<;>first|exact absurd rfl hany|exact absurd rfl (hy _)|exact hm0.elim|cases hm0
   case ref r=>exact ⟨h,by obtain ⟨_,⟨A,n,c,rfl⟩,_⟩:=h;rfl⟩
   case ptr r i j=>exact ⟨h,by obtain ⟨_,⟨A,rfl⟩,_⟩:=h;rfl⟩
   case rptr c j=>exact ⟨h,by obtain ⟨g,o,C,t,fr,rfl,_⟩:=h;rfl⟩
   case fnp f r=>exact ⟨h,by obtain ⟨u,rfl,_⟩:=h;rfl⟩
   case fnq f r s=>exact ⟨h,by obtain ⟨u,u',rfl,_⟩:=h;rfl⟩
   case any=>cases y<;>simp only [M0] at hm0<;>first|exact absurd rfl hany|exact hm0.elim|cases hm0
   case tup cs=>simp [RS0,RV] at h
   all_goals exact ⟨h,RV.one h⟩
  exact z9E hs hh hσ hm hn hd hone.1 hone.2 hm0 hb0
 cases x' with
 | agg cs' =>
   simp only [M1] at hx
   cases x<;>simp only at hx
   case agg cs=>obtain ⟨vs,hv,hl⟩:=h;exact ⟨vs,hv,z8x hs hh hσ hm hn hd hl hx hb⟩
 | int k n=>exact base (.int k n) (fun cs h=>by cases h) hx hb
 | bool b=>exact base (.bool b) (fun cs h=>by cases h) hx hb
 | str s=>exact base (.str s) (fun cs h=>by cases h) hx hb
 | val u=>exact base (.val u) (fun cs h=>by cases h) hx hb
 | tup cs=>exact base (.tup cs) (fun cs h=>by cases h) hx hb
 | sl k es=>exact base (.sl k es) (fun cs h=>by cases h) hx hb
 | ref r=>exact base (.ref r) (fun cs h=>by cases h) hx hb
 | ptr r i j=>exact base (.ptr r i j) (fun cs h=>by cases h) hx hb
 | rptr c j=>exact base (.rptr c j) (fun cs h=>by cases h) hx hb
 | fnp f r=>exact base (.fnp f r) (fun cs h=>by cases h) hx hb
 | fnq f r s=>exact base (.fnq f r s) (fun cs h=>by cases h) hx hb
 | own k es=>exact base (.own k es) (fun cs h=>by cases h) hx hb
 | ifz t n=>exact base (.ifz t n) (fun cs h=>by cases h) hx hb
 | fna=>exact base .fna (fun cs h=>by cases h) hx hb
 | any=>trivial
theorem zc6:∀ {xs ys:List T} {vs:List Value},RSt X xs vs→Mt σ X.H xs ys→ys.all (z9C n')=true→RSt (X.ren σ (hpH hp') n') ys vs
 | [],ys,vs,h,hx,_=>by have:ys=[]:=hx;subst this;exact h
 | x :: xs,[],vs,h,hx,_=>hx.elim
 | x :: xs,y :: ys,vs,⟨u,us,hu,h2,h3⟩,hx,hb=>by
   simp only [List.all_cons,Bool.and_eq_true] at hb
   exact ⟨u,us,hu,zc5 hs hh hσ hm hn hd h2 hx.1 hb.1,zc6 h3 hx.2 hb.2⟩
theorem z8y {x x':T} {v:Value} (h:RS X x v) (hx:M2 σ X.H x x') (hb:z9D n' x'=true):RS (X.ren σ (hpH hp') n') x' v:=by
 have base:∀ y,(∀ cs,y ≠ .tup cs)→M1 σ X.H x y→z9C n' y=true→RS (X.ren σ (hpH hp') n') y v:=fun y hy hm1 hb1=>by
  by_cases hany:y=.any
  ·subst hany;trivial
  have hone:RS1 X x v:=by
   cases x<;>first|exact h|skip
   case tup cs=>cases y<;>simp only [M1,M0] at hm1<;>first|exact absurd rfl hany|exact absurd rfl (hy _)|exact hm1.elim|cases hm1
  exact (zc5 hs hh hσ hm hn hd hone hm1 hb1).rs
 cases x' with
 | tup cs' =>
   simp only [M2] at hx
   cases x<;>simp only at hx
   case tup cs=>obtain ⟨vs,hv,hl⟩:=h;exact ⟨vs,hv,zc6 hs hh hσ hm hn hd hl hx hb⟩
 | int k n=>exact base (.int k n) (fun cs h=>by cases h) hx hb
 | bool b=>exact base (.bool b) (fun cs h=>by cases h) hx hb
 | str s=>exact base (.str s) (fun cs h=>by cases h) hx hb
 | val u=>exact base (.val u) (fun cs h=>by cases h) hx hb
 | agg cs=>exact base (.agg cs) (fun cs h=>by cases h) hx hb
 | sl k es=>exact base (.sl k es) (fun cs h=>by cases h) hx hb
 | ref r=>exact base (.ref r) (fun cs h=>by cases h) hx hb
 | ptr r i j=>exact base (.ptr r i j) (fun cs h=>by cases h) hx hb
 | rptr c j=>exact base (.rptr c j) (fun cs h=>by cases h) hx hb
 | fnp f r=>exact base (.fnp f r) (fun cs h=>by cases h) hx hb
 | fnq f r s=>exact base (.fnq f r s) (fun cs h=>by cases h) hx hb
 | own k es=>exact base (.own k es) (fun cs h=>by cases h) hx hb
 | ifz t n=>exact base (.ifz t n) (fun cs h=>by cases h) hx hb
 | fna=>exact base .fna (fun cs h=>by cases h) hx hb
 | any=>trivial
theorem z8z:Same X0 (X.ren σ (hpH hp') n'):=by
 refine ⟨fun r hr=>Nat.lt_of_lt_of_le (hn.1 r hr) hn.2,hs.os,hs.tape,hs.output,hs.size,fun g hg h0=>?_,fun r hr e' he=>?_,fun g hg hg0=>?_,fun r hr hne g hg=>?_⟩
 ·obtain ⟨a,b⟩:=hs.stab g hg h0
  exact ⟨z5V hs hh hσ hm hn hd a,b⟩
 ·obtain ⟨_,_,hc⟩:=z2y hs hh hσ hm hn hd he
  rcases hc with ⟨r',e,q1,q2,q3,_⟩|⟨_,q,_⟩
  ·obtain rfl:=(z7s hσ (z1P q1)).2.2.2 (.inl (hn.1 r hr))
   obtain ⟨e0,p1,p2⟩:=hs.ent r hr e q2
   exact ⟨e0,p1,p2.trans q3⟩
  ·exact absurd (hn.1 r hr) (by omega)
 ·obtain ⟨a,b⟩:=hs.fra g hg hg0
  exact ⟨⟨zc4 hs hh hσ hm hn hd a.1,zhq hs hh hσ hm hn hd a.2⟩,b⟩
 ·cases he:hpH hp' r with
  | none=>exact absurd he hne
  | some e' =>
    obtain ⟨_,_,hc⟩:=z2y hs hh hσ hm hn hd he
    rcases hc with ⟨r',e,q1,q2,q3,_⟩|⟨_,q,_⟩
    ·obtain rfl:=(z7s hσ (z1P q1)).2.2.2 (.inl (hn.1 r hr))
     obtain ⟨a,b⟩:=hs.pin r hr (by rw [q2];simp) g hg
     exact ⟨z3H hs hh hσ hm hn hd (z1P q1) a,b⟩
    ·exact absurd (hn.1 r hr) (by omega)
theorem zeh (hpos:0<base) (hbx:(hp'.all fun p=>match p.2 with|some (.box cs)=>cs.all (z4H n')|_=>true)=true):HR (X.ren σ (hpH hp') n'):=by
 refine ⟨fun g g' a ha h1 h2=>?_,fun g a hg=>?_,fun a e' he=>?_,?_,Nat.lt_of_lt_of_le hpos hn.2,hh.gl.mono (z8w hs hh hσ hm hn hd),fun g hg=>?_⟩
 rotate_right
 ·obtain ⟨a,b⟩:=zd7 hs hh hσ hm hn hd hg
  obtain ⟨c,d,_⟩:=hh.inn g a
  exact ⟨zc4 hs hh hσ hm hn hd c,d,zgV hs hh hσ hm hn hd (z7s hσ b).1⟩
 ·rcases zb4 hs hh hσ hm hn hd h1 with ⟨rfl,q1⟩|⟨q0,r,q1,q2⟩
  ·cases he:hpH hp' 0 with
   | none=>exact absurd he ha
   | some e'=>exact absurd rfl (z2y hs hh hσ hm hn hd he).1
  ·rcases zb4 hs hh hσ hm hn hd h2 with ⟨rfl,p1⟩|⟨p0,r',p1,p2⟩
   ·exact absurd rfl q0
   ·have e1:=(z7s hσ q1).1
    have e2:=(z7s hσ p1).1
    rw [e1] at e2;injection e2 with e2;subst e2
    cases he:hpH hp' a with
    | none=>exact absurd he ha
    | some e' =>
      obtain ⟨_,_,hc⟩:=z2y hs hh hσ hm hn hd he
      rcases hc with ⟨r',e,z1,z2,_⟩|⟨z1,_⟩
      ·rw [e1] at z1;injection z1 with z1;subst z1;exact hh.inj' z2 q2 p2
      ·rw [e1] at z1;cases z1
 ·rcases zb4 hs hh hσ hm hn hd hg with ⟨rfl,q1⟩|⟨q0,r,q1,q2⟩
  ·exact ⟨(hh.lt _ _ q1).1,Nat.lt_of_lt_of_le hpos hn.2⟩
  ·exact ⟨(hh.lt _ _ q2).1,zgV hs hh hσ hm hn hd (z7s hσ q1).1⟩
 ·obtain ⟨h1,h2,hc⟩:=z2y hs hh hσ hm hn hd he
  refine ⟨h2,?_⟩
  rcases hc with ⟨r,e,q1,q2,q3,q4⟩|⟨_,_,k,q1,rfl|rfl⟩
  ·have hno:=(hh.node _ _ q2).2
   cases e with
   | box cs=>cases e' with
     | row k' es'=>exact q4.elim
     | deep k' es' l'=>exact q4.elim
     | box cs' =>
       obtain ⟨g,C,t,fr,hg,hC,hf,hl⟩:=hno
       refine ⟨g,C,t,fr,z3H hs hh hσ hm hn hd (z1P q1) hg,hC,hf,z8x hs hh hσ hm hn hd hl q4 ?_⟩
       have hmem:(a,some (Ent.box cs')) ∈ hp':=by
        change hpH hp' a=_ at he
        unfold hpH at he
        split at he
        ·rename_i e hl;subst he;exact z1P hl
        ·cases he
       exact List.all_eq_true.1 hbx _ hmem
   | row k es=>cases e' with
     | box cs'=>exact q4.elim
     | row k' es' =>
       obtain ⟨rfl,rfl⟩:=q4
       exact ⟨hno.1,hno.2.imp _root_.id fun ⟨g,C,t,fr,hg,hC,hf,hl⟩=>⟨g,C,t,fr,z3H hs hh hσ hm hn hd (z1P q1) hg,hC,hf,RE.mono (z8w hs hh hσ hm hn hd) hl⟩⟩
     | deep k' es' l' =>
       obtain ⟨rfl,rfl,hc,f,hf,rfl⟩:=q4
       exact ⟨hno.1,hno.2.imp (fun h=>⟨by rw [h];rfl,rfl⟩) fun ⟨g,C,t,fr,hg,hC,hf2,hl⟩=>⟨g,C,t,fr,[],z3H hs hh hσ hm hn hd (z1P q1) hg,hC,hf2,List.nodup_nil,fun b hb=>(by cases hb),cv_oe hf hc hl,fun p hp=>by cases hp⟩⟩
   | deep k es l=>cases e' with
     | box cs'=>exact q4.elim
     | row k' es'=>exact q4.elim
     | deep k' es' l' =>
       obtain ⟨rfl,rfl,rfl,rfl⟩:=q4
       exact ⟨hno.1,hno.2.imp _root_.id fun ⟨g,C,t,fr,bs,hg,hC,hf,hnd,ho,hl,_⟩=>⟨g,C,t,fr,bs,z3H hs hh hσ hm hn hd (z1P q1) hg,hC,hf,hnd,fun b hb=>ren_iw hs hh hσ hm hn hd (z1P q1) (ho b hb),hl,fun p hp=>by cases hp⟩⟩
  ·exact ⟨by omega,.inl rfl⟩
  ·exact ⟨by omega,.inl ⟨rfl,rfl⟩⟩
 ·cases he:hpH hp' 0 with
  | none=>exact he
  | some e'=>exact absurd rfl (z2y hs hh hσ hm hn hd he).1
end
end Go.Proofs.YtgmbkbggnlponaaGreatDoor
namespace Go.Proofs.YtgmbkbggnlponaaGreatDoor
set_option linter.unusedVariables false
set_option linter.unusedSimpArgs false
set_option linter.unusedSectionVars false
open Go.RowKit Pl
structure St where
 sl:List (Nat × T)
 hp:List (Nat × Option Ent)
 nx:Nat
def St.get (S:St) (t:Nat):T:=match lk S.sl t with
 | some x=>x
 | none=>.any
def St.H (S:St):Hp:=hpH S.hp
def St.put (S:St) (d:Option Nat) (x:T):St:=match d with
 | some d=>{ S with sl:=(d,x) :: S.sl }
 | none=>S
def z9F (l:List (Nat × Option Ent)):Upd→List (Nat × Option Ent)
 | []=>l
 | p :: u=>z9F (p :: l) u
def St.upd (S:St) (u:Upd):St:={ S with hp:=z9F S.hp u }
def ofV:Value→T
 | .int k n=>.int k n
 | .bool b=>.bool b
 | .string s=>.str s.data.toList
 | .agg _=>.any
 | .tuple _=>.any
 | v=>.val v
def St.ev (S:St):Operand→T
 | .tmp t=>S.get t
 | .const v=>ofV v
 | .global g=>match glob g with
   | some cs=>.rptr cs 0
   | none=>.val (.pointer (some ⟨g,0,none⟩))
 | .func f=>.val (.func (.func f) #[] #[])
structure SR (X0:Cx) (N:Nat) (S:St) (n:Nat) (X:Cx) (a:Act):Prop where
 same:Same X0 X
 hr:HR X
 H:X.H=S.H
 lt:∀ r,X.us r→r<n
 sl:∀ t,RS X (S.get t) (a.tmps.getD t undef)
 df:a.defers=[]
 sz:a.tmps.size=N
theorem z8A:∀ (u:Upd) (l:List (Nat × Option Ent)),hpH (z9F l u)=updL (hpH l) u
 | [],l=>rfl
 | (r,e) :: u,l=>by
   rw [z9F,z8A u,updL]
   congr 1
   funext i
   simp only [hpH,lk,updE]
   cases h:Nat.beq r i with
   | true =>
     have:=Nat.eq_of_beq_eq_true h;subst this
     simp
   | false =>
     have:Nat.beq i r=false:=by
      cases hb:Nat.beq i r with
      | false=>rfl
      | true=>have:=Nat.eq_of_beq_eq_true hb;subst this;simp at h
     simp [this]
theorem ofV_rs {X:Cx} (v:Value):RS X (ofV v) v:=by
 cases v<;>simp only [ofV]
 case int=>exact z1S _ _ _
 case bool=>exact z2i _ _
 case string s=>have:=z4b X s.data.toList;rwa [zaR] at this
 case agg=>trivial
 case tuple=>trivial
 all_goals exact (RV.rs0 (by simp [RV,Value.oneCell'])).rs
theorem zhr {X0 X:Cx} {N n:Nat} {S:St} {a:Act} (h:SR X0 N S n X a) (o:Operand):RS X (S.ev o) (a.eval o):=by
 cases o with
 | tmp t=>exact h.sl t
 | const v=>exact ofV_rs v
 | global g =>
   simp only [St.ev]
   cases hg:glob g with
   | none=>exact (RV.rs0 (by simp [RV,Act.eval,Value.oneCell'])).rs
   | some cs =>
     obtain ⟨a,C,t,fr,b,c⟩:=h.hr.gl g cs hg
     refine RS0.rs (x:=.rptr cs 0) ⟨g,0,C,t,fr,rfl,a,b,?_⟩
     have:=c.len
     rw [List.drop_zero,List.take_of_length_le (by omega)]
     exact c
 | func f=>exact (RV.rs0 (by simp [RV,St.ev,Act.eval,Value.oneCell'])).rs
theorem zc7 {X0 X:Cx} {N n:Nat} {S:St} {a:Act} (h:SR X0 N S n X a):∀ (l:List Operand),Args X (l.map S.ev) (l.map a.eval)
 | []=>rfl
 | o :: l=>⟨_,_,rfl,zhr h o,zc7 h l⟩
def zgW {α:Type} (l:List α) (K:List α→Prop):Prop:=match l with
 | []=>K []
 | p :: l=>K (p :: l)
theorem zei {α:Type} {l:List α} {K:List α→Prop} (h:zgW l K):K l:=by cases l<;>exact h
def St.step (S:St) (u:Upd) (d:Option Nat) (x:T) (K:St→Prop):Prop:=match S with
 | ⟨sl,hp,nx⟩=>zgW (z9F hp u) fun hp=>match d with
   | some d=>K ⟨(d,x) :: sl,hp,nx⟩
   | none=>K ⟨sl,hp,nx⟩
theorem St.step_eq {S:St} {u:Upd} {d:Option Nat} {x:T} {K:St→Prop} (h:S.step u d x K):K ((S.upd u).put d x):=by
 obtain ⟨sl,hp,nx⟩:=S
 have h:=zei (K:=fun hp=>match d with
  | some d=>K ⟨(d,x) :: sl,hp,nx⟩
  | none=>K ⟨sl,hp,nx⟩) h
 cases d<;>exact h
def zc8 (n:Nat) (K:Nat→Prop):Prop:=match n with
 | 0=>K 0
 | m+1=>K (m+1)
theorem z6r {n:Nat} {K:Nat→Prop} (h:zc8 n K):K n:=by cases n<;>exact h
def St.nxK (S:St) (n:Nat) (K:St→Prop):Prop:=zc8 n fun n=>match S with
 | ⟨sl,hp,_⟩=>K ⟨sl,hp,n⟩
theorem St.nxK_eq {S:St} {n:Nat} {K:St→Prop} (h:S.nxK n K):K { S with nx:=n }:=z6r (K:=fun n=>K { S with nx:=n }) h
def fnOf:T→Option FuncId
 | .val v=>match v with
   | .func f as bs=>match f with
     | .func f=>match as.toList,bs.toList with
       | [],[]=>some f
       | _,_=>none
     | _=>none
   | _=>none
 | _=>none
theorem zfT {x:T} {f:FuncId} (h:fnOf x=some f):x=.val (.func (.func f) #[] #[]):=by
 unfold fnOf at h
 split at h<;>try cases h
 rename_i v0
 split at h<;>try cases h
 rename_i fn as bs
 split at h<;>try cases h
 split at h<;>try cases h
 rename_i ha hb
 have e1:as=#[]:=by rw [← Array.toArray_toList (xs:=as),ha]
 have e2:bs=#[]:=by rw [← Array.toArray_toList (xs:=bs),hb]
 rw [e1,e2]
theorem zhs {X:Cx} {x:T} {v:Value} {f:FuncId} (h:fnOf x=some f) (hv:RS X x v):v=.func (.func f) #[] #[]:=by
 rw [zfT h] at hv
 have hv:v=.func (.func f) #[] #[]∧(Value.func (.func f) #[] #[]).oneCell'=true:=by simpa [RS,RS1,RS0,RV] using hv
 exact hv.1
def zej (x:T):Option (FuncId × List T):=match x with
 | .fnp f r=>some (f,[.ptr r 0 0])
 | .fnq f r s=>some (f,[.ptr r 0 0,.ptr s 0 0])
 | x=>match fnOf x with
   | some f=>some (f,[])
   | none=>none
theorem zfU {X:Cx} {x:T} {v:Value} {f:FuncId} {l:List T} (h:zej x=some (f,l)) (hv:RS X x v):∃ vs:List Value,v=.func (.func f) #[] vs.toArray∧Args X l vs:=by
 have old:∀ {x:T},RS X x v→(match fnOf x with|some f=>some (f,([]:List T))|none=>none)=some (f,l)→∃ vs:List Value,v=.func (.func f) #[] vs.toArray∧Args X l vs:=by
  intro x hv h
  split at h
  ·rename_i f' hf
   injection h with h;injection h with h1 h2;subst h1 h2
   exact ⟨[],zhs hf hv,rfl⟩
  ·cases h
 cases x
 case fnp f' r =>
  injection h with h;injection h with h1 h2;subst h1 h2
  obtain ⟨u,hu,hp⟩:=hv
  exact ⟨[u],hu,u,[],rfl,hp,rfl⟩
 case fnq f' r s =>
  injection h with h;injection h with h1 h2;subst h1 h2
  obtain ⟨u,u',hu,hp,hp'⟩:=hv
  exact ⟨[u,u'],hu,u,[u'],rfl,hp,u',[],rfl,hp',rfl⟩
 all_goals exact old hv h
theorem z6s {X:Cx}:∀ {ts us:List T} {vs ws:List Value},Args X ts vs→Args X us ws→Args X (ts++us) (vs++ws)
 | [],us,_,ws,h,h2=>by have:_=[]:=h;subst this;exact h2
 | t :: ts,us,_,ws,⟨u,vs,hu,h1,h3⟩,h2=>by subst hu;exact ⟨u,vs++ws,rfl,h1,z6s h3 h2⟩
def OpP (P:Program) (tt:TT) (o:Oper) (S:St) (id:Nat) (K:Kon):Prop:=match o.op with
 | .call c=>match c.callee with
   | .value f=>match zej (S.ev f) with
     | some (f,l)=>z0u P f (c.args.toList.map S.ev++l) S.H id fun _=>K
     | none=>False
   | _=>Eff tt (.call c) o.type (c.args.toList.map S.ev) S.H id K
 | op=>Eff tt op o.type ((z48 op).map S.ev) S.H id K
def z28 (l:List T) (K:List T→Prop):Prop:=match l with
 | []=>K []
 | x :: l=>z24 x fun x=>z28 l fun l=>K (x :: l)
theorem z1I:∀ {l:List T} {K:List T→Prop},z28 l K→K l
 | [],_,h=>h
 | x :: l,K,h=>z1I (K:=fun l=>K (x :: l)) (z1R (K:=fun x=>z28 l fun l=>K (x :: l)) h)
def OpF (P:Program) (tt:TT) (o:Oper) (S:St) (id:Nat) (K:Kon):Prop:=match o.op with
 | .call c=>match c.callee with
   | .value f=>match zej (S.ev f) with
     | some (f,l)=>z28 (c.args.toList.map S.ev++l) fun xs=>z0u P f xs S.H id fun _=>K
     | none=>False
   | _=>z28 (c.args.toList.map S.ev) fun xs=>Eff tt (.call c) o.type xs S.H id K
 | op=>z28 ((z48 op).map S.ev) fun xs=>Eff tt op o.type xs S.H id K
theorem opF {P:Program} {tt:TT} {o:Oper} {S:St} {id:Nat} {K:Kon} (h:OpF P tt o S id K):OpP P tt o S id K:=by
 obtain ⟨dst,op,ty,pos,after,guard⟩:=o
 cases op
 case call c =>
  obtain ⟨callee,args,argTypes⟩:=c
  cases callee
  case value f =>
   simp only [OpP]
   simp only [OpF] at h
   split at h
   ·rename_i fid l hf
    exact z1I (K:=fun xs=>z0u P fid xs S.H id fun _=>K) h
   ·exact h
  all_goals exact z1I (K:=fun xs=>Eff tt _ ty xs S.H id K) h
 all_goals exact z1I (K:=fun xs=>Eff tt _ ty xs S.H id K) h
def z7P (S:St) (ops:List Oper) (g:Option (Nat × Bool)) (yes:St→Prop) (no:Prop):Prop:=match g with
 | none=>yes S
 | some (j,want)=>match ops[j]? with
   | some oj=>match oj.dst with
     | some d=>match S.get d with
       | .bool b=>match want with
         | true=>z0t b (S.step [] (some d) (.bool true) yes) no
         | false=>z0t b no (S.step [] (some d) (.bool false) yes)
       | .tup _=>no
       | _=>False
     | none=>False
   | none=>False
def WO (P:Program) (tt:TT) (ops:List Oper) (n0:Nat):Nat→List Oper→(St→Prop)→St→Prop
 | i,[],K,S=>S.nxK (n0+16 * i) K
 | i,o :: r,K,S=>z7P S ops o.guard (fun S1=>zc8 (n0+16 * i) fun id=>OpF P tt o S1 id fun x u=>S1.step u o.dst x fun S=>WO P tt ops n0 (i+1) r K S) (S.step [] o.dst (.tup []) fun S=>WO P tt ops n0 (i+1) r K S)
def zd8 (N:Nat) (o:Oper):Bool:=match o.dst with
 | some d=>Nat.blt d N
 | none=>true
section
variable {P:Program} {tt:TT} (htt:TtOk P tt) {X0:Cx} {N:Nat}
theorem SR.put {X0:Cx} {N n:Nat} {X:Cx} {S:St} {a:Act} {d:Option Nat} {x:T} {v:Value} (h:SR X0 N S n X a) (hd:∀ k,d=some k→k<N) (hv:RS X x v):SR X0 N (S.put d x) n X (a.put d v):=by
 cases d with
 | none=>exact h
 | some k =>
   refine ⟨h.same,h.hr,h.H,h.lt,fun t=>?_,h.df,by simp [Act.put,h.sz]⟩
   have hk:=hd k rfl
   by_cases ht:k=t
   ·subst ht
    have:(a.put (some k) v).tmps.getD k undef=v:=by
     simp only [Act.put,Array.getD_eq_getD_getElem?,Array.getElem?_setIfInBounds,if_true,h.sz,if_pos hk];rfl
    rw [this]
    have:(S.put (some k) x).get k=x:=by simp [St.get,St.put,lk]
    rw [this];exact hv
   ·have:(a.put (some k) v).tmps.getD t undef=a.tmps.getD t undef:=by
     simp only [Act.put,Array.getD_eq_getD_getElem?,Array.getElem?_setIfInBounds,if_neg ht]
    rw [this]
    have hb:Nat.beq k t=false:=by
     cases hb:Nat.beq k t with
     | false=>rfl
     | true=>exact absurd (Nat.eq_of_beq_eq_true hb) ht
    have:(S.put (some k) x).get t=S.get t:=by simp [St.get,St.put,lk,hb]
    rw [this];exact h.sl t
theorem SR.out {X0:Cx} {N n id:Nat} {X X':Cx} {S:St} {a:Act} {d:Option Nat} {x:T} {v:Value} {u:Upd} (h:SR X0 N S n X a) (hd:∀ k,d=some k→k<N) (hH:X'.H=updL X.H u) (hn:X'.us=X.win id) (hi:n≤id) (hs:Same X X') (hr:HR X') (hv:RS X' x v) :
 SR X0 N ((S.upd u).put d x) (id+16) X' (a.put d v):=by
 refine SR.put (S:=S.upd u) ⟨h.same.trans hs,hr,?_,fun r hr=>?_,fun t=>(h.sl t).mono hs,h.df,h.sz⟩ hd hv
 ·rw [hH,h.H]
  show _=hpH (z9F S.hp u)
  rw [z8A];rfl
 ·rw [hn] at hr
  rcases hr with hr|hr
  ·have:=h.lt r hr;omega
  ·omega
theorem SR.out2 {X0:Cx} {N n id:Nat} {X X':Cx} {S:St} {a:Act} {d:Option Nat} {x:T} {v:Value} {u:Upd} (h:SR X0 N S n X a) (hd:∀ k,d=some k→k<N) (hH:X'.H=updL X.H u) (hn:X'.us=X.win id) (hi:id+16≤n) (hs:Same X X') (hr:HR X') (hv:RS X' x v) :
 SR X0 N ((S.upd u).put d x) n X' (a.put d v):=by
 refine SR.put (S:=S.upd u) ⟨h.same.trans hs,hr,?_,fun r hr=>?_,fun t=>(h.sl t).mono hs,h.df,h.sz⟩ hd hv
 ·rw [hH,h.H]
  show _=hpH (z9F S.hp u)
  rw [z8A];rfl
 ·rw [hn] at hr
  rcases hr with hr|hr
  ·exact h.lt r hr
  ·omega
theorem SR.cong {X0:Cx} {N n:Nat} {X:Cx} {S S':St} {a:Act} (h:SR X0 N S n X a) (h1:S'.get=S.get) (h2:S'.H=S.H):SR X0 N S' n X a :=
 ⟨h.same,h.hr,h.H.trans h2.symm,h.lt,fun t=>by rw [h1];exact h.sl t,h.df,h.sz⟩
theorem zfV {X0:Cx} {N n:Nat} {X:Cx} {S:St} {a:Act} (h:SR X0 N S n X a) {ops:Array Oper} {oj:Oper} {j d:Nat} {b:Bool} (hj:ops.toList[j]?=some oj) (hdst:oj.dst=some d) (hb:S.get d=.bool b):yielded ops a.tmps j=some b:=by
 have hv:=z3C (by have:=h.sl d;rwa [hb] at this)
 have hget:a.tmps[d]?=some (.bool b):=by
  rw [Array.getD_eq_getD_getElem?] at hv
  cases hq:a.tmps[d]? with
  | none=>rw [hq] at hv;cases hv
  | some u=>rw [hq] at hv;simp at hv;rw [hv]
 have hjj:ops[j]?=some oj:=by simpa using hj
 simp [yielded,hjj,hdst,hget]
theorem zc9 {X:Cx}:RS X (.tup []) undef:=⟨#[],rfl,rfl⟩
theorem zca {X0:Cx} {N n:Nat} {X:Cx} {S:St} {a:Act} (h:SR X0 N S n X a) {ops:Array Oper} {oj:Oper} {j d:Nat} {cs:List T} (hj:ops.toList[j]?=some oj) (hdst:oj.dst=some d) (hb:S.get d=.tup cs):yielded ops a.tmps j=none:=by
 have hjj:ops[j]?=some oj:=by simpa using hj
 have hs:=h.sl d
 rw [hb] at hs
 obtain ⟨vs,hv,_⟩:=hs
 rw [Array.getD_eq_getD_getElem?] at hv
 simp only [yielded,hjj,hdst,Option.bind_some]
 cases hq:a.tmps[d]? with
 | none=>rfl
 | some u=>rw [hq] at hv;simp at hv;rw [hv]
theorem SR.fresh {X0:Cx} {N n id:Nat} {X:Cx} {S:St} {a:Act} (h:SR X0 N S n X a) (hi:n≤id):Fresh X id:=fun r h1 _ h3=>by have:=h.lt r h3;omega
include htt
theorem zcb {o:Oper} {S:St} {n id:Nat} {X:Cx} {a:Act} {K:Kon} {Q:Exit→Act→World→Prop} (h:SR X0 N S n X a) (hix:Fresh X id) (hw:OpP P tt o S id K) {next:Act→World→Prop}
 (hnext:∀ x u v X',K x u→X'.H=updL X.H u→X'.us=X.win id→Same X X'→HR X'→RS X' x v→next (a.put o.dst v) X'.w):o.wp P a X.w next Q:=by
 have fin:Ran P X id K (execOp a.eval o)→o.wp P a X.w next Q:=fun hr=>by
  obtain ⟨nn,v,w',hrun,hnv,x,u,X',hk,rfl,hn,hH,hs,hr',hv⟩:=hr
  unfold Oper.wp
  rw [hrun]
  rcases hnv with rfl|⟨rfl,rfl⟩
  ·exact hnext x u v X' hk hH hn hs hr' hv
  ·exact hnext x u undef X' hk hH hn hs hr' hv
 obtain ⟨dst,op,ty,pos,after,guard⟩:=o
 unfold OpP at hw
 split at hw
 ·rename_i c hop
  subst hop
  split at hw
  ·rename_i f hc
   split at hw
   ·rename_i fid l hfid
    obtain ⟨cap,hev,hcap⟩:=zfU hfid (zhr h f)
    rw [h.H.symm] at hw
    have hcall:=zd6 h.hr hix (z6s (zc7 h c.args.toList) hcap) hw
    obtain ⟨gs,σ,He,ts,r,He',⟨⟨fn,hf,hname,hbody⟩,_⟩,_⟩:=hw
    have hm:(c.args.map a.eval)=(c.args.toList.map a.eval).toArray:=by rw [← Array.toArray_toList (xs:=c.args.map a.eval),Array.toList_map]
    have hexec:(execOp a.eval ⟨dst,.call c,ty,pos,after,guard⟩).run P X.w=.ok (.enter fid (c.args.toList.map a.eval++cap).toArray) X.w:=by
     simp only [execOp,resolve,hc,hev,Deferred.ofValue,Sem.run_bind,Sem.run_pure,Result.andThen_ok,invoke,callFunc,run_program,hf,hname,hbody,hm]
     simp
    unfold Oper.wp
    rw [hexec,Oper.upon_enter]
    refine hcall.mono ?_
    rintro e w' ⟨v,rfl,x,u,X',hk,rfl,hn,hH,hs,hr',hv⟩
    exact hnext x u v X' hk hH hn hs hr' hv
   ·exact hw.elim
  ·rename_i hc
   refine fin (z9x htt h.hr hix (args:=c.args.toList.map S.ev) ?_ (by rw [h.H];exact hw))
   have:z48 (.call c)=c.args.toList:=by
    simp only [z48]
    cases hcc:c.callee with
    | value f=>exact absurd hcc (hc f)
    | invoke r m=>simp
    | builtin b=>simp
   rw [this];exact zc7 h _
 ·rename_i hop
  refine fin (z9x htt h.hr hix (args:=(z48 op).map S.ev) (zc7 h _) ?_)
  rw [h.H]
  have:∀ c,op ≠ .call c:=fun c=>hop c
  cases op<;>first|exact hw|exact absurd rfl (this _)
theorem zb5 {o:Oper} {ops:Array Oper} {S:St} {n:Nat} {X:Cx} {a:Act} {yes:St→Prop} {no:Prop} {R:Prop} (h:SR X0 N S n X a) (hg:z7P S ops.toList o.guard yes no)
 (hy:∀ S1,SR X0 N S1 n X a→yes S1→Region.wanted o (yielded ops a.tmps)=true→R) (hn:no→Region.wanted o (yielded ops a.tmps)=false→R):R:=by
 unfold z7P at hg
 split at hg
 ·rename_i hgd
  exact hy S h hg (by simp [Region.wanted,hgd])
 ·rename_i j want hgd
  split at hg<;>try exact hg.elim
  rename_i oj hj
  split at hg<;>try exact hg.elim
  rename_i d hdst
  split at hg<;>try exact hg.elim
  case h_2 =>
   rename_i cs hb
   have:=zca h (ops:=ops) hj hdst hb
   exact hn hg (by simp [Region.wanted,hgd,this])
  rename_i b hb
  have hv:=z3C (by have:=h.sl d;rwa [hb] at this)
  have hget:a.tmps[d]?=some (.bool b):=by
   rw [Array.getD_eq_getD_getElem?] at hv
   cases hq:a.tmps[d]? with
   | none=>rw [hq] at hv;cases hv
   | some u=>rw [hq] at hv;simp at hv;rw [hv]
  have hjj:ops[j]?=some oj:=by simpa using hj
  have hyl:yielded ops a.tmps j=some b:=by simp [yielded,hjj,hdst,hget]
  have put:∀ b',b=b'→SR X0 N (S.put (some d) (.bool b')) n X a:=fun b' e=>by
   subst e
   refine ⟨h.same,h.hr,h.H,h.lt,fun t=>?_,h.df,h.sz⟩
   by_cases ht:d=t
   ·subst ht
    have:(S.put (some d) (.bool b)).get d=.bool b:=by simp [St.get,St.put,lk]
    rw [this,hv];exact z2i _ _
   ·have hb:Nat.beq d t=false:=by
     cases hb:Nat.beq d t with
     | false=>rfl
     | true=>exact absurd (Nat.eq_of_beq_eq_true hb) ht
    have:(S.put (some d) (.bool b)).get t=S.get t:=by simp [St.get,St.put,lk,hb]
    rw [this];exact h.sl t
  split at hg
  ·cases b
   ·exact hn (hg.2 rfl) (by simp [Region.wanted,hgd,hyl])
   ·exact hy _ (put true rfl) (St.step_eq (hg.1 rfl)) (by simp [Region.wanted,hgd,hyl])
  ·cases b
   ·exact hy _ (put false rfl) (St.step_eq (hg.2 rfl)) (by simp [Region.wanted,hgd,hyl])
   ·exact hn (hg.1 rfl) (by simp [Region.wanted,hgd,hyl])
theorem z8B {ops:Array Oper} {n0:Nat} {K:St→Prop} {Q:Exit→Act→World→Prop} (hQ:∀ S X a,SR X0 N S S.nx X a→K S→Q .normal a X.w) :
 ∀ {l:List Oper} {i:Nat} {S:St} {n:Nat} {X:Cx} {a:Act},(l.all (zd8 N))=true→SR X0 N S n X a→n≤n0+16 * i→WO P tt ops.toList n0 i l K S→wpList P ops Q l a X.w
 | [],i,S,n,X,a,_,h,hn,hw=>by
   have hw:=St.nxK_eq hw
   exact hQ { S with nx:=n0+16 * i } X a ⟨h.same,h.hr,h.H,fun r hr=>Nat.lt_of_lt_of_le (h.lt r hr) hn,h.sl,h.df,h.sz⟩ hw
 | o :: l,i,S,n,X,a,hd,h,hn,hw=>by
   simp only [List.all_cons,Bool.and_eq_true] at hd
   have hdk:∀ k,o.dst=some k→k<N:=fun k hk=>by
    have h2:Nat.blt k N=true:=by have h3:=hd.1;unfold zd8 at h3;rw [hk] at h3;exact h3
    exact Nat.le_of_ble_eq_true h2
   simp only [WO] at hw
   simp only [wpList]
   refine zb5 htt h hw (fun S1 h1 hw1 hwant=>?_) (fun hw1 hwant=>?_)
   ·rw [if_pos hwant]
    left
    have hw1:=z6r hw1
    exact zcb htt h1 (h1.fresh hn) (opF hw1) (fun x u v X' hk hH hnx hs hr hv=>z8B hQ hd.2 (h1.out hdk hH hnx hn hs hr hv) (by omega) (St.step_eq hk))
   ·rw [if_neg (by simp [hwant])]
    exact z8B hQ hd.2 (h.put (x:=.tup []) hdk zc9) (by omega) (St.step_eq hw1)
end
end Go.Proofs.YtgmbkbggnlponaaGreatDoor
