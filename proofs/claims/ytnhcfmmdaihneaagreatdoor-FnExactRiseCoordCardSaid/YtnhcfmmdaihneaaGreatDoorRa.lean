/- Functions by content: coordinators are copied, by the program and by the exact laws. Functions by content: the law of RiseCoord. -/
import Derived.Test.YtnhcfmmdaihneaaGreatDoorLcn
import Derived.Test.YtnhcfmmdaihneaaGreatDoorCs
namespace Go.Proofs.YtnhcfmmdaihneaaGreatDoor
set_option maxRecDepth 100000
set_option maxHeartbeats 8000000
set_option linter.unusedVariables false
set_option linter.unusedSimpArgs false
set_option linter.unusedSectionVars false
open Go.RowKit Pl
def saC (x : Sa) : List T := [.int .i64 x.ho, .int .i64 x.ep, .str x.ro, .str x.pr, .int .i64 x.a, .own 1 (strE x.op), .own 1 (strE x.sh), .own 1 (strE x.si)]
def saD (l : List Sa) : List (List T) := l.map saC
theorem z9G (l : List Sa) : (saD l).length = l.length := by simp [saD]
theorem zln (l : List Sa) (x : Sa) : saD (l ++ [x]) = saD l ++ [saC x] := by simp [saD]
theorem zlo (l : List Sa) (x : Sa) : saL (l ++ [x]) = saL l ++ [saE x] := by simp [saL]
theorem zi0 : ∀ l : List Sa, ucE (saD l) = saL l
 | [] => by simp [saD, saL, ucE]
 | x :: l => by
   have ih := zi0 l
   simp only [saD, saL, saC, saE, z1u, z1Z, List.map_cons, ucE, ucL, ucT, zca, List.cons_append, List.nil_append] at ih ⊢
   rw [ih]
theorem sd_sa (l : List (Hd × Sg)) : sdE l = saD (l.map saOf) := by
 simp only [sdE, saD, List.map_map]
 rfl
theorem zlp (l : List Sa) (h : ∀ x ∈ l, z5P x) : WfSl (saD l) := fun e he => by
 simp only [saD, List.mem_map] at he
 obtain ⟨x, hx, rfl⟩ := he
 obtain ⟨h1, h2, h3⟩ := h x hx
 have a := z0m x.op
 have b := z0m x.sh
 have c := z0m x.si
 exact ⟨_, _, _, _, _, _, _, _, rfl, z3D _, by omega, z3D _, by omega, z3D _, by omega⟩
theorem zlq : ∀ (l : List Sa), (∀ x ∈ l, z5P x) → cnG szSl (saD l) ≤ 4000000 * l.length
 | [], _ => Nat.zero_le _
 | x :: l, h => by
   have ih := zlq l fun v hv => h v (by simp [hv])
   obtain ⟨h1, h2, h3⟩ := h x (by simp)
   show szSl (saC x) + cnG szSl (saD l) ≤ _
   have e : szSl (saC x) = 5 + cnG szSt (strE x.op) + cnG szSt (strE x.sh) + cnG szSt (strE x.si) := rfl
   rw [e, z3E, z3E, z3E, z0m, z0m, z0m, List.length_cons, Nat.mul_add, Nat.mul_one]
   omega
theorem z3Z {z : List (List T)} (h : WfSt z) : ucE z = z := z2g fun e he c hc => by
 obtain ⟨x, rfl⟩ := h e he
 simp only [List.mem_singleton] at hc
 subst hc; rfl
theorem z9H {z : List (List T)} (h : WfIt z) : ucE z = z := z2g fun e he c hc => by
 obtain ⟨x, rfl⟩ := h e he
 simp only [List.mem_singleton] at hc
 subst hc; rfl
theorem z9I {z : List (List T)} (h : WfBo z) : ucE z = z := z2g fun e he c hc => by
 obtain ⟨x, rfl⟩ := h e he
 simp only [List.mem_singleton] at hc
 subst hc; rfl
theorem zjt (n : Nat) : ∀ e ∈ List.replicate n ([.int .i64 0, .int .i64 0, .str [], .str [], .int .i64 0, .val nilV, .val nilV, .val nilV] : List T), ∀ c ∈ e, cl0 c := fun e he c hc => by
 rw [(List.mem_replicate.1 he).2] at hc
 simp only [List.mem_cons, List.not_mem_nil, or_false] at hc
 rcases hc with rfl | rfl | rfl | rfl | rfl | rfl | rfl | rfl <;> trivial
section
attribute [local irreducible] z0w z0x z0A AnsP LeP W CvE
theorem z9J (z : List (List T)) (h : (z.length : Int) ≤ 1000000000) : CT Tryz.prog 135 [] [.sl 1 z] (.ref 1) [.row 1 z] := by
 refine z01 z03 1 rfl Tryz.func135 rfl rfl rfl ?_
 conv => arg 6; whnf
 repeat ((try conv => whnf); first | (with_reducible first | refine z0c (fun Qs hN hE hR => ?_) | refine z0a ?_ | refine z04 (fun Qb kN kE kX kR => ?_) | refine z06 ?_ | refine z07 ?_ | refine z0b ?_ | refine z08 ?_ | refine z09 ?_ | (show W _ _ _ (.cond _ _ _) _ _; refine z05 rfl ?_) | (refine hN _ ?_; try clear hN hE hR Qs; (try (conv => arg 6; dsimp only [ovl, List.set, List.map, ren0]))) | ((first | refine hE _ _ ?_ | refine hR _ ?_); try clear hN hE hR Qs) | ((first | refine kN _ ?_ | refine kE _ ?_ | refine kX _ _ rfl ?_ | refine kR _ ?_); try clear kN kE kX kR Qb)) | (refine And.intro (by simp only [List.length_append, List.length_cons, List.length_nil, List.nil_append, List.length_replicate, List.length_set]; omega) ?_) | (refine And.intro (by kernel_rfl) ?_) | (refine stpQ ?_))
 (refine z00 (by rfl) ?_ ?_ (by rfl)) <;> (repeat' (first | (exact eqA) | (refine shE ?_) | (refine And.intro ?_ ?_)))
theorem z2o (z : List (List T)) (h : (z.length : Int) ≤ 1000000000) (w : WfSt z) : CT Tryz.prog 135 [] [.sl 1 z] (.ref 1) [.deep 1 z []] := z4E 0 (z9J z h) rfl (by decide) (zhR w)
theorem zbm (z : List (List T)) (h : (z.length : Int) ≤ 1000000000) : CT Tryz.prog 134 [] [.agg [.sl 3 z]] (.agg [.ref 1]) [.row 3 z] := by
 refine z01 z03 1 rfl Tryz.func134 rfl rfl rfl ?_
 conv => arg 6; whnf
 repeat ((try conv => whnf); first | (with_reducible first | refine z0c (fun Qs hN hE hR => ?_) | refine z0a ?_ | refine z04 (fun Qb kN kE kX kR => ?_) | refine z06 ?_ | refine z07 ?_ | refine z0b ?_ | refine z08 ?_ | refine z09 ?_ | (show W _ _ _ (.cond _ _ _) _ _; refine z05 rfl ?_) | (refine hN _ ?_; try clear hN hE hR Qs; (try (conv => arg 6; dsimp only [ovl, List.set, List.map, ren0]))) | ((first | refine hE _ _ ?_ | refine hR _ ?_); try clear hN hE hR Qs) | ((first | refine kN _ ?_ | refine kE _ ?_ | refine kX _ _ rfl ?_ | refine kR _ ?_); try clear kN kE kX kR Qb)) | (refine And.intro (by simp only [List.length_append, List.length_cons, List.length_nil, List.nil_append, List.length_replicate]; omega) ?_) | (refine And.intro (by kernel_rfl) ?_) | (refine stpQ ?_))
 (refine z00 (by rfl) ?_ ?_ (by rfl)) <;> (repeat' (first | (exact eqA) | (refine shE ?_) | (refine And.intro ?_ ?_)))
theorem zcE (z : List (List T)) (h : (z.length : Int) ≤ 1000000000) (w : WfFl z) : CT Tryz.prog 134 [] [.agg [.sl 3 z]] (.agg [.ref 1]) [.deep 3 z []] := z4E 0 (zbm z h) rfl (by decide) (zhQ w)
theorem zfd (a : Int) (z1 z2 z3 : List (List T)) (h1 : (z1.length : Int) ≤ 1000000000) (w1 : WfSt z1) (h2 : (z2.length : Int) ≤ 1000000000) (w2 : WfSt z2) (h3 : (z3.length : Int) ≤ 1000000000) (w3 : WfSt z3) :
 CT Tryz.prog 254 [] [.agg [.int .i64 a, .sl 1 z1, .sl 1 z2, .sl 1 z3]] (.agg [.int .i64 a, .ref 1, .ref 2, .ref 3]) [.deep 1 z1 [], .deep 1 z2 [], .deep 1 z3 []] := by
 have c1 := z2o z1 h1 w1
 have c2 := z2o z2 h2 w2
 have c3 := z2o z3 h3 w3
 refine z01 z03 1 rfl Tryz.func254 rfl rfl rfl ?_
 conv => arg 6; whnf
 repeat ((try conv => whnf); first | (with_reducible first | refine z0c (fun Qs hN hE hR => ?_) | refine z0a ?_ | refine z04 (fun Qb kN kE kX kR => ?_) | refine z06 ?_ | refine z07 ?_ | refine z0b ?_ | refine z08 ?_ | refine z09 ?_ | (show W _ _ _ (.cond _ _ _) _ _; refine z05 rfl ?_) | (refine hN _ ?_; try clear hN hE hR Qs; (try (conv => arg 6; dsimp only [ovl, List.set, List.map, ren0]))) | ((first | refine hE _ _ ?_ | refine hR _ ?_); try clear hN hE hR Qs) | ((first | refine kN _ ?_ | refine kE _ ?_ | refine kX _ _ rfl ?_ | refine kR _ ?_); try clear kN kE kX kR Qb)) | (refine ccA ([]) (c1) ?_) | (refine ccA ([]) (c2) ?_) | (refine ccA ([]) (c3) ?_) | (refine And.intro (by kernel_rfl) ?_) | (refine stpQ ?_))
 (refine z00 (by rfl) ?_ ?_ (by rfl)) <;> (repeat' (first | (exact eqA) | (refine shE ?_) | (refine And.intro ?_ ?_)))
theorem zcF (ho ep : Int) (ro pr : Bs) (a : Int) (z1 z2 z3 : List (List T)) (h1 : (z1.length : Int) ≤ 1000000000) (w1 : WfSt z1) (h2 : (z2.length : Int) ≤ 1000000000) (w2 : WfSt z2) (h3 : (z3.length : Int) ≤ 1000000000) (w3 : WfSt z3) :
 CT Tryz.prog 200 [] [.agg [.int .i64 ho, .int .i64 ep, .str ro, .str pr, .int .i64 a, .sl 1 z1, .sl 1 z2, .sl 1 z3]] (.agg [.int .i64 ho, .int .i64 ep, .str ro, .str pr, .int .i64 a, .ref 1, .ref 2, .ref 3]) [.deep 1 z1 [], .deep 1 z2 [], .deep 1 z3 []] := by
 have c1 := zfd a z1 z2 z3 h1 w1 h2 w2 h3 w3
 refine z01 z03 1 rfl Tryz.func200 rfl rfl rfl ?_
 conv => arg 6; whnf
 repeat ((try conv => whnf); first | (with_reducible first | refine z0c (fun Qs hN hE hR => ?_) | refine z0a ?_ | refine z04 (fun Qb kN kE kX kR => ?_) | refine z06 ?_ | refine z07 ?_ | refine z0b ?_ | refine z08 ?_ | refine z09 ?_ | (show W _ _ _ (.cond _ _ _) _ _; refine z05 rfl ?_) | (refine hN _ ?_; try clear hN hE hR Qs; (try (conv => arg 6; dsimp only [ovl, List.set, List.map, ren0]))) | ((first | refine hE _ _ ?_ | refine hR _ ?_); try clear hN hE hR Qs) | ((first | refine kN _ ?_ | refine kE _ ?_ | refine kX _ _ rfl ?_ | refine kR _ ?_); try clear kN kE kX kR Qb)) | (refine ccA ([]) (c1) ?_) | (refine And.intro (by kernel_rfl) ?_) | (refine stpQ ?_))
 (refine z00 (by rfl) ?_ ?_ (by rfl)) <;> (repeat' (first | (exact eqA) | (refine shE ?_) | (refine And.intro ?_ ?_)))
theorem zbn (l : List Sa) (h : l.length ≤ 1048576) (hv : ∀ x ∈ l, z5P x) : CT Tryz.prog 146 [] [.sl 8 (saL l)] (.ref 1) [.deep 8 (saD l) []] := by
 have hl := z7u l
 refine z01 z03 1 rfl Tryz.func146 rfl rfl rfl ?_
 conv => arg 6; whnf
 repeat ((try conv => whnf); first | (with_reducible first | refine z0c (fun Qs hN hE hR => ?_) | refine z0a ?_ | refine z04 (fun Qb kN kE kX kR => ?_) | refine z06 ?_ | refine z07 ?_ | refine z0b ?_ | refine z08 ?_ | refine z09 ?_ | (show W _ _ _ (.cond _ _ _) _ _; refine z05 rfl ?_) | (refine hN _ ?_; try clear hN hE hR Qs; (try (conv => arg 6; dsimp only [ovl, List.set, List.map, ren0]))) | ((first | refine hE _ _ ?_ | refine hR _ ?_); try clear hN hE hR Qs) | ((first | refine kN _ ?_ | refine kE _ ?_ | refine kX _ _ rfl ?_ | refine kR _ ?_); try clear kN kE kX kR Qb)) | (refine Exists.intro l.length (And.intro hl ?_)) | (refine stpQ ?_))
 refine z0n 0 ⟨[(3, .ref 1)], [(1, some (.deep 8 (saD l) []))], 2⟩ Nat (fun i => ⟨[(3, .ref 1), (6, .sl 8 (saL l)), (7, .int .i64 ((l.length : Nat) : Int)), (8, .int .i64 (i : Int))], [(1, some (.deep 8 (saD (l.take i)) []))], 2⟩) (fun i => i ≤ l.length) (fun i => l.length - i) 0 (Nat.zero_le _) ?_ ?_ ?_
 ·(refine z02 (by rfl) ?_ ?_) <;> (repeat' (first | (exact eqA) | (refine shE ?_) | (refine And.intro ?_ ?_))) <;> first | rfl | decide
 ·intro i hi
  by_cases hlt : i < l.length
  ·have f1 : (i : Int) < ((l.length : Nat) : Int) := by omega
   have g := zc6 hlt
   obtain ⟨v1, v2, v3⟩ := hv _ (List.getElem_mem hlt)
   have hnx : saD (l.take (i + 1)) = saD (l.take i) ++ [saC l[i]] := by rw [← zln]; simp
   have hlen : (saD (l.take i)).length ≤ 1048576 := by rw [z9G, List.length_take]; omega
   generalize l[i] = v at *
   obtain ⟨ho, ep, ro, pr, a, op, sh, si⟩ := v
   have a1 := z0m op
   have a2 := z0m sh
   have a3 := z0m si
   simp only at v1 v2 v3
   have c1 := zcF ho ep ro pr a (strE op) (strE sh) (strE si) (by omega) (z3D _) (by omega) (z3D _) (by omega) (z3D _)
   unfold saE z1u z1Z at g
   unfold saC at hnx
   repeat ((try conv => whnf); first | (with_reducible first | refine z0c (fun Qs hN hE hR => ?_) | refine z0a ?_ | refine z04 (fun Qb kN kE kX kR => ?_) | refine z06 ?_ | refine z07 ?_ | refine z0b ?_ | refine z08 ?_ | refine z09 ?_ | (show W _ _ _ (.cond _ _ _) _ _; refine z05 rfl ?_) | (refine hN _ ?_; try clear hN hE hR Qs; (try (conv => arg 6; dsimp only [ovl, List.set, List.map, ren0]))) | ((first | refine hE _ _ ?_ | refine hR _ ?_); try clear hN hE hR Qs) | ((first | refine kN _ ?_ | refine kE _ ?_ | refine kX _ _ rfl ?_ | refine kR _ ?_); try clear kN kE kX kR Qb)) | (refine z0o f1 ?_) | (refine i_at g ?_) | (refine ccA ([]) (c1) ?_) | (refine And.intro (by simp only [List.length_append, List.length_cons, List.length_nil]; omega) ?_) | (refine And.intro (by kernel_rfl) ?_) | (refine stpQ ?_))
   refine ⟨i + 1, hlt, by omega, ?_⟩
   rw [hnx]
   (refine z02 (by rfl) ?_ ?_) <;> (repeat' (first | (exact eqA) | (refine shE ?_) | (refine And.intro ?_ ?_))) <;> rfl
  ·have hie : i = l.length := by omega
   subst hie
   have f1 : ¬ ((l.length : Nat) : Int) < ((l.length : Nat) : Int) := by omega
   repeat ((try conv => whnf); first | (with_reducible first | refine z0c (fun Qs hN hE hR => ?_) | refine z0a ?_ | refine z04 (fun Qb kN kE kX kR => ?_) | refine z06 ?_ | refine z07 ?_ | refine z0b ?_ | refine z08 ?_ | refine z09 ?_ | (show W _ _ _ (.cond _ _ _) _ _; refine z05 rfl ?_) | (refine hN _ ?_; try clear hN hE hR Qs; (try (conv => arg 6; dsimp only [ovl, List.set, List.map, ren0]))) | ((first | refine hE _ _ ?_ | refine hR _ ?_); try clear hN hE hR Qs) | ((first | refine kN _ ?_ | refine kE _ ?_ | refine kX _ _ rfl ?_ | refine kR _ ?_); try clear kN kE kX kR Qb)) | (refine z0j f1 ?_) | (refine stpQ ?_))
   rw [List.take_length]
   (refine z02 (by rfl) ?_ ?_) <;> (repeat' (first | (exact eqA) | (refine shE ?_) | (refine And.intro ?_ ?_))) <;> rfl
 ·repeat ((try conv => whnf); first | (with_reducible first | refine z0c (fun Qs hN hE hR => ?_) | refine z0a ?_ | refine z04 (fun Qb kN kE kX kR => ?_) | refine z06 ?_ | refine z07 ?_ | refine z0b ?_ | refine z08 ?_ | refine z09 ?_ | (show W _ _ _ (.cond _ _ _) _ _; refine z05 rfl ?_) | (refine hN _ ?_; try clear hN hE hR Qs; (try (conv => arg 6; dsimp only [ovl, List.set, List.map, ren0]))) | ((first | refine hE _ _ ?_ | refine hR _ ?_); try clear hN hE hR Qs) | ((first | refine kN _ ?_ | refine kE _ ?_ | refine kX _ _ rfl ?_ | refine kR _ ?_); try clear kN kE kX kR Qb)) | (refine stpQ ?_))
  (refine z00 (by rfl) ?_ ?_ (by rfl)) <;> (repeat' (first | (exact eqA) | (refine shE ?_) | (refine And.intro ?_ ?_)))
theorem zbo (a K : Int) (up : Bool) (ty : Int) (ak : Bool) (f p t v d : List (List T)) (l : List Sa) (wf : WfFl f) (wp : WfSt p) (wt : WfIt t) (wv : WfSt v) (wd : WfBo d) (hf : f.length ≤ 1048576) (hp : p.length ≤ 1048576) (hl : l.length ≤ 1048576) (hs : ∀ x ∈ l, z5P x) (ht : t.length ≤ 1048576) (hv : v.length ≤ 1048576) (hd : d.length ≤ 1048576) :
 CT Tryz.prog 83 [] [.agg [.int .i64 a, .int .i64 K, .bool up, .sl 3 f, .sl 1 p, .sl 8 (saL l), .sl 1 t, .int .i64 ty, .bool ak, .sl 1 v, .sl 1 d]] (.agg [.int .i64 a, .int .i64 K, .bool up, .ref 1, .ref 2, .ref 3, .ref 4, .int .i64 ty, .bool ak, .ref 5, .ref 6]) [.deep 3 f [], .deep 1 p [], .deep 8 (saD l) [], .deep 1 t [], .deep 1 v [], .deep 1 d []] := by
 have c1 := zcE f (by omega) wf
 have c2 := z2o p (by omega) wp
 have c3 := zbn l hl hs
 have c4 := z2o v (by omega) wv
 refine z01 z03 1 rfl Tryz.func83 rfl rfl rfl ?_
 conv => arg 6; whnf
 repeat ((try conv => whnf); first | (with_reducible first | refine z0c (fun Qs hN hE hR => ?_) | refine z0a ?_ | refine z04 (fun Qb kN kE kX kR => ?_) | refine z06 ?_ | refine z07 ?_ | refine z0b ?_ | refine z08 ?_ | refine z09 ?_ | (show W _ _ _ (.cond _ _ _) _ _; refine z05 rfl ?_) | (refine hN _ ?_; try clear hN hE hR Qs; (try (conv => arg 6; dsimp only [ovl, List.set, List.map, ren0]))) | ((first | refine hE _ _ ?_ | refine hR _ ?_); try clear hN hE hR Qs) | ((first | refine kN _ ?_ | refine kE _ ?_ | refine kX _ _ rfl ?_ | refine kR _ ?_); try clear kN kE kX kR Qb)) | (refine ccA ([]) (c1) ?_) | (refine ccA ([]) (c2) ?_) | (refine ccA ([]) (c3) ?_) | (refine ccA ([]) (c4) ?_) | (refine And.intro (by simp only [List.length_append, List.length_cons, List.length_nil, List.nil_append]; omega) ?_) | (refine And.intro (by kernel_rfl) ?_) | (refine stpQ ?_))
 (refine z00 (by rfl) ?_ ?_ (by rfl)) <;> (repeat' (first | (exact eqA) | (refine shE ?_) | (refine And.intro ?_ ?_))) <;> first | rfl | exact CvE.refl (zhS wt) | exact CvE.refl (zhV wd)
theorem zju (a : Int) (z1 z2 z3 : List (List T)) (h1 : z1.length ≤ 1048576 ∧ ∀ e ∈ z1, Fits 1048576 .str e) (h2 : z2.length ≤ 1048576 ∧ ∀ e ∈ z2, Fits 1048576 .str e) (h3 : z3.length ≤ 1048576 ∧ ∀ e ∈ z3, Fits 1048576 .str e) :
 CT Tryz.prog 199 [] [.agg [.int .i64 a, .sl 1 z1, .sl 1 z2, .sl 1 z3]] (.agg [.int .i64 a, .ref 1, .ref 2, .ref 3]) [.deep 1 z1 [], .deep 1 z2 [], .deep 1 z3 []] := by
 have c1 := z2n z1 h1
 have c2 := z2n z2 h2
 have c3 := z2n z3 h3
 refine z01 z03 1 rfl Tryz.func199 rfl rfl rfl ?_
 conv => arg 6; whnf
 repeat ((try conv => whnf); first | (with_reducible first | refine z0c (fun Qs hN hE hR => ?_) | refine z0a ?_ | refine z04 (fun Qb kN kE kX kR => ?_) | refine z06 ?_ | refine z07 ?_ | refine z0b ?_ | refine z08 ?_ | refine z09 ?_ | (show W _ _ _ (.cond _ _ _) _ _; refine z05 rfl ?_) | (refine hN _ ?_; try clear hN hE hR Qs; (try (conv => arg 6; dsimp only [ovl, List.set, List.map, ren0]))) | ((first | refine hE _ _ ?_ | refine hR _ ?_); try clear hN hE hR Qs) | ((first | refine kN _ ?_ | refine kE _ ?_ | refine kX _ _ rfl ?_ | refine kR _ ?_); try clear kN kE kX kR Qb)) | (refine ccA ([]) (c1) ?_) | (refine ccA ([]) (c2) ?_) | (refine ccA ([]) (c3) ?_) | (refine And.intro (by kernel_rfl) ?_) | (refine stpQ ?_))
 (refine z00 (by rfl) ?_ ?_ (by rfl)) <;> (repeat' (first | (exact eqA) | (refine shE ?_) | (refine And.intro ?_ ?_)))
theorem zi1 (ho ep : Int) (ro pr : Bs) (a : Int) (z1 z2 z3 : List (List T)) (h : Fits 1048576 z0K [.int .i64 ho, .int .i64 ep, .str ro, .str pr, .int .i64 a, .sl 1 z1, .sl 1 z2, .sl 1 z3]) :
 CT Tryz.prog 145 [] [.agg [.int .i64 ho, .int .i64 ep, .str ro, .str pr, .int .i64 a, .sl 1 z1, .sl 1 z2, .sl 1 z3]] (.agg [.int .i64 ho, .int .i64 ep, .str ro, .str pr, .int .i64 a, .ref 1, .ref 2, .ref 3]) [.deep 1 z1 [], .deep 1 z2 [], .deep 1 z3 []] := by
 obtain ⟨m0, m1, m2, m3, m4, m5, m6, m7, he, q0, q1, q2, q3, q4, q5, q6, q7, -⟩ := z2k h
 simp only [List.cons.injEq, T.int.injEq, T.str.injEq, T.sl.injEq, true_and, and_true] at he
 obtain ⟨e0, e1, e2, e3, e4, e5, e6, e7⟩ := he
 subst e0 e1 e2 e3 e4 e5 e6 e7
 have c0 := ze4 [.int .i64 ho, .int .i64 ep, .str ro, .str pr] (z79 q0 q1 q2 q3)
 have c1 := zju a z1 z2 z3 q5 q6 q7
 refine z01 z03 1 rfl Tryz.func145 rfl rfl rfl ?_
 conv => arg 6; whnf
 repeat ((try conv => whnf); first | (with_reducible first | refine z0c (fun Qs hN hE hR => ?_) | refine z0a ?_ | refine z04 (fun Qb kN kE kX kR => ?_) | refine z06 ?_ | refine z07 ?_ | refine z0b ?_ | refine z08 ?_ | refine z09 ?_ | (show W _ _ _ (.cond _ _ _) _ _; refine z05 rfl ?_) | (refine hN _ ?_; try clear hN hE hR Qs; (try (conv => arg 6; dsimp only [ovl, List.set, List.map, ren0]))) | ((first | refine hE _ _ ?_ | refine hR _ ?_); try clear hN hE hR Qs) | ((first | refine kN _ ?_ | refine kE _ ?_ | refine kX _ _ rfl ?_ | refine kR _ ?_); try clear kN kE kX kR Qb)) | (refine ccA ([]) (c0) ?_) | (refine ccA ([]) (c1) ?_) | (refine And.intro (by kernel_rfl) ?_) | (refine stpQ ?_))
 (refine z00 (by rfl) ?_ ?_ (by rfl)) <;> (repeat' (first | (exact eqA) | (refine shE ?_) | (refine And.intro ?_ ?_)))
theorem zfe (l : List Sa) (h : l.length ≤ 1048576) (hz : ∀ e ∈ saL l, Fits 1048576 z0K e) : CT Tryz.prog 80 [] [.sl 8 (saL l)] (.ref 1) [.deep 8 (saD l) []] := by
 have hl := z7u l
 have hl2 := z9G l
 refine z01 z03 1 rfl Tryz.func80 rfl rfl rfl ?_
 conv => arg 6; whnf
 repeat ((try conv => whnf); first | (with_reducible first | refine z0c (fun Qs hN hE hR => ?_) | refine z0a ?_ | refine z04 (fun Qb kN kE kX kR => ?_) | refine z06 ?_ | refine z07 ?_ | refine z0b ?_ | refine z08 ?_ | refine z09 ?_ | (show W _ _ _ (.cond _ _ _) _ _; refine z05 rfl ?_) | (refine hN _ ?_; try clear hN hE hR Qs; (try (conv => arg 6; dsimp only [ovl, List.set, List.map, ren0]))) | ((first | refine hE _ _ ?_ | refine hR _ ?_); try clear hN hE hR Qs) | ((first | refine kN _ ?_ | refine kE _ ?_ | refine kX _ _ rfl ?_ | refine kR _ ?_); try clear kN kE kX kR Qb)) | (refine stpQ ?_))
 refine z0n 0 ⟨[(3, .ref 1)], [(1, some (.deep 8 (saD l) []))], 2⟩ Nat (fun i => ⟨[(0, .sl 8 (saL l)), (3, .ref 1), (4, .int .i64 (i : Int))], [(1, some (.deep 8 ((saD l).take i ++ List.replicate ((saL l).length - i) [.int .i64 0, .int .i64 0, .str [], .str [], .int .i64 0, .val nilV, .val nilV, .val nilV]) []))], 2⟩) (fun i => i ≤ l.length) (fun i => l.length - i) 0 (Nat.zero_le _) ?_ ?_ ?_
 ·(refine z02 (by rfl) ?_ ?_) <;> (repeat' (first | (exact eqA) | (refine shE ?_) | (refine And.intro ?_ ?_))) <;> first | rfl | decide | exact CvE.refl (zjt _)
 ·intro i hi
  by_cases hlt : i < l.length
  ·have f1 : (i : Int) < ((saL l).length : Int) := by omega
   have g := zc6 hlt
   have hfe := hz _ (List.mem_of_getElem? g)
   have hgD : (saD l)[i]? = some (saC l[i]) := by simp [saD, hlt]
   have hnx := z2h (zero := ([.int .i64 0, .int .i64 0, .str [], .str [], .int .i64 0, .val nilV, .val nilV, .val nilV] : List T)) hgD
   rw [hl2, ← hl] at hnx
   have hlo : ((saD l).take i ++ List.replicate ((saL l).length - i) ([.int .i64 0, .int .i64 0, .str [], .str [], .int .i64 0, .val nilV, .val nilV, .val nilV] : List T)).length = l.length := by rw [List.length_append, List.length_take, List.length_replicate]; omega
   have hio : ((saD l).take i ++ List.replicate ((saL l).length - i) ([.int .i64 0, .int .i64 0, .str [], .str [], .int .i64 0, .val nilV, .val nilV, .val nilV] : List T))[i]? = some [.int .i64 0, .int .i64 0, .str [], .str [], .int .i64 0, .val nilV, .val nilV, .val nilV] := by
    rw [List.getElem?_append_right (by rw [List.length_take]; omega), List.length_take, List.getElem?_replicate, if_pos (by omega)]
   generalize (saD l).take i ++ List.replicate ((saL l).length - i) ([.int .i64 0, .int .i64 0, .str [], .str [], .int .i64 0, .val nilV, .val nilV, .val nilV] : List T) = o at hnx hlo hio ⊢
   have i1 : i < o.length := by omega
   clear hgD
   generalize l[i] = v at *
   obtain ⟨ho, ep, ro, pr, a, op, sh, si⟩ := v
   unfold saE z1u z1Z at g hfe
   unfold saC at hnx
   have c1 := zi1 ho ep ro pr a (strE op) (strE sh) (strE si) hfe
   repeat ((try conv => whnf); first | (with_reducible first | refine z0c (fun Qs hN hE hR => ?_) | refine z0a ?_ | refine z04 (fun Qb kN kE kX kR => ?_) | refine z06 ?_ | refine z07 ?_ | refine z0b ?_ | refine z08 ?_ | refine z09 ?_ | (show W _ _ _ (.cond _ _ _) _ _; refine z05 rfl ?_) | (refine hN _ ?_; try clear hN hE hR Qs; (try (conv => arg 6; dsimp only [ovl, List.set, List.map, ren0]))) | ((first | refine hE _ _ ?_ | refine hR _ ?_); try clear hN hE hR Qs) | ((first | refine kN _ ?_ | refine kE _ ?_ | refine kX _ _ rfl ?_ | refine kR _ ?_); try clear kN kE kX kR Qb)) | (refine z0o f1 ?_) | (refine And.intro i1 ?_) | (refine i_at g ?_) | (refine ccA ([]) (c1) ?_) | (refine Exists.intro _ (And.intro hio ?_)) | (refine And.intro (by kernel_rfl) ?_) | (refine stpQ ?_))
   refine ⟨i + 1, hlt, by omega, ?_⟩
   rw [← hnx]
   (refine z02 (by rfl) ?_ ?_) <;> (repeat' (first | (exact eqA) | (refine shE ?_) | (refine And.intro ?_ ?_))) <;> rfl
  ·have hie : i = l.length := by omega
   subst hie
   have f1 : ¬ ((l.length : Nat) : Int) < ((saL l).length : Int) := by omega
   repeat ((try conv => whnf); first | (with_reducible first | refine z0c (fun Qs hN hE hR => ?_) | refine z0a ?_ | refine z04 (fun Qb kN kE kX kR => ?_) | refine z06 ?_ | refine z07 ?_ | refine z0b ?_ | refine z08 ?_ | refine z09 ?_ | (show W _ _ _ (.cond _ _ _) _ _; refine z05 rfl ?_) | (refine hN _ ?_; try clear hN hE hR Qs; (try (conv => arg 6; dsimp only [ovl, List.set, List.map, ren0]))) | ((first | refine hE _ _ ?_ | refine hR _ ?_); try clear hN hE hR Qs) | ((first | refine kN _ ?_ | refine kE _ ?_ | refine kX _ _ rfl ?_ | refine kR _ ?_); try clear kN kE kX kR Qb)) | (refine z0j f1 ?_) | (refine stpQ ?_))
   rw [hl, Nat.sub_self, List.replicate_zero, List.append_nil, ← hl2, List.take_length]
   (refine z02 (by rfl) ?_ ?_) <;> (repeat' (first | (exact eqA) | (refine shE ?_) | (refine And.intro ?_ ?_))) <;> rfl
 ·repeat ((try conv => whnf); first | (with_reducible first | refine z0c (fun Qs hN hE hR => ?_) | refine z0a ?_ | refine z04 (fun Qb kN kE kX kR => ?_) | refine z06 ?_ | refine z07 ?_ | refine z0b ?_ | refine z08 ?_ | refine z09 ?_ | (show W _ _ _ (.cond _ _ _) _ _; refine z05 rfl ?_) | (refine hN _ ?_; try clear hN hE hR Qs; (try (conv => arg 6; dsimp only [ovl, List.set, List.map, ren0]))) | ((first | refine hE _ _ ?_ | refine hR _ ?_); try clear hN hE hR Qs) | ((first | refine kN _ ?_ | refine kE _ ?_ | refine kX _ _ rfl ?_ | refine kR _ ?_); try clear kN kE kX kR Qb)) | (refine stpQ ?_))
  (refine z00 (by rfl) ?_ ?_ (by rfl)) <;> (repeat' (first | (exact eqA) | (refine shE ?_) | (refine And.intro ?_ ?_)))
theorem zff (a K : Int) (up : Bool) (ty : Int) (ak : Bool) (f p t v d : List (List T)) (l : List Sa) (h3 : f.length ≤ 1048576 ∧ ∀ e ∈ f, Fits 1048576 z0D e) (h4 : p.length ≤ 1048576 ∧ ∀ e ∈ p, Fits 1048576 .str e) (hl : l.length ≤ 1048576) (h5 : ∀ e ∈ saL l, Fits 1048576 z0K e) (h6 : t.length ≤ 1048576 ∧ ∀ e ∈ t, Fits 1048576 .int e) (h9 : v.length ≤ 1048576 ∧ ∀ e ∈ v, Fits 1048576 .str e) (h10 : d.length ≤ 1048576 ∧ ∀ e ∈ d, Fits 1048576 .bool e) :
 CT Tryz.prog 24 [] [.agg [.int .i64 a, .int .i64 K, .bool up, .sl 3 f, .sl 1 p, .sl 8 (saL l), .sl 1 t, .int .i64 ty, .bool ak, .sl 1 v, .sl 1 d]] (.agg [.int .i64 a, .int .i64 K, .bool up, .ref 1, .ref 2, .ref 3, .ref 4, .int .i64 ty, .bool ak, .ref 5, .ref 6]) [.deep 3 f [], .deep 1 p [], .deep 8 (saD l) [], .deep 1 t [], .deep 1 v [], .deep 1 d []] := by
 have c1 := zbk f h3
 have c2 := z2n p h4
 have c3 := zfe l hl h5
 have c4 := zhU t h6
 have c5 := z2n v h9
 have c6 := zfc d h10
 refine z01 z03 1 rfl Tryz.func24 rfl rfl rfl ?_
 conv => arg 6; whnf
 repeat ((try conv => whnf); first | (with_reducible first | refine z0c (fun Qs hN hE hR => ?_) | refine z0a ?_ | refine z04 (fun Qb kN kE kX kR => ?_) | refine z06 ?_ | refine z07 ?_ | refine z0b ?_ | refine z08 ?_ | refine z09 ?_ | (show W _ _ _ (.cond _ _ _) _ _; refine z05 rfl ?_) | (refine hN _ ?_; try clear hN hE hR Qs; (try (conv => arg 6; dsimp only [ovl, List.set, List.map, ren0]))) | ((first | refine hE _ _ ?_ | refine hR _ ?_); try clear hN hE hR Qs) | ((first | refine kN _ ?_ | refine kE _ ?_ | refine kX _ _ rfl ?_ | refine kR _ ?_); try clear kN kE kX kR Qb)) | (refine ccA ([]) (c1) ?_) | (refine ccA ([]) (c2) ?_) | (refine ccA ([]) (c3) ?_) | (refine ccA ([]) (c4) ?_) | (refine ccA ([]) (c5) ?_) | (refine ccA ([]) (c6) ?_) | (refine And.intro (by kernel_rfl) ?_) | (refine stpQ ?_))
 (refine z00 (by rfl) ?_ ?_ (by rfl)) <;> (repeat' (first | (exact eqA) | (refine shE ?_) | (refine And.intro ?_ ?_)))
end
end Go.Proofs.YtnhcfmmdaihneaaGreatDoor
namespace Go.Proofs.YtnhcfmmdaihneaaGreatDoor
set_option maxRecDepth 100000
set_option maxHeartbeats 8000000
set_option linter.unusedVariables false
set_option linter.unusedSimpArgs false
set_option linter.unusedSectionVars false
open Go.RowKit Pl
section
attribute [local irreducible] z0w z0x z0A AnsP LeP W CvE
theorem zfg (a : Int) (z1 z2 z3 : List (List T)) (h1 : (z1.length : Int) ≤ 1000000000) (h2 : (z2.length : Int) ≤ 1000000000) (h3 : (z3.length : Int) ≤ 1000000000) :
 CT Tryz.prog 197 [] [.agg [.int .i64 a, .sl 1 z1, .sl 1 z2, .sl 1 z3]] (.agg [.int .i64 a, .sl 1 z1, .sl 1 z2, .sl 1 z3]) [] := by
 refine z01 z03 1 rfl Tryz.func197 rfl rfl rfl ?_
 conv => arg 6; whnf
 repeat ((try conv => whnf); first | (with_reducible first | refine z0c (fun Qs hN hE hR => ?_) | refine z0a ?_ | refine z04 (fun Qb kN kE kX kR => ?_) | refine z06 ?_ | refine z07 ?_ | refine z0b ?_ | refine z08 ?_ | refine z09 ?_ | (show W _ _ _ (.cond _ _ _) _ _; refine z05 rfl ?_) | (refine hN _ ?_; try clear hN hE hR Qs; (try (conv => arg 6; dsimp only [ovl, List.set, List.map, ren0]))) | ((first | refine hE _ _ ?_ | refine hR _ ?_); try clear hN hE hR Qs) | ((first | refine kN _ ?_ | refine kE _ ?_ | refine kX _ _ rfl ?_ | refine kR _ ?_); try clear kN kE kX kR Qb)) | (refine And.intro (by simp only [List.length_append, List.length_set, List.length_replicate, List.length_cons, List.length_nil, List.nil_append]; omega) ?_) | (refine And.intro (by kernel_rfl) ?_) | (refine stpQ ?_))
 (refine z00 (by rfl) ?_ ?_ (by rfl)) <;> (repeat' (first | (exact eqA) | (refine shE ?_) | (refine And.intro ?_ ?_)))
theorem zcG (ho ep : Int) (ro pr : Bs) (a : Int) (z1 z2 z3 : List (List T)) (h1 : (z1.length : Int) ≤ 1000000000) (h2 : (z2.length : Int) ≤ 1000000000) (h3 : (z3.length : Int) ≤ 1000000000) :
 CT Tryz.prog 144 [] [.agg [.int .i64 ho, .int .i64 ep, .str ro, .str pr, .int .i64 a, .sl 1 z1, .sl 1 z2, .sl 1 z3]] (.agg [.int .i64 ho, .int .i64 ep, .str ro, .str pr, .int .i64 a, .sl 1 z1, .sl 1 z2, .sl 1 z3]) [] := by
 have c1 := zfg a z1 z2 z3 h1 h2 h3
 refine z01 z03 1 rfl Tryz.func144 rfl rfl rfl ?_
 conv => arg 6; whnf
 repeat ((try conv => whnf); first | (with_reducible first | refine z0c (fun Qs hN hE hR => ?_) | refine z0a ?_ | refine z04 (fun Qb kN kE kX kR => ?_) | refine z06 ?_ | refine z07 ?_ | refine z0b ?_ | refine z08 ?_ | refine z09 ?_ | (show W _ _ _ (.cond _ _ _) _ _; refine z05 rfl ?_) | (refine hN _ ?_; try clear hN hE hR Qs; (try (conv => arg 6; dsimp only [ovl, List.set, List.map, ren0]))) | ((first | refine hE _ _ ?_ | refine hR _ ?_); try clear hN hE hR Qs) | ((first | refine kN _ ?_ | refine kE _ ?_ | refine kX _ _ rfl ?_ | refine kR _ ?_); try clear kN kE kX kR Qb)) | (refine ccA ([]) (c1) ?_) | (refine And.intro (by kernel_rfl) ?_) | (refine stpQ ?_))
 (refine z00 (by rfl) ?_ ?_ (by rfl)) <;> (repeat' (first | (exact eqA) | (refine shE ?_) | (refine And.intro ?_ ?_)))
theorem zbp (a K : Int) (up : Bool) (ty : Int) (ak : Bool) (f p t v d : List (List T)) (l : List Sa) (hf : f.length ≤ 1048576) (hp : p.length ≤ 1048576) (hl : l.length ≤ 1048576) (hs : ∀ x ∈ l, z5P x) (ht : t.length ≤ 1048576) (hv : v.length ≤ 1048576) (hd : d.length ≤ 1048576) :
 CT Tryz.prog 78 [] [.agg [.int .i64 a, .int .i64 K, .bool up, .sl 3 f, .sl 1 p, .sl 8 (saL l), .sl 1 t, .int .i64 ty, .bool ak, .sl 1 v, .sl 1 d]] (.agg [.int .i64 a, .int .i64 K, .bool up, .sl 3 f, .sl 1 p, .sl 8 (saL l), .sl 1 t, .int .i64 ty, .bool ak, .sl 1 v, .sl 1 d]) [] := by
 have l1 := z7u l
 refine z01 z03 1 rfl Tryz.func78 rfl rfl rfl ?_
 conv => arg 6; whnf
 repeat ((try conv => whnf); first | (with_reducible first | refine z0c (fun Qs hN hE hR => ?_) | refine z0a ?_ | refine z04 (fun Qb kN kE kX kR => ?_) | refine z06 ?_ | refine z07 ?_ | refine z0b ?_ | refine z08 ?_ | refine z09 ?_ | (show W _ _ _ (.cond _ _ _) _ _; refine z05 rfl ?_) | (refine hN _ ?_; try clear hN hE hR Qs; (try (conv => arg 6; dsimp only [ovl, List.set, List.map, ren0]))) | ((first | refine hE _ _ ?_ | refine hR _ ?_); try clear hN hE hR Qs) | ((first | refine kN _ ?_ | refine kE _ ?_ | refine kX _ _ rfl ?_ | refine kR _ ?_); try clear kN kE kX kR Qb)) | (refine And.intro (by simp only [List.length_append, List.length_set, List.length_replicate, List.length_cons, List.length_nil, List.nil_append]; omega) ?_) | (refine And.intro (by kernel_rfl) ?_) | (refine stpQ ?_))
 refine z0n 0 ⟨[(1, .ptr 1 0 0), (2, .ptr 2 0 0), (3, .ptr 3 0 0)], [(1, some (.box [.int .i64 a, .int .i64 K, .bool up, .sl 3 f, .sl 1 p, .sl 8 (saL l), .sl 1 t, .int .i64 ty, .bool ak, .sl 1 v, .sl 1 d])), (2, some (.box [.int .i64 0, .int .i64 0, .bool false, .val nilV, .val nilV, .val nilV, .val nilV, .int .i64 0, .bool false, .val nilV, .val nilV])), (3, some (.box [.int .i64 a, .int .i64 K, .bool up, .sl 3 f, .sl 1 p, .ref 4, .sl 1 t, .int .i64 ty, .bool ak, .sl 1 v, .sl 1 d])), (4, some (.row 8 (saL l)))], 5⟩ Nat (fun i => ⟨[(1, .ptr 1 0 0), (2, .ptr 2 0 0), (3, .ptr 3 0 0), (4, .int .i64 (i : Int))], [(1, some (.box [.int .i64 a, .int .i64 K, .bool up, .sl 3 f, .sl 1 p, .sl 8 (saL l), .sl 1 t, .int .i64 ty, .bool ak, .sl 1 v, .sl 1 d])), (2, some (.box [.int .i64 0, .int .i64 0, .bool false, .val nilV, .val nilV, .val nilV, .val nilV, .int .i64 0, .bool false, .val nilV, .val nilV])), (3, some (.box [.int .i64 a, .int .i64 K, .bool up, .sl 3 f, .sl 1 p, .ref 4, .sl 1 t, .int .i64 ty, .bool ak, .sl 1 v, .sl 1 d])), (4, some (.row 8 (saL (l.take i))))], 5⟩) (fun i => i ≤ l.length) (fun i => l.length - i) 0 (Nat.zero_le _) ?_ ?_ ?_
 ·(refine z02 (by rfl) ?_ ?_) <;> (repeat' (first | (exact eqA) | (refine shE ?_) | (refine And.intro ?_ ?_))) <;> first | rfl | (simp; done)
 ·intro i hi
  by_cases hlt : i < l.length
  ·have f1 : (i : Int) < ((saL l).length : Int) := by omega
   have f2 : i < (saL l).length := by omega
   have gi := zc6 hlt
   have hn : l.take (i + 1) = l.take i ++ [l[i]] := by simp
   obtain ⟨v1, v2, v3⟩ := hs _ (List.getElem_mem hlt)
   have hw : (saL (l.take i)).length ≤ 1048576 := by rw [z7u, List.length_take]; omega
   have m1 : l.length - (i + 1) < l.length - i := by omega
   generalize l[i] = x at *
   obtain ⟨ho, ep, ro, pr, sa, op, sh, si⟩ := x
   have a1 := z0m op
   have a2 := z0m sh
   have a3 := z0m si
   simp only at v1 v2 v3
   have c1 := zcG ho ep ro pr sa (strE op) (strE sh) (strE si) (by omega) (by omega) (by omega)
   unfold saE z1u z1Z at gi
   repeat ((try conv => whnf); first | (with_reducible first | refine z0c (fun Qs hN hE hR => ?_) | refine z0a ?_ | refine z04 (fun Qb kN kE kX kR => ?_) | refine z06 ?_ | refine z07 ?_ | refine z0b ?_ | refine z08 ?_ | refine z09 ?_ | (show W _ _ _ (.cond _ _ _) _ _; refine z05 rfl ?_) | (refine hN _ ?_; try clear hN hE hR Qs; (try (conv => arg 6; dsimp only [ovl, List.set, List.map, ren0]))) | ((first | refine hE _ _ ?_ | refine hR _ ?_); try clear hN hE hR Qs) | ((first | refine kN _ ?_ | refine kE _ ?_ | refine kX _ _ rfl ?_ | refine kR _ ?_); try clear kN kE kX kR Qb)) | (refine z0o f1 ?_) | (refine i_at gi ?_) | (refine And.intro f2 ?_) | (refine Exists.intro _ (And.intro gi ?_)) | (refine ccA ([]) (c1) ?_) | (refine And.intro (by simp only [List.length_append, List.length_set, List.length_replicate, List.length_cons, List.length_nil, List.nil_append]; omega) ?_) | (refine And.intro (by kernel_rfl) ?_) | (refine stpQ ?_))
   refine ⟨i + 1, hlt, m1, ?_⟩
   rw [hn, zlo]
   (refine z02 (by rfl) ?_ ?_) <;> (repeat' (first | (exact eqA) | (refine shE ?_) | (refine And.intro ?_ ?_))) <;> rfl
  ·obtain rfl : i = l.length := by omega
   have f1 : ¬ (l.length : Int) < ((saL l).length : Int) := by omega
   repeat ((try conv => whnf); first | (with_reducible first | refine z0c (fun Qs hN hE hR => ?_) | refine z0a ?_ | refine z04 (fun Qb kN kE kX kR => ?_) | refine z06 ?_ | refine z07 ?_ | refine z0b ?_ | refine z08 ?_ | refine z09 ?_ | (show W _ _ _ (.cond _ _ _) _ _; refine z05 rfl ?_) | (refine hN _ ?_; try clear hN hE hR Qs; (try (conv => arg 6; dsimp only [ovl, List.set, List.map, ren0]))) | ((first | refine hE _ _ ?_ | refine hR _ ?_); try clear hN hE hR Qs) | ((first | refine kN _ ?_ | refine kE _ ?_ | refine kX _ _ rfl ?_ | refine kR _ ?_); try clear kN kE kX kR Qb)) | (refine z0j f1 ?_) | (refine stpQ ?_))
   rw [List.take_length]
   (refine z02 (by rfl) ?_ ?_) <;> (repeat' (first | (exact eqA) | (refine shE ?_) | (refine And.intro ?_ ?_))) <;> rfl
 ·repeat ((try conv => whnf); first | (with_reducible first | refine z0c (fun Qs hN hE hR => ?_) | refine z0a ?_ | refine z04 (fun Qb kN kE kX kR => ?_) | refine z06 ?_ | refine z07 ?_ | refine z0b ?_ | refine z08 ?_ | refine z09 ?_ | (show W _ _ _ (.cond _ _ _) _ _; refine z05 rfl ?_) | (refine hN _ ?_; try clear hN hE hR Qs; (try (conv => arg 6; dsimp only [ovl, List.set, List.map, ren0]))) | ((first | refine hE _ _ ?_ | refine hR _ ?_); try clear hN hE hR Qs) | ((first | refine kN _ ?_ | refine kE _ ?_ | refine kX _ _ rfl ?_ | refine kR _ ?_); try clear kN kE kX kR Qb)) | (refine And.intro (by simp only [List.length_append, List.length_set, List.length_replicate, List.length_cons, List.length_nil, List.nil_append]; omega) ?_) | (refine And.intro (by kernel_rfl) ?_) | (refine stpQ ?_))
  (refine z00 (by rfl) ?_ ?_ (by rfl)) <;> (repeat' (first | (exact eqA) | (refine shE ?_) | (refine And.intro ?_ ?_)))
theorem zfh (a K : Int) (ty : Int) (ak : Bool) (f p t v d : List (List T)) (l : List Sa) (hf : f.length ≤ 1048576) (hp : p.length ≤ 1048576) (hl : l.length ≤ 1048576) (hs : ∀ x ∈ l, z5P x) (ht : t.length ≤ 1048576) (hv : v.length ≤ 1048576) (hd : d.length ≤ 1048576) :
 CT Tryz.prog 23 [] [.agg [.int .i64 a, .int .i64 K, .bool true, .sl 3 f, .sl 1 p, .sl 8 (saL l), .sl 1 t, .int .i64 ty, .bool ak, .sl 1 v, .sl 1 d]] (.agg [.int .i64 a, .int .i64 K, .bool true, .sl 3 f, .sl 1 p, .sl 8 (saL l), .sl 1 t, .int .i64 ty, .bool ak, .sl 1 v, .sl 1 d]) [] := by
 have c1 := zbp a K true ty ak f p t v d l hf hp hl hs ht hv hd
 refine z01 z03 1 rfl Tryz.func23 rfl rfl rfl ?_
 conv => arg 6; whnf
 repeat ((try conv => whnf); first | (with_reducible first | refine z0c (fun Qs hN hE hR => ?_) | refine z0a ?_ | refine z04 (fun Qb kN kE kX kR => ?_) | refine z06 ?_ | refine z07 ?_ | refine z0b ?_ | refine z08 ?_ | refine z09 ?_ | (show W _ _ _ (.cond _ _ _) _ _; refine z05 rfl ?_) | (refine hN _ ?_; try clear hN hE hR Qs; (try (conv => arg 6; dsimp only [ovl, List.set, List.map, ren0]))) | ((first | refine hE _ _ ?_ | refine hR _ ?_); try clear hN hE hR Qs) | ((first | refine kN _ ?_ | refine kE _ ?_ | refine kX _ _ rfl ?_ | refine kR _ ?_); try clear kN kE kX kR Qb)) | (refine ccA ([]) (c1) ?_) | (refine stpQ ?_))
 (refine z00 (by rfl) ?_ ?_ (by rfl)) <;> (repeat' (first | (exact eqA) | (refine shE ?_) | (refine And.intro ?_ ?_)))
theorem zi2 (a K : Int) (ty : Int) (ak : Bool) (f p t v d : List (List T)) (l : List Sa) (wf : WfFl f) (wp : WfSt p) (wt : WfIt t) (wv : WfSt v) (wd : WfBo d) (hf : f.length ≤ 1048576) (hp : p.length ≤ 1048576) (hl : l.length ≤ 1048576) (hs : ∀ x ∈ l, z5P x) (ht : t.length ≤ 1048576) (hv : v.length ≤ 1048576) (hd : d.length ≤ 1048576) :
 CT Tryz.prog 25 [] [.agg [.int .i64 a, .int .i64 K, .bool true, .sl 3 f, .sl 1 p, .sl 8 (saL l), .sl 1 t, .int .i64 ty, .bool ak, .sl 1 v, .sl 1 d]] (.agg [.int .i64 a, .int .i64 K, .bool true, .ref 1, .ref 2, .ref 3, .ref 4, .int .i64 ty, .bool ak, .ref 5, .ref 6]) [.deep 3 f [], .deep 1 p [], .deep 8 (saD l) [], .deep 1 t [], .deep 1 v [], .deep 1 d []] := by
 have c1 := zbo a K true ty ak f p t v d l wf wp wt wv wd hf hp hl hs ht hv hd
 refine z01 z03 1 rfl Tryz.func25 rfl rfl rfl ?_
 conv => arg 6; whnf
 repeat ((try conv => whnf); first | (with_reducible first | refine z0c (fun Qs hN hE hR => ?_) | refine z0a ?_ | refine z04 (fun Qb kN kE kX kR => ?_) | refine z06 ?_ | refine z07 ?_ | refine z0b ?_ | refine z08 ?_ | refine z09 ?_ | (show W _ _ _ (.cond _ _ _) _ _; refine z05 rfl ?_) | (refine hN _ ?_; try clear hN hE hR Qs; (try (conv => arg 6; dsimp only [ovl, List.set, List.map, ren0]))) | ((first | refine hE _ _ ?_ | refine hR _ ?_); try clear hN hE hR Qs) | ((first | refine kN _ ?_ | refine kE _ ?_ | refine kX _ _ rfl ?_ | refine kR _ ?_); try clear kN kE kX kR Qb)) | (refine ccA ([]) (c1) ?_) | (refine stpQ ?_))
 (refine z00 (by rfl) ?_ ?_ (by rfl)) <;> (repeat' (first | (exact eqA) | (refine shE ?_) | (refine And.intro ?_ ?_)))
theorem zfi (a K : Int) (ty : Int) (ak : Bool) (fs : List Fl) (p s t v d : List (List T)) (hf : z2T fs) : ∃ n, n ≤ 4 ∧
 CT Tryz.prog 23 [] [.agg [.int .i64 a, .int .i64 K, .bool false, .sl 3 (flE fs), .sl 1 p, .sl 8 s, .sl 1 t, .int .i64 ty, .bool ak, .sl 1 v, .sl 1 d]] (.agg (cvE a K fs (z1c (z1x a) 16) (cvA a (z0i fs z0g)) (emV n) (emD n))) [] ∧
 CT Tryz.prog 25 [] [.agg [.int .i64 a, .int .i64 K, .bool false, .sl 3 (flE fs), .sl 1 p, .sl 8 s, .sl 1 t, .int .i64 ty, .bool ak, .sl 1 v, .sl 1 d]] (.agg [.int .i64 a, .int .i64 K, .bool true, .ref 1, .ref 2, .ref 3, .ref 4, .int .i64 ((cvA a (z0i fs z0g)).ty : Int), .bool false, .ref 5, .ref 6]) [.deep 3 (flE fs) [], .deep 1 (strE (z1c (z1x a) 16)) [], .deep 8 (sdE (cvA a (z0i fs z0g)).se) [], .deep 1 (ntE (cvA a (z0i fs z0g)).tr) [], .deep 1 (emV n) [], .deep 1 (emD n) []] := by
 obtain ⟨n, hn, c1, c2'⟩ := z7G a K fs hf
 have c2 := c2' (flE fs) rfl
 clear c2'
 refine ⟨n, hn, ?_, ?_⟩
 ·clear c2
  generalize z1c (z1x a) 16 = P at *
  generalize cvA a (z0i fs z0g) = x at *
  unfold cvE at *
  refine z01 z03 1 rfl Tryz.func23 rfl rfl rfl ?_
  conv => arg 6; whnf
  repeat ((try conv => whnf); first | (with_reducible first | refine z0c (fun Qs hN hE hR => ?_) | refine z0a ?_ | refine z04 (fun Qb kN kE kX kR => ?_) | refine z06 ?_ | refine z07 ?_ | refine z0b ?_ | refine z08 ?_ | refine z09 ?_ | (show W _ _ _ (.cond _ _ _) _ _; refine z05 rfl ?_) | (refine hN _ ?_; try clear hN hE hR Qs; (try (conv => arg 6; dsimp only [ovl, List.set, List.map, ren0]))) | ((first | refine hE _ _ ?_ | refine hR _ ?_); try clear hN hE hR Qs) | ((first | refine kN _ ?_ | refine kE _ ?_ | refine kX _ _ rfl ?_ | refine kR _ ?_); try clear kN kE kX kR Qb)) | (refine ccA ([]) (c1) ?_) | (refine stpQ ?_))
  (refine z00 (by rfl) ?_ ?_ (by rfl)) <;> (repeat' (first | (exact eqA) | (refine shE ?_) | (refine And.intro ?_ ?_)))
 ·clear c1
  generalize z1c (z1x a) 16 = P at *
  generalize cvA a (z0i fs z0g) = x at *
  refine z01 z03 1 rfl Tryz.func25 rfl rfl rfl ?_
  conv => arg 6; whnf
  repeat ((try conv => whnf); first | (with_reducible first | refine z0c (fun Qs hN hE hR => ?_) | refine z0a ?_ | refine z04 (fun Qb kN kE kX kR => ?_) | refine z06 ?_ | refine z07 ?_ | refine z0b ?_ | refine z08 ?_ | refine z09 ?_ | (show W _ _ _ (.cond _ _ _) _ _; refine z05 rfl ?_) | (refine hN _ ?_; try clear hN hE hR Qs; (try (conv => arg 6; dsimp only [ovl, List.set, List.map, ren0]))) | ((first | refine hE _ _ ?_ | refine hR _ ?_); try clear hN hE hR Qs) | ((first | refine kN _ ?_ | refine kE _ ?_ | refine kX _ _ rfl ?_ | refine kR _ ?_); try clear kN kE kX kR Qb)) | (refine ccA ([]) (c2) ?_) | (refine stpQ ?_))
  (refine z00 (by rfl) ?_ ?_ (by rfl)) <;> (repeat' (first | (exact eqA) | (refine shE ?_) | (refine And.intro ?_ ?_)))
theorem z7H (a K : Int) (up : Bool) (ty : Int) (ak : Bool) (f p t v d : List (List T)) (l : List Sa)
 (f0 : Fits maxLen z0Q [.int .i64 a, .int .i64 K, .bool up, .sl 3 f, .sl 1 p, .sl 8 (saL l), .sl 1 t, .int .i64 ty, .bool ak, .sl 1 v, .sl 1 d])
 (y0 : ¬ szG z0Q [.int .i64 a, .int .i64 K, .bool up, .sl 3 f, .sl 1 p, .sl 8 (saL l), .sl 1 t, .int .i64 ty, .bool ak, .sl 1 v, .sl 1 d] 1048576 < 0)
 (q : Fits 1048576 z0Q [.int .i64 a, .int .i64 K, .bool up, .sl 3 f, .sl 1 p, .sl 8 (saL l), .sl 1 t, .int .i64 ty, .bool ak, .sl 1 v, .sl 1 d])
 (h3 : f.length ≤ 1048576 ∧ ∀ e ∈ f, Fits 1048576 z0D e) (h4 : p.length ≤ 1048576 ∧ ∀ e ∈ p, Fits 1048576 .str e) (hl : l.length ≤ 1048576) (h5 : ∀ e ∈ saL l, Fits 1048576 z0K e) (hs : ∀ x ∈ l, z5P x) (h6 : t.length ≤ 1048576 ∧ ∀ e ∈ t, Fits 1048576 .int e) (h9 : v.length ≤ 1048576 ∧ ∀ e ∈ v, Fits 1048576 .str e) (h10 : d.length ≤ 1048576 ∧ ∀ e ∈ d, Fits 1048576 .bool e)
 (up' : Bool) (ty' : Int) (ak' : Bool) (p' t' v' d' : List (List T)) (l' : List Sa)
 (ho : Fits 1048576 z0Q [.int .i64 a, .int .i64 K, .bool up', .sl 3 f, .sl 1 p', .sl 8 (saL l'), .sl 1 t', .int .i64 ty', .bool ak', .sl 1 v', .sl 1 d'])
 (hl' : l'.length ≤ 1048576) (hs' : ∀ x ∈ l', z5P x) (h4' : p'.length ≤ 1048576 ∧ ∀ e ∈ p', Fits 1048576 .str e) (h6' : t'.length ≤ 1048576 ∧ ∀ e ∈ t', Fits 1048576 .int e) (h9' : v'.length ≤ 1048576 ∧ ∀ e ∈ v', Fits 1048576 .str e) (h10' : d'.length ≤ 1048576 ∧ ∀ e ∈ d', Fits 1048576 .bool e)
 (s1 : CT Tryz.prog 23 [] [.agg [.int .i64 a, .int .i64 K, .bool up, .sl 3 f, .sl 1 p, .sl 8 (saL l), .sl 1 t, .int .i64 ty, .bool ak, .sl 1 v, .sl 1 d]] (.agg [.int .i64 a, .int .i64 K, .bool up', .sl 3 f, .sl 1 p', .sl 8 (saL l'), .sl 1 t', .int .i64 ty', .bool ak', .sl 1 v', .sl 1 d']) [])
 (s2' : CT Tryz.prog 25 [] [.agg [.int .i64 a, .int .i64 K, .bool up, .sl 3 f, .sl 1 p, .sl 8 (saL l), .sl 1 t, .int .i64 ty, .bool ak, .sl 1 v, .sl 1 d]] (.agg [.int .i64 a, .int .i64 K, .bool up', .ref 1, .ref 2, .ref 3, .ref 4, .int .i64 ty', .bool ak', .ref 5, .ref 6]) [.deep 3 f [], .deep 1 p' [], .deep 8 (saD l') [], .deep 1 t' [], .deep 1 v' [], .deep 1 d' []]) :
 CT Tryz.prog 5 [] [.agg [.int .i64 a, .int .i64 K, .bool up, .sl 3 f, .sl 1 p, .sl 8 (saL l), .sl 1 t, .int .i64 ty, .bool ak, .sl 1 v, .sl 1 d]] (.bool true) [] := by
 have wf := z9B h3.2
 have wp := z3z h4.2
 have wt := z6y h6.2
 have wv := z3z h9.2
 have wd := z6z h10.2
 have wp' := z3z h4'.2
 have wt' := z6y h6'.2
 have wv' := z3z h9'.2
 have wd' := z6z h10'.2
 have ef : ucE f = f := z2g fun e he c hc => by
  obtain ⟨x, y, z, rfl⟩ := wf e he
  simp only [List.mem_cons, List.not_mem_nil, or_false] at hc
  rcases hc with rfl | rfl | rfl <;> rfl
 have c0 := zbl _ 1048576 f0 (by omega)
 generalize szG z0Q _ 1048576 = r0 at c0 y0
 have t0 := zhP _ q
 have t1 := zff a K up ty ak f p t v d l h3 h4 hl h5 h6 h9 h10
 have s2 : CT Tryz.prog 25 [] [.agg [.int .i64 a, .int .i64 K, .bool up, .sl 3 (ucE f), .sl 1 (ucE p), .sl 8 (ucE (saD l)), .sl 1 (ucE t), .int .i64 ty, .bool ak, .sl 1 (ucE v), .sl 1 (ucE d)]] (.agg [.int .i64 a, .int .i64 K, .bool up', .ref 1, .ref 2, .ref 3, .ref 4, .int .i64 ty', .bool ak', .ref 5, .ref 6]) [.deep 3 f [], .deep 1 p' [], .deep 8 (saD l') [], .deep 1 t' [], .deep 1 v' [], .deep 1 d' []] := by
  rw [ef, z3Z wp, zi0, z9H wt, z3Z wv, z9I wd]
  exact s2'
 have u1 := z5T a K up' ty' ak' _ _ _ _ _ _ ho (ucE f) (ucE p') (ucE (saD l')) (ucE t') (ucE v') (ucE d') f p' (saL l') t' v' d' ef (z3Z wp') (zi0 l') (z9H wt') (z3Z wv') (z9I wd') rfl rfl rfl rfl rfl rfl
 have u2 := z5T a K up ty ak _ _ _ _ _ _ q (ucE f) (ucE p) (ucE (saD l)) (ucE t) (ucE v) (ucE d) (ucE f) (ucE p) (ucE (saD l)) (ucE t) (ucE v) (ucE d) ef (z3Z wp) (zi0 l) (z9H wt) (z3Z wv) (z9I wd) ef (z3Z wp) (zi0 l) (z9H wt) (z3Z wv) (z9I wd)
 have k1 := h3.1
 have k2 := h4.1
 have k3 := h6.1
 have k4 := h9.1
 have k5 := h10.1
 have k6 := h4'.1
 have k7 := h6'.1
 have k8 := h9'.1
 have k9 := h10'.1
 have n1 := zjW f
 have n2 := z3E p
 have n3 := zlq l hs
 have n4 := zhj t
 have n5 := z3E v
 have n6 := zhk d
 have o2 := z3E p'
 have o3 := zlq l' hs'
 have o4 := zhj t'
 have o5 := z3E v'
 have o6 := zhk d'
 have z1 := z9G l
 have z2 := z9G l'
 have d1 := z3w a K up ty ak f wf (by omega) p wp (by omega) (saD l) (zlp l hs) (by omega) t wt (by omega) v wv (by omega) d wd (by omega) 1 (by decide) (by omega)
 have d2 := z3w a K up' ty' ak' f wf (by omega) p' wp' (by omega) (saD l') (zlp l' hs') (by omega) t' wt' (by omega) v' wv' (by omega) d' wd' (by omega) 1 (by decide) (by omega)
 have d3 := z4F a K up' ty' ak' f wf (by omega) p' wp' (by omega) (saD l') (zlp l' hs') (by omega) t' wt' (by omega) v' wv' (by omega) d' wd' (by omega) 1 (by decide) (by omega)
 have y1 : ¬ ((1 + cnG szFl f + cnG szSt p + cnG szSl (saD l) + cnG szIt t + cnG szSt v + cnG szBo d : Nat) : Int) < 0 := by omega
 generalize ((1 + cnG szFl f + cnG szSt p + cnG szSl (saD l) + cnG szIt t + cnG szSt v + cnG szBo d : Nat) : Int) = m1' at d1 y1
 generalize mkG elFl szFl 1 f = r1 at d1
 generalize mkG elSt szSt _ p = r2 at d1
 generalize mkG elSl szSl _ (saD l) = r3 at d1
 generalize mkG elIt szIt _ t = r4 at d1
 generalize mkG elSt szSt _ v = r5 at d1
 generalize mkG elBo szBo _ d = r6 at d1
 have y2 : ¬ ((1 + cnG szFl f + cnG szSt p' + cnG szSl (saD l') + cnG szIt t' + cnG szSt v' + cnG szBo d' : Nat) : Int) < 0 := by omega
 generalize ((1 + cnG szFl f + cnG szSt p' + cnG szSl (saD l') + cnG szIt t' + cnG szSt v' + cnG szBo d' : Nat) : Int) = m2' at d2 d3 y2
 have y3 : m2' = m2' := rfl
 generalize mkG elFl szFl 1 f = p1 at d2 d3
 generalize mkG elSt szSt _ p' = p2 at d2 d3
 generalize mkG elSl szSl _ (saD l') = p3 at d2 d3
 generalize mkG elIt szIt _ t' = p4 at d2 d3
 generalize mkG elSt szSt _ v' = p5 at d2 d3
 generalize mkG elBo szBo _ d' = p6 at d2 d3
 clear n1 n2 n3 n4 n5 n6 o2 o3 o4 o5 o6 k1 k2 k3 k4 k5 k6 k7 k8 k9 z1 z2 ho q f0 h3 h4 h5 h6 h9 h10 h4' h6' h9' h10' hs hs' hl hl' wf wp wt wv wd wp' wt' wv' wd' ef s2'
 generalize saL l = sl at *
 generalize saL l' = sl' at *
 generalize saD l = sd at *
 generalize saD l' = sd' at *
 refine z01 z03 1 rfl Tryz.func5 rfl rfl rfl ?_
 conv => arg 6; whnf
 repeat ((try conv => whnf); first | (with_reducible first | refine z0c (fun Qs hN hE hR => ?_) | refine z0a ?_ | refine z04 (fun Qb kN kE kX kR => ?_) | refine z06 ?_ | refine z07 ?_ | refine z0b ?_ | refine z08 ?_ | refine z09 ?_ | (show W _ _ _ (.cond _ _ _) _ _; refine z05 rfl ?_) | (refine hN _ ?_; try clear hN hE hR Qs; (try (conv => arg 6; dsimp only [ovl, List.set, List.map, ren0]))) | ((first | refine hE _ _ ?_ | refine hR _ ?_); try clear hN hE hR Qs) | ((first | refine kN _ ?_ | refine kE _ ?_ | refine kX _ _ rfl ?_ | refine kR _ ?_); try clear kN kE kX kR Qb)) | (refine ccA ([]) (c0) ?_) | (refine z0j y0 ?_) | (refine stpQ ?_))
 iterate 1 ((try conv => whnf); first | (with_reducible first | refine z0c (fun Qs hN hE hR => ?_) | refine z0a ?_ | refine z04 (fun Qb kN kE kX kR => ?_) | refine z06 ?_ | refine z07 ?_ | refine z0b ?_ | refine z08 ?_ | refine z09 ?_ | (show W _ _ _ (.cond _ _ _) _ _; refine z05 rfl ?_) | (refine hN _ ?_; try clear hN hE hR Qs; (try (conv => arg 6; dsimp only [ovl, List.set, List.map, ren0]))) | ((first | refine hE _ _ ?_ | refine hR _ ?_); try clear hN hE hR Qs) | ((first | refine kN _ ?_ | refine kE _ ?_ | refine kX _ _ rfl ?_ | refine kR _ ?_); try clear kN kE kX kR Qb)) | (refine ccA ([]) (t0) ?_) | (refine stpQ ?_))
 repeat ((try conv => whnf); first | (with_reducible first | refine z0c (fun Qs hN hE hR => ?_) | refine z0a ?_ | refine z04 (fun Qb kN kE kX kR => ?_) | refine z06 ?_ | refine z07 ?_ | refine z0b ?_ | refine z08 ?_ | refine z09 ?_ | (show W _ _ _ (.cond _ _ _) _ _; refine z05 rfl ?_) | (refine hN _ ?_; try clear hN hE hR Qs; (try (conv => arg 6; dsimp only [ovl, List.set, List.map, ren0]))) | ((first | refine hE _ _ ?_ | refine hR _ ?_); try clear hN hE hR Qs) | ((first | refine kN _ ?_ | refine kE _ ?_ | refine kX _ _ rfl ?_ | refine kR _ ?_); try clear kN kE kX kR Qb)) | (refine ccA ([]) (s1) ?_) | (refine stpQ ?_))
 repeat ((try conv => whnf); first | (with_reducible first | refine z0c (fun Qs hN hE hR => ?_) | refine z0a ?_ | refine z04 (fun Qb kN kE kX kR => ?_) | refine z06 ?_ | refine z07 ?_ | refine z0b ?_ | refine z08 ?_ | refine z09 ?_ | (show W _ _ _ (.cond _ _ _) _ _; refine z05 rfl ?_) | (refine hN _ ?_; try clear hN hE hR Qs; (try (conv => arg 6; dsimp only [ovl, List.set, List.map, ren0]))) | ((first | refine hE _ _ ?_ | refine hR _ ?_); try clear hN hE hR Qs) | ((first | refine kN _ ?_ | refine kE _ ?_ | refine kX _ _ rfl ?_ | refine kR _ ?_); try clear kN kE kX kR Qb)) | (refine ccA ([]) (t1) ?_) | (refine ccA ([]) (s2) ?_) | (refine ccA ([]) (u1) ?_) | (refine ccA ([]) (u2) ?_) | (refine ccB ([_, _, _, _, _, _]) (d1) ?_) | (refine ccB ([_, _, _, _, _, _]) (d2) ?_) | (refine ccB ([_, _, _, _, _, _]) (d3) ?_) | (refine z0j y1 ?_) | (refine z0j y2 ?_) | (refine z0S y3 ?_) | (refine And.intro (by kernel_rfl) ?_) | (refine stpQ ?_))
 (refine z00 (by rfl) ?_ ?_ (by rfl)) <;> (repeat' (first | (exact eqA) | (refine shE ?_) | (refine And.intro ?_ ?_)))
theorem zi3 (e0 : List T) (f0 : Fits maxLen z0Q e0) (h0 : szG z0Q e0 1048576 < 0) : CT Tryz.prog 5 [] [.agg e0] (.bool true) [] := by
 have c0 := zbl e0 1048576 f0 (by omega)
 obtain ⟨n0, n1, b2, z3, z4, z5, z6, n7, b8, z9, z10, rfl, -⟩ := z28 f0
 generalize szG z0Q _ 1048576 = r0 at c0 h0
 refine z01 z03 1 rfl Tryz.func5 rfl rfl rfl ?_
 conv => arg 6; whnf
 repeat ((try conv => whnf); first | (with_reducible first | refine z0c (fun Qs hN hE hR => ?_) | refine z0a ?_ | refine z04 (fun Qb kN kE kX kR => ?_) | refine z06 ?_ | refine z07 ?_ | refine z0b ?_ | refine z08 ?_ | refine z09 ?_ | (show W _ _ _ (.cond _ _ _) _ _; refine z05 rfl ?_) | (refine hN _ ?_; try clear hN hE hR Qs; (try (conv => arg 6; dsimp only [ovl, List.set, List.map, ren0]))) | ((first | refine hE _ _ ?_ | refine hR _ ?_); try clear hN hE hR Qs) | ((first | refine kN _ ?_ | refine kE _ ?_ | refine kX _ _ rfl ?_ | refine kR _ ?_); try clear kN kE kX kR Qb)) | (refine ccA ([]) (c0) ?_) | (refine z0o h0 ?_) | (refine stpQ ?_))
 (refine z00 (by rfl) ?_ ?_ (by rfl)) <;> (repeat' (first | (exact eqA) | (refine shE ?_) | (refine And.intro ?_ ?_)))
end
theorem zjv {s : Cv} (g4 : ∀ x ∈ s.se, x.1.good ∧ x.2.good) : ∀ x ∈ s.se.map saOf, z5P x := fun x hx => by
 simp only [List.mem_map] at hx
 obtain ⟨y, hy, rfl⟩ := hx
 have := zk0 (g4 y hy).2
 exact ⟨by simp only [saOf]; omega, by simp only [saOf]; omega, by simp only [saOf]; omega⟩
theorem z7Z (e0 : List T) (f0 : Fits maxLen z0Q e0) : CT Tryz.prog 5 [] [.agg e0] (.bool true) [] := by
 have g0 := z5s (N := 1048576) z0Q e0 1048576 (by omega) f0 (by omega)
 by_cases h0 : szG z0Q e0 1048576 < 0
 ·exact zi3 e0 f0 h0
 have q := g0 (by omega)
 obtain ⟨a, K, up, z3, p, z5, t, ty, ak, v, d, rfl, hA, hK, -, q3, q4, q5, q6, q7, -, q9, q10, -⟩ := z28 q
 obtain ⟨fs, rfl, h3⟩ := zk2 q3.2
 obtain ⟨l, rfl, hs⟩ := dec_sa q5.2
 have a3 := q3.1
 have a5 := q5.1
 rw [z3c] at a3
 rw [z7u] at a5
 have hf := zk3 (by omega) a3 h3
 cases up with
 | true =>
   exact z7H a K true ty ak (flE fs) p t v d l f0 h0 q q3 q4 a5 q5.2 hs q6 q9 q10 true ty ak p t v d l q a5 hs q4 q6 q9 q10 (zfh a K ty ak (flE fs) p t v d l q3.1 q4.1 a5 hs q6.1 q9.1 q10.1) (zi2 a K ty ak (flE fs) p t v d l (z9B q3.2) (z3z q4.2) (z6y q6.2) (z3z q9.2) (z6z q10.2) q3.1 q4.1 a5 hs q6.1 q9.1 q10.1)
 | false =>
   obtain ⟨n, hn, s1, s2⟩ := zfi a K ty ak fs p (saL l) t v d hf
   have gS : z4b a (cvA a (z0i fs z0g)) := z8y a _
   have lP := z1D (z1x a) 16
   have wP : ∀ x ∈ z1c (z1x a) 16, x.length ≤ 1048576 := fun x hx => by have := z5K x hx; omega
   generalize z1c (z1x a) 16 = P at s1 s2 lP wP
   generalize cvA a (z0i fs z0g) = s at s1 s2 gS
   have fe := zhm a K hA hK fs q3 P (by omega) wP s gS n hn
   obtain ⟨g1, g2, g3⟩ := zch gS
   obtain ⟨g4, g5⟩ := zhl gS
   unfold cvE at s1 fe
   rw [zl3] at s1 fe
   rw [sd_sa] at s2
   have qq := fe
   obtain ⟨m0, m1, m2, m3, m4, m5, m6, m7, m8, m9, m10, he, -, -, -, -, r4, r5, r6, -, -, r9, r10, -⟩ := z28 qq
   simp only [List.cons.injEq, T.sl.injEq, true_and, and_true] at he
   obtain ⟨-, -, -, -, e4, e5, e6, -, -, e9, e10⟩ := he
   subst e4 e6 e9 e10
   exact z7H a K false ty ak (flE fs) p t v d l f0 h0 q q3 q4 a5 q5.2 hs q6 q9 q10 true (s.ty : Int) false (strE P) (ntE s.tr) (emV n) (emD n) (s.se.map saOf) fe (by simp; omega) (zjv g4) r4 r6 r9 r10 s1 s2
end Go.Proofs.YtnhcfmmdaihneaaGreatDoor
