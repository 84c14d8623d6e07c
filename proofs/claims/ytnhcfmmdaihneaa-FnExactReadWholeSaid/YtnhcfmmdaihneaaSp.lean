/- Functions by content: the program verifies signatures, seals and stamps. Functions by content: the program verifies seals and stamps. Functions by content: a complete proof is verified. Functions by content: a complete proof is encoded. Functions by content: a complete proof is decoded from its text. -/
import Derived.Test.YtnhcfmmdaihneaaTt
import Derived.Test.YtnhcfmmdaihneaaPs
namespace Go.Proofs.Ytnhcfmmdaihneaa
set_option maxRecDepth 100000
set_option maxHeartbeats 2000000
set_option linter.unusedVariables false
set_option linter.unusedSimpArgs false
set_option linter.unusedSectionVars false
open Go.RowKit Pl
attribute [local irreducible] z0m z0o z0s AnsP LeP
theorem zaO {l : List Bs} {n : Nat} (hn : l.length = n) (h : ∀ x ∈ l, x.length = 16) : ((l.all fun x => decide ((x.length : Int) = 16)) && decide ((l.length : Int) = (n : Int))) = true := by
 rw [Bool.and_eq_true, List.all_eq_true, decide_eq_true_eq]
 exact ⟨fun x hx => by have := h x hx; simp; omega, by omega⟩
theorem z4J (n : Int) : CT Try.prog 24 [] [.int .i64 n] (.bool (inB n 0 2)) [] := by
 have c1 := c_in n 0 2
 generalize inB n 0 2 = b at c1 ⊢
 refine z01 z0y 1 rfl Try.func24 rfl rfl rfl ?_
 repeat ((try conv => whnf); first | (refine ccA ([]) (c1) ?_) | (refine stpQ ?_))
 (refine z00 (by rfl) ?_ ?_ (by rfl)) <;> (repeat' (first | (exact eqA) | (refine shE ?_) | (refine And.intro ?_ ?_)))
theorem z7a (n : Int) : CT Try.prog 83 [] [.int .i64 n] (.bool (inB n 1 4)) [] := by
 have c1 := c_in n 1 4
 generalize inB n 1 4 = b at c1 ⊢
 refine z01 z0y 1 rfl Try.func83 rfl rfl rfl ?_
 repeat ((try conv => whnf); first | (refine ccA ([]) (c1) ?_) | (refine stpQ ?_))
 (refine z00 (by rfl) ?_ ?_ (by rfl)) <;> (repeat' (first | (exact eqA) | (refine shE ?_) | (refine And.intro ?_ ?_)))
theorem z5p {n : Int} (h : 0 ≤ n ∧ n ≤ 2) : CT Try.prog 24 [] [.int .i64 n] (.bool true) [] := by
 have := z4J n
 rwa [z12.2 h] at this
theorem z9w {n : Int} (h : 1 ≤ n ∧ n ≤ 4) : CT Try.prog 83 [] [.int .i64 n] (.bool true) [] := by
 have := z7a n
 rwa [z12.2 h] at this
def sgB (s : Sg) : Bool := inB (s.a : Int) 0 15 && (s.op.all fun x => decide ((x.length : Int) = 16)) && decide ((s.op.length : Int) = 8) && (s.sh.all fun x => decide ((x.length : Int) = 16)) && decide ((s.sh.length : Int) = 8) && (s.si.all fun x => decide ((x.length : Int) = 16)) && decide ((s.si.length : Int) = 4)
theorem zbI (s : Sg) (h1 : (s.op.length : Int) ≤ 1000000) (h2 : (s.sh.length : Int) ≤ 1000000) (h3 : (s.si.length : Int) ≤ 1000000) : CT Try.prog 25 [] [.agg (sgE s)] (.bool (sgB s)) [] := by
 obtain ⟨a, op, sh, si⟩ := s
 have c1 := c_in (a : Int) 0 15
 simp only at h1 h2 h3
 have c2 := z1B op 8 16 (by omega)
 have c3 := z1B sh 8 16 (by omega)
 have c4 := z1B si 4 16 (by omega)
 show CT _ _ _ _ (.bool (inB (a : Int) 0 15 && (op.all fun x => decide ((x.length : Int) = 16)) && decide ((op.length : Int) = 8) && (sh.all fun x => decide ((x.length : Int) = 16)) && decide ((sh.length : Int) = 8) && (si.all fun x => decide ((x.length : Int) = 16)) && decide ((si.length : Int) = 4))) _
 rw [Bool.and_assoc (inB (a : Int) 0 15), Bool.and_assoc (inB (a : Int) 0 15 && _), Bool.and_assoc (inB (a : Int) 0 15 && _ && _)]
 generalize inB (a : Int) 0 15 = b1 at c1 ⊢
 generalize ((op.all fun x => decide ((x.length : Int) = 16)) && decide ((op.length : Int) = 8)) = b2 at c2 ⊢
 generalize ((sh.all fun x => decide ((x.length : Int) = 16)) && decide ((sh.length : Int) = 8)) = b3 at c3 ⊢
 generalize ((si.all fun x => decide ((x.length : Int) = 16)) && decide ((si.length : Int) = 4)) = b4 at c4 ⊢
 refine z01 z0y 1 rfl Try.func25 rfl rfl rfl ?_
 cases b1
 ·repeat ((try conv => whnf); first | (refine ccA ([]) (c1) ?_) | (refine stpQ ?_))
  (refine z00 (by rfl) ?_ ?_ (by rfl)) <;> (repeat' (first | (exact eqA) | (refine shE ?_) | (refine And.intro ?_ ?_))) <;> rfl
 cases b2
 ·repeat ((try conv => whnf); first | (refine ccA ([]) (c1) ?_) | (refine ccA ([]) (c2) ?_) | (refine stpQ ?_))
  (refine z00 (by rfl) ?_ ?_ (by rfl)) <;> (repeat' (first | (exact eqA) | (refine shE ?_) | (refine And.intro ?_ ?_))) <;> rfl
 cases b3
 ·repeat ((try conv => whnf); first | (refine ccA ([]) (c1) ?_) | (refine ccA ([]) (c2) ?_) | (refine ccA ([]) (c3) ?_) | (refine stpQ ?_))
  (refine z00 (by rfl) ?_ ?_ (by rfl)) <;> (repeat' (first | (exact eqA) | (refine shE ?_) | (refine And.intro ?_ ?_))) <;> rfl
 cases b4
 ·repeat ((try conv => whnf); first | (refine ccA ([]) (c1) ?_) | (refine ccA ([]) (c2) ?_) | (refine ccA ([]) (c3) ?_) | (refine ccA ([]) (c4) ?_) | (refine stpQ ?_))
  (refine z00 (by rfl) ?_ ?_ (by rfl)) <;> (repeat' (first | (exact eqA) | (refine shE ?_) | (refine And.intro ?_ ?_))) <;> rfl
 ·repeat ((try conv => whnf); first | (refine ccA ([]) (c1) ?_) | (refine ccA ([]) (c2) ?_) | (refine ccA ([]) (c3) ?_) | (refine ccA ([]) (c4) ?_) | (refine stpQ ?_))
  (refine z00 (by rfl) ?_ ?_ (by rfl)) <;> (repeat' (first | (exact eqA) | (refine shE ?_) | (refine And.intro ?_ ?_))) <;> rfl
theorem zbJ {s : Sg} (g : s.good) : sgB s = true := by
 obtain ⟨a, op, sh, si⟩ := s
 obtain ⟨h1, ⟨h2, h3⟩, ⟨h4, h5⟩, h6, h7⟩ := g
 simp only at h1 h2 h3 h4 h5 h6 h7
 have w2 := zaO h2 h3
 have w3 := zaO h4 h5
 have w4 := zaO h6 h7
 rw [Bool.and_eq_true] at w2 w3 w4
 simp only [sgB, Bool.and_eq_true]
 exact ⟨⟨⟨⟨⟨⟨z12.2 (by omega), w2.1⟩, w2.2⟩, w3.1⟩, w3.2⟩, w4.1⟩, w4.2⟩
theorem z7b (s : Sg) (g : s.good) : CT Try.prog 25 [] [.agg (sgE s)] (.bool true) [] := by
 have := zbI s (by have := g.2.1.1; omega) (by have := g.2.2.1.1; omega) (by have := g.2.2.2.1; omega)
 rwa [zbJ g] at this
end Go.Proofs.Ytnhcfmmdaihneaa
namespace Go.Proofs.Ytnhcfmmdaihneaa
set_option maxRecDepth 100000
set_option maxHeartbeats 2000000
set_option linter.unusedVariables false
set_option linter.unusedSimpArgs false
set_option linter.unusedSectionVars false
open Go.RowKit Pl
attribute [local irreducible] z0m z0o z0s AnsP LeP
theorem zbK (h : Hd) (g : h.good) : CT Try.prog 78 [] [.agg (hdE h)] (.bool true) [] := by
 obtain ⟨ho, ep, ro, pr⟩ := h
 obtain ⟨h1, h2, h3, h4, h5⟩ := g
 simp only at h1 h2 h3 h4 h5
 have c1 := z5p (n := (ho : Int)) (by omega)
 have c2 := z9w (n := (ep : Int)) (by omega)
 have hr : (ro.length : Int) = 16 := by omega
 by_cases he : ep = 1
 ·rw [if_pos he] at h5
  subst he h5
  refine z01 z0y 1 rfl Try.func78 rfl rfl rfl ?_
  repeat ((try conv => whnf); first | (refine ccA ([]) (c1) ?_) | (refine ccA ([]) (c2) ?_) | (refine stpQ ?_))
  (refine z00 (by rfl) ?_ ?_ (by rfl)) <;> (repeat' (first | (exact eqA) | (refine shE ?_) | (refine And.intro ?_ ?_))) <;> first | rfl | decide
 ·rw [if_neg he] at h5
  have he2 : ¬ (ep : Int) = 1 := by omega
  have hq : (pr.length : Int) = 16 := by omega
  refine z01 z0y 1 rfl Try.func78 rfl rfl rfl ?_
  repeat ((try conv => whnf); first | (refine ccA ([]) (c1) ?_) | (refine ccA ([]) (c2) ?_) | (refine stpQ ?_))
  (refine z00 (by rfl) ?_ ?_ (by rfl)) <;> (repeat' (first | (exact eqA) | (refine shE ?_) | (refine And.intro ?_ ?_))) <;> first | rfl | (exact decide_eq_true hq) | simp [hq]
end Go.Proofs.Ytnhcfmmdaihneaa
namespace Go.Proofs.Ytnhcfmmdaihneaa
set_option maxRecDepth 100000
set_option maxHeartbeats 4000000
set_option linter.unusedVariables false
set_option linter.unusedSimpArgs false
set_option linter.unusedSectionVars false
open Go.RowKit Pl
attribute [local irreducible] z0m z0o z0s AnsP LeP
end Go.Proofs.Ytnhcfmmdaihneaa
namespace Go.Proofs.Ytnhcfmmdaihneaa
set_option maxRecDepth 100000
set_option maxHeartbeats 4000000
set_option linter.unusedVariables false
set_option linter.unusedSimpArgs false
set_option linter.unusedSectionVars false
open Go.RowKit Pl
attribute [local irreducible] z0m z0o z0s AnsP LeP
end Go.Proofs.Ytnhcfmmdaihneaa
namespace Go.Proofs.Ytnhcfmmdaihneaa
set_option maxRecDepth 100000
set_option maxHeartbeats 4000000
set_option linter.unusedVariables false
set_option linter.unusedSimpArgs false
set_option linter.unusedSectionVars false
open Go.RowKit Pl
attribute [local irreducible] z0m z0o z0s AnsP LeP
theorem zaP (t : Bs) (p a : Nat) (r : Bs) (ht : (t.length : Int) ≤ 1000000000) (hp : p ≤ t.length) (ha : a < 256) (h : t.drop p = [UInt8.ofNat a] ++ r) :
 CT Try.prog 22 [fldB t p false] [.ptr 1 0 0] (.int .i64 (a : Int)) [fldB t (p + 1) false] := by
 have c := z4H t p false 1 ht hp
 rw [z2o (n := 1) (l := [UInt8.ofNat a]) rfl h] at c
 simp only at c
 have hx : (UInt8.ofNat a).toNat = a := by simp [UInt8.toNat_ofNat']; omega
 have h1 := z6Y (UInt8.ofNat a)
 rw [hx] at h1
 have h2 : (UInt8.ofNat a).toNat = a := hx
 generalize UInt8.ofNat a = x at c h1 h2
 subst h2
 have hne : ¬ (([x] : Bs) = []) := fun h => by cases h
 have h0 : 0 < ([x] : Bs).length := by simp
 refine z01 z1o 2 rfl Try.func22 rfl rfl rfl ?_
 repeat ((try conv => whnf); first | (refine ccB ([1]) (c) ?_) | (refine z0z hne ?_) | (refine Exists.intro 0 (And.intro rfl (And.intro h0 ?_))) | (refine Exists.intro _ (And.intro h1.symm ?_)) | (refine stpQ ?_))
 (refine z00 (by rfl) ?_ ?_ (by rfl)) <;> (repeat' (first | (exact eqA) | (refine shE ?_) | (refine And.intro ?_ ?_)))
theorem c_sig (t : Bs) (p : Nat) (s : Sg) (r : Bs) (g : s.good) (ht : (t.length : Int) ≤ 1000000000) (hp : p ≤ t.length) (h : t.drop p = sigB s ++ r) :
 CT Try.prog 23 [fldB t p false] [.ptr 1 0 0] (.agg (sgE s)) [fldB t (p + 321) false] := by
 obtain ⟨a, op, sh, si⟩ := s
 obtain ⟨h1, ⟨h2, h3⟩, ⟨h4, h5⟩, h6, h7⟩ := g
 simp only at h1 h2 h3 h4 h5 h6 h7
 have e0 : t.drop p = [UInt8.ofNat a] ++ (op.flatten ++ (sh.flatten ++ (si.flatten ++ r))) := by rw [h]; simp [sigB]
 have l2 := z1g h3
 have l4 := z1g h5
 have l6 := z1g h7
 rw [h2] at l2
 rw [h4] at l4
 rw [h6] at l6
 have e1 := z0k rfl e0
 have p1 := z0U hp rfl e0
 simp only [List.length_cons, List.length_nil, Nat.zero_add] at e1 p1
 have e2 := z0k l2 e1
 have p2 := z0U p1 l2 e1
 have e3 := z0k l4 e2
 have p3 := z0U p2 l4 e2
 have c0 := zaP t p a _ ht hp (by omega) e0
 have d1 := z1t h3 e1
 have d2 := z1t h5 e2
 have d3 := z1t h7 e3
 rw [h2, l2] at d1
 rw [h4, l4] at d2
 rw [h6, l6] at d3
 have c1 := z1j t (p + 1) false 8 16 ht p1 (by omega)
 have c2 := z1j t (p + 1 + 16 * 8) false 8 16 ht p2 (by omega)
 have c3 := z1j t (p + 1 + 16 * 8 + 16 * 8) false 4 16 ht p3 (by omega)
 rw [d1] at c1
 rw [d2] at c2
 rw [d3] at c3
 simp only at c1 c2 c3
 clear e0 e1 e2 e3 d1 d2 d3
 rw [show p + 321 = p + 1 + 16 * 8 + 16 * 8 + 16 * 4 by omega]
 generalize p + 1 + 16 * 8 + 16 * 8 + 16 * 4 = q4 at c3 ⊢
 generalize p + 1 + 16 * 8 + 16 * 8 = q3 at c2 c3
 generalize p + 1 + 16 * 8 = q2 at c1 c2
 generalize p + 1 = q1 at c0 c1
 show CT _ _ _ _ (.agg [.int .i64 (a : Int), .sl 1 (strE op), .sl 1 (strE sh), .sl 1 (strE si)]) _
 refine z01 z0y 2 rfl Try.func23 rfl rfl rfl ?_
 repeat ((try conv => whnf); first | (refine ccB ([1]) (c0) ?_) | (refine ccB ([1]) (c1) ?_) | (refine ccB ([1]) (c2) ?_) | (refine ccB ([1]) (c3) ?_) | (refine And.intro (by kernel_rfl) ?_) | (refine stpQ ?_))
 (refine z00 (by rfl) ?_ ?_ (by rfl)) <;> (repeat' (first | (exact eqA) | (refine shE ?_) | (refine And.intro ?_ ?_)))
theorem z3O (h : Hd) (g : h.good) : CT Try.prog 72 [] [.str (z0E h)] (.tup [.agg (hdE h), .bool true]) [] := by
 have hl := z0B g
 have k1 := zbK h g
 obtain ⟨ho, ep, ro, pr⟩ := h
 obtain ⟨h1, h2, h3, h4, h5⟩ := g
 simp only at h1 h2 h3 h4 h5
 have e0 : (z0E ⟨ho, ep, ro, pr⟩).drop 0 = [UInt8.ofNat ho] ++ ([UInt8.ofNat ep] ++ (ro ++ pr)) := by simp [z0E]
 have p0 : 0 ≤ (z0E ⟨ho, ep, ro, pr⟩).length := by omega
 generalize z0E ⟨ho, ep, ro, pr⟩ = t at hl e0 p0 ⊢
 have e1 := z0k rfl e0
 have p1 := z0U p0 rfl e0
 simp only [List.length_cons, List.length_nil, Nat.zero_add] at e1 p1
 have e2 := z0k rfl e1
 have p2 := z0U p1 rfl e1
 simp only [List.length_cons, List.length_nil, Nat.zero_add, Nat.reduceAdd] at e2 p2
 have e3 := z0k h4 e2
 have p3 := z0U p2 h4 e2
 simp only [Nat.reduceAdd] at e3 p3
 have c0 := zaP t 0 ho _ (by omega) p0 (by omega) e0
 have c1 := zaP t 1 ep _ (by omega) p1 (by omega) e1
 have c2 := z4H t 2 false 16 (by omega) p2
 rw [z2o h4 e2] at c2
 simp only [Nat.zero_add, Nat.reduceAdd] at c0 c1 c2
 subst e3
 refine z01 z0y 1 rfl Try.func72 rfl rfl rfl ?_
 repeat ((try conv => whnf); first | (refine ccB ([_]) (c0) ?_) | (refine ccB ([_]) (c1) ?_) | (refine ccB ([_]) (c2) ?_) | (refine ccA ([]) (k1) ?_) | (refine Exists.intro 18 (And.intro rfl (And.intro p3 ?_))) | (refine And.intro (by kernel_rfl) ?_) | (refine stpQ ?_))
 (refine z00 (by rfl) ?_ ?_ (by rfl)) <;> (repeat' (first | (exact eqA) | (refine shE ?_) | (refine And.intro ?_ ?_))) <;> rfl
theorem z9x (h : Hd) (s : Sg) (g : h.good) (gs : s.good) : CT Try.prog 21 [] [.str (z0F h s)] (.tup [.agg (hdE h ++ sgE s), .bool true]) [] := by
 have hl := z0B g
 have hs := z1F gs
 have hsl := z0x (l := z0E h) (by omega)
 have hsb : (z0F h s).length = (z09 (z0E h)).length + 321 := by rw [z0F, List.length_append, hs]
 have e0 : (z0F h s).drop 0 = z09 (z0E h) ++ (sigB s ++ []) := by simp [z0F]
 have p0 : 0 ≤ (z0F h s).length := by omega
 generalize z0F h s = t at hsb e0 p0 ⊢
 have e1 := z0k rfl e0
 have p1 := z0U p0 rfl e0
 simp only [Nat.zero_add] at e1 p1
 have c0 := z2n t 0 false (by omega) p0
 rw [z0T (by omega) e0] at c0
 have k0 := z3O h g
 have c1 := c_sig t (z09 (z0E h)).length s [] gs (by omega) p1 e1
 have k1 := z7b s gs
 have c2 := z5n t ((z09 (z0E h)).length + 321) false
 rw [show z2i false ((z09 (z0E h)).length + 321) t.length = true by rw [hsb]; simp [z2i]] at c2
 simp only [Nat.zero_add] at c0
 generalize (z09 (z0E h)).length + 321 = q2 at c1 c2
 generalize (z09 (z0E h)).length = q1 at c0 c1
 generalize z0E h = hb at c0 k0
 obtain ⟨ho, ep, ro, pr⟩ := h
 obtain ⟨a, op, sh, si⟩ := s
 have cS : CT Try.prog 55 [fldB t 0 false] [.ptr 1 0 0] (.agg (hdE ⟨ho, ep, ro, pr⟩ ++ sgE ⟨a, op, sh, si⟩)) [fldB t q2 false] := by
  refine z01 z0y 2 rfl Try.func55 rfl rfl rfl ?_
  repeat ((try conv => whnf); first | (refine ccB ([1]) (c0) ?_) | (refine ccA ([]) (k0) ?_) | (refine ccB ([_]) (c1) ?_) | (refine ccA ([]) (k1) ?_) | (refine And.intro (by kernel_rfl) ?_) | (refine stpQ ?_))
  (refine z00 (by rfl) ?_ ?_ (by rfl)) <;> (repeat' (first | (exact eqA) | (refine shE ?_) | (refine And.intro ?_ ?_))) <;> rfl
 refine z01 z0y 1 rfl Try.func21 rfl rfl rfl ?_
 repeat ((try conv => whnf); first | (refine ccB ([_]) (cS) ?_) | (refine ccB ([_]) (c2) ?_) | (refine And.intro (by kernel_rfl) ?_) | (refine stpQ ?_))
 (refine z00 (by rfl) ?_ ?_ (by rfl)) <;> (repeat' (first | (exact eqA) | (refine shE ?_) | (refine And.intro ?_ ?_)))
end Go.Proofs.Ytnhcfmmdaihneaa
