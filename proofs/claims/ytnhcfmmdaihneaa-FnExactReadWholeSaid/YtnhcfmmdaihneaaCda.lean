/- Functions by content: a seal is read; its rows are told as rows that may be moved. -/
import Derived.Test.YtnhcfmmdaihneaaCi
import Derived.Test.YtnhcfmmdaihneaaVe
namespace Go.Proofs.Ytnhcfmmdaihneaa
set_option maxRecDepth 100000
set_option maxHeartbeats 8000000
set_option linter.unusedVariables false
set_option linter.unusedSimpArgs false
set_option linter.unusedSectionVars false
open Go.RowKit Pl
attribute [local irreducible] z0m z0o z0s AnsP LeP CvE
def flac : T → Bool
 | .own _ _ => false
 | _ => true
theorem zbN {c : T} (h : flac c = true) : ucT c = c := by cases c <;> first | rfl | cases h
theorem z8Y : ∀ {cs : List T}, (∀ c ∈ cs, flac c = true) → ucL cs = cs
 | [], _ => by simp [ucL]
 | c :: cs, h => by simp only [ucL]; rw [zbN (h c (by simp)), z8Y fun c hc => h c (by simp [hc])]
theorem z6c : ∀ {es : List (List T)}, (∀ e ∈ es, ∀ c ∈ e, flac c = true) → ucE es = es
 | [], _ => by simp [ucE]
 | e :: es, h => by simp only [ucE]; rw [z8Y (h e (by simp)), z6c fun e he => h e (by simp [he])]
theorem zd7 (l : List Bs) : ∀ e ∈ strE l, ∀ c ∈ e, cl0 c := fun e he c hc => by
 simp only [strE, List.mem_map] at he
 obtain ⟨x, _, rfl⟩ := he
 rw [List.mem_singleton] at hc
 subst hc; trivial
theorem z6d (l : List Bs) : ucE (strE l) = strE l := z6c fun e he c hc => by
 simp only [strE, List.mem_map] at he
 obtain ⟨x, _, rfl⟩ := he
 rw [List.mem_singleton] at hc
 subst hc; rfl
theorem z7d (s : Sg) (g : s.good) : CT Try.prog 25 [] [.agg [.int .i64 (s.a : Int), .sl 1 (ucE (strE s.op)), .sl 1 (ucE (strE s.sh)), .sl 1 (ucE (strE s.si))]] (.bool true) [] := by
 rw [z6d, z6d, z6d]
 exact z7b s g
theorem zcf (t : Bs) (p : Nat) (s : Sg) (r : Bs) (g : s.good) (ht : (t.length : Int) ≤ 1000000000) (hp : p ≤ t.length) (h : t.drop p = sigB s ++ r) :
 CT Try.prog 23 [fldB t p false] [.ptr 1 0 0] (.agg [.int .i64 (s.a : Int), .ref 2, .ref 3, .ref 4]) [fldB t (p + 321) false, .deep 1 (strE s.op) [], .deep 1 (strE s.sh) [], .deep 1 (strE s.si) []] := by
 obtain ⟨a, op, sh, si⟩ := s
 obtain ⟨h1, ⟨h2, h3⟩, ⟨h4, h5⟩, h6, h7⟩ := g
 simp only at h1 h2 h3 h4 h5 h6 h7
 have e0 : t.drop p = [UInt8.ofNat a] ++ (op.flatten ++ (sh.flatten ++ (si.flatten ++ r))) := by rw [h]; simp [sigB]
 have l2 := z1g h3
 have l4 := z1g h5
 have l6 := z1g h7
 rw [h2] at l2
 rw [h4] at l4
 rw [h6] at l6
 have e1 := z0k rfl e0
 have p1 := z0U hp rfl e0
 simp only [List.length_cons, List.length_nil, Nat.zero_add] at e1 p1
 have e2 := z0k l2 e1
 have p2 := z0U p1 l2 e1
 have e3 := z0k l4 e2
 have p3 := z0U p2 l4 e2
 have c0 := zaP t p a _ ht hp (by omega) e0
 have d1 := z1t h3 e1
 have d2 := z1t h5 e2
 have d3 := z1t h7 e3
 rw [h2, l2] at d1
 rw [h4, l4] at d2
 rw [h6, l6] at d3
 have c1 := z1j t (p + 1) false 8 16 ht p1 (by omega)
 have c2 := z1j t (p + 1 + 16 * 8) false 8 16 ht p2 (by omega)
 have c3 := z1j t (p + 1 + 16 * 8 + 16 * 8) false 4 16 ht p3 (by omega)
 rw [d1] at c1
 rw [d2] at c2
 rw [d3] at c3
 simp only at c1 c2 c3
 clear e0 e1 e2 e3 d1 d2 d3
 rw [show p + 321 = p + 1 + 16 * 8 + 16 * 8 + 16 * 4 by omega]
 generalize p + 1 + 16 * 8 + 16 * 8 + 16 * 4 = q4 at c3 ⊢
 generalize p + 1 + 16 * 8 + 16 * 8 = q3 at c2 c3
 generalize p + 1 + 16 * 8 = q2 at c1 c2
 generalize p + 1 = q1 at c0 c1
 show CT _ _ _ _ (.agg [.int .i64 (a : Int), .ref 2, .ref 3, .ref 4]) [fldB t q4 false, .deep 1 (strE op) [], .deep 1 (strE sh) [], .deep 1 (strE si) []]
 refine z01 z0j 2 rfl Try.func23 rfl rfl rfl ?_
 repeat ((try conv => whnf); first | (refine ccB ([1]) (c0) ?_) | (refine ccB ([1]) (c1) ?_) | (refine ccB ([1]) (c2) ?_) | (refine ccB ([1]) (c3) ?_) | (refine And.intro (by kernel_rfl) ?_) | (refine stpQ ?_))
 (refine z00 (by rfl) ?_ ?_ (by rfl)) <;> (repeat' (first | (exact eqA) | (refine And.intro ?_ ?_) | ((fail_if_success (with_reducible (show _ = _))); (show _ = _)))) <;> first | rfl | exact CvE.refl (zd7 _)
theorem zbO (t : Bs) (p : Nat) (h : Hd) (s : Sg) (g : h.good) (gs : s.good) (ht : (t.length : Int) ≤ 1000000000) (hp : p ≤ t.length) (e : t.drop p = z0F h s) :
 CT Try.prog 55 [fldB t p false] [.ptr 1 0 0] (.agg [.int .i64 (h.ho : Int), .int .i64 (h.ep : Int), .str h.ro, .str h.pr, .int .i64 (s.a : Int), .ref 2, .ref 3, .ref 4]) [fldB t t.length false, .deep 1 (strE s.op) [], .deep 1 (strE s.sh) [], .deep 1 (strE s.si) []] := by
 have hl := z0B g
 have hs := z1F gs
 have e0 : t.drop p = z09 (z0E h) ++ (sigB s ++ []) := by rw [e]; simp [z0F]
 have hlen : t.length = p + (z09 (z0E h)).length + 321 := by
  have := congrArg List.length e0
  simp only [List.length_drop, List.length_append, List.length_nil, hs] at this
  omega
 have e1 := z0k rfl e0
 have p1 := z0U hp rfl e0
 have c0 := z2n t p false ht hp
 rw [z0T (by omega) e0] at c0
 have k0 := z3O h g
 have c1 := zcf t (p + (z09 (z0E h)).length) s [] gs ht p1 e1
 have k1 := z7d s gs
 simp only at c0
 rw [hlen]
 generalize p + (z09 (z0E h)).length + 321 = q2 at c1 ⊢
 generalize p + (z09 (z0E h)).length = q1 at c0 c1
 generalize z0E h = hb at c0 k0
 obtain ⟨ho, ep, ro, pr⟩ := h
 obtain ⟨a, op, sh, si⟩ := s
 refine z01 z0j 2 rfl Try.func55 rfl rfl rfl ?_
 repeat ((try conv => whnf); first | (refine ccB ([1]) (c0) ?_) | (refine ccA ([]) (k0) ?_) | (refine ccB ([_]) (c1) ?_) | (refine ccA ([]) (k1) ?_) | (refine And.intro (by kernel_rfl) ?_) | (refine stpQ ?_))
 (refine z00 (by rfl) ?_ ?_ (by rfl)) <;> (repeat' (first | (exact eqA) | (refine And.intro ?_ ?_) | ((fail_if_success (with_reducible (show _ = _))); (show _ = _)))) <;> rfl
end Go.Proofs.Ytnhcfmmdaihneaa
