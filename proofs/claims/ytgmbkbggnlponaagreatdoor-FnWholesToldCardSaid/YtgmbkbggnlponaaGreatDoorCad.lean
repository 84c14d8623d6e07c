/- Functions by content: flat rows are marked and looked at by the exact laws. Functions by content: a seal is read; its rows are told as rows that may be moved. -/
import Derived.Test.YtgmbkbggnlponaaGreatDoorVe
import Derived.Test.YtgmbkbggnlponaaGreatDoorXt
import Derived.Test.YtgmbkbggnlponaaGreatDoorPlainM
import Derived.Test.YtgmbkbggnlponaaGreatDoorCi
namespace Go.Proofs.YtgmbkbggnlponaaGreatDoor
set_option linter.unusedVariables false
set_option linter.unusedSimpArgs false
set_option linter.unusedSectionVars false
open Go.RowKit Pl
section
attribute [local irreducible] z0t z0u z0y AnsP LeP W
end
end Go.Proofs.YtgmbkbggnlponaaGreatDoor
namespace Go.Proofs.YtgmbkbggnlponaaGreatDoor
set_option maxRecDepth 100000
set_option maxHeartbeats 8000000
set_option linter.unusedVariables false
set_option linter.unusedSimpArgs false
set_option linter.unusedSectionVars false
open Go.RowKit Pl
attribute [local irreducible] z0t z0u z0y AnsP LeP CvE
def flac : T → Bool
 | .own _ _ => false
 | _ => true
theorem zgH {c : T} (h : flac c = true) : ucT c = c := by cases c <;> first | rfl | cases h
theorem zcQ : ∀ {cs : List T}, (∀ c ∈ cs, flac c = true) → ucL cs = cs
 | [], _ => by simp [ucL]
 | c :: cs, h => by simp only [ucL]; rw [zgH (h c (by simp)), zcQ fun c hc => h c (by simp [hc])]
theorem z9e : ∀ {es : List (List T)}, (∀ e ∈ es, ∀ c ∈ e, flac c = true) → ucE es = es
 | [], _ => by simp [ucE]
 | e :: es, h => by simp only [ucE]; rw [zcQ (h e (by simp)), z9e fun e he => h e (by simp [he])]
theorem zdX (l : List Bs) : ∀ e ∈ strE l, ∀ c ∈ e, cl0 c := fun e he c hc => by
 simp only [strE, List.mem_map] at he
 obtain ⟨x, _, rfl⟩ := he
 rw [List.mem_singleton] at hc
 subst hc; trivial
theorem z9f (l : List Bs) : ucE (strE l) = strE l := z9e fun e he c hc => by
 simp only [strE, List.mem_map] at he
 obtain ⟨x, _, rfl⟩ := he
 rw [List.mem_singleton] at hc
 subst hc; rfl
theorem zaH (s : Sg) (g : s.good) : CT Tryz.prog 44 [] [.agg [.int .i64 (s.a : Int), .sl 1 (ucE (strE s.op)), .sl 1 (ucE (strE s.sh)), .sl 1 (ucE (strE s.si))]] (.bool true) [] := by
 rw [z9f, z9f, z9f]
 exact z71 s g
theorem zhg (t : Bs) (p : Nat) (s : Sg) (r : Bs) (g : s.good) (ht : (t.length : Int) ≤ 1000000000) (hp : p ≤ t.length) (h : t.drop p = sigB s ++ r) :
 CT Tryz.prog 42 [fldB t p false] [.ptr 1 0 0] (.agg [.int .i64 (s.a : Int), .ref 2, .ref 3, .ref 4]) [fldB t (p + 321) false, .deep 1 (strE s.op) [], .deep 1 (strE s.sh) [], .deep 1 (strE s.si) []] := by
 obtain ⟨a, op, sh, si⟩ := s
 obtain ⟨h1, ⟨h2, h3⟩, ⟨h4, h5⟩, h6, h7⟩ := g
 simp only at h1 h2 h3 h4 h5 h6 h7
 have e0 : t.drop p = [UInt8.ofNat a] ++ (op.flatten ++ (sh.flatten ++ (si.flatten ++ r))) := by rw [h]; simp [sigB]
 have l2 := z1Q h3
 have l4 := z1Q h5
 have l6 := z1Q h7
 rw [h2] at l2
 rw [h4] at l4
 rw [h6] at l6
 have e1 := z0x rfl e0
 have p1 := z1u hp rfl e0
 simp only [List.length_cons, List.length_nil, Nat.zero_add] at e1 p1
 have e2 := z0x l2 e1
 have p2 := z1u p1 l2 e1
 have e3 := z0x l4 e2
 have p3 := z1u p2 l4 e2
 have c0 := zfn t p a _ ht hp (by omega) e0
 have d1 := z2c h3 e1
 have d2 := z2c h5 e2
 have d3 := z2c h7 e3
 rw [h2, l2] at d1
 rw [h4, l4] at d2
 rw [h6, l6] at d3
 have c1 := z1W t (p + 1) false 8 16 ht p1 (by omega)
 have c2 := z1W t (p + 1 + 16 * 8) false 8 16 ht p2 (by omega)
 have c3 := z1W t (p + 1 + 16 * 8 + 16 * 8) false 4 16 ht p3 (by omega)
 rw [d1] at c1
 rw [d2] at c2
 rw [d3] at c3
 simp only at c1 c2 c3
 clear e0 e1 e2 e3 d1 d2 d3
 rw [show p + 321 = p + 1 + 16 * 8 + 16 * 8 + 16 * 4 by omega]
 generalize p + 1 + 16 * 8 + 16 * 8 + 16 * 4 = q4 at c3 ⊢
 generalize p + 1 + 16 * 8 + 16 * 8 = q3 at c2 c3
 generalize p + 1 + 16 * 8 = q2 at c1 c2
 generalize p + 1 = q1 at c0 c1
 show CT _ _ _ _ (.agg [.int .i64 (a : Int), .ref 2, .ref 3, .ref 4]) [fldB t q4 false, .deep 1 (strE op) [], .deep 1 (strE sh) [], .deep 1 (strE si) []]
 refine z01 z0B 2 rfl Tryz.func42 rfl rfl rfl ?_
 repeat ((try conv => whnf); first | (refine ccB ([1]) (c0) ?_) | (refine ccB ([1]) (c1) ?_) | (refine ccB ([1]) (c2) ?_) | (refine ccB ([1]) (c3) ?_) | (refine And.intro (by kernel_rfl) ?_) | (refine stpQ ?_))
 (refine z00 (by rfl) ?_ ?_ (by rfl)) <;> (repeat' (first | (exact eqA) | (refine And.intro ?_ ?_) | ((fail_if_success (with_reducible (show _ = _))); (show _ = _)))) <;> first | rfl | exact CvE.refl (zdX _)
theorem zgI (t : Bs) (p : Nat) (h : Hd) (s : Sg) (g : h.good) (gs : s.good) (ht : (t.length : Int) ≤ 1000000000) (hp : p ≤ t.length) (e : t.drop p = z12 h s) :
 CT Tryz.prog 100 [fldB t p false] [.ptr 1 0 0] (.agg [.int .i64 (h.ho : Int), .int .i64 (h.ep : Int), .str h.ro, .str h.pr, .int .i64 (s.a : Int), .ref 2, .ref 3, .ref 4]) [fldB t t.length false, .deep 1 (strE s.op) [], .deep 1 (strE s.sh) [], .deep 1 (strE s.si) []] := by
 have hl := z0N g
 have hs := z1Y gs
 have e0 : t.drop p = z0e (z0P h) ++ (sigB s ++ []) := by rw [e]; simp [z12]
 have hlen : t.length = p + (z0e (z0P h)).length + 321 := by
  have := congrArg List.length e0
  simp only [List.length_drop, List.length_append, List.length_nil, hs] at this
  omega
 have e1 := z0x rfl e0
 have p1 := z1u hp rfl e0
 have c0 := z3o t p false ht hp
 rw [z1n (by omega) e0] at c0
 have k0 := z5u h g
 have c1 := zhg t (p + (z0e (z0P h)).length) s [] gs ht p1 e1
 have k1 := zaH s gs
 simp only at c0
 rw [hlen]
 generalize p + (z0e (z0P h)).length + 321 = q2 at c1 ⊢
 generalize p + (z0e (z0P h)).length = q1 at c0 c1
 generalize z0P h = hb at c0 k0
 obtain ⟨ho, ep, ro, pr⟩ := h
 obtain ⟨a, op, sh, si⟩ := s
 refine z01 z0B 2 rfl Tryz.func100 rfl rfl rfl ?_
 repeat ((try conv => whnf); first | (refine ccB ([1]) (c0) ?_) | (refine ccA ([]) (k0) ?_) | (refine ccB ([_]) (c1) ?_) | (refine ccA ([]) (k1) ?_) | (refine And.intro (by kernel_rfl) ?_) | (refine stpQ ?_))
 (refine z00 (by rfl) ?_ ?_ (by rfl)) <;> (repeat' (first | (exact eqA) | (refine And.intro ?_ ?_) | ((fail_if_success (with_reducible (show _ = _))); (show _ = _)))) <;> rfl
end Go.Proofs.YtgmbkbggnlponaaGreatDoor
