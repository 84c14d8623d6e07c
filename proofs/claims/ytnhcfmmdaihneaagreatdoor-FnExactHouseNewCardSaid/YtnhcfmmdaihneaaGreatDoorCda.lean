/- Functions by content: a seal is read; its rows are told as rows that may be moved. -/
import Derived.Test.YtnhcfmmdaihneaaGreatDoorCi
import Derived.Test.YtnhcfmmdaihneaaGreatDoorVe
namespace Go.Proofs.YtnhcfmmdaihneaaGreatDoor
set_option maxRecDepth 100000
set_option maxHeartbeats 8000000
set_option linter.unusedVariables false
set_option linter.unusedSimpArgs false
set_option linter.unusedSectionVars false
open Go.RowKit Pl
attribute [local irreducible] z0w z0x z0A AnsP LeP CvE
def flac : T → Bool
 | .own _ _ => false
 | _ => true
theorem zj7 {c : T} (h : flac c = true) : ucT c = c := by cases c <;> first | rfl | cases h
theorem zdS : ∀ {cs : List T}, (∀ c ∈ cs, flac c = true) → ucL cs = cs
 | [], _ => by simp [ucL]
 | c :: cs, h => by simp only [ucL]; rw [zj7 (h c (by simp)), zdS fun c hc => h c (by simp [hc])]
theorem z2g : ∀ {es : List (List T)}, (∀ e ∈ es, ∀ c ∈ e, flac c = true) → ucE es = es
 | [], _ => by simp [ucE]
 | e :: es, h => by simp only [ucE]; rw [zdS (h e (by simp)), z2g fun e he => h e (by simp [he])]
theorem zc9 (l : List Bs) : ∀ e ∈ strE l, ∀ c ∈ e, cl0 c := fun e he c hc => by
 simp only [strE, List.mem_map] at he
 obtain ⟨x, _, rfl⟩ := he
 rw [List.mem_singleton] at hc
 subst hc; trivial
theorem zca (l : List Bs) : ucE (strE l) = strE l := z2g fun e he c hc => by
 simp only [strE, List.mem_map] at he
 obtain ⟨x, _, rfl⟩ := he
 rw [List.mem_singleton] at hc
 subst hc; rfl
def sdC (x : Hd × Sg) : List T := [.int .i64 (x.1.ho : Int), .int .i64 (x.1.ep : Int), .str x.1.ro, .str x.1.pr, .int .i64 (x.2.a : Int), .own 1 (strE x.2.op), .own 1 (strE x.2.sh), .own 1 (strE x.2.si)]
def sdE (l : List (Hd × Sg)) : List (List T) := l.map sdC
theorem zl5 (l : List (Hd × Sg)) (x : Hd × Sg) : sdE (l ++ [x]) = sdE l ++ [sdC x] := by simp [sdE]
theorem zhd (l : List (Hd × Sg)) : (sdE l).length = l.length := by simp [sdE]
theorem zl6 : ∀ l : List (Hd × Sg), ucE (sdE l) = slE l
 | [] => by simp [sdE, slE, ucE]
 | x :: l => by
   have ih := zl6 l
   simp only [sdE, slE, sdC, hdE, sgE, List.map_cons, ucE, ucL, ucT, zca, List.cons_append, List.nil_append] at ih ⊢
   rw [ih]
theorem z8w (l : List (Hd × Sg)) (h : l.length ≤ 10) : CT Tryz.prog 188 [] [.sl 8 (ucE (sdE l))] (.ref 1) [.row 4 (hdsE (l.map fun x => x.1))] := by
 rw [zl6]
 exact zh9 l h
theorem zhe (s : Sg) (g : s.good) : CT Tryz.prog 248 [] [.agg [.int .i64 (s.a : Int), .sl 1 (ucE (strE s.op)), .sl 1 (ucE (strE s.sh)), .sl 1 (ucE (strE s.si))]] (.bool true) [] := by
 rw [zca, zca, zca]
 exact zgX s g
theorem c_sigD (t : Bs) (p : Nat) (s : Sg) (r : Bs) (g : s.good) (ht : (t.length : Int) ≤ 1000000000) (hp : p ≤ t.length) (h : t.drop p = sigB s ++ r) :
 CT Tryz.prog 247 [fldB t p false] [.ptr 1 0 0] (.agg [.int .i64 (s.a : Int), .ref 2, .ref 3, .ref 4]) [fldB t (p + 321) false, .deep 1 (strE s.op) [], .deep 1 (strE s.sh) [], .deep 1 (strE s.si) []] := by
 obtain ⟨a, op, sh, si⟩ := s
 obtain ⟨h1, ⟨h2, h3⟩, ⟨h4, h5⟩, h6, h7⟩ := g
 simp only at h1 h2 h3 h4 h5 h6 h7
 have e0 : t.drop p = [UInt8.ofNat a] ++ (op.flatten ++ (sh.flatten ++ (si.flatten ++ r))) := by rw [h]; simp [sigB]
 have l2 := z4h h3
 have l4 := z4h h5
 have l6 := z4h h7
 rw [h2] at l2
 rw [h4] at l4
 rw [h6] at l6
 have e1 := z2O rfl e0
 have p1 := z4D hp rfl e0
 simp only [List.length_cons, List.length_nil, Nat.zero_add] at e1 p1
 have e2 := z2O l2 e1
 have p2 := z4D p1 l2 e1
 have e3 := z2O l4 e2
 have p3 := z4D p2 l4 e2
 have c0 := zl1 t p a _ ht hp (by omega) e0
 have d1 := z55 h3 e1
 have d2 := z55 h5 e2
 have d3 := z55 h7 e3
 rw [h2, l2] at d1
 rw [h4, l4] at d2
 rw [h6, l6] at d3
 have c1 := z45 t (p + 1) false 8 16 ht p1 (by omega)
 have c2 := z45 t (p + 1 + 16 * 8) false 8 16 ht p2 (by omega)
 have c3 := z45 t (p + 1 + 16 * 8 + 16 * 8) false 4 16 ht p3 (by omega)
 rw [d1] at c1
 rw [d2] at c2
 rw [d3] at c3
 simp only at c1 c2 c3
 clear e0 e1 e2 e3 d1 d2 d3
 rw [show p + 321 = p + 1 + 16 * 8 + 16 * 8 + 16 * 4 by omega]
 generalize p + 1 + 16 * 8 + 16 * 8 + 16 * 4 = q4 at c3 ⊢
 generalize p + 1 + 16 * 8 + 16 * 8 = q3 at c2 c3
 generalize p + 1 + 16 * 8 = q2 at c1 c2
 generalize p + 1 = q1 at c0 c1
 show CT _ _ _ _ (.agg [.int .i64 (a : Int), .ref 2, .ref 3, .ref 4]) [fldB t q4 false, .deep 1 (strE op) [], .deep 1 (strE sh) [], .deep 1 (strE si) []]
 refine z01 z03 2 rfl Tryz.func247 rfl rfl rfl ?_
 repeat ((try conv => whnf); first | (refine ccB ([1]) (c0) ?_) | (refine ccB ([1]) (c1) ?_) | (refine ccB ([1]) (c2) ?_) | (refine ccB ([1]) (c3) ?_) | (refine And.intro (by kernel_rfl) ?_) | (refine stpQ ?_))
 (refine z00 (by rfl) ?_ ?_ (by rfl)) <;> (repeat' (first | (exact eqA) | (refine And.intro ?_ ?_) | ((fail_if_success (with_reducible (show _ = _))); (show _ = _)))) <;> first | rfl | exact CvE.refl (zc9 _)
theorem zdT (t : Bs) (p : Nat) (h : Hd) (s : Sg) (g : h.good) (gs : s.good) (ht : (t.length : Int) ≤ 1000000000) (hp : p ≤ t.length) (e : t.drop p = z5L h s) :
 CT Tryz.prog 186 [fldB t p false] [.ptr 1 0 0] (.agg [.int .i64 (h.ho : Int), .int .i64 (h.ep : Int), .str h.ro, .str h.pr, .int .i64 (s.a : Int), .ref 2, .ref 3, .ref 4]) [fldB t t.length false, .deep 1 (strE s.op) [], .deep 1 (strE s.sh) [], .deep 1 (strE s.si) []] := by
 have hl := z3d g
 have hs := z9j gs
 have e0 : t.drop p = z0v (z1o h) ++ (sigB s ++ []) := by rw [e]; simp [z5L]
 have hlen : t.length = p + (z0v (z1o h)).length + 321 := by
  have := congrArg List.length e0
  simp only [List.length_drop, List.length_append, List.length_nil, hs] at this
  omega
 have e1 := z2O rfl e0
 have p1 := z4D hp rfl e0
 have c0 := zgm t p false ht hp
 rw [z74 (by omega) e0] at c0
 have k0 := z8u h g
 have c1 := c_sigD t (p + (z0v (z1o h)).length) s [] gs ht p1 e1
 have k1 := zhe s gs
 simp only at c0
 rw [hlen]
 generalize p + (z0v (z1o h)).length + 321 = q2 at c1 ⊢
 generalize p + (z0v (z1o h)).length = q1 at c0 c1
 generalize z1o h = hb at c0 k0
 obtain ⟨ho, ep, ro, pr⟩ := h
 obtain ⟨a, op, sh, si⟩ := s
 refine z01 z03 2 rfl Tryz.func186 rfl rfl rfl ?_
 repeat ((try conv => whnf); first | (refine ccB ([1]) (c0) ?_) | (refine ccA ([]) (k0) ?_) | (refine ccB ([_]) (c1) ?_) | (refine ccA ([]) (k1) ?_) | (refine And.intro (by kernel_rfl) ?_) | (refine stpQ ?_))
 (refine z00 (by rfl) ?_ ?_ (by rfl)) <;> (repeat' (first | (exact eqA) | (refine And.intro ?_ ?_) | ((fail_if_success (with_reducible (show _ = _))); (show _ = _)))) <;> rfl
end Go.Proofs.YtnhcfmmdaihneaaGreatDoor
