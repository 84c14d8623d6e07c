/- Functions by content: the program verifies signatures, seals and stamps. Functions by content: the program verifies seals and stamps. Functions by content: a complete proof is verified. Functions by content: a complete proof is encoded. Functions by content: a complete proof is decoded from its text. -/
import Derived.Test.YtnhcfmmdaihneaaGreatDoorTt
import Derived.Test.YtnhcfmmdaihneaaGreatDoorPs
namespace Go.Proofs.YtnhcfmmdaihneaaGreatDoor
set_option maxRecDepth 100000
set_option maxHeartbeats 2000000
set_option linter.unusedVariables false
set_option linter.unusedSimpArgs false
set_option linter.unusedSectionVars false
open Go.RowKit Pl
attribute [local irreducible] z0w z0x z0A AnsP LeP
theorem z0e {r : Nat} : ownE (.box [.ref r]) := fun c hc => by rw [List.mem_singleton.1 hc]; trivial
theorem z0f : ownE (.row 0 []) := fun e he => by simp at he
theorem ziX {l : Bs} (h : l.length = 16) : ∃ x xs, l = x :: xs := by
 cases l with
 | nil => cases h
 | cons x xs => exact ⟨x, xs, rfl⟩
theorem zdJ {a : Bs} (ha : a.length ≤ 200) : z29 [a] := ⟨by simp, fun p h => by rw [List.mem_singleton.1 h]; exact ha⟩
theorem ziY {l : List Bs} (hn : l.length ≤ 60) (h : ∀ x ∈ l, x.length = 16) : z29 l := ⟨hn, fun p hp => by have := h p hp; omega⟩
theorem zgW {l : List Bs} {n : Nat} (hn : l.length = n) (h : ∀ x ∈ l, x.length = 16) : ((l.all fun x => decide ((x.length : Int) = 16)) && decide ((l.length : Int) = (n : Int))) = true := by
 rw [Bool.and_eq_true, List.all_eq_true, decide_eq_true_eq]
 exact ⟨fun x hx => by have := h x hx; simp; omega, by omega⟩
theorem zl0 {x lo hi : Int} (h : lo ≤ x ∧ x ≤ hi) : CT Tryz.prog 94 [] [.int .i64 x, .int .i64 lo, .int .i64 hi] (.bool true) [] := by
 have := c_in x lo hi
 rwa [z0T.2 h] at this
theorem z5f (n : Int) : CT Tryz.prog 87 [] [.int .i64 n] (.bool (inB n 0 2)) [] := by
 have c1 := c_in n 0 2
 generalize inB n 0 2 = b at c1 ⊢
 refine z01 z3e 1 rfl Tryz.func87 rfl rfl rfl ?_
 repeat ((try conv => whnf); first | (refine ccA ([]) (c1) ?_) | (refine stpQ ?_))
 (refine z00 (by rfl) ?_ ?_ (by rfl)) <;> (repeat' (first | (exact eqA) | (refine shE ?_) | (refine And.intro ?_ ?_)))
theorem z7s (n : Int) : CT Tryz.prog 88 [] [.int .i64 n] (.bool (inB n 0 2)) [] := by
 have c1 := c_in n 0 2
 generalize inB n 0 2 = b at c1 ⊢
 refine z01 z3e 1 rfl Tryz.func88 rfl rfl rfl ?_
 repeat ((try conv => whnf); first | (refine ccA ([]) (c1) ?_) | (refine stpQ ?_))
 (refine z00 (by rfl) ?_ ?_ (by rfl)) <;> (repeat' (first | (exact eqA) | (refine shE ?_) | (refine And.intro ?_ ?_)))
theorem zaN (n : Int) : CT Tryz.prog 274 [] [.int .i64 n] (.bool (inB n 1 4)) [] := by
 have c1 := c_in n 1 4
 generalize inB n 1 4 = b at c1 ⊢
 refine z01 z3e 1 rfl Tryz.func274 rfl rfl rfl ?_
 repeat ((try conv => whnf); first | (refine ccA ([]) (c1) ?_) | (refine stpQ ?_))
 (refine z00 (by rfl) ?_ ?_ (by rfl)) <;> (repeat' (first | (exact eqA) | (refine shE ?_) | (refine And.intro ?_ ?_)))
theorem z5M {n : Int} (h : 0 ≤ n ∧ n ≤ 2) : CT Tryz.prog 87 [] [.int .i64 n] (.bool true) [] := by
 have := z5f n
 rwa [z0T.2 h] at this
theorem z5N {n : Int} (h : 0 ≤ n ∧ n ≤ 2) : CT Tryz.prog 88 [] [.int .i64 n] (.bool true) [] := by
 have := z7s n
 rwa [z0T.2 h] at this
theorem zeQ {n : Int} (h : 1 ≤ n ∧ n ≤ 4) : CT Tryz.prog 274 [] [.int .i64 n] (.bool true) [] := by
 have := zaN n
 rwa [z0T.2 h] at this
def sgB (s : Sg) : Bool := inB (s.a : Int) 0 15 && (s.op.all fun x => decide ((x.length : Int) = 16)) && decide ((s.op.length : Int) = 8) && (s.sh.all fun x => decide ((x.length : Int) = 16)) && decide ((s.sh.length : Int) = 8) && (s.si.all fun x => decide ((x.length : Int) = 16)) && decide ((s.si.length : Int) = 4)
theorem ziZ (s : Sg) (h1 : (s.op.length : Int) ≤ 1000000) (h2 : (s.sh.length : Int) ≤ 1000000) (h3 : (s.si.length : Int) ≤ 1000000) : CT Tryz.prog 248 [] [.agg (sgE s)] (.bool (sgB s)) [] := by
 obtain ⟨a, op, sh, si⟩ := s
 have c1 := c_in (a : Int) 0 15
 simp only at h1 h2 h3
 have c2 := z2a op 8 16 (by omega)
 have c3 := z2a sh 8 16 (by omega)
 have c4 := z2a si 4 16 (by omega)
 show CT _ _ _ _ (.bool (inB (a : Int) 0 15 && (op.all fun x => decide ((x.length : Int) = 16)) && decide ((op.length : Int) = 8) && (sh.all fun x => decide ((x.length : Int) = 16)) && decide ((sh.length : Int) = 8) && (si.all fun x => decide ((x.length : Int) = 16)) && decide ((si.length : Int) = 4))) _
 rw [Bool.and_assoc (inB (a : Int) 0 15), Bool.and_assoc (inB (a : Int) 0 15 && _), Bool.and_assoc (inB (a : Int) 0 15 && _ && _)]
 generalize inB (a : Int) 0 15 = b1 at c1 ⊢
 generalize ((op.all fun x => decide ((x.length : Int) = 16)) && decide ((op.length : Int) = 8)) = b2 at c2 ⊢
 generalize ((sh.all fun x => decide ((x.length : Int) = 16)) && decide ((sh.length : Int) = 8)) = b3 at c3 ⊢
 generalize ((si.all fun x => decide ((x.length : Int) = 16)) && decide ((si.length : Int) = 4)) = b4 at c4 ⊢
 refine z01 z3e 1 rfl Tryz.func248 rfl rfl rfl ?_
 cases b1
 ·repeat ((try conv => whnf); first | (refine ccA ([]) (c1) ?_) | (refine stpQ ?_))
  (refine z00 (by rfl) ?_ ?_ (by rfl)) <;> (repeat' (first | (exact eqA) | (refine shE ?_) | (refine And.intro ?_ ?_))) <;> rfl
 cases b2
 ·repeat ((try conv => whnf); first | (refine ccA ([]) (c1) ?_) | (refine ccA ([]) (c2) ?_) | (refine stpQ ?_))
  (refine z00 (by rfl) ?_ ?_ (by rfl)) <;> (repeat' (first | (exact eqA) | (refine shE ?_) | (refine And.intro ?_ ?_))) <;> rfl
 cases b3
 ·repeat ((try conv => whnf); first | (refine ccA ([]) (c1) ?_) | (refine ccA ([]) (c2) ?_) | (refine ccA ([]) (c3) ?_) | (refine stpQ ?_))
  (refine z00 (by rfl) ?_ ?_ (by rfl)) <;> (repeat' (first | (exact eqA) | (refine shE ?_) | (refine And.intro ?_ ?_))) <;> rfl
 cases b4
 ·repeat ((try conv => whnf); first | (refine ccA ([]) (c1) ?_) | (refine ccA ([]) (c2) ?_) | (refine ccA ([]) (c3) ?_) | (refine ccA ([]) (c4) ?_) | (refine stpQ ?_))
  (refine z00 (by rfl) ?_ ?_ (by rfl)) <;> (repeat' (first | (exact eqA) | (refine shE ?_) | (refine And.intro ?_ ?_))) <;> rfl
 ·repeat ((try conv => whnf); first | (refine ccA ([]) (c1) ?_) | (refine ccA ([]) (c2) ?_) | (refine ccA ([]) (c3) ?_) | (refine ccA ([]) (c4) ?_) | (refine stpQ ?_))
  (refine z00 (by rfl) ?_ ?_ (by rfl)) <;> (repeat' (first | (exact eqA) | (refine shE ?_) | (refine And.intro ?_ ?_))) <;> rfl
theorem zj0 {s : Sg} (g : s.good) : sgB s = true := by
 obtain ⟨a, op, sh, si⟩ := s
 obtain ⟨h1, ⟨h2, h3⟩, ⟨h4, h5⟩, h6, h7⟩ := g
 simp only at h1 h2 h3 h4 h5 h6 h7
 have w2 := zgW h2 h3
 have w3 := zgW h4 h5
 have w4 := zgW h6 h7
 rw [Bool.and_eq_true] at w2 w3 w4
 simp only [sgB, Bool.and_eq_true]
 exact ⟨⟨⟨⟨⟨⟨z0T.2 (by omega), w2.1⟩, w2.2⟩, w3.1⟩, w3.2⟩, w4.1⟩, w4.2⟩
theorem zgX (s : Sg) (g : s.good) : CT Tryz.prog 248 [] [.agg (sgE s)] (.bool true) [] := by
 have := ziZ s (by have := g.2.1.1; omega) (by have := g.2.2.1.1; omega) (by have := g.2.2.2.1; omega)
 rwa [zj0 g] at this
end Go.Proofs.YtnhcfmmdaihneaaGreatDoor
namespace Go.Proofs.YtnhcfmmdaihneaaGreatDoor
set_option maxRecDepth 100000
set_option maxHeartbeats 2000000
set_option linter.unusedVariables false
set_option linter.unusedSimpArgs false
set_option linter.unusedSectionVars false
open Go.RowKit Pl
attribute [local irreducible] z0w z0x z0A AnsP LeP
theorem z9h (h : Hd) (g : h.good) : CT Tryz.prog 251 [] [.agg (hdE h)] (.bool true) [] := by
 obtain ⟨ho, ep, ro, pr⟩ := h
 obtain ⟨h1, h2, h3, h4, h5⟩ := g
 simp only at h1 h2 h3 h4 h5
 have c1 := z5M (n := (ho : Int)) (by omega)
 have c2 := zeQ (n := (ep : Int)) (by omega)
 have hr : (ro.length : Int) = 16 := by omega
 by_cases he : ep = 1
 ·rw [if_pos he] at h5
  subst he h5
  refine z01 z3e 1 rfl Tryz.func251 rfl rfl rfl ?_
  repeat ((try conv => whnf); first | (refine ccA ([]) (c1) ?_) | (refine ccA ([]) (c2) ?_) | (refine stpQ ?_))
  (refine z00 (by rfl) ?_ ?_ (by rfl)) <;> (repeat' (first | (exact eqA) | (refine shE ?_) | (refine And.intro ?_ ?_))) <;> first | rfl | decide
 ·rw [if_neg he] at h5
  have he2 : ¬ (ep : Int) = 1 := by omega
  have hq : (pr.length : Int) = 16 := by omega
  refine z01 z3e 1 rfl Tryz.func251 rfl rfl rfl ?_
  repeat ((try conv => whnf); first | (refine ccA ([]) (c1) ?_) | (refine ccA ([]) (c2) ?_) | (refine stpQ ?_))
  (refine z00 (by rfl) ?_ ?_ (by rfl)) <;> (repeat' (first | (exact eqA) | (refine shE ?_) | (refine And.intro ?_ ?_))) <;> first | rfl | (exact decide_eq_true hq) | simp [hq]
theorem zeR (h : Hd) (g : h.good) : CT Tryz.prog 289 [] [.agg (hdE h)] (.tup [.str (z1o h), .bool true]) [] := by
 have c1 := z9h h g
 obtain ⟨ho, ep, ro, pr⟩ := h
 obtain ⟨h1, h2, h3, h4, h5⟩ := g
 simp only at h1 h2 h3 h4 h5
 have hq : pr.length ≤ 16 := by
  split at h5
  ·rw [h5]; simp
  ·omega
 refine z01 z3e 1 rfl Tryz.func289 rfl rfl rfl ?_
 repeat ((try conv => whnf); first | (refine ccA ([]) (c1) ?_) | (refine w_u8 ?_) | (refine Exists.intro [UInt8.ofNat ho, UInt8.ofNat ep] (And.intro rfl ?_)) | (refine And.intro (by simp; omega) ?_) | (refine stpQ ?_))
 (refine z00 (by rfl) ?_ ?_ (by rfl)) <;> (repeat' (first | (exact eqA) | (refine shE ?_) | (refine And.intro ?_ ?_))) <;> rfl
theorem zeS (h : Hd) (g : h.good) : CT Tryz.prog 273 [] [.agg (hdE h)] (.str (z7r h)) [] := by
 have c1 := zeR h g
 have hl := z3d g
 have c2 := z9g 4 [z1o h] 16 (by omega) (zdJ (by omega)) (by omega)
 unfold z7r
 generalize z2x 4 [z1o h] 16 = R at c2 ⊢
 generalize z1o h = t at c1 c2
 refine z01 z3e 1 rfl Tryz.func273 rfl rfl rfl ?_
 repeat ((try conv => whnf); first | (refine ccA ([]) (c1) ?_) | (refine ccA ([]) (c2) ?_) | (refine stpQ ?_))
 (refine z00 (by rfl) ?_ ?_ (by rfl)) <;> (repeat' (first | (exact eqA) | (refine shE ?_) | (refine And.intro ?_ ?_)))
end Go.Proofs.YtnhcfmmdaihneaaGreatDoor
namespace Go.Proofs.YtnhcfmmdaihneaaGreatDoor
set_option maxRecDepth 100000
set_option maxHeartbeats 4000000
set_option linter.unusedVariables false
set_option linter.unusedSimpArgs false
set_option linter.unusedSectionVars false
open Go.RowKit Pl
attribute [local irreducible] z0w z0x z0A AnsP LeP
end Go.Proofs.YtnhcfmmdaihneaaGreatDoor
namespace Go.Proofs.YtnhcfmmdaihneaaGreatDoor
set_option maxRecDepth 100000
set_option maxHeartbeats 4000000
set_option linter.unusedVariables false
set_option linter.unusedSimpArgs false
set_option linter.unusedSectionVars false
open Go.RowKit Pl
attribute [local irreducible] z0w z0x z0A AnsP LeP
end Go.Proofs.YtnhcfmmdaihneaaGreatDoor
namespace Go.Proofs.YtnhcfmmdaihneaaGreatDoor
set_option maxRecDepth 100000
set_option maxHeartbeats 4000000
set_option linter.unusedVariables false
set_option linter.unusedSimpArgs false
set_option linter.unusedSectionVars false
open Go.RowKit Pl
attribute [local irreducible] z0w z0x z0A AnsP LeP
theorem zl1 (t : Bs) (p a : Nat) (r : Bs) (ht : (t.length : Int) ≤ 1000000000) (hp : p ≤ t.length) (ha : a < 256) (h : t.drop p = [UInt8.ofNat a] ++ r) :
 CT Tryz.prog 271 [fldB t p false] [.ptr 1 0 0] (.int .i64 (a : Int)) [fldB t (p + 1) false] := by
 have c := z7l t p false 1 ht hp
 rw [z7t (n := 1) (l := [UInt8.ofNat a]) rfl h] at c
 simp only at c
 have hx : (UInt8.ofNat a).toNat = a := by simp [UInt8.toNat_ofNat']; omega
 have h1 := z7m (UInt8.ofNat a)
 rw [hx] at h1
 have h2 : (UInt8.ofNat a).toNat = a := hx
 generalize UInt8.ofNat a = x at c h1 h2
 subst h2
 have hne : ¬ (([x] : Bs) = []) := fun h => by cases h
 have h0 : 0 < ([x] : Bs).length := by simp
 refine z01 z0L 2 rfl Tryz.func271 rfl rfl rfl ?_
 repeat ((try conv => whnf); first | (refine ccB ([1]) (c) ?_) | (refine z0j hne ?_) | (refine Exists.intro 0 (And.intro rfl (And.intro h0 ?_))) | (refine Exists.intro _ (And.intro h1.symm ?_)) | (refine stpQ ?_))
 (refine z00 (by rfl) ?_ ?_ (by rfl)) <;> (repeat' (first | (exact eqA) | (refine shE ?_) | (refine And.intro ?_ ?_)))
theorem z8u (h : Hd) (g : h.good) : CT Tryz.prog 246 [] [.str (z1o h)] (.tup [.agg (hdE h), .bool true]) [] := by
 have hl := z3d g
 have k1 := z9h h g
 obtain ⟨ho, ep, ro, pr⟩ := h
 obtain ⟨h1, h2, h3, h4, h5⟩ := g
 simp only at h1 h2 h3 h4 h5
 have e0 : (z1o ⟨ho, ep, ro, pr⟩).drop 0 = [UInt8.ofNat ho] ++ ([UInt8.ofNat ep] ++ (ro ++ pr)) := by simp [z1o]
 have p0 : 0 ≤ (z1o ⟨ho, ep, ro, pr⟩).length := by omega
 generalize z1o ⟨ho, ep, ro, pr⟩ = t at hl e0 p0 ⊢
 have e1 := z2O rfl e0
 have p1 := z4D p0 rfl e0
 simp only [List.length_cons, List.length_nil, Nat.zero_add] at e1 p1
 have e2 := z2O rfl e1
 have p2 := z4D p1 rfl e1
 simp only [List.length_cons, List.length_nil, Nat.zero_add, Nat.reduceAdd] at e2 p2
 have e3 := z2O h4 e2
 have p3 := z4D p2 h4 e2
 simp only [Nat.reduceAdd] at e3 p3
 have c0 := zl1 t 0 ho _ (by omega) p0 (by omega) e0
 have c1 := zl1 t 1 ep _ (by omega) p1 (by omega) e1
 have c2 := z7l t 2 false 16 (by omega) p2
 rw [z7t h4 e2] at c2
 simp only [Nat.zero_add, Nat.reduceAdd] at c0 c1 c2
 subst e3
 refine z01 z3e 1 rfl Tryz.func246 rfl rfl rfl ?_
 repeat ((try conv => whnf); first | (refine ccB ([_]) (c0) ?_) | (refine ccB ([_]) (c1) ?_) | (refine ccB ([_]) (c2) ?_) | (refine ccA ([]) (k1) ?_) | (refine Exists.intro 18 (And.intro rfl (And.intro p3 ?_))) | (refine And.intro (by kernel_rfl) ?_) | (refine stpQ ?_))
 (refine z00 (by rfl) ?_ ?_ (by rfl)) <;> (repeat' (first | (exact eqA) | (refine shE ?_) | (refine And.intro ?_ ?_))) <;> rfl
end Go.Proofs.YtnhcfmmdaihneaaGreatDoor
