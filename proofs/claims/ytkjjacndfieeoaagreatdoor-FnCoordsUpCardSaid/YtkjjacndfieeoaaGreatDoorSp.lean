/- Functions by content: the program verifies signatures, seals and stamps. Functions by content: the program verifies seals and stamps. Functions by content: a complete proof is verified. Functions by content: a complete proof is encoded. Functions by content: a complete proof is decoded from its text. -/
import Derived.Test.YtkjjacndfieeoaaGreatDoorTt
import Derived.Test.YtkjjacndfieeoaaGreatDoorPs
namespace Go.Proofs.YtkjjacndfieeoaaGreatDoor
set_option maxRecDepth 100000
set_option maxHeartbeats 2000000
set_option linter.unusedVariables false
set_option linter.unusedSimpArgs false
set_option linter.unusedSectionVars false
open Go.RowKit Pl
attribute [local irreducible] z0m z0n z0q AnsP LeP
theorem z2b {r : Nat} : ownE (.box [.ref r]) := fun c hc => by rw [List.mem_singleton.1 hc]; trivial
theorem z2c : ownE (.row 0 []) := fun e he => by simp at he
theorem zcw {l : Bs} (h : l.length = 16) : ∃ x xs, l = x :: xs := by
 cases l with
 | nil => cases h
 | cons x xs => exact ⟨x, xs, rfl⟩
theorem z8J {a : Bs} (ha : a.length ≤ 200) : z0Q [a] := ⟨by simp, fun p h => by rw [List.mem_singleton.1 h]; exact ha⟩
theorem zcx {l : List Bs} (hn : l.length ≤ 60) (h : ∀ x ∈ l, x.length = 16) : z0Q l := ⟨hn, fun p hp => by have := h p hp; omega⟩
theorem zfG {l : List Bs} {n : Nat} (hn : l.length = n) (h : ∀ x ∈ l, x.length = 16) : ((l.all fun x => decide ((x.length : Int) = 16)) && decide ((l.length : Int) = (n : Int))) = true := by
 rw [Bool.and_eq_true, List.all_eq_true, decide_eq_true_eq]
 exact ⟨fun x hx => by have := h x hx; simp; omega, by omega⟩
theorem zh6 {x lo hi : Int} (h : lo ≤ x ∧ x ≤ hi) : CT Tryz.prog 28 [] [.int .i64 x, .int .i64 lo, .int .i64 hi] (.bool true) [] := by
 have := c_in x lo hi
 rwa [z0u.2 h] at this
theorem z6A (n : Int) : CT Tryz.prog 35 [] [.int .i64 n] (.bool (inB n 0 2)) [] := by
 have c1 := c_in n 0 2
 generalize inB n 0 2 = b at c1 ⊢
 refine z01 z16 1 rfl Tryz.func35 rfl rfl rfl ?_
 repeat ((try conv => whnf); first | (refine ccA ([]) (c1) ?_) | (refine stpQ ?_))
 (refine z00 (by rfl) ?_ ?_ (by rfl)) <;> (repeat' (first | (exact eqA) | (refine shE ?_) | (refine And.intro ?_ ?_)))
theorem z9U (n : Int) : CT Tryz.prog 36 [] [.int .i64 n] (.bool (inB n 0 2)) [] := by
 have c1 := c_in n 0 2
 generalize inB n 0 2 = b at c1 ⊢
 refine z01 z16 1 rfl Tryz.func36 rfl rfl rfl ?_
 repeat ((try conv => whnf); first | (refine ccA ([]) (c1) ?_) | (refine stpQ ?_))
 (refine z00 (by rfl) ?_ ?_ (by rfl)) <;> (repeat' (first | (exact eqA) | (refine shE ?_) | (refine And.intro ?_ ?_)))
theorem z9V (n : Int) : CT Tryz.prog 72 [] [.int .i64 n] (.bool (inB n 1 4)) [] := by
 have c1 := c_in n 1 4
 generalize inB n 1 4 = b at c1 ⊢
 refine z01 z16 1 rfl Tryz.func72 rfl rfl rfl ?_
 repeat ((try conv => whnf); first | (refine ccA ([]) (c1) ?_) | (refine stpQ ?_))
 (refine z00 (by rfl) ?_ ?_ (by rfl)) <;> (repeat' (first | (exact eqA) | (refine shE ?_) | (refine And.intro ?_ ?_)))
theorem z7I {n : Int} (h : 0 ≤ n ∧ n ≤ 2) : CT Tryz.prog 35 [] [.int .i64 n] (.bool true) [] := by
 have := z6A n
 rwa [z0u.2 h] at this
theorem z7J {n : Int} (h : 0 ≤ n ∧ n ≤ 2) : CT Tryz.prog 36 [] [.int .i64 n] (.bool true) [] := by
 have := z9U n
 rwa [z0u.2 h] at this
theorem z7K {n : Int} (h : 1 ≤ n ∧ n ≤ 4) : CT Tryz.prog 72 [] [.int .i64 n] (.bool true) [] := by
 have := z9V n
 rwa [z0u.2 h] at this
def sgB (s : Sg) : Bool := inB (s.a : Int) 0 15 && (s.op.all fun x => decide ((x.length : Int) = 16)) && decide ((s.op.length : Int) = 8) && (s.sh.all fun x => decide ((x.length : Int) = 16)) && decide ((s.sh.length : Int) = 8) && (s.si.all fun x => decide ((x.length : Int) = 16)) && decide ((s.si.length : Int) = 4)
theorem zh7 (s : Sg) (h1 : (s.op.length : Int) ≤ 1000000) (h2 : (s.sh.length : Int) ≤ 1000000) (h3 : (s.si.length : Int) ≤ 1000000) : CT Tryz.prog 153 [] [.agg (sgE s)] (.bool (sgB s)) [] := by
 obtain ⟨a, op, sh, si⟩ := s
 have c1 := c_in (a : Int) 0 15
 simp only at h1 h2 h3
 have c2 := z1t op 8 16 (by omega)
 have c3 := z1t sh 8 16 (by omega)
 have c4 := z1t si 4 16 (by omega)
 show CT _ _ _ _ (.bool (inB (a : Int) 0 15 && (op.all fun x => decide ((x.length : Int) = 16)) && decide ((op.length : Int) = 8) && (sh.all fun x => decide ((x.length : Int) = 16)) && decide ((sh.length : Int) = 8) && (si.all fun x => decide ((x.length : Int) = 16)) && decide ((si.length : Int) = 4))) _
 rw [Bool.and_assoc (inB (a : Int) 0 15), Bool.and_assoc (inB (a : Int) 0 15 && _), Bool.and_assoc (inB (a : Int) 0 15 && _ && _)]
 generalize inB (a : Int) 0 15 = b1 at c1 ⊢
 generalize ((op.all fun x => decide ((x.length : Int) = 16)) && decide ((op.length : Int) = 8)) = b2 at c2 ⊢
 generalize ((sh.all fun x => decide ((x.length : Int) = 16)) && decide ((sh.length : Int) = 8)) = b3 at c3 ⊢
 generalize ((si.all fun x => decide ((x.length : Int) = 16)) && decide ((si.length : Int) = 4)) = b4 at c4 ⊢
 refine z01 z16 1 rfl Tryz.func153 rfl rfl rfl ?_
 cases b1
 ·repeat ((try conv => whnf); first | (refine ccA ([]) (c1) ?_) | (refine stpQ ?_))
  (refine z00 (by rfl) ?_ ?_ (by rfl)) <;> (repeat' (first | (exact eqA) | (refine shE ?_) | (refine And.intro ?_ ?_))) <;> rfl
 cases b2
 ·repeat ((try conv => whnf); first | (refine ccA ([]) (c1) ?_) | (refine ccA ([]) (c2) ?_) | (refine stpQ ?_))
  (refine z00 (by rfl) ?_ ?_ (by rfl)) <;> (repeat' (first | (exact eqA) | (refine shE ?_) | (refine And.intro ?_ ?_))) <;> rfl
 cases b3
 ·repeat ((try conv => whnf); first | (refine ccA ([]) (c1) ?_) | (refine ccA ([]) (c2) ?_) | (refine ccA ([]) (c3) ?_) | (refine stpQ ?_))
  (refine z00 (by rfl) ?_ ?_ (by rfl)) <;> (repeat' (first | (exact eqA) | (refine shE ?_) | (refine And.intro ?_ ?_))) <;> rfl
 cases b4
 ·repeat ((try conv => whnf); first | (refine ccA ([]) (c1) ?_) | (refine ccA ([]) (c2) ?_) | (refine ccA ([]) (c3) ?_) | (refine ccA ([]) (c4) ?_) | (refine stpQ ?_))
  (refine z00 (by rfl) ?_ ?_ (by rfl)) <;> (repeat' (first | (exact eqA) | (refine shE ?_) | (refine And.intro ?_ ?_))) <;> rfl
 ·repeat ((try conv => whnf); first | (refine ccA ([]) (c1) ?_) | (refine ccA ([]) (c2) ?_) | (refine ccA ([]) (c3) ?_) | (refine ccA ([]) (c4) ?_) | (refine stpQ ?_))
  (refine z00 (by rfl) ?_ ?_ (by rfl)) <;> (repeat' (first | (exact eqA) | (refine shE ?_) | (refine And.intro ?_ ?_))) <;> rfl
theorem zh8 {s : Sg} (g : s.good) : sgB s = true := by
 obtain ⟨a, op, sh, si⟩ := s
 obtain ⟨h1, ⟨h2, h3⟩, ⟨h4, h5⟩, h6, h7⟩ := g
 simp only at h1 h2 h3 h4 h5 h6 h7
 have w2 := zfG h2 h3
 have w3 := zfG h4 h5
 have w4 := zfG h6 h7
 rw [Bool.and_eq_true] at w2 w3 w4
 simp only [sgB, Bool.and_eq_true]
 exact ⟨⟨⟨⟨⟨⟨z0u.2 (by omega), w2.1⟩, w2.2⟩, w3.1⟩, w3.2⟩, w4.1⟩, w4.2⟩
theorem z9W (s : Sg) (g : s.good) : CT Tryz.prog 153 [] [.agg (sgE s)] (.bool true) [] := by
 have := zh7 s (by have := g.2.1.1; omega) (by have := g.2.2.1.1; omega) (by have := g.2.2.2.1; omega)
 rwa [zh8 g] at this
theorem zdw (t : Bs) (ht : t.length ≤ 200) : CT Tryz.prog 151 [] [.str t] (.int .i64 (sbB t : Int)) [] := by
 have c1 := z5r 7 [t] 16 (by omega) (z8J ht) (by omega)
 have hl := z1q (k := 7) (ps := [t]) (w := 16) (by omega)
 have htl : ¬ (t.length : Int) > 200 := by omega
 unfold sbB
 generalize z1a 7 [t] 16 = d at c1 hl ⊢
 have h1 := zcm (d.getD 0 0)
 have h0 : 0 < d.length := by omega
 refine z01 z16 1 rfl Tryz.func151 rfl rfl rfl ?_
 repeat ((try conv => whnf); first | (refine ccA ([]) (c1) ?_) | (refine Exists.intro 0 (And.intro rfl (And.intro h0 ?_))) | (refine Exists.intro _ (And.intro h1.symm ?_)) | (refine stpQ ?_))
 (refine z00 (by rfl) ?_ ?_ (by rfl)) <;> (repeat' (first | (exact eqA) | (refine shE ?_) | (refine And.intro ?_ ?_)))
theorem i_sbit (ix b : Nat) (hix : ix < 256) (hb : b < 8) : CT Tryz.prog 152 [] [.int .i64 (ix : Int), .int .i64 (b : Int)] (.int .i64 ((sbit ix b : Nat) : Int)) [] := by
 have := ziN ix (7 - b) hix (by omega)
 rwa [show (7 : Int) - ((7 - b : Nat) : Int) = (b : Int) by omega] at this
end Go.Proofs.YtkjjacndfieeoaaGreatDoor
namespace Go.Proofs.YtkjjacndfieeoaaGreatDoor
set_option maxRecDepth 100000
set_option maxHeartbeats 2000000
set_option linter.unusedVariables false
set_option linter.unusedSimpArgs false
set_option linter.unusedSectionVars false
open Go.RowKit Pl
attribute [local irreducible] z0m z0n z0q AnsP LeP
theorem z5x (h : Hd) (g : h.good) : CT Tryz.prog 113 [] [.agg (hdE h)] (.bool true) [] := by
 obtain ⟨ho, ep, ro, pr⟩ := h
 obtain ⟨h1, h2, h3, h4, h5⟩ := g
 simp only at h1 h2 h3 h4 h5
 have c1 := z7I (n := (ho : Int)) (by omega)
 have c2 := z7K (n := (ep : Int)) (by omega)
 have hr : (ro.length : Int) = 16 := by omega
 by_cases he : ep = 1
 ·rw [if_pos he] at h5
  subst he h5
  refine z01 z16 1 rfl Tryz.func113 rfl rfl rfl ?_
  repeat ((try conv => whnf); first | (refine ccA ([]) (c1) ?_) | (refine ccA ([]) (c2) ?_) | (refine stpQ ?_))
  (refine z00 (by rfl) ?_ ?_ (by rfl)) <;> (repeat' (first | (exact eqA) | (refine shE ?_) | (refine And.intro ?_ ?_))) <;> first | rfl | decide
 ·rw [if_neg he] at h5
  have he2 : ¬ (ep : Int) = 1 := by omega
  have hq : (pr.length : Int) = 16 := by omega
  refine z01 z16 1 rfl Tryz.func113 rfl rfl rfl ?_
  repeat ((try conv => whnf); first | (refine ccA ([]) (c1) ?_) | (refine ccA ([]) (c2) ?_) | (refine stpQ ?_))
  (refine z00 (by rfl) ?_ ?_ (by rfl)) <;> (repeat' (first | (exact eqA) | (refine shE ?_) | (refine And.intro ?_ ?_))) <;> first | rfl | (exact decide_eq_true hq) | simp [hq]
theorem z7L (h : Hd) (g : h.good) : CT Tryz.prog 117 [] [.agg (hdE h)] (.tup [.str (z0T h), .bool true]) [] := by
 have c1 := z5x h g
 obtain ⟨ho, ep, ro, pr⟩ := h
 obtain ⟨h1, h2, h3, h4, h5⟩ := g
 simp only at h1 h2 h3 h4 h5
 have hq : pr.length ≤ 16 := by
  split at h5
  ·rw [h5]; simp
  ·omega
 refine z01 z16 1 rfl Tryz.func117 rfl rfl rfl ?_
 repeat ((try conv => whnf); first | (refine ccA ([]) (c1) ?_) | (refine w_u8 ?_) | (refine Exists.intro [UInt8.ofNat ho, UInt8.ofNat ep] (And.intro rfl ?_)) | (refine And.intro (by simp; omega) ?_) | (refine stpQ ?_))
 (refine z00 (by rfl) ?_ ?_ (by rfl)) <;> (repeat' (first | (exact eqA) | (refine shE ?_) | (refine And.intro ?_ ?_))) <;> rfl
theorem z7M (h : Hd) (g : h.good) : CT Tryz.prog 116 [] [.agg (hdE h)] (.str (z1G h)) [] := by
 have c1 := z7L h g
 have hl := z1U g
 have c2 := z5r 4 [z0T h] 16 (by omega) (z8J (by omega)) (by omega)
 unfold z1G
 generalize z1a 4 [z0T h] 16 = R at c2 ⊢
 generalize z0T h = t at c1 c2
 refine z01 z16 1 rfl Tryz.func116 rfl rfl rfl ?_
 repeat ((try conv => whnf); first | (refine ccA ([]) (c1) ?_) | (refine ccA ([]) (c2) ?_) | (refine stpQ ?_))
 (refine z00 (by rfl) ?_ ?_ (by rfl)) <;> (repeat' (first | (exact eqA) | (refine shE ?_) | (refine And.intro ?_ ?_)))
theorem z6B (h : Hd) : (z1G h).length = 16 := z1q (by omega)
theorem zh9 (ep : Nat) (h : 1 ≤ ep ∧ ep ≤ 4) : CT Tryz.prog 115 [] [.int .i64 (ep : Int)] (.int .i64 ((ep - 1 : Nat) : Int)) [] := by
 have c2 := z7K (n := (ep : Int)) (by omega)
 have e : IntKind.i64.wrap ((ep : Int) - 1) = ((ep - 1 : Nat) : Int) := by rw [wrap_i64 (by omega) (by omega)]; omega
 refine z01 z16 1 rfl Tryz.func115 rfl rfl rfl ?_
 repeat ((try conv => whnf); first | (refine ccA ([]) (c2) ?_) | (refine Exists.intro _ (And.intro e.symm ?_)) | (refine stpQ ?_))
 (refine z00 (by rfl) ?_ ?_ (by rfl)) <;> (repeat' (first | (exact eqA) | (refine shE ?_) | (refine And.intro ?_ ?_)))
end Go.Proofs.YtkjjacndfieeoaaGreatDoor
namespace Go.Proofs.YtkjjacndfieeoaaGreatDoor
set_option maxRecDepth 100000
set_option maxHeartbeats 4000000
set_option linter.unusedVariables false
set_option linter.unusedSimpArgs false
set_option linter.unusedSectionVars false
open Go.RowKit Pl
attribute [local irreducible] z0m z0n z0q AnsP LeP
end Go.Proofs.YtkjjacndfieeoaaGreatDoor
namespace Go.Proofs.YtkjjacndfieeoaaGreatDoor
set_option maxRecDepth 100000
set_option maxHeartbeats 4000000
set_option linter.unusedVariables false
set_option linter.unusedSimpArgs false
set_option linter.unusedSectionVars false
open Go.RowKit Pl
attribute [local irreducible] z0m z0n z0q AnsP LeP
theorem zfH (s : Sg) (g : s.good) : CT Tryz.prog 118 [] [.agg (sgE s)] (.tup [.str (sigB s), .bool true]) [] := by
 have c1 := z9W s g
 obtain ⟨a, op, sh, si⟩ := s
 obtain ⟨h1, ⟨h2, h3⟩, ⟨h4, h5⟩, h6, h7⟩ := g
 simp only at h1 h2 h3 h4 h5 h6 h7
 have c2 := z8E op (by omega) (fun x hx => by have := h3 x hx; omega)
 have c3 := z8E sh (by omega) (fun x hx => by have := h5 x hx; omega)
 have c4 := z8E si (by omega) (fun x hx => by have := h7 x hx; omega)
 have l2 := z2J h3
 have l3 := z2J h5
 have l4 := z2J h7
 show CT _ _ _ _ (.tup [.str ([UInt8.ofNat a] ++ op.flatten ++ sh.flatten ++ si.flatten), _]) _
 generalize op.flatten = f2 at c2 l2 ⊢
 generalize sh.flatten = f3 at c3 l3 ⊢
 generalize si.flatten = f4 at c4 l4 ⊢
 refine z01 z16 1 rfl Tryz.func118 rfl rfl rfl ?_
 repeat ((try conv => whnf); first | (refine ccA ([]) (c1) ?_) | (refine w_u8 ?_) | (refine Exists.intro [UInt8.ofNat a] (And.intro rfl ?_)) | (refine ccA ([]) (c2) ?_) | (refine ccA ([]) (c3) ?_) | (refine ccA ([]) (c4) ?_) | (refine And.intro (by simp; omega) ?_) | (refine And.intro (by kernel_rfl) ?_) | (refine stpQ ?_))
 (refine z00 (by rfl) ?_ ?_ (by rfl)) <;> (repeat' (first | (exact eqA) | (refine shE ?_) | (refine And.intro ?_ ?_)))
theorem zdx (h : Hd) (s : Sg) (g : h.good) (gs : s.good) : CT Tryz.prog 77 [] [.agg (hdE h ++ sgE s)] (.tup [.str (z1C h s), .bool true]) [] := by
 have c1 := z7L h g
 have c2 := zfH s gs
 have hl := z1U g
 have hs := z4p gs
 have c3 := z3S (z0T h) (by omega)
 have hsl := z57 (l := z0T h) (by omega)
 show CT _ _ _ _ (.tup [.str (z0p (z0T h) ++ sigB s), _]) _
 generalize z0p (z0T h) = t1 at c3 hsl ⊢
 generalize z0T h = t0 at c1 c3 hl hsl
 generalize sigB s = t2 at c2 hs ⊢
 obtain ⟨ho, ep, ro, pr⟩ := h
 obtain ⟨a, op, sh, si⟩ := s
 refine z01 z16 1 rfl Tryz.func77 rfl rfl rfl ?_
 repeat ((try conv => whnf); first | (refine ccA ([]) (c1) ?_) | (refine ccA ([]) (c2) ?_) | (refine ccA ([]) (c3) ?_) | (refine And.intro (by omega) ?_) | (refine And.intro (by kernel_rfl) ?_) | (refine stpQ ?_))
 (refine z00 (by rfl) ?_ ?_ (by rfl)) <;> (repeat' (first | (exact eqA) | (refine shE ?_) | (refine And.intro ?_ ?_)))
end Go.Proofs.YtkjjacndfieeoaaGreatDoor
namespace Go.Proofs.YtkjjacndfieeoaaGreatDoor
set_option maxRecDepth 100000
set_option maxHeartbeats 4000000
set_option linter.unusedVariables false
set_option linter.unusedSimpArgs false
set_option linter.unusedSectionVars false
open Go.RowKit Pl
attribute [local irreducible] z0m z0n z0q AnsP LeP
theorem ziV (t : Bs) (p a : Nat) (r : Bs) (ht : (t.length : Int) ≤ 1000000000) (hp : p ≤ t.length) (ha : a < 256) (h : t.drop p = [UInt8.ofNat a] ++ r) :
 CT Tryz.prog 193 [fldB t p false] [.ptr 1 0 0] (.int .i64 (a : Int)) [fldB t (p + 1) false] := by
 have c := z6m t p false 1 ht hp
 rw [z6w (n := 1) (l := [UInt8.ofNat a]) rfl h] at c
 simp only at c
 have hx : (UInt8.ofNat a).toNat = a := by simp [UInt8.toNat_ofNat']; omega
 have h1 := zcm (UInt8.ofNat a)
 rw [hx] at h1
 have h2 : (UInt8.ofNat a).toNat = a := hx
 generalize UInt8.ofNat a = x at c h1 h2
 subst h2
 have hne : ¬ (([x] : Bs) = []) := fun h => by cases h
 have h0 : 0 < ([x] : Bs).length := by simp
 refine z01 z0A 2 rfl Tryz.func193 rfl rfl rfl ?_
 repeat ((try conv => whnf); first | (refine ccB ([1]) (c) ?_) | (refine z0o hne ?_) | (refine Exists.intro 0 (And.intro rfl (And.intro h0 ?_))) | (refine Exists.intro _ (And.intro h1.symm ?_)) | (refine stpQ ?_))
 (refine z00 (by rfl) ?_ ?_ (by rfl)) <;> (repeat' (first | (exact eqA) | (refine shE ?_) | (refine And.intro ?_ ?_)))
theorem c_sig (t : Bs) (p : Nat) (s : Sg) (r : Bs) (g : s.good) (ht : (t.length : Int) ≤ 1000000000) (hp : p ≤ t.length) (h : t.drop p = sigB s ++ r) :
 CT Tryz.prog 174 [fldB t p false] [.ptr 1 0 0] (.agg (sgE s)) [fldB t (p + 321) false] := by
 obtain ⟨a, op, sh, si⟩ := s
 obtain ⟨h1, ⟨h2, h3⟩, ⟨h4, h5⟩, h6, h7⟩ := g
 simp only at h1 h2 h3 h4 h5 h6 h7
 have e0 : t.drop p = [UInt8.ofNat a] ++ (op.flatten ++ (sh.flatten ++ (si.flatten ++ r))) := by rw [h]; simp [sigB]
 have l2 := z2J h3
 have l4 := z2J h5
 have l6 := z2J h7
 rw [h2] at l2
 rw [h4] at l4
 rw [h6] at l6
 have e1 := z2m rfl e0
 have p1 := z3V hp rfl e0
 simp only [List.length_cons, List.length_nil, Nat.zero_add] at e1 p1
 have e2 := z2m l2 e1
 have p2 := z3V p1 l2 e1
 have e3 := z2m l4 e2
 have p3 := z3V p2 l4 e2
 have c0 := ziV t p a _ ht hp (by omega) e0
 have d1 := z4j h3 e1
 have d2 := z4j h5 e2
 have d3 := z4j h7 e3
 rw [h2, l2] at d1
 rw [h4, l4] at d2
 rw [h6, l6] at d3
 have c1 := z3t t (p + 1) false 8 16 ht p1 (by omega)
 have c2 := z3t t (p + 1 + 16 * 8) false 8 16 ht p2 (by omega)
 have c3 := z3t t (p + 1 + 16 * 8 + 16 * 8) false 4 16 ht p3 (by omega)
 rw [d1] at c1
 rw [d2] at c2
 rw [d3] at c3
 simp only at c1 c2 c3
 clear e0 e1 e2 e3 d1 d2 d3
 rw [show p + 321 = p + 1 + 16 * 8 + 16 * 8 + 16 * 4 by omega]
 generalize p + 1 + 16 * 8 + 16 * 8 + 16 * 4 = q4 at c3 ⊢
 generalize p + 1 + 16 * 8 + 16 * 8 = q3 at c2 c3
 generalize p + 1 + 16 * 8 = q2 at c1 c2
 generalize p + 1 = q1 at c0 c1
 show CT _ _ _ _ (.agg [.int .i64 (a : Int), .sl 1 (strE op), .sl 1 (strE sh), .sl 1 (strE si)]) _
 refine z01 z16 2 rfl Tryz.func174 rfl rfl rfl ?_
 repeat ((try conv => whnf); first | (refine ccB ([1]) (c0) ?_) | (refine ccB ([1]) (c1) ?_) | (refine ccB ([1]) (c2) ?_) | (refine ccB ([1]) (c3) ?_) | (refine And.intro (by kernel_rfl) ?_) | (refine stpQ ?_))
 (refine z00 (by rfl) ?_ ?_ (by rfl)) <;> (repeat' (first | (exact eqA) | (refine shE ?_) | (refine And.intro ?_ ?_)))
theorem z7N (h : Hd) (g : h.good) : CT Tryz.prog 172 [] [.str (z0T h)] (.tup [.agg (hdE h), .bool true]) [] := by
 have hl := z1U g
 have k1 := z5x h g
 obtain ⟨ho, ep, ro, pr⟩ := h
 obtain ⟨h1, h2, h3, h4, h5⟩ := g
 simp only at h1 h2 h3 h4 h5
 have e0 : (z0T ⟨ho, ep, ro, pr⟩).drop 0 = [UInt8.ofNat ho] ++ ([UInt8.ofNat ep] ++ (ro ++ pr)) := by simp [z0T]
 have p0 : 0 ≤ (z0T ⟨ho, ep, ro, pr⟩).length := by omega
 generalize z0T ⟨ho, ep, ro, pr⟩ = t at hl e0 p0 ⊢
 have e1 := z2m rfl e0
 have p1 := z3V p0 rfl e0
 simp only [List.length_cons, List.length_nil, Nat.zero_add] at e1 p1
 have e2 := z2m rfl e1
 have p2 := z3V p1 rfl e1
 simp only [List.length_cons, List.length_nil, Nat.zero_add, Nat.reduceAdd] at e2 p2
 have e3 := z2m h4 e2
 have p3 := z3V p2 h4 e2
 simp only [Nat.reduceAdd] at e3 p3
 have c0 := ziV t 0 ho _ (by omega) p0 (by omega) e0
 have c1 := ziV t 1 ep _ (by omega) p1 (by omega) e1
 have c2 := z6m t 2 false 16 (by omega) p2
 rw [z6w h4 e2] at c2
 simp only [Nat.zero_add, Nat.reduceAdd] at c0 c1 c2
 subst e3
 refine z01 z16 1 rfl Tryz.func172 rfl rfl rfl ?_
 repeat ((try conv => whnf); first | (refine ccB ([_]) (c0) ?_) | (refine ccB ([_]) (c1) ?_) | (refine ccB ([_]) (c2) ?_) | (refine ccA ([]) (k1) ?_) | (refine Exists.intro 18 (And.intro rfl (And.intro p3 ?_))) | (refine And.intro (by kernel_rfl) ?_) | (refine stpQ ?_))
 (refine z00 (by rfl) ?_ ?_ (by rfl)) <;> (repeat' (first | (exact eqA) | (refine shE ?_) | (refine And.intro ?_ ?_))) <;> rfl
end Go.Proofs.YtkjjacndfieeoaaGreatDoor
