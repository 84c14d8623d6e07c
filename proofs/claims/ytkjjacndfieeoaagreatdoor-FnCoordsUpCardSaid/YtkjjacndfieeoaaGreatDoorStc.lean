/- Functions by content: stamps of any content; the stamps of a world are right. Functions by content: seals that are right in form; the chain of a house is right. -/
import Derived.Test.YtkjjacndfieeoaaGreatDoorVd
import Derived.Test.YtkjjacndfieeoaaGreatDoorCsy
import Derived.Test.YtkjjacndfieeoaaGreatDoorCs
import Derived.Test.YtkjjacndfieeoaaGreatDoorSp
import Derived.Test.YtkjjacndfieeoaaGreatDoorSiR
import Derived.Test.YtkjjacndfieeoaaGreatDoorSvz
namespace Go.Proofs.YtkjjacndfieeoaaGreatDoor
set_option linter.unusedVariables false
set_option linter.unusedSimpArgs false
set_option linter.unusedSectionVars false
open Go.RowKit Pl
section
attribute [local irreducible] z0m z0n z0q AnsP LeP
theorem z7W (ix w : Nat) : ∀ (ss : List Bs) (j : Nat) (h s : Bs), (z2G ix w j h (ss ++ [s])).2 = cutB (tagB 3 (zaN ix (j + ss.length) (z2G ix w j h ss).2 s)) w
 | [], j, h, s => rfl
 | t :: ss, j, h, s => by
   simp only [List.cons_append, z2G, z7W ix w ss (j + 1), List.length_cons]
   rw [show j + 1 + ss.length = j + (ss.length + 1) by omega]
set_option maxRecDepth 100000 in
set_option maxHeartbeats 8000000 in
theorem zge (root text : Bs) (s : Sg) (g : s.good) (ht : text.length ≤ 200) : CT Tryz.prog 52 [] [.str root, .str text, .agg (sgE s)] (.bool (decide (z9L text s = root))) [] := by
 have hk := z9T g
 have hsb := zfq text
 obtain ⟨a, op, sh, si⟩ := s
 obtain ⟨h1, ⟨h2, h3⟩, ⟨h4, h5⟩, h6, h7⟩ := g
 simp only at h1 h2 h3 h4 h5 h6 h7 hk
 have c1 := za3 (a : Int) op sh si (by omega) (by omega) (by omega)
 rw [hk] at c1
 have c2 := z6E text ht
 have l1 := z0d op
 have l2 := z0d sh
 have l3 := z0d si
 have cT := z1b 6 (z2v (sbB text) op sh 8) 16 (by omega) (z4Q (by rw [z4P]; omega) (zaW h5 (by omega))) (by omega)
 have hkey : z1a 6 (z2v (sbB text) op sh 8) 16 = keyV text ⟨a, op, sh, si⟩ := rfl
 rw [hkey] at cT
 have hrt : z9L text ⟨a, op, sh, si⟩ = (z2G a 16 0 (keyV text ⟨a, op, sh, si⟩) si).2 := rfl
 rw [hrt]
 have hkl : (keyV text ⟨a, op, sh, si⟩).length = 16 := z1q (by omega)
 have hsbit := fun b (h : b < 8) => za0 (sbB text) b hsb h
 have hlk := fun n => z3U (sbB text) op sh n
 have hll := z4P (sbB text) op sh
 clear hkey hrt hk
 generalize keyV text ⟨a, op, sh, si⟩ = KV at cT hkl ⊢
 generalize sbB text = ix at c2 cT hsbit hlk hll hsb
 show CT _ _ _ [.str root, .str text, .agg [.int .i64 (a : Int), .sl 1 (strE op), .sl 1 (strE sh), .sl 1 (strE si)]] _ _
 unfold z2n at c1
 have ht2 : ¬ (text.length : Int) > 200 := by omega
 refine z01 z0f 1 rfl Tryz.func52 rfl rfl rfl ?_
 repeat ((try conv => whnf); first | (refine ccA ([]) (c1) ?_) | (refine z0o ht2 ?_) | (refine ccA ([]) (c2) ?_) | (refine And.intro (by kernel_rfl) ?_) | (refine stpQ ?_))
 refine z0i 0 ⟨[(0, .str root), (5, .ptr 1 0 0), (8, .ref 2)], [(1, some (.box [.int .i64 (a : Int), .sl 1 (strE op), .sl 1 (strE sh), .sl 1 (strE si)])), (2, some (.row 1 (strE (z2v ix op sh 8))))], 3⟩ Nat (fun b => ⟨[(0, .str root), (5, .ptr 1 0 0), (7, .int .i64 (ix : Int)), (8, .ref 2), (9, .int .i64 (b : Int))], [(1, some (.box [.int .i64 (a : Int), .sl 1 (strE op), .sl 1 (strE sh), .sl 1 (strE si)])), (2, some (.row 1 (strE (z2v ix op sh b))))], 3⟩) (fun b => b ≤ 8) (fun b => 8 - b) 0 (by omega) ?_ ?_ ?_
 ·(refine z02 (by rfl) ?_ ?_) <;> (repeat' (first | (exact eqA) | (refine shE ?_) | (refine And.intro ?_ ?_))) <;> first | rfl | decide
 ·intro b hb
  by_cases hlt : b < 8
  ·have hb8 : (b : Int) < 8 := by omega
   have g1 := z0v (show b < op.length by omega)
   have g2 := z0v (show b < sh.length by omega)
   have w1 : (pAt op b).length = 16 := z2u h3 (by omega)
   have cl := zb2 (pAt op b) (by omega)
   have cb := hsbit b hlt
   have hnx := hlk b
   have hol := z0d (z2v ix op sh b)
   rw [hll] at hol
   unfold z9K at hnx
   generalize z2v ix op sh b = o at hnx hol ⊢
   generalize z30 (pAt op b) = lk at cl hnx
   generalize pAt op b = ov at g1 cl
   generalize pAt sh b = sv at g2 hnx
   by_cases hs : sbit ix b = 0
   ·rw [if_pos hs] at hnx
    rw [hs] at cb
    repeat ((try conv => whnf); first | (refine i_at g1 ?_) | (refine i_at g2 ?_) | (refine ccA ([]) (cl) ?_) | (refine ccA ([]) (cb) ?_) | (refine z0k rfl ?_) | (refine And.intro (by simp only [List.length_append, List.length_cons, List.length_nil, List.length_set, List.length_replicate]; omega) ?_) | (refine And.intro (by kernel_rfl) ?_) | (refine stpQ ?_))
    refine ⟨b + 1, by omega, by omega, ?_⟩
    rw [hnx, z2V]
    (refine z02 (by rfl) ?_ ?_) <;> (repeat' (first | (exact eqA) | (refine shE ?_) | (refine And.intro ?_ ?_)))
    all_goals rfl
   ·rw [if_neg hs] at hnx
    have hs2 : ¬ ((sbit ix b : Nat) : Int) = 0 := by omega
    generalize sbit ix b = q at cb hs2
    repeat ((try conv => whnf); first | (refine i_at g1 ?_) | (refine i_at g2 ?_) | (refine ccA ([]) (cl) ?_) | (refine ccA ([]) (cb) ?_) | (refine z0o hs2 ?_) | (refine And.intro (by simp only [List.length_append, List.length_cons, List.length_nil, List.length_set, List.length_replicate]; omega) ?_) | (refine And.intro (by kernel_rfl) ?_) | (refine stpQ ?_))
    refine ⟨b + 1, by omega, by omega, ?_⟩
    rw [hnx, z2V]
    (refine z02 (by rfl) ?_ ?_) <;> (repeat' (first | (exact eqA) | (refine shE ?_) | (refine And.intro ?_ ?_)))
    all_goals rfl
  ·obtain rfl : b = 8 := by omega
   repeat ((try conv => whnf); first | (refine stpQ ?_))
   (refine z02 (by rfl) ?_ ?_) <;> (repeat' (first | (exact eqA) | (refine shE ?_) | (refine And.intro ?_ ?_)))
 ·repeat ((try conv => whnf); first | (refine ccA ([]) (cT) ?_) | (refine And.intro (by kernel_rfl) ?_) | (refine stpQ ?_))
  refine z0i 2 ⟨[(0, .str root), (11, .str (z2G a 16 0 KV si).2)], [], 1⟩ Nat (fun j => ⟨[(0, .str root), (5, .ptr 1 0 0), (11, .str (z2G a 16 0 KV (si.take j)).2), (12, .int .i64 ((a / 2 ^ j : Nat) : Int)), (13, .int .i64 (j : Int))], [(1, some (.box [.int .i64 (a : Int), .sl 1 (strE op), .sl 1 (strE sh), .sl 1 (strE si)]))], 2⟩) (fun j => j ≤ si.length) (fun j => si.length - j) 0 (by omega) ?_ ?_ ?_
  ·(refine z02 (by rfl) ?_ ?_) <;> (repeat' (first | (exact eqA) | (refine shE ?_) | (refine And.intro ?_ ?_))) <;> first | rfl | (simp; done) | decide
  ·intro j hj
   by_cases hlt : j < si.length
   ·have g1 := z0v hlt
    have w1 : (pAt si j).length = 16 := z2u h7 hlt
    have hts : si.take (j + 1) = si.take j ++ [pAt si j] := by rw [List.take_succ_eq_append_getElem hlt]; simp [pAt, List.getD, List.getElem?_eq_getElem hlt]
    have hnx := z7W a 16 (si.take j) 0 KV (pAt si j)
    rw [← hts] at hnx
    have hjl : 0 + (si.take j).length = j := by rw [List.length_take]; omega
    rw [hjl] at hnx
    have hvl : (z2G a 16 0 KV (si.take j)).2.length = 16 := z9N (by omega) _ _ _ hkl
    have e2 : IntKind.i64.wrap (Int.tdiv ((a / 2 ^ j : Nat) : Int) 2) = ((a / 2 ^ (j + 1) : Nat) : Int) := by
     have q0 : a / 2 ^ j / 2 = a / 2 ^ (j + 1) := by rw [Nat.div_div_eq_div_mul, ← Nat.pow_succ]
     have q1 : Int.tdiv ((a / 2 ^ j : Nat) : Int) 2 = ((a / 2 ^ j / 2 : Nat) : Int) := rfl
     have q2 : a / 2 ^ (j + 1) ≤ a := Nat.div_le_self _ _
     rw [q1, q0]
     generalize a / 2 ^ (j + 1) = z at q2
     exact wrap_i64 (by omega) (by omega)
    have e1 : Int.tmod ((a / 2 ^ j : Nat) : Int) 2 = ((a / 2 ^ j % 2 : Nat) : Int) := rfl
    have hbit : a / 2 ^ j % 2 = 0 ∨ a / 2 ^ j % 2 = 1 := by omega
    have hbt : bitB a j = a / 2 ^ j % 2 := rfl
    unfold zaN at hnx
    generalize hv2 : (z2G a 16 0 KV (si.take (j + 1))).2 = v' at hnx
    generalize (z2G a 16 0 KV (si.take j)).2 = v at hnx hvl ⊢
    generalize pAt si j = sd at g1 w1 hnx
    rcases hbit with hz | hz
    ·have ct := z1b 3 [v, sd] 16 (by omega) (z3h (by omega) (by omega)) (by omega)
     have hv' : v' = z1a 3 [v, sd] 16 := by rw [hnx, if_neg (by rw [hbt, hz]; decide)]; rfl
     rw [← hv'] at ct
     clear hnx hv'
     rw [hz] at e1
     generalize hk2 : a / 2 ^ (j + 1) = k2 at e2
     generalize a / 2 ^ j = k1 at e1 e2 ⊢
     repeat ((try conv => whnf); first | (refine Exists.intro si.length (And.intro l3 ?_)) | (refine Exists.intro _ (And.intro e1.symm ?_)) | (refine z0k rfl ?_) | (refine i_at g1 ?_) | (refine ccA ([]) (ct) ?_) | (refine Exists.intro _ (And.intro e2.symm ?_)) | (refine And.intro (by kernel_rfl) ?_) | (refine stpQ ?_))
     refine ⟨j + 1, by omega, by omega, ?_⟩
     (refine z02 (by rfl) ?_ ?_) <;> (repeat' (first | (exact eqA) | (refine shE ?_) | (refine And.intro ?_ ?_)))
     all_goals first
      | exact hv2.symm
      | (rw [hk2]; done)
      | rfl
    ·have ct := z1b 3 [sd, v] 16 (by omega) (z3h (by omega) (by omega)) (by omega)
     have hv' : v' = z1a 3 [sd, v] 16 := by rw [hnx, if_pos (by rw [hbt, hz])]; rfl
     rw [← hv'] at ct
     clear hnx hv'
     rw [hz] at e1
     generalize hk2 : a / 2 ^ (j + 1) = k2 at e2
     generalize a / 2 ^ j = k1 at e1 e2 ⊢
     repeat ((try conv => whnf); first | (refine Exists.intro si.length (And.intro l3 ?_)) | (refine Exists.intro _ (And.intro e1.symm ?_)) | (refine z0o (by decide) ?_) | (refine i_at g1 ?_) | (refine ccA ([]) (ct) ?_) | (refine Exists.intro _ (And.intro e2.symm ?_)) | (refine And.intro (by kernel_rfl) ?_) | (refine stpQ ?_))
     refine ⟨j + 1, by omega, by omega, ?_⟩
     (refine z02 (by rfl) ?_ ?_) <;> (repeat' (first | (exact eqA) | (refine shE ?_) | (refine And.intro ?_ ?_)))
     all_goals first
      | exact hv2.symm
      | (rw [hk2]; done)
      | rfl
   ·obtain rfl : j = si.length := by omega
    rw [List.take_length]
    repeat ((try conv => whnf); first | (refine Exists.intro si.length (And.intro l3 ?_)) | (refine stpQ ?_))
    (refine z02 (by rfl) ?_ ?_) <;> (repeat' (first | (exact eqA) | (refine shE ?_) | (refine And.intro ?_ ?_)))
  ·repeat ((try conv => whnf); first | (refine stpQ ?_))
   (refine z00 (by rfl) ?_ ?_ (by rfl)) <;> (repeat' (first | (exact eqA) | (refine shE ?_) | (refine And.intro ?_ ?_)))
end
end Go.Proofs.YtkjjacndfieeoaaGreatDoor
namespace Go.Proofs.YtkjjacndfieeoaaGreatDoor
set_option linter.unusedVariables false
set_option linter.unusedSimpArgs false
set_option linter.unusedSectionVars false
open Go.RowKit Pl
section
attribute [local irreducible] z0m z0n z0q AnsP LeP
def slB (root : Bs) (x : Hd × Sg) : Bool := decide ((x.2.a : Int) = ((x.1.ep - 1 : Nat) : Int)) && decide (z9L (z1G x.1) x.2 = root)
set_option maxRecDepth 100000 in
set_option maxHeartbeats 8000000 in
theorem zdY (root : Bs) (x : Hd × Sg) (g : x.1.good) (gs : x.2.good) : CT Tryz.prog 19 [] [.str root, .agg (hdE x.1 ++ sgE x.2)] (.bool (slB root x)) [] := by
 obtain ⟨h, s⟩ := x
 have c1 := z4v h g
 have c2 := z2U h g
 have c3 := za1 h.ep ⟨g.2.1, g.2.2.1⟩
 have c4 := zge root (z1G h) s gs (by rw [z6B]; omega)
 show CT _ _ _ _ (.bool (decide ((s.a : Int) = ((h.ep - 1 : Nat) : Int)) && decide (z9L (z1G h) s = root))) _
 generalize decide (z9L (z1G h) s = root) = b at c4 ⊢
 generalize z1G h = t at c2 c4
 obtain ⟨hho, ep, ro, pr⟩ := h
 obtain ⟨a, op, sh, si⟩ := s
 simp only at c1 c2 c3 c4 ⊢
 by_cases ha : (a : Int) = ((ep - 1 : Nat) : Int)
 ·rw [decide_eq_true ha, Bool.true_and]
  refine z01 z0f 1 rfl Tryz.func19 rfl rfl rfl ?_
  repeat ((try conv => whnf); first | (refine z0k ha ?_) | (refine ccA ([]) (c1) ?_) | (refine ccA ([]) (c3) ?_) | (refine ccA ([]) (c2) ?_) | (refine ccA ([]) (c4) ?_) | (refine And.intro (by kernel_rfl) ?_) | (refine stpQ ?_))
  (refine z00 (by rfl) ?_ ?_ (by rfl)) <;> (repeat' (first | (exact eqA) | (refine shE ?_) | (refine And.intro ?_ ?_))) <;> simp [ha]
 ·rw [decide_eq_false ha, Bool.false_and]
  refine z01 z0f 1 rfl Tryz.func19 rfl rfl rfl ?_
  repeat ((try conv => whnf); first | (refine z0o ha ?_) | (refine ccA ([]) (c1) ?_) | (refine ccA ([]) (c3) ?_) | (refine And.intro (by kernel_rfl) ?_) | (refine stpQ ?_))
  (refine z00 (by rfl) ?_ ?_ (by rfl)) <;> (repeat' (first | (exact eqA) | (refine shE ?_) | (refine And.intro ?_ ?_))) <;> simp [ha]
end
end Go.Proofs.YtkjjacndfieeoaaGreatDoor
