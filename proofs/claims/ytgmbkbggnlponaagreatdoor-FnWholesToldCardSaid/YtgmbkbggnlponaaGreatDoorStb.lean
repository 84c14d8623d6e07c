/- Functions by content: stamps of any content; the stamps of a world are right. -/
import Derived.Test.YtgmbkbggnlponaaGreatDoorVd
import Derived.Test.YtgmbkbggnlponaaGreatDoorSta
import Derived.Test.YtgmbkbggnlponaaGreatDoorDsa
import Derived.Test.YtgmbkbggnlponaaGreatDoorSp
import Derived.Test.YtgmbkbggnlponaaGreatDoorSiR
namespace Go.Proofs.YtgmbkbggnlponaaGreatDoor
set_option maxRecDepth 100000
set_option maxHeartbeats 8000000
set_option linter.unusedVariables false
set_option linter.unusedSimpArgs false
set_option linter.unusedSectionVars false
open Go.RowKit Pl
section
attribute [local irreducible] z0t z0u z0y AnsP LeP
theorem zcO (root text : Bs) (a : Int) (op sh si : List Bs) (h1 : op.length ≤ 1048576) (h2 : sh.length ≤ 1048576) (h3 : si.length ≤ 1048576) (hn : z2D a op sh si = false) : CT Tryz.prog 67 [] [.str root, .str text, .agg (z23 a op sh si)] (.bool false) [] := by
 have c1 := z79 a op sh si h1 h2 h3
 rw [hn] at c1
 unfold z23 at c1 ⊢
 have c2 : CT Tryz.prog 127 [] [.str text, .agg [.int .i64 a, .sl 1 (strE op), .sl 1 (strE sh), .sl 1 (strE si)]] (.sl 1 []) [] := by
  refine z01 z0B 1 rfl Tryz.func127 rfl rfl rfl ?_
  repeat ((try conv => whnf); first | (refine ccA ([]) (c1) ?_) | (refine And.intro (by kernel_rfl) ?_) | (refine stpQ ?_))
  (refine z00 (by rfl) ?_ ?_ (by rfl)) <;> (repeat' (first | (exact eqA) | (refine shE ?_) | (refine And.intro ?_ ?_))) <;> rfl
 refine z01 z0B 1 rfl Tryz.func67 rfl rfl rfl ?_
 repeat ((try conv => whnf); first | (refine ccA ([]) (c2) ?_) | (refine Exists.intro 0 (And.intro rfl ?_)) | (refine And.intro (by kernel_rfl) ?_) | (refine stpQ ?_))
 (refine z00 (by rfl) ?_ ?_ (by rfl)) <;> (repeat' (first | (exact eqA) | (refine shE ?_) | (refine And.intro ?_ ?_)))
theorem zaB (root text : Bs) (a : Int) (op sh si : List Bs) (h1 : op.length ≤ 1048576) (h2 : sh.length ≤ 1048576) (h3 : si.length ≤ 1048576) (hn : z2D a op sh si = false) : CT Tryz.prog 79 [] [.str root, .str text, .agg (z23 a op sh si)] (.bool false) [] := by
 have c1 := z57 a op sh si h1 h2 h3
 rw [hn] at c1
 unfold z23 at c1 ⊢
 refine z01 z0B 1 rfl Tryz.func79 rfl rfl rfl ?_
 repeat ((try conv => whnf); first | (refine ccA ([]) (c1) ?_) | (refine And.intro (by kernel_rfl) ?_) | (refine stpQ ?_))
 (refine z00 (by rfl) ?_ ?_ (by rfl)) <;> (repeat' (first | (exact eqA) | (refine shE ?_) | (refine And.intro ?_ ?_)))
theorem z47 (ix w : Nat) : ∀ (ss : List Bs) (j : Nat) (h s : Bs), (z0Y ix w j h (ss ++ [s])).2 = cutB (tagB 3 (z1p ix (j + ss.length) (z0Y ix w j h ss).2 s)) w
 | [], j, h, s => rfl
 | t :: ss, j, h, s => by
   simp only [List.cons_append, z0Y, z47 ix w ss (j + 1), List.length_cons]
   rw [show j + 1 + ss.length = j + (ss.length + 1) by omega]
theorem zaC (root text : Bs) (s : Sg) (g : s.good) (ht : text.length ≤ 200) : CT Tryz.prog 79 [] [.str root, .str text, .agg (sgE s)] (.bool (decide (z3A text s = root))) [] := by
 have hk := zao g
 have hsb := zfg text
 obtain ⟨a, op, sh, si⟩ := s
 obtain ⟨h1, ⟨h2, h3⟩, ⟨h4, h5⟩, h6, h7⟩ := g
 simp only at h1 h2 h3 h4 h5 h6 h7 hk
 have c1 := z57 (a : Int) op sh si (by omega) (by omega) (by omega)
 rw [hk] at c1
 have c2 := z7c text ht
 have l1 := z0c op
 have l2 := z0c sh
 have l3 := z0c si
 have cT := z0U 6 (z1y (sbB text) op sh 8) 16 (by omega) (z89 (by rw [z2K]; omega) (z4r h5 (by omega))) (by omega)
 have hkey : z14 6 (z1y (sbB text) op sh 8) 16 = keyV text ⟨a, op, sh, si⟩ := rfl
 rw [hkey] at cT
 have hrt : z3A text ⟨a, op, sh, si⟩ = (z0Y a 16 0 (keyV text ⟨a, op, sh, si⟩) si).2 := rfl
 rw [hrt]
 have hkl : (keyV text ⟨a, op, sh, si⟩).length = 16 := z0X (by omega)
 have hsbit := fun b (h : b < 8) => zat (sbB text) b hsb h
 have hlk := fun n => z3q (sbB text) op sh n
 have hll := z2K (sbB text) op sh
 clear hkey hrt hk
 generalize keyV text ⟨a, op, sh, si⟩ = KV at cT hkl ⊢
 generalize sbB text = ix at c2 cT hsbit hlk hll hsb
 show CT _ _ _ [.str root, .str text, .agg [.int .i64 (a : Int), .sl 1 (strE op), .sl 1 (strE sh), .sl 1 (strE si)]] _ _
 unfold z23 at c1
 have ht2 : ¬ (text.length : Int) > 200 := by omega
 refine z01 z0B 1 rfl Tryz.func79 rfl rfl rfl ?_
 repeat ((try conv => whnf); first | (refine ccA ([]) (c1) ?_) | (refine z0k ht2 ?_) | (refine ccA ([]) (c2) ?_) | (refine And.intro (by kernel_rfl) ?_) | (refine stpQ ?_))
 refine z0h 0 ⟨[(0, .str root), (5, .ptr 1 0 0), (8, .ref 2)], [(1, some (.box [.int .i64 (a : Int), .sl 1 (strE op), .sl 1 (strE sh), .sl 1 (strE si)])), (2, some (.row 1 (strE (z1y ix op sh 8))))], 3⟩ Nat (fun b => ⟨[(0, .str root), (5, .ptr 1 0 0), (7, .int .i64 (ix : Int)), (8, .ref 2), (9, .int .i64 (b : Int))], [(1, some (.box [.int .i64 (a : Int), .sl 1 (strE op), .sl 1 (strE sh), .sl 1 (strE si)])), (2, some (.row 1 (strE (z1y ix op sh b))))], 3⟩) (fun b => b ≤ 8) (fun b => 8 - b) 0 (by omega) ?_ ?_ ?_
 ·(refine z02 (by rfl) ?_ ?_) <;> (repeat' (first | (exact eqA) | (refine shE ?_) | (refine And.intro ?_ ?_))) <;> first | rfl | decide
 ·intro b hb
  by_cases hlt : b < 8
  ·have hb8 : (b : Int) < 8 := by omega
   have g1 := z0n (show b < op.length by omega)
   have g2 := z0n (show b < sh.length by omega)
   have w1 : (pAt op b).length = 16 := z1X h3 (by omega)
   have cl := zbI (pAt op b) (by omega)
   have cb := hsbit b hlt
   have hnx := hlk b
   have hol := z0c (z1y ix op sh b)
   rw [hll] at hol
   unfold z5O at hnx
   generalize z1y ix op sh b = o at hnx hol ⊢
   generalize z3z (pAt op b) = lk at cl hnx
   generalize pAt op b = ov at g1 cl
   generalize pAt sh b = sv at g2 hnx
   by_cases hs : sbit ix b = 0
   ·rw [if_pos hs] at hnx
    rw [hs] at cb
    repeat ((try conv => whnf); first | (refine i_at g1 ?_) | (refine i_at g2 ?_) | (refine ccA ([]) (cl) ?_) | (refine ccA ([]) (cb) ?_) | (refine z0i rfl ?_) | (refine And.intro (by simp only [List.length_append, List.length_cons, List.length_nil, List.length_set, List.length_replicate]; omega) ?_) | (refine And.intro (by kernel_rfl) ?_) | (refine stpQ ?_))
    refine ⟨b + 1, by omega, by omega, ?_⟩
    rw [hnx, z2U]
    (refine z02 (by rfl) ?_ ?_) <;> (repeat' (first | (exact eqA) | (refine shE ?_) | (refine And.intro ?_ ?_)))
    all_goals rfl
   ·rw [if_neg hs] at hnx
    have hs2 : ¬ ((sbit ix b : Nat) : Int) = 0 := by omega
    generalize sbit ix b = q at cb hs2
    repeat ((try conv => whnf); first | (refine i_at g1 ?_) | (refine i_at g2 ?_) | (refine ccA ([]) (cl) ?_) | (refine ccA ([]) (cb) ?_) | (refine z0k hs2 ?_) | (refine And.intro (by simp only [List.length_append, List.length_cons, List.length_nil, List.length_set, List.length_replicate]; omega) ?_) | (refine And.intro (by kernel_rfl) ?_) | (refine stpQ ?_))
    refine ⟨b + 1, by omega, by omega, ?_⟩
    rw [hnx, z2U]
    (refine z02 (by rfl) ?_ ?_) <;> (repeat' (first | (exact eqA) | (refine shE ?_) | (refine And.intro ?_ ?_)))
    all_goals rfl
  ·obtain rfl : b = 8 := by omega
   repeat ((try conv => whnf); first | (refine stpQ ?_))
   (refine z02 (by rfl) ?_ ?_) <;> (repeat' (first | (exact eqA) | (refine shE ?_) | (refine And.intro ?_ ?_)))
 ·repeat ((try conv => whnf); first | (refine ccA ([]) (cT) ?_) | (refine And.intro (by kernel_rfl) ?_) | (refine stpQ ?_))
  refine z0h 2 ⟨[(0, .str root), (11, .str (z0Y a 16 0 KV si).2)], [], 1⟩ Nat (fun j => ⟨[(0, .str root), (5, .ptr 1 0 0), (11, .str (z0Y a 16 0 KV (si.take j)).2), (12, .int .i64 ((a / 2 ^ j : Nat) : Int)), (13, .int .i64 (j : Int))], [(1, some (.box [.int .i64 (a : Int), .sl 1 (strE op), .sl 1 (strE sh), .sl 1 (strE si)]))], 2⟩) (fun j => j ≤ si.length) (fun j => si.length - j) 0 (by omega) ?_ ?_ ?_
  ·(refine z02 (by rfl) ?_ ?_) <;> (repeat' (first | (exact eqA) | (refine shE ?_) | (refine And.intro ?_ ?_))) <;> first | rfl | (simp; done) | decide
  ·intro j hj
   by_cases hlt : j < si.length
   ·have g1 := z0n hlt
    have w1 : (pAt si j).length = 16 := z1X h7 hlt
    have hts : si.take (j + 1) = si.take j ++ [pAt si j] := by rw [List.take_succ_eq_append_getElem hlt]; simp [pAt, List.getD, List.getElem?_eq_getElem hlt]
    have hnx := z47 a 16 (si.take j) 0 KV (pAt si j)
    rw [← hts] at hnx
    have hjl : 0 + (si.take j).length = j := by rw [List.length_take]; omega
    rw [hjl] at hnx
    have hvl : (z0Y a 16 0 KV (si.take j)).2.length = 16 := z74 (by omega) _ _ _ hkl
    have e2 : IntKind.i64.wrap (Int.tdiv ((a / 2 ^ j : Nat) : Int) 2) = ((a / 2 ^ (j + 1) : Nat) : Int) := by
     have q0 : a / 2 ^ j / 2 = a / 2 ^ (j + 1) := by rw [Nat.div_div_eq_div_mul, ← Nat.pow_succ]
     have q1 : Int.tdiv ((a / 2 ^ j : Nat) : Int) 2 = ((a / 2 ^ j / 2 : Nat) : Int) := rfl
     have q2 : a / 2 ^ (j + 1) ≤ a := Nat.div_le_self _ _
     rw [q1, q0]
     generalize a / 2 ^ (j + 1) = z at q2
     exact wrap_i64 (by omega) (by omega)
    have e1 : Int.tmod ((a / 2 ^ j : Nat) : Int) 2 = ((a / 2 ^ j % 2 : Nat) : Int) := rfl
    have hbit : a / 2 ^ j % 2 = 0 ∨ a / 2 ^ j % 2 = 1 := by omega
    have hbt : bitB a j = a / 2 ^ j % 2 := rfl
    unfold z1p at hnx
    generalize hv2 : (z0Y a 16 0 KV (si.take (j + 1))).2 = v' at hnx
    generalize (z0Y a 16 0 KV (si.take j)).2 = v at hnx hvl ⊢
    generalize pAt si j = sd at g1 w1 hnx
    rcases hbit with hz | hz
    ·have ct := z0U 3 [v, sd] 16 (by omega) (z1U (by omega) (by omega)) (by omega)
     have hv' : v' = z14 3 [v, sd] 16 := by rw [hnx, if_neg (by rw [hbt, hz]; decide)]; rfl
     rw [← hv'] at ct
     clear hnx hv'
     rw [hz] at e1
     generalize hk2 : a / 2 ^ (j + 1) = k2 at e2
     generalize a / 2 ^ j = k1 at e1 e2 ⊢
     repeat ((try conv => whnf); first | (refine Exists.intro si.length (And.intro l3 ?_)) | (refine Exists.intro _ (And.intro e1.symm ?_)) | (refine z0i rfl ?_) | (refine i_at g1 ?_) | (refine ccA ([]) (ct) ?_) | (refine Exists.intro _ (And.intro e2.symm ?_)) | (refine And.intro (by kernel_rfl) ?_) | (refine stpQ ?_))
     refine ⟨j + 1, by omega, by omega, ?_⟩
     (refine z02 (by rfl) ?_ ?_) <;> (repeat' (first | (exact eqA) | (refine shE ?_) | (refine And.intro ?_ ?_)))
     all_goals first
      | exact hv2.symm
      | (rw [hk2]; done)
      | rfl
    ·have ct := z0U 3 [sd, v] 16 (by omega) (z1U (by omega) (by omega)) (by omega)
     have hv' : v' = z14 3 [sd, v] 16 := by rw [hnx, if_pos (by rw [hbt, hz])]; rfl
     rw [← hv'] at ct
     clear hnx hv'
     rw [hz] at e1
     generalize hk2 : a / 2 ^ (j + 1) = k2 at e2
     generalize a / 2 ^ j = k1 at e1 e2 ⊢
     repeat ((try conv => whnf); first | (refine Exists.intro si.length (And.intro l3 ?_)) | (refine Exists.intro _ (And.intro e1.symm ?_)) | (refine z0k (by decide) ?_) | (refine i_at g1 ?_) | (refine ccA ([]) (ct) ?_) | (refine Exists.intro _ (And.intro e2.symm ?_)) | (refine And.intro (by kernel_rfl) ?_) | (refine stpQ ?_))
     refine ⟨j + 1, by omega, by omega, ?_⟩
     (refine z02 (by rfl) ?_ ?_) <;> (repeat' (first | (exact eqA) | (refine shE ?_) | (refine And.intro ?_ ?_)))
     all_goals first
      | exact hv2.symm
      | (rw [hk2]; done)
      | rfl
   ·obtain rfl : j = si.length := by omega
    rw [List.take_length]
    repeat ((try conv => whnf); first | (refine Exists.intro si.length (And.intro l3 ?_)) | (refine stpQ ?_))
    (refine z02 (by rfl) ?_ ?_) <;> (repeat' (first | (exact eqA) | (refine shE ?_) | (refine And.intro ?_ ?_)))
  ·repeat ((try conv => whnf); first | (refine stpQ ?_))
   (refine z00 (by rfl) ?_ ?_ (by rfl)) <;> (repeat' (first | (exact eqA) | (refine shE ?_) | (refine And.intro ?_ ?_)))
def stA (root : Bs) (ho ep : Int) (ro pr : Bs) (a : Int) (op sh si : List Bs) : Bool := z2C ho ep ro pr && (decide (a = 4 * (ho + 1) + ep - 1) && (z2D a op sh si && decide (z3A (z1l ⟨ho.toNat, ep.toNat, ro, pr⟩) ⟨a.toNat, op, sh, si⟩ = root)))
theorem z9a {ho ep : Int} {ro pr : Bs} (h : z2C ho ep ro pr = true) : ∃ ho' ep' : Nat, ho = ho' ∧ ep = ep' ∧ (⟨ho', ep', ro, pr⟩ : Hd).good := by
 have h0 := h
 simp only [z2C, Bool.and_eq_true] at h0
 have a := z0r.1 h0.1
 have b := z0r.1 h0.2.1
 obtain ⟨ho, rfl⟩ : ∃ n : Nat, ho = n := ⟨ho.toNat, by omega⟩
 obtain ⟨ep, rfl⟩ : ∃ n : Nat, ep = n := ⟨ep.toNat, by omega⟩
 exact ⟨ho, ep, rfl, rfl, z62 h⟩
theorem z9b {a : Int} {op sh si : List Bs} (h : z2D a op sh si = true) : ∃ a' : Nat, a = a' ∧ (⟨a', op, sh, si⟩ : Sg).good := by
 have h0 := h
 simp only [z2D, Bool.and_eq_true] at h0
 have b := z0r.1 h0.1
 obtain ⟨a, rfl⟩ : ∃ n : Nat, a = n := ⟨a.toNat, by omega⟩
 exact ⟨a, rfl, by simp only; omega, (z2f 8 rfl).1 h0.2.1, (z2f 8 rfl).1 h0.2.2.1, (z2f 4 rfl).1 h0.2.2.2⟩
theorem zdP (root : Bs) (ho ep : Int) (ro pr : Bs) (a : Int) (op sh si : List Bs) (h1 : op.length ≤ 1048576) (h2 : sh.length ≤ 1048576) (h3 : si.length ≤ 1048576) : CT Tryz.prog 23 [] [.str root, .agg [.int .i64 ho, .int .i64 ep, .str ro, .str pr], .agg [.int .i64 a, .sl 1 (strE op), .sl 1 (strE sh), .sl 1 (strE si)]] (.bool (stA root ho ep ro pr a op sh si)) [] := by
 have c1 := z78 ho ep ro pr
 unfold stA
 unfold z2I at c1
 cases hh : z2C ho ep ro pr with
 | false =>
   rw [hh] at c1
   rw [Bool.false_and]
   refine z01 z0B 1 rfl Tryz.func23 rfl rfl rfl ?_
   repeat ((try conv => whnf); first | (refine ccA ([]) (c1) ?_) | (refine And.intro (by kernel_rfl) ?_) | (refine stpQ ?_))
   (refine z00 (by rfl) ?_ ?_ (by rfl)) <;> (repeat' (first | (exact eqA) | (refine shE ?_) | (refine And.intro ?_ ?_)))
 | true =>
   rw [hh] at c1
   rw [Bool.true_and]
   obtain ⟨ho', ep', rfl, rfl, g⟩ := z9a hh
   have c2 := zfm ho' ep' g.1 ⟨g.2.1, g.2.2.1⟩
   have c3 := zbD ⟨ho', ep', ro, pr⟩ g
   unfold hdE at c3
   simp only [Int.toNat_natCast] at c3 ⊢
   have e4 : ((4 * (ho' + 1) + ep' - 1 : Nat) : Int) = 4 * ((ho' : Int) + 1) + (ep' : Int) - 1 := by have := g.2.1; omega
   rw [e4] at c2
   by_cases ha : a = 4 * ((ho' : Int) + 1) + (ep' : Int) - 1
   ·rw [decide_eq_true ha, Bool.true_and]
    cases hs : z2D a op sh si with
    | false =>
      rw [Bool.false_and]
      have c4 := zcO root (z1l ⟨ho', ep', ro, pr⟩) a op sh si h1 h2 h3 hs
      unfold z23 at c4
      generalize z1l ⟨ho', ep', ro, pr⟩ = ST at c3 c4
      refine z01 z0B 1 rfl Tryz.func23 rfl rfl rfl ?_
      repeat ((try conv => whnf); first | (refine ccA ([]) (c1) ?_) | (refine ccA ([]) (c2) ?_) | (refine ccA ([]) (c3) ?_) | (refine ccA ([]) (c4) ?_) | (refine z0i ha ?_) | (refine And.intro (by kernel_rfl) ?_) | (refine stpQ ?_))
      (refine z00 (by rfl) ?_ ?_ (by rfl)) <;> (repeat' (first | (exact eqA) | (refine shE ?_) | (refine And.intro ?_ ?_)))
    | true =>
      rw [Bool.true_and]
      obtain ⟨a', rfl, gs⟩ := z9b hs
      have c4 : CT Tryz.prog _ [] [.str root, .str (z1l ⟨ho', ep', ro, pr⟩), _] _ [] := zfl _ _ ⟨a', op, sh, si⟩ gs (by rw [zai]; omega)
      unfold sgE at c4
      simp only [Int.toNat_natCast] at c4 ⊢
      generalize decide (z3A (z1l ⟨ho', ep', ro, pr⟩) ⟨a', op, sh, si⟩ = root) = B at c4 ⊢
      generalize z1l ⟨ho', ep', ro, pr⟩ = ST at c3 c4
      refine z01 z0B 1 rfl Tryz.func23 rfl rfl rfl ?_
      repeat ((try conv => whnf); first | (refine ccA ([]) (c1) ?_) | (refine ccA ([]) (c2) ?_) | (refine ccA ([]) (c3) ?_) | (refine ccA ([]) (c4) ?_) | (refine z0i ha ?_) | (refine And.intro (by kernel_rfl) ?_) | (refine stpQ ?_))
      (refine z00 (by rfl) ?_ ?_ (by rfl)) <;> (repeat' (first | (exact eqA) | (refine shE ?_) | (refine And.intro ?_ ?_)))
   ·rw [decide_eq_false ha, Bool.false_and]
    refine z01 z0B 1 rfl Tryz.func23 rfl rfl rfl ?_
    repeat ((try conv => whnf); first | (refine ccA ([]) (c1) ?_) | (refine ccA ([]) (c2) ?_) | (refine z0k ha ?_) | (refine And.intro (by kernel_rfl) ?_) | (refine stpQ ?_))
    (refine z00 (by rfl) ?_ ?_ (by rfl)) <;> (repeat' (first | (exact eqA) | (refine shE ?_) | (refine And.intro ?_ ?_)))
theorem zbJ (root : Bs) (ho ep : Int) (ro pr : Bs) (a : Int) (op sh si : List Bs) (h1 : op.length ≤ 1048576) (h2 : sh.length ≤ 1048576) (h3 : si.length ≤ 1048576) : CT Tryz.prog 31 [] [.str root, .agg [.int .i64 ho, .int .i64 ep, .str ro, .str pr], .agg [.int .i64 a, .sl 1 (strE op), .sl 1 (strE sh), .sl 1 (strE si)]] (.bool (stA root ho ep ro pr a op sh si)) [] := by
 have c1 := z46 ho ep ro pr
 unfold stA
 unfold z2I at c1
 cases hh : z2C ho ep ro pr with
 | false =>
   rw [hh] at c1
   rw [Bool.false_and]
   refine z01 z0B 1 rfl Tryz.func31 rfl rfl rfl ?_
   repeat ((try conv => whnf); first | (refine ccA ([]) (c1) ?_) | (refine And.intro (by kernel_rfl) ?_) | (refine stpQ ?_))
   (refine z00 (by rfl) ?_ ?_ (by rfl)) <;> (repeat' (first | (exact eqA) | (refine shE ?_) | (refine And.intro ?_ ?_)))
 | true =>
   rw [hh] at c1
   rw [Bool.true_and]
   obtain ⟨ho', ep', rfl, rfl, g⟩ := z9a hh
   have c2 := z8b ho' ep' g.1 ⟨g.2.1, g.2.2.1⟩
   have c3 := zaw ⟨ho', ep', ro, pr⟩ g
   unfold hdE at c3
   simp only [Int.toNat_natCast] at c3 ⊢
   have e4 : ((4 * (ho' + 1) + ep' - 1 : Nat) : Int) = 4 * ((ho' : Int) + 1) + (ep' : Int) - 1 := by have := g.2.1; omega
   rw [e4] at c2
   by_cases ha : a = 4 * ((ho' : Int) + 1) + (ep' : Int) - 1
   ·rw [decide_eq_true ha, Bool.true_and]
    cases hs : z2D a op sh si with
    | false =>
      rw [Bool.false_and]
      have c4 := zaB root (z1l ⟨ho', ep', ro, pr⟩) a op sh si h1 h2 h3 hs
      unfold z23 at c4
      generalize z1l ⟨ho', ep', ro, pr⟩ = ST at c3 c4
      refine z01 z0B 1 rfl Tryz.func31 rfl rfl rfl ?_
      repeat ((try conv => whnf); first | (refine ccA ([]) (c1) ?_) | (refine ccA ([]) (c2) ?_) | (refine ccA ([]) (c3) ?_) | (refine ccA ([]) (c4) ?_) | (refine z0i ha ?_) | (refine And.intro (by kernel_rfl) ?_) | (refine stpQ ?_))
      (refine z00 (by rfl) ?_ ?_ (by rfl)) <;> (repeat' (first | (exact eqA) | (refine shE ?_) | (refine And.intro ?_ ?_)))
    | true =>
      rw [Bool.true_and]
      obtain ⟨a', rfl, gs⟩ := z9b hs
      have c4 : CT Tryz.prog _ [] [.str root, .str (z1l ⟨ho', ep', ro, pr⟩), _] _ [] := zaC _ _ ⟨a', op, sh, si⟩ gs (by rw [z8a]; omega)
      unfold sgE at c4
      simp only [Int.toNat_natCast] at c4 ⊢
      generalize decide (z3A (z1l ⟨ho', ep', ro, pr⟩) ⟨a', op, sh, si⟩ = root) = B at c4 ⊢
      generalize z1l ⟨ho', ep', ro, pr⟩ = ST at c3 c4
      refine z01 z0B 1 rfl Tryz.func31 rfl rfl rfl ?_
      repeat ((try conv => whnf); first | (refine ccA ([]) (c1) ?_) | (refine ccA ([]) (c2) ?_) | (refine ccA ([]) (c3) ?_) | (refine ccA ([]) (c4) ?_) | (refine z0i ha ?_) | (refine And.intro (by kernel_rfl) ?_) | (refine stpQ ?_))
      (refine z00 (by rfl) ?_ ?_ (by rfl)) <;> (repeat' (first | (exact eqA) | (refine shE ?_) | (refine And.intro ?_ ?_)))
   ·rw [decide_eq_false ha, Bool.false_and]
    refine z01 z0B 1 rfl Tryz.func31 rfl rfl rfl ?_
    repeat ((try conv => whnf); first | (refine ccA ([]) (c1) ?_) | (refine ccA ([]) (c2) ?_) | (refine z0k ha ?_) | (refine And.intro (by kernel_rfl) ?_) | (refine stpQ ?_))
    (refine z00 (by rfl) ?_ ?_ (by rfl)) <;> (repeat' (first | (exact eqA) | (refine shE ?_) | (refine And.intro ?_ ?_)))
end
end Go.Proofs.YtgmbkbggnlponaaGreatDoor
