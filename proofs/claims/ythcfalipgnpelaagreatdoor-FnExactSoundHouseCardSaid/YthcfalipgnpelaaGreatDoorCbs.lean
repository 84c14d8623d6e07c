/- Functions by content: the program compares texts, signatures, seals. -/
import Derived.Test.YthcfalipgnpelaaGreatDoorCi
import Derived.Test.YthcfalipgnpelaaGreatDoorSzd
import Derived.Test.YthcfalipgnpelaaGreatDoorRsp
namespace Go.Proofs.YthcfalipgnpelaaGreatDoor
set_option maxRecDepth 100000
set_option maxHeartbeats 8000000
set_option linter.unusedVariables false
set_option linter.unusedSimpArgs false
set_option linter.unusedSectionVars false
open Go.RowKit Pl
attribute [local irreducible] z0o z0p z0z AnsP LeP
theorem z3k (l m : List Bs) (hl : (l.length : Int) ≤ 100000000) (hm : (m.length : Int) ≤ 100000000) : CT Tryz.prog 59 [] [.sl 1 (strE l), .sl 1 (strE m)] (.bool (decide (l = m))) [] := by
 have hll := z05 l
 have hlm := z05 m
 refine z01 z03 1 rfl Tryz.func59 rfl rfl rfl ?_
 by_cases hn : l.length = m.length
 ·repeat ((try conv => whnf); first | (refine Exists.intro l.length (And.intro hll ?_)) | (refine Exists.intro m.length (And.intro hlm ?_)) | (refine stpQ ?_))
  refine z0K Nat (fun k => ⟨[(0, .sl 1 (strE l)), (1, .sl 1 (strE m)), (12, .int .i64 (l.length : Int)), (13, .int .i64 (k : Int))], [], 1⟩) (fun k => k ≤ l.length ∧ l.take k = m.take k) (fun k => l.length - k) 0 ⟨by omega, rfl⟩ ?_ ?_
  ·(refine z02 (by rfl) ?_ ?_) <;> repeat' (first | (exact eqA) | (refine shE ?_) | (refine And.intro ?_ ?_))
  ·intro Q1 hQ1 k hkk
   have hk := hkk.1
   have hp := hkk.2
   clear hkk
   by_cases hlt : k < l.length
   ·have hlt2 : k < m.length := by omega
    by_cases hq : pAt l k = pAt m k
    ·have hnx : l.take (k + 1) = m.take (k + 1) := by
      rw [List.take_add_one, List.take_add_one, hp, List.getElem?_eq_getElem hlt, List.getElem?_eq_getElem hlt2]
      simp only [pAt, List.getD, List.getElem?_eq_getElem hlt, List.getElem?_eq_getElem hlt2, Option.getD_some] at hq
      rw [hq]
     repeat ((try conv => whnf); first | (refine i_at (z0j hlt) ?_) | (refine i_at (z0j hlt2) ?_) | (refine z0A hq ?_) | (refine And.intro (by kernel_rfl) ?_) | (refine stpQ ?_))
     refine ⟨k + 1, ⟨by omega, hnx⟩, by omega, ?_⟩
     (refine z02 (by rfl) ?_ ?_) <;> repeat' (first | (exact eqA) | (refine shE ?_) | (refine And.intro ?_ ?_))
    ·have hne : ¬ l = m := fun h0 => hq (by rw [h0])
     repeat ((try conv => whnf); first | (refine i_at (z0j hlt) ?_) | (refine i_at (z0j hlt2) ?_) | (refine z1w hq ?_) | (refine And.intro (by kernel_rfl) ?_) | (refine stpQ ?_))
     refine hQ1 _ _ ?_
     (try conv => whnf)
     rw [decide_eq_false hne]
     (refine z00 (by rfl) ?_ ?_ (by rfl)) <;> repeat' (first | (exact eqA) | (refine shE ?_) | (refine And.intro ?_ ?_))
   ·have he : l = m := by
     rw [List.take_of_length_le (by omega), List.take_of_length_le (by omega)] at hp; exact hp
    have hke : k = l.length := by omega
    subst hke
    repeat ((try conv => whnf); first | (refine stpQ ?_))
    refine hQ1 _ _ ?_
    repeat ((try conv => whnf); first | (refine stpQ ?_))
    rw [decide_eq_true he]
    (refine z00 (by rfl) ?_ ?_ (by rfl)) <;> repeat' (first | (exact eqA) | (refine shE ?_) | (refine And.intro ?_ ?_))
 ·have hne : ¬ l = m := fun h0 => hn (by rw [h0])
  rw [decide_eq_false hne]
  repeat ((try conv => whnf); first | (refine Exists.intro l.length (And.intro hll ?_)) | (refine Exists.intro m.length (And.intro hlm ?_)) | (refine stpQ ?_))
  (refine z00 (by rfl) ?_ ?_ (by rfl)) <;> repeat' (first | (exact eqA) | (refine shE ?_) | (refine And.intro ?_ ?_))
theorem zif (a a' : Int) (op op' sh sh' si si' : List Bs) (h1 : op.length ≤ 1048576) (h2 : op'.length ≤ 1048576) (h3 : sh.length ≤ 1048576) (h4 : sh'.length ≤ 1048576) (h5 : si.length ≤ 1048576) (h6 : si'.length ≤ 1048576) :
 CT Tryz.prog 176 [] [.agg (z1r a op sh si), .agg (z1r a' op' sh' si')] (.bool (decide (a = a') && (decide (op = op') && (decide (sh = sh') && decide (si = si'))))) [] := by
 have c1 := z3k op op' (by omega) (by omega)
 have c2 := z3k sh sh' (by omega) (by omega)
 have c3 := z3k si si' (by omega) (by omega)
 unfold z1r
 generalize decide (op = op') = b1 at c1 ⊢
 generalize decide (sh = sh') = b2 at c2 ⊢
 generalize decide (si = si') = b3 at c3 ⊢
 refine z01 z03 1 rfl Tryz.func176 rfl rfl rfl ?_
 by_cases h : a = a'
 ·rw [decide_eq_true h, Bool.true_and]
  cases b1
  ·repeat ((try conv => whnf); first | (refine ccA ([]) (c1) ?_) | (refine And.intro (by kernel_rfl) ?_) | (refine stpQ ?_))
   (refine z00 (by rfl) ?_ ?_ (by rfl)) <;> (repeat' (first | (exact eqA) | (refine shE ?_) | (refine And.intro ?_ ?_))) <;> rfl
  cases b2
  ·repeat ((try conv => whnf); first | (refine ccA ([]) (c1) ?_) | (refine ccA ([]) (c2) ?_) | (refine And.intro (by kernel_rfl) ?_) | (refine stpQ ?_))
   (refine z00 (by rfl) ?_ ?_ (by rfl)) <;> (repeat' (first | (exact eqA) | (refine shE ?_) | (refine And.intro ?_ ?_))) <;> rfl
  cases b3
  ·repeat ((try conv => whnf); first | (refine ccA ([]) (c1) ?_) | (refine ccA ([]) (c2) ?_) | (refine ccA ([]) (c3) ?_) | (refine And.intro (by kernel_rfl) ?_) | (refine stpQ ?_))
   (refine z00 (by rfl) ?_ ?_ (by rfl)) <;> (repeat' (first | (exact eqA) | (refine shE ?_) | (refine And.intro ?_ ?_))) <;> rfl
  ·repeat ((try conv => whnf); first | (refine ccA ([]) (c1) ?_) | (refine ccA ([]) (c2) ?_) | (refine ccA ([]) (c3) ?_) | (refine And.intro (by kernel_rfl) ?_) | (refine stpQ ?_))
   (refine z00 (by rfl) ?_ ?_ (by rfl)) <;> (repeat' (first | (exact eqA) | (refine shE ?_) | (refine And.intro ?_ ?_))) <;> rfl
 ·rw [decide_eq_false h, Bool.false_and]
  repeat ((try conv => whnf); first | (refine And.intro (by kernel_rfl) ?_) | (refine stpQ ?_))
  (refine z00 (by rfl) ?_ ?_ (by rfl)) <;> (repeat' (first | (exact eqA) | (refine shE ?_) | (refine And.intro ?_ ?_)))
theorem zmc (a b a' b' : Int) (c d c' d' : Bs) : eqC [.int .i64 a, .int .i64 b, .str c, .str d] [.int .i64 a', .int .i64 b', .str c', .str d'] = decide (a = a' ∧ b = b' ∧ c = c' ∧ d = d') := by
 by_cases h : a = a' ∧ b = b' ∧ c = c' ∧ d = d'
 ·rw [decide_eq_true h]
  obtain ⟨rfl, rfl, rfl, rfl⟩ := h
  exact z56 _ _ _ _
 ·rw [decide_eq_false h]
  cases he : eqC [T.int .i64 a, .int .i64 b, .str c, .str d] [.int .i64 a', .int .i64 b', .str c', .str d'] with
  | false => rfl
  | true =>
    simp [eqC] at he
    exact absurd ⟨he.1, he.2.1, he.2.2.1, he.2.2.2⟩ h
theorem zfH (x y : Sa) (hx : z6C x) (hy : z6C y) : CT Tryz.prog 106 [] [.agg (saE x), .agg (saE y)] (.bool (decide (x = y))) [] := by
 obtain ⟨a, b, c, d, e, f, g, i⟩ := x
 obtain ⟨a', b', c', d', e', f', g', i'⟩ := y
 have c1 := zif e e' f f' g g' i i' hx.1 hy.1 hx.2.1 hy.2.1 hx.2.2 hy.2.2
 have hq := zmc a b a' b' c d c' d'
 have hr : decide ((⟨a, b, c, d, e, f, g, i⟩ : Sa) = ⟨a', b', c', d', e', f', g', i'⟩) = (decide (a = a' ∧ b = b' ∧ c = c' ∧ d = d') && (decide (e = e') && (decide (f = f') && (decide (g = g') && decide (i = i'))))) := by
  rw [Bool.eq_iff_iff]
  simp only [decide_eq_true_eq, Bool.and_eq_true, Sa.mk.injEq]
  constructor
  ·rintro ⟨h1, h2, h3, h4, h5, h6, h7, h8⟩
   exact ⟨⟨h1, h2, h3, h4⟩, h5, h6, h7, h8⟩
  ·rintro ⟨⟨h1, h2, h3, h4⟩, h5, h6, h7, h8⟩
   exact ⟨h1, h2, h3, h4, h5, h6, h7, h8⟩
 rw [hr]
 generalize (decide (e = e') && (decide (f = f') && (decide (g = g') && decide (i = i')))) = B at c1 ⊢
 generalize decide (a = a' ∧ b = b' ∧ c = c' ∧ d = d') = A at hq ⊢
 unfold saE
 show CT _ _ _ [.agg [.int .i64 a, .int .i64 b, .str c, .str d, .int .i64 e, .sl 1 (strE f), .sl 1 (strE g), .sl 1 (strE i)], .agg [.int .i64 a', .int .i64 b', .str c', .str d', .int .i64 e', .sl 1 (strE f'), .sl 1 (strE g'), .sl 1 (strE i')]] _ _
 unfold z1r at c1
 refine z01 z03 1 rfl Tryz.func106 rfl rfl rfl ?_
 cases A with
 | true =>
   rw [Bool.true_and]
   repeat ((try conv => whnf); first | (refine ccA ([]) (c1) ?_) | (refine cb_t hq ?_) | (refine And.intro (by kernel_rfl) ?_) | (refine stpQ ?_))
   (refine z00 (by rfl) ?_ ?_ (by rfl)) <;> (repeat' (first | (exact eqA) | (refine shE ?_) | (refine And.intro ?_ ?_)))
 | false =>
   rw [Bool.false_and]
   repeat ((try conv => whnf); first | (refine cb_f hq ?_) | (refine And.intro (by kernel_rfl) ?_) | (refine stpQ ?_))
   (refine z00 (by rfl) ?_ ?_ (by rfl)) <;> (repeat' (first | (exact eqA) | (refine shE ?_) | (refine And.intro ?_ ?_)))
theorem zd7 (l m : List Sa) (hl : l.length ≤ 1048576) (hm : m.length ≤ 1048576) (fl : ∀ x ∈ l, z6C x) (fm : ∀ x ∈ m, z6C x) : CT Tryz.prog 60 [] [.sl 8 (saL l), .sl 8 (saL m)] (.bool (decide (l = m))) [] := by
 have hll := z4o l
 have hlm := z4o m
 refine z01 z03 1 rfl Tryz.func60 rfl rfl rfl ?_
 by_cases hn : l.length = m.length
 ·repeat ((try conv => whnf); first | (refine Exists.intro l.length (And.intro hll ?_)) | (refine Exists.intro m.length (And.intro hlm ?_)) | (refine stpQ ?_))
  refine z0K Nat (fun k => ⟨[(0, .sl 8 (saL l)), (1, .sl 8 (saL m)), (12, .int .i64 (l.length : Int)), (13, .int .i64 (k : Int))], [], 1⟩) (fun k => k ≤ l.length ∧ l.take k = m.take k) (fun k => l.length - k) 0 ⟨by omega, rfl⟩ ?_ ?_
  ·(refine z02 (by rfl) ?_ ?_) <;> repeat' (first | (exact eqA) | (refine shE ?_) | (refine And.intro ?_ ?_))
  ·intro Q1 hQ1 k hkk
   have hk := hkk.1
   have hp := hkk.2
   clear hkk
   by_cases hlt : k < l.length
   ·have hlt2 : k < m.length := by omega
    have g1 := z81 hlt
    have g2 := z81 hlt2
    have c1 := zfH l[k] m[k] (fl _ (List.getElem_mem hlt)) (fm _ (List.getElem_mem hlt2))
    by_cases hq : l[k] = m[k]
    ·have hnx : l.take (k + 1) = m.take (k + 1) := by rw [List.take_succ_eq_append_getElem hlt, List.take_succ_eq_append_getElem hlt2, hp, hq]
     rw [decide_eq_true hq] at c1
     generalize l[k] = x at g1 c1
     generalize m[k] = y at g2 c1
     clear hq
     obtain ⟨a, b, c, d, e, f, g, i⟩ := x
     obtain ⟨a', b', c', d', e', f', g', i'⟩ := y
     unfold saE z1B z1r at g1 g2 c1
     repeat ((try conv => whnf); first | (refine i_at g1 ?_) | (refine i_at g2 ?_) | (refine ccA ([]) (c1) ?_) | (refine And.intro (by kernel_rfl) ?_) | (refine stpQ ?_))
     refine ⟨k + 1, ⟨by omega, hnx⟩, by omega, ?_⟩
     (refine z02 (by rfl) ?_ ?_) <;> repeat' (first | (exact eqA) | (refine shE ?_) | (refine And.intro ?_ ?_))
    ·have hne : ¬ l = m := fun h0 => hq (by subst h0; rfl)
     rw [decide_eq_false hq] at c1
     generalize l[k] = x at g1 c1
     generalize m[k] = y at g2 c1
     clear hq
     obtain ⟨a, b, c, d, e, f, g, i⟩ := x
     obtain ⟨a', b', c', d', e', f', g', i'⟩ := y
     unfold saE z1B z1r at g1 g2 c1
     repeat ((try conv => whnf); first | (refine i_at g1 ?_) | (refine i_at g2 ?_) | (refine ccA ([]) (c1) ?_) | (refine And.intro (by kernel_rfl) ?_) | (refine stpQ ?_))
     refine hQ1 _ _ ?_
     (try conv => whnf)
     rw [decide_eq_false hne]
     (refine z00 (by rfl) ?_ ?_ (by rfl)) <;> repeat' (first | (exact eqA) | (refine shE ?_) | (refine And.intro ?_ ?_))
   ·have he : l = m := by
     rw [List.take_of_length_le (by omega), List.take_of_length_le (by omega)] at hp; exact hp
    have hke : k = l.length := by omega
    subst hke
    repeat ((try conv => whnf); first | (refine stpQ ?_))
    refine hQ1 _ _ ?_
    repeat ((try conv => whnf); first | (refine stpQ ?_))
    rw [decide_eq_true he]
    (refine z00 (by rfl) ?_ ?_ (by rfl)) <;> repeat' (first | (exact eqA) | (refine shE ?_) | (refine And.intro ?_ ?_))
 ·have hne : ¬ l = m := fun h0 => hn (by rw [h0])
  rw [decide_eq_false hne]
  repeat ((try conv => whnf); first | (refine Exists.intro l.length (And.intro hll ?_)) | (refine Exists.intro m.length (And.intro hlm ?_)) | (refine stpQ ?_))
  (refine z00 (by rfl) ?_ ?_ (by rfl)) <;> repeat' (first | (exact eqA) | (refine shE ?_) | (refine And.intro ?_ ?_))
def z59 (ask : Bool) (l : List Bs) (k : Nat) : Bool := decide (pAt l k = []) || (ask && decide (((pAt l k).length : Int) = 16))
def zfI (ho K : Int) (po : List Bs) (se : List Sa) (tr : List Int) (ty : Int) (ask : Bool) (vo : List Bs) (nd : Nat) (n : Cv) : Bool :=
 inB ho 0 2 && (inB K 0 2 && (decide (vo.length = 2 ^ K.toNat) && (decide (nd = 2 ^ K.toNat) && (decide (po = z2B (z3U ho.toNat) 16) && (decide (se = n.se.map saOf) && (decide (tr = tkI n.tr) && (decide (ty = (n.ty : Int)) && allB (z59 ask vo) vo.length)))))))
theorem zkj {ho : Nat} {s : Cv} (g : CvOk ho s) : ∀ x ∈ s.se.map saOf, z6C x := fun x hx => by
 obtain ⟨y, hy, rfl⟩ := List.mem_map.1 hx
 have := (g.sg y hy).2
 exact ⟨by have := this.2.1.1; simp only [saOf]; omega, by have := this.2.2.1.1; simp only [saOf]; omega, by have := this.2.2.2.1; simp only [saOf]; omega⟩
end Go.Proofs.YthcfalipgnpelaaGreatDoor
