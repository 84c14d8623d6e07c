/- Functions by content: the reference's coordinator applies a record. Functions by content: the reference compares texts and seals. Texts and seals of any content, out of what fits their shapes. -/
import Derived.Test.YthcfalipgnpelaaGreatDoorVd
import Derived.Test.YthcfalipgnpelaaGreatDoorCsa
import Derived.Test.YthcfalipgnpelaaGreatDoorSzd
import Derived.Test.YthcfalipgnpelaaGreatDoorPco
namespace Go.Proofs.YthcfalipgnpelaaGreatDoor
set_option linter.unusedVariables false
set_option linter.unusedSimpArgs false
set_option linter.unusedSectionVars false
open Go.RowKit Pl
attribute [local irreducible] z0o z0p z0z AnsP LeP
set_option maxRecDepth 100000 in
set_option maxHeartbeats 8000000 in
theorem zd4 (ho : Nat) (hho : ho ≤ 2) (K : Int) (fs : List Fl) (po : List Bs) (V D : List (List T)) (s : Cv) (ok : CvOk ho s) (b : UInt8) (r : Bs) (hr : r.length ≤ 9000) :
 CT Tryz.prog 161 (cvH (ho : Int) K fs po V D s .no) [.ptr 1 0 0, .str (b :: r)] (.tup []) (cvH (ho : Int) K fs po V D s (ckOf ho s (b :: r))) := by
 have hl : (b :: r).length = r.length + 1 := rfl
 have hbl := b.toNat_lt
 have hsl := zbA ok
 have hty := ok.ty
 have htl := ok.tl
 have cB := zez b r (by omega)
 have c1 : CT Tryz.prog 222 [fldB (b :: r) 1 false] [.ptr 1 0 0] (.int .i64 ((z18 (b :: r) 1 false).1 : Int)) [fldB (b :: r) (z18 (b :: r) 1 false).2.1 (z18 (b :: r) 1 false).2.2] := zeg (b :: r) 1 false (by omega) (by omega)
 have l1 := z3c (t := b :: r) (p := 1) (bad := false) (by omega)
 rcases hA : z18 (b :: r) 1 false with ⟨n, p, bd⟩
 have hN : num1 (b :: r) = (n, p, bd) := hA
 rw [hA] at c1 l1
 simp only at c1 l1
 unfold fldB at c1
 clear hA
 cases bd with
 | true =>
   have hR : ckOf ho s (b :: r) = .no := by
    rw [ckOf, hN]
    simp only
    split
    ·rw [if_neg (fun c => by simp [z1n] at c)]
    ·split
     ·simp
     ·rfl
   rw [hR]
   clear hR
   unfold cvH cvB
   refine z01 z03 6 rfl Tryz.func161 rfl rfl rfl ?_
   repeat ((try conv => whnf); first | (refine ccB ([_]) (cB) ?_) | (refine ccB ([_]) (c1) ?_) | (refine And.intro (by kernel_rfl) ?_) | (refine stpQ ?_))
   (refine z00 (by rfl) ?_ ?_ (by rfl)) <;> (repeat' (first | (exact eqA) | (refine shE ?_) | (refine And.intro ?_ ?_)))
 | false =>
   rw [ckOf, hN]
   simp only
   by_cases k1 : b.toNat = 1
   ·have k1' : ((b.toNat : Nat) : Int) = 1 := by omega
    rw [if_pos k1]
    unfold cvH cvB
    by_cases hd : p = r.length + 1
    ·have hd' : (p : Int) = (((b :: r).length : Nat) : Int) := by omega
     have hD : z1n false p (r.length + 1) = true := by simp [z1n, hd]
     by_cases hc : s.ty < n ∧ n ≤ 1000
     ·rw [if_pos ⟨hD, hc⟩]
      have h1' : (n : Int) > (s.ty : Int) := by omega
      have h2' : (n : Int) ≤ 1000 := by omega
      refine z01 z03 6 rfl Tryz.func161 rfl rfl rfl ?_
      repeat ((try conv => whnf); first | (refine ccB ([_]) (cB) ?_) | (refine ccB ([_]) (c1) ?_) | (refine z0k k1' ?_) | (refine z0k hd' ?_) | (refine And.intro (by kernel_rfl) ?_) | (refine stpQ ?_))
      (refine z00 (by rfl) ?_ ?_ (by rfl)) <;> (repeat' (first | (exact eqA) | (refine shE ?_) | (refine And.intro ?_ ?_)))
     ·rw [if_neg (fun h => hc h.2)]
      by_cases h1' : (n : Int) > (s.ty : Int)
      ·have h2' : ¬ (n : Int) ≤ 1000 := by omega
       refine z01 z03 6 rfl Tryz.func161 rfl rfl rfl ?_
       repeat ((try conv => whnf); first | (refine ccB ([_]) (cB) ?_) | (refine ccB ([_]) (c1) ?_) | (refine z0k k1' ?_) | (refine z0k hd' ?_) | (refine And.intro (by kernel_rfl) ?_) | (refine stpQ ?_))
       (refine z00 (by rfl) ?_ ?_ (by rfl)) <;> (repeat' (first | (exact eqA) | (refine shE ?_) | (refine And.intro ?_ ?_)))
      ·refine z01 z03 6 rfl Tryz.func161 rfl rfl rfl ?_
       repeat ((try conv => whnf); first | (refine ccB ([_]) (cB) ?_) | (refine ccB ([_]) (c1) ?_) | (refine z0k k1' ?_) | (refine z0k hd' ?_) | (refine And.intro (by kernel_rfl) ?_) | (refine stpQ ?_))
       (refine z00 (by rfl) ?_ ?_ (by rfl)) <;> (repeat' (first | (exact eqA) | (refine shE ?_) | (refine And.intro ?_ ?_)))
    ·have hd' : ¬ (p : Int) = (((b :: r).length : Nat) : Int) := by omega
     rw [if_neg (fun h => hd (by simpa [z1n] using h.1))]
     refine z01 z03 6 rfl Tryz.func161 rfl rfl rfl ?_
     repeat ((try conv => whnf); first | (refine ccB ([_]) (cB) ?_) | (refine ccB ([_]) (c1) ?_) | (refine z0k k1' ?_) | (refine z0e hd' ?_) | (refine And.intro (by kernel_rfl) ?_) | (refine stpQ ?_))
     (refine z00 (by rfl) ?_ ?_ (by rfl)) <;> (repeat' (first | (exact eqA) | (refine shE ?_) | (refine And.intro ?_ ?_)))
   ·have k1' : ¬ ((b.toNat : Nat) : Int) = 1 := by omega
    rw [if_neg k1]
    by_cases k2 : b.toNat = 2
    ·have k2' : ((b.toNat : Nat) : Int) = 2 := by omega
     rw [if_pos k2, if_neg (by decide)]
     have c2 := zbI ((b :: r).drop p) (by simp; omega)
     have c4 := zey s.se (by omega)
     change CT _ _ _ _ (.ref 1) [.row 4 (hdsE (cHds s))] at c4
     have hZo : ownE (.row 4 (hdsE (cHds s))) := zex _
     have hpl := l1.1
     unfold slR at c2
     cases hs : z2C ((b :: r).drop p) with
     | none =>
       rw [hs] at c2
       have c5 := z87 ho hho (cHds s) ok.ch []
       unfold nhR at c5
       rw [if_neg (fun c => by have := c.2; simp at this)] at c5
       unfold z1B at c5
       simp only at c2 ⊢
       change CT _ _ _ _ (.tup [.agg [.int .i64 0, .int .i64 0, .str [], .str [], .int .i64 0, .sl 1 [], .sl 1 [], .sl 1 []], .bool false]) _ at c2
       unfold cvH cvB
       generalize hdsE (cHds s) = Z at c4 c5 hZo
       refine z01 z03 6 rfl Tryz.func161 rfl rfl rfl ?_
       repeat ((try conv => whnf); first | (refine ccB ([_]) (cB) ?_) | (refine ccB ([_]) (c1) ?_) | (refine z0e k1' ?_) | (refine z0k k2' ?_) | (refine i_le hpl ?_) | (refine ccA ([]) (c2) ?_) | (refine z16 ([]) (c4) (by ((repeat' (first | (exact trivial) | (exact rfl) | (refine And.intro ?_ ?_))); first | done | fail)) (by ((repeat' (first | (exact trivial) | (exact rfl) | (refine And.intro ?_ ?_))); first | done | fail)) (by decide) (by rfl) (by first | exact .inl rfl | (refine .inr ⟨by simp [own2, own1, own0], fun e he => ?_⟩; simp only [List.mem_cons, List.not_mem_nil, or_false] at he <;> first | exact he.elim | (subst he; exact hZo) | (rcases he with rfl | rfl <;> exact hZo))) ?_) | (refine ccA ([]) (c5) ?_) | (refine And.intro (by kernel_rfl) ?_) | (refine stpQ ?_))
       (refine z00 (by rfl) ?_ ?_ (by rfl)) <;> (repeat' (first | (exact eqA) | (refine shE ?_) | (refine And.intro ?_ ?_)))
     | some y =>
       obtain ⟨h, g⟩ := y
       rw [hs] at c2
       obtain ⟨g1, g2, e⟩ := z2u.1 hs
       have hro := g1.2.2.2.1
       have c5 := z87 ho hho (cHds s) ok.ch h.ro
       simp only at c2 ⊢
       by_cases q4 : (cHds s).length < 4
       ·unfold nhR at c5
        rw [if_pos ⟨q4, hro⟩] at c5
        by_cases q3 : h = z1V ho (cHds s) h.ro
        ·rw [← q3] at c5
         by_cases q1 : n = s.ty
         ·by_cases q2 : n = 0
          ·rw [if_neg (fun c => c.2.1 q2)]
           have q2' : ¬ (n : Int) > 0 := by omega
           have q1' : (n : Int) = (s.ty : Int) := by omega
           clear q3
           obtain ⟨ho', ep, ro, pr⟩ := h
           obtain ⟨a, op, sh, si⟩ := g
           have hq := z56 (ho' : Int) (ep : Int) ro pr
           unfold hdE at c2 c5
           unfold sgE at c2
           unfold cvH cvB
           generalize hdsE (cHds s) = Z at c4 c5 hZo
           refine z01 z03 6 rfl Tryz.func161 rfl rfl rfl ?_
           repeat ((try conv => whnf); first | (refine ccB ([_]) (cB) ?_) | (refine ccB ([_]) (c1) ?_) | (refine z0e k1' ?_) | (refine z0k k2' ?_) | (refine i_le hpl ?_) | (refine ccA ([]) (c2) ?_) | (refine z16 ([]) (c4) (by ((repeat' (first | (exact trivial) | (exact rfl) | (refine And.intro ?_ ?_))); first | done | fail)) (by ((repeat' (first | (exact trivial) | (exact rfl) | (refine And.intro ?_ ?_))); first | done | fail)) (by decide) (by rfl) (by first | exact .inl rfl | (refine .inr ⟨by simp [own2, own1, own0], fun e he => ?_⟩; simp only [List.mem_cons, List.not_mem_nil, or_false] at he <;> first | exact he.elim | (subst he; exact hZo) | (rcases he with rfl | rfl <;> exact hZo))) ?_) | (refine ccA ([]) (c5) ?_) | (refine cb_t hq ?_) | (refine z0k q1' ?_) | (refine z0e q2' ?_) | (refine And.intro (by kernel_rfl) ?_) | (refine stpQ ?_))
           (refine z00 (by rfl) ?_ ?_ (by rfl)) <;> (repeat' (first | (exact eqA) | (refine shE ?_) | (refine And.intro ?_ ?_)))
          ·rw [if_pos ⟨q1, q2, q3, q4⟩]
           have q2' : (n : Int) > 0 := by omega
           have q1' : (n : Int) = (s.ty : Int) := by omega
           clear q3
           obtain ⟨ho', ep, ro, pr⟩ := h
           obtain ⟨a, op, sh, si⟩ := g
           have hq := z56 (ho' : Int) (ep : Int) ro pr
           unfold hdE at c2 c5
           unfold sgE at c2
           subst q1
           have hnl : (slE s.se).length = s.se.length := z3W _
           have hnt : (ntE s.tr).length = s.tr.length := by simp [ntE]
           have happ := zhS s.se (⟨ho', ep, ro, pr⟩, ⟨a, op, sh, si⟩)
           have happ2 : ntE (s.tr ++ [s.ty]) = ntE s.tr ++ [[.int .i64 (s.ty : Int)]] := by simp [ntE]
           unfold cvH cvB
           dsimp only
           rw [happ, happ2]
           generalize hdsE (cHds s) = Z at c4 c5 hZo
           refine z01 z03 6 rfl Tryz.func161 rfl rfl rfl ?_
           repeat ((try conv => whnf); first | (refine ccB ([_]) (cB) ?_) | (refine ccB ([_]) (c1) ?_) | (refine z0e k1' ?_) | (refine z0k k2' ?_) | (refine i_le hpl ?_) | (refine ccA ([]) (c2) ?_) | (refine z16 ([]) (c4) (by ((repeat' (first | (exact trivial) | (exact rfl) | (refine And.intro ?_ ?_))); first | done | fail)) (by ((repeat' (first | (exact trivial) | (exact rfl) | (refine And.intro ?_ ?_))); first | done | fail)) (by decide) (by rfl) (by first | exact .inl rfl | (refine .inr ⟨by simp [own2, own1, own0], fun e he => ?_⟩; simp only [List.mem_cons, List.not_mem_nil, or_false] at he <;> first | exact he.elim | (subst he; exact hZo) | (rcases he with rfl | rfl <;> exact hZo))) ?_) | (refine ccA ([]) (c5) ?_) | (refine cb_t hq ?_) | (refine z0k q1' ?_) | (refine z0k q2' ?_) | (refine And.intro (by simp only [List.length_append, List.length_cons, List.length_nil, List.length_set, List.length_replicate]; omega) ?_) | (refine And.intro (by kernel_rfl) ?_) | (refine stpQ ?_))
           (refine z00 (by rfl) ?_ ?_ (by rfl)) <;> (repeat' (first | (exact eqA) | (refine shE ?_) | (refine And.intro ?_ ?_)))
           all_goals rfl
         ·rw [if_neg (fun c => q1 c.1)]
          have q1' : ¬ (n : Int) = (s.ty : Int) := by omega
          clear q3
          obtain ⟨ho', ep, ro, pr⟩ := h
          obtain ⟨a, op, sh, si⟩ := g
          have hq := z56 (ho' : Int) (ep : Int) ro pr
          unfold hdE at c2 c5
          unfold sgE at c2
          unfold cvH cvB
          generalize hdsE (cHds s) = Z at c4 c5 hZo
          refine z01 z03 6 rfl Tryz.func161 rfl rfl rfl ?_
          repeat ((try conv => whnf); first | (refine ccB ([_]) (cB) ?_) | (refine ccB ([_]) (c1) ?_) | (refine z0e k1' ?_) | (refine z0k k2' ?_) | (refine i_le hpl ?_) | (refine ccA ([]) (c2) ?_) | (refine z16 ([]) (c4) (by ((repeat' (first | (exact trivial) | (exact rfl) | (refine And.intro ?_ ?_))); first | done | fail)) (by ((repeat' (first | (exact trivial) | (exact rfl) | (refine And.intro ?_ ?_))); first | done | fail)) (by decide) (by rfl) (by first | exact .inl rfl | (refine .inr ⟨by simp [own2, own1, own0], fun e he => ?_⟩; simp only [List.mem_cons, List.not_mem_nil, or_false] at he <;> first | exact he.elim | (subst he; exact hZo) | (rcases he with rfl | rfl <;> exact hZo))) ?_) | (refine ccA ([]) (c5) ?_) | (refine cb_t hq ?_) | (refine z0e q1' ?_) | (refine And.intro (by kernel_rfl) ?_) | (refine stpQ ?_))
          (refine z00 (by rfl) ?_ ?_ (by rfl)) <;> (repeat' (first | (exact eqA) | (refine shE ?_) | (refine And.intro ?_ ?_)))
        ·rw [if_neg (fun c => q3 c.2.2.1)]
         have q5 : ¬ z1V ho (cHds s) h.ro = h := fun e => q3 e.symm
         have hq : eqC (hdE (z1V ho (cHds s) h.ro)) (hdE h) = false := by rw [zhV, decide_eq_false q5]
         clear q3 q5
         generalize z1V ho (cHds s) h.ro = y at c5 hq
         obtain ⟨yh, ye, yr, yp⟩ := y
         obtain ⟨ho', ep, ro, pr⟩ := h
         obtain ⟨a, op, sh, si⟩ := g
         unfold hdE at c2 c5 hq
         unfold sgE at c2
         simp only at c5
         unfold cvH cvB
         generalize hdsE (cHds s) = Z at c4 c5 hZo
         refine z01 z03 6 rfl Tryz.func161 rfl rfl rfl ?_
         repeat ((try conv => whnf); first | (refine ccB ([_]) (cB) ?_) | (refine ccB ([_]) (c1) ?_) | (refine z0e k1' ?_) | (refine z0k k2' ?_) | (refine i_le hpl ?_) | (refine ccA ([]) (c2) ?_) | (refine z16 ([]) (c4) (by ((repeat' (first | (exact trivial) | (exact rfl) | (refine And.intro ?_ ?_))); first | done | fail)) (by ((repeat' (first | (exact trivial) | (exact rfl) | (refine And.intro ?_ ?_))); first | done | fail)) (by decide) (by rfl) (by first | exact .inl rfl | (refine .inr ⟨by simp [own2, own1, own0], fun e he => ?_⟩; simp only [List.mem_cons, List.not_mem_nil, or_false] at he <;> first | exact he.elim | (subst he; exact hZo) | (rcases he with rfl | rfl <;> exact hZo))) ?_) | (refine ccA ([]) (c5) ?_) | (refine cb_f hq ?_) | (refine And.intro (by kernel_rfl) ?_) | (refine stpQ ?_))
         (refine z00 (by rfl) ?_ ?_ (by rfl)) <;> (repeat' (first | (exact eqA) | (refine shE ?_) | (refine And.intro ?_ ?_)))
       ·rw [if_neg (fun c => q4 c.2.2.2)]
        unfold nhR at c5
        rw [if_neg (fun c => q4 c.1)] at c5
        obtain ⟨ho', ep, ro, pr⟩ := h
        obtain ⟨a, op, sh, si⟩ := g
        unfold z1B at c5
        unfold hdE sgE at c2
        simp only at c5
        unfold cvH cvB
        generalize hdsE (cHds s) = Z at c4 c5 hZo
        refine z01 z03 6 rfl Tryz.func161 rfl rfl rfl ?_
        repeat ((try conv => whnf); first | (refine ccB ([_]) (cB) ?_) | (refine ccB ([_]) (c1) ?_) | (refine z0e k1' ?_) | (refine z0k k2' ?_) | (refine i_le hpl ?_) | (refine ccA ([]) (c2) ?_) | (refine z16 ([]) (c4) (by ((repeat' (first | (exact trivial) | (exact rfl) | (refine And.intro ?_ ?_))); first | done | fail)) (by ((repeat' (first | (exact trivial) | (exact rfl) | (refine And.intro ?_ ?_))); first | done | fail)) (by decide) (by rfl) (by first | exact .inl rfl | (refine .inr ⟨by simp [own2, own1, own0], fun e he => ?_⟩; simp only [List.mem_cons, List.not_mem_nil, or_false] at he <;> first | exact he.elim | (subst he; exact hZo) | (rcases he with rfl | rfl <;> exact hZo))) ?_) | (refine ccA ([]) (c5) ?_) | (refine And.intro (by kernel_rfl) ?_) | (refine stpQ ?_))
        (refine z00 (by rfl) ?_ ?_ (by rfl)) <;> (repeat' (first | (exact eqA) | (refine shE ?_) | (refine And.intro ?_ ?_)))
    ·have k2' : ¬ ((b.toNat : Nat) : Int) = 2 := by omega
     rw [if_neg k2]
     unfold cvH cvB
     refine z01 z03 6 rfl Tryz.func161 rfl rfl rfl ?_
     repeat ((try conv => whnf); first | (refine ccB ([_]) (cB) ?_) | (refine ccB ([_]) (c1) ?_) | (refine z0e k1' ?_) | (refine z0e k2' ?_) | (refine And.intro (by kernel_rfl) ?_) | (refine stpQ ?_))
     (refine z00 (by rfl) ?_ ?_ (by rfl)) <;> (repeat' (first | (exact eqA) | (refine shE ?_) | (refine And.intro ?_ ?_)))
end Go.Proofs.YthcfalipgnpelaaGreatDoor
namespace Go.Proofs.YthcfalipgnpelaaGreatDoor
set_option maxRecDepth 100000
set_option maxHeartbeats 8000000
set_option linter.unusedVariables false
set_option linter.unusedSimpArgs false
set_option linter.unusedSectionVars false
open Go.RowKit Pl
attribute [local irreducible] z0o z0p z0z AnsP LeP
theorem z8v (l m : List Bs) (hl : (l.length : Int) ≤ 100000000) (hm : (m.length : Int) ≤ 100000000) : CT Tryz.prog 51 [] [.sl 1 (strE l), .sl 1 (strE m)] (.bool (decide (l = m))) [] := by
 have hll := z05 l
 have hlm := z05 m
 refine z01 z03 1 rfl Tryz.func51 rfl rfl rfl ?_
 by_cases hn : l.length = m.length
 ·repeat ((try conv => whnf); first | (refine Exists.intro l.length (And.intro hll ?_)) | (refine Exists.intro m.length (And.intro hlm ?_)) | (refine stpQ ?_))
  refine z0K Nat (fun k => ⟨[(0, .sl 1 (strE l)), (1, .sl 1 (strE m)), (5, .int .i64 (k : Int))], [], 1⟩) (fun k => k ≤ l.length ∧ l.take k = m.take k) (fun k => l.length - k) 0 ⟨by omega, rfl⟩ ?_ ?_
  ·(refine z02 (by rfl) ?_ ?_) <;> repeat' (first | (exact eqA) | (refine shE ?_) | (refine And.intro ?_ ?_))
  ·intro Q1 hQ1 k hkk
   have hk := hkk.1
   have hp := hkk.2
   clear hkk
   by_cases hlt : k < l.length
   ·have hlt2 : k < m.length := by omega
    by_cases hq : pAt l k = pAt m k
    ·have hnx : l.take (k + 1) = m.take (k + 1) := by
      rw [List.take_add_one, List.take_add_one, hp, List.getElem?_eq_getElem hlt, List.getElem?_eq_getElem hlt2]
      simp only [pAt, List.getD, List.getElem?_eq_getElem hlt, List.getElem?_eq_getElem hlt2, Option.getD_some] at hq
      rw [hq]
     repeat ((try conv => whnf); first | (refine Exists.intro l.length (And.intro hll ?_)) | (refine i_at (z0j hlt) ?_) | (refine i_at (z0j hlt2) ?_) | (refine z0A hq ?_) | (refine And.intro (by kernel_rfl) ?_) | (refine stpQ ?_))
     refine ⟨k + 1, ⟨by omega, hnx⟩, by omega, ?_⟩
     (refine z02 (by rfl) ?_ ?_) <;> repeat' (first | (exact eqA) | (refine shE ?_) | (refine And.intro ?_ ?_))
    ·have hne : ¬ l = m := fun h0 => hq (by rw [h0])
     repeat ((try conv => whnf); first | (refine Exists.intro l.length (And.intro hll ?_)) | (refine i_at (z0j hlt) ?_) | (refine i_at (z0j hlt2) ?_) | (refine z1w hq ?_) | (refine And.intro (by kernel_rfl) ?_) | (refine stpQ ?_))
     refine hQ1 _ _ ?_
     (try conv => whnf)
     rw [decide_eq_false hne]
     (refine z00 (by rfl) ?_ ?_ (by rfl)) <;> repeat' (first | (exact eqA) | (refine shE ?_) | (refine And.intro ?_ ?_))
   ·have he : l = m := by
     rw [List.take_of_length_le (by omega), List.take_of_length_le (by omega)] at hp; exact hp
    have hke : k = l.length := by omega
    subst hke
    repeat ((try conv => whnf); first | (refine Exists.intro l.length (And.intro hll ?_)) | (refine stpQ ?_))
    refine hQ1 _ _ ?_
    repeat ((try conv => whnf); first | (refine stpQ ?_))
    rw [decide_eq_true he]
    (refine z00 (by rfl) ?_ ?_ (by rfl)) <;> repeat' (first | (exact eqA) | (refine shE ?_) | (refine And.intro ?_ ?_))
 ·have hne : ¬ l = m := fun h0 => hn (by rw [h0])
  rw [decide_eq_false hne]
  repeat ((try conv => whnf); first | (refine Exists.intro l.length (And.intro hll ?_)) | (refine Exists.intro m.length (And.intro hlm ?_)) | (refine stpQ ?_))
  (refine z00 (by rfl) ?_ ?_ (by rfl)) <;> repeat' (first | (exact eqA) | (refine shE ?_) | (refine And.intro ?_ ?_))
theorem zkh {h : Hd} {s : Sg} (gs : s.good) : ¬ z39 h s = [] := fun e => by
 have := zhM (h := h) gs
 rw [e] at this
 simp at this
theorem z8w (l : List (Hd × Sg)) (m : List Sa) (hl : l.length ≤ 10) (hm : m.length ≤ 1048576) (gl : ∀ x ∈ l, x.1.good ∧ x.2.good) (fm : ∀ x ∈ m, z6C x) : CT Tryz.prog 52 [] [.sl 8 (slE l), .sl 8 (saL m)] (.bool (decide (m = l.map saOf))) [] := by
 have hll := z3W l
 have hlm := z4o m
 have hmap : (l.map saOf).length = l.length := by simp
 refine z01 z03 1 rfl Tryz.func52 rfl rfl rfl ?_
 by_cases hn : l.length = m.length
 ·repeat ((try conv => whnf); first | (refine Exists.intro l.length (And.intro hll ?_)) | (refine Exists.intro m.length (And.intro hlm ?_)) | (refine stpQ ?_))
  refine z0K Nat (fun k => ⟨[(0, .sl 8 (slE l)), (1, .sl 8 (saL m)), (5, .int .i64 (k : Int))], [], 1⟩) (fun k => k ≤ l.length ∧ m.take k = (l.map saOf).take k) (fun k => l.length - k) 0 ⟨by omega, rfl⟩ ?_ ?_
  ·(refine z02 (by rfl) ?_ ?_) <;> repeat' (first | (exact eqA) | (refine shE ?_) | (refine And.intro ?_ ?_))
  ·intro Q1 hQ1 k hkk
   have hk := hkk.1
   have hp := hkk.2
   clear hkk
   by_cases hlt : k < l.length
   ·have hlt2 : k < m.length := by omega
    have g1 := z9Z hlt
    have g2 := z81 hlt2
    have ga := gl _ (List.getElem_mem hlt)
    have c1 := z4p l[k].1 l[k].2 ga.1 ga.2
    have fa := fm _ (List.getElem_mem hlt2)
    by_cases hq : m[k] = saOf l[k]
    ·have hnx : m.take (k + 1) = (l.map saOf).take (k + 1) := by rw [List.take_succ_eq_append_getElem hlt2, List.take_succ_eq_append_getElem (by omega), hp, hq]; simp
     rw [hq] at g2
     generalize l[k] = x at g1 g2 c1 ga
     clear hq fa
     obtain ⟨⟨ho, ep, ro, pr⟩, ⟨a, op, sh, si⟩⟩ := x
     have hqe : (!eqC [.int .i64 (ho : Int), .int .i64 (ep : Int), .str ro, .str pr] [.int .i64 (ho : Int), .int .i64 (ep : Int), .str ro, .str pr]) = false := by rw [z56]; rfl
     unfold saOf saE z1B z1r at g2
     unfold hdE sgE at g1 c1
     generalize z39 _ _ = t at c1
     repeat ((try conv => whnf); first | (refine Exists.intro l.length (And.intro hll ?_)) | (refine i_at g1 ?_) | (refine i_at g2 ?_) | (refine ccA ([]) (c1) ?_) | (refine z0A rfl ?_) | (refine cb_f hqe ?_) | (refine And.intro (by kernel_rfl) ?_) | (refine stpQ ?_))
     refine ⟨k + 1, ⟨by omega, hnx⟩, by omega, ?_⟩
     (refine z02 (by rfl) ?_ ?_) <;> repeat' (first | (exact eqA) | (refine shE ?_) | (refine And.intro ?_ ?_))
    ·have hne : ¬ m = l.map saOf := fun h0 => hq (by subst h0; simp)
     obtain ⟨tb, bb, c2, htb⟩ : ∃ (tb : Bs) (bb : Bool), CT Tryz.prog 100 [] [.agg (saE m[k])] (.tup [.str tb, .bool bb]) [] ∧ ¬ z39 l[k].1 l[k].2 = tb := by
      cases hok : saOk m[k] with
      | false => exact ⟨_, _, z6u _ fa hok, zkh ga.2⟩
      | true =>
        obtain ⟨y, gy1, gy2, ey⟩ := zk7 hok
        have := z4p y.1 y.2 gy1 gy2
        refine ⟨z39 y.1 y.2, true, ?_, fun e => ?_⟩
        ·rw [ey]; exact this
        ·obtain ⟨i1, i2⟩ := zhO ga.1 ga.2 gy1 gy2 e
         exact hq (by rw [ey]; congr 1; exact Prod.ext i1.symm i2.symm)
     generalize l[k] = x at g1 c1 htb
     generalize m[k] = z at g2 c2
     clear hq fa ga
     obtain ⟨⟨ho, ep, ro, pr⟩, ⟨a, op, sh, si⟩⟩ := x
     obtain ⟨ho', ep', ro', pr', a', op', sh', si'⟩ := z
     unfold saE z1B z1r at g2 c2
     unfold hdE sgE at g1 c1
     generalize z39 _ _ = t at c1 htb
     repeat ((try conv => whnf); first | (refine Exists.intro l.length (And.intro hll ?_)) | (refine i_at g1 ?_) | (refine i_at g2 ?_) | (refine ccA ([]) (c1) ?_) | (refine ccA ([]) (c2) ?_) | (refine z1w htb ?_) | (refine And.intro (by kernel_rfl) ?_) | (refine stpQ ?_))
     refine hQ1 _ _ ?_
     (try conv => whnf)
     rw [decide_eq_false hne]
     (refine z00 (by rfl) ?_ ?_ (by rfl)) <;> repeat' (first | (exact eqA) | (refine shE ?_) | (refine And.intro ?_ ?_))
   ·have he : m = l.map saOf := by
     rw [List.take_of_length_le (by omega), List.take_of_length_le (by omega)] at hp; exact hp
    have hke : k = l.length := by omega
    subst hke
    repeat ((try conv => whnf); first | (refine Exists.intro l.length (And.intro hll ?_)) | (refine stpQ ?_))
    refine hQ1 _ _ ?_
    repeat ((try conv => whnf); first | (refine stpQ ?_))
    rw [decide_eq_true he]
    (refine z00 (by rfl) ?_ ?_ (by rfl)) <;> repeat' (first | (exact eqA) | (refine shE ?_) | (refine And.intro ?_ ?_))
 ·have hne : ¬ m = l.map saOf := fun h0 => hn (by rw [h0, hmap])
  rw [decide_eq_false hne]
  repeat ((try conv => whnf); first | (refine Exists.intro l.length (And.intro hll ?_)) | (refine Exists.intro m.length (And.intro hlm ?_)) | (refine stpQ ?_))
  (refine z00 (by rfl) ?_ ?_ (by rfl)) <;> repeat' (first | (exact eqA) | (refine shE ?_) | (refine And.intro ?_ ?_))
end Go.Proofs.YthcfalipgnpelaaGreatDoor
namespace Go.Proofs.YthcfalipgnpelaaGreatDoor
set_option linter.unusedVariables false
set_option linter.unusedSimpArgs false
set_option linter.unusedSectionVars false
open Go.RowKit Pl
theorem z36 {N : Nat} {z : List (List T)} (h : ∀ e ∈ z, Fits N .str e) : ∃ l : List Bs, z = strE l ∧ ∀ x ∈ l, x.length ≤ N := by
 obtain ⟨l, hl, hx⟩ := z2M (fun s : Bs => [T.str s]) (fun s => s.length ≤ N) z fun e he => by
  obtain ⟨s, rfl, q⟩ := h e he
  exact ⟨s, rfl, q⟩
 exact ⟨l, hl, hx⟩
theorem zie {z : List (List T)} (h : ∀ e ∈ z, Fits 1048576 z0F e) : ∃ l : List Sa, z = saL l ∧ ∀ x ∈ l, z6C x :=
 z2M saE z6C z fun e he => by
  obtain ⟨n0, n1, s2, s3, n4, z5, z6, z7, rfl, -, -, -, -, -, q5, q6, q7, -⟩ := z2g (h e he)
  obtain ⟨l5, rfl, -⟩ := z36 q5.2
  obtain ⟨l6, rfl, -⟩ := z36 q6.2
  obtain ⟨l7, rfl, -⟩ := z36 q7.2
  have a5 := q5.1
  have a6 := q6.1
  have a7 := q7.1
  rw [z05] at a5 a6 a7
  exact ⟨⟨n0, n1, s2, s3, n4, l5, l6, l7⟩, rfl, a5, a6, a7⟩
end Go.Proofs.YthcfalipgnpelaaGreatDoor
