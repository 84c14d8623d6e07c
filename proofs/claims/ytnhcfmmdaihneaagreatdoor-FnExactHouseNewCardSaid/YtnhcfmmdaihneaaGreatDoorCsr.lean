/- Functions by content: the reference's coordinator applies a record. -/
import Derived.Test.YtnhcfmmdaihneaaGreatDoorVd
import Derived.Test.YtnhcfmmdaihneaaGreatDoorCsa
import Derived.Test.YtnhcfmmdaihneaaGreatDoorSzd
namespace Go.Proofs.YtnhcfmmdaihneaaGreatDoor
set_option linter.unusedVariables false
set_option linter.unusedSimpArgs false
set_option linter.unusedSectionVars false
open Go.RowKit Pl
attribute [local irreducible] z0w z0x z0A AnsP LeP
set_option maxRecDepth 100000 in
set_option maxHeartbeats 8000000 in
theorem z7E (ho : Nat) (hho : ho ≤ 2) (K : Int) (fs : List Fl) (po : List Bs) (V D : List (List T)) (s : Cv) (ok : CvOk ho s) (b : UInt8) (r : Bs) (hr : r.length ≤ 9000) :
 CT Tryz.prog 130 (cvH (ho : Int) K fs po V D s .no) [.ptr 1 0 0, .str (b :: r)] (.tup []) (cvH (ho : Int) K fs po V D s (ckOf ho s (b :: r))) := by
 have hl : (b :: r).length = r.length + 1 := rfl
 have hbl := b.toNat_lt
 have hsl := zh1 ok
 have hty := ok.ty
 have htl := ok.tl
 have cB := z9t b r (by omega)
 have c1 : CT Tryz.prog 36 [fldB (b :: r) 1 false] [.ptr 1 0 0] (.int .i64 ((z0W (b :: r) 1 false).1 : Int)) [fldB (b :: r) (z0W (b :: r) 1 false).2.1 (z0W (b :: r) 1 false).2.2] := zaA (b :: r) 1 false (by omega) (by omega)
 have l1 := z2d (t := b :: r) (p := 1) (bad := false) (by omega)
 rcases hA : z0W (b :: r) 1 false with ⟨n, p, bd⟩
 have hN : num1 (b :: r) = (n, p, bd) := hA
 rw [hA] at c1 l1
 simp only at c1 l1
 unfold fldB at c1
 clear hA
 cases bd with
 | true =>
   have hR : ckOf ho s (b :: r) = .no := by
    rw [ckOf, hN]
    simp only
    split
    ·rw [if_neg (fun c => by simp [z19] at c)]
    ·split
     ·simp
     ·rfl
   rw [hR]
   clear hR
   unfold cvH cvB
   refine z01 z03 6 rfl Tryz.func130 rfl rfl rfl ?_
   repeat ((try conv => whnf); first | (refine ccB ([_]) (cB) ?_) | (refine ccB ([_]) (c1) ?_) | (refine And.intro (by kernel_rfl) ?_) | (refine stpQ ?_))
   (refine z00 (by rfl) ?_ ?_ (by rfl)) <;> (repeat' (first | (exact eqA) | (refine shE ?_) | (refine And.intro ?_ ?_)))
 | false =>
   rw [ckOf, hN]
   simp only
   by_cases k1 : b.toNat = 1
   ·have k1' : ((b.toNat : Nat) : Int) = 1 := by omega
    rw [if_pos k1]
    unfold cvH cvB
    by_cases hd : p = r.length + 1
    ·have hd' : (p : Int) = (((b :: r).length : Nat) : Int) := by omega
     have hD : z19 false p (r.length + 1) = true := by simp [z19, hd]
     by_cases hc : s.ty < n ∧ n ≤ 1000
     ·rw [if_pos ⟨hD, hc⟩]
      have h1' : (n : Int) > (s.ty : Int) := by omega
      have h2' : (n : Int) ≤ 1000 := by omega
      refine z01 z03 6 rfl Tryz.func130 rfl rfl rfl ?_
      repeat ((try conv => whnf); first | (refine ccB ([_]) (cB) ?_) | (refine ccB ([_]) (c1) ?_) | (refine z0o k1' ?_) | (refine z0o hd' ?_) | (refine And.intro (by kernel_rfl) ?_) | (refine stpQ ?_))
      (refine z00 (by rfl) ?_ ?_ (by rfl)) <;> (repeat' (first | (exact eqA) | (refine shE ?_) | (refine And.intro ?_ ?_)))
     ·rw [if_neg (fun h => hc h.2)]
      by_cases h1' : (n : Int) > (s.ty : Int)
      ·have h2' : ¬ (n : Int) ≤ 1000 := by omega
       refine z01 z03 6 rfl Tryz.func130 rfl rfl rfl ?_
       repeat ((try conv => whnf); first | (refine ccB ([_]) (cB) ?_) | (refine ccB ([_]) (c1) ?_) | (refine z0o k1' ?_) | (refine z0o hd' ?_) | (refine And.intro (by kernel_rfl) ?_) | (refine stpQ ?_))
       (refine z00 (by rfl) ?_ ?_ (by rfl)) <;> (repeat' (first | (exact eqA) | (refine shE ?_) | (refine And.intro ?_ ?_)))
      ·refine z01 z03 6 rfl Tryz.func130 rfl rfl rfl ?_
       repeat ((try conv => whnf); first | (refine ccB ([_]) (cB) ?_) | (refine ccB ([_]) (c1) ?_) | (refine z0o k1' ?_) | (refine z0o hd' ?_) | (refine And.intro (by kernel_rfl) ?_) | (refine stpQ ?_))
       (refine z00 (by rfl) ?_ ?_ (by rfl)) <;> (repeat' (first | (exact eqA) | (refine shE ?_) | (refine And.intro ?_ ?_)))
    ·have hd' : ¬ (p : Int) = (((b :: r).length : Nat) : Int) := by omega
     rw [if_neg (fun h => hd (by simpa [z19] using h.1))]
     refine z01 z03 6 rfl Tryz.func130 rfl rfl rfl ?_
     repeat ((try conv => whnf); first | (refine ccB ([_]) (cB) ?_) | (refine ccB ([_]) (c1) ?_) | (refine z0o k1' ?_) | (refine z0j hd' ?_) | (refine And.intro (by kernel_rfl) ?_) | (refine stpQ ?_))
     (refine z00 (by rfl) ?_ ?_ (by rfl)) <;> (repeat' (first | (exact eqA) | (refine shE ?_) | (refine And.intro ?_ ?_)))
   ·have k1' : ¬ ((b.toNat : Nat) : Int) = 1 := by omega
    rw [if_neg k1]
    by_cases k2 : b.toNat = 2
    ·have k2' : ((b.toNat : Nat) : Int) = 2 := by omega
     rw [if_pos k2, if_neg (by decide)]
     have c2 := z68 ((b :: r).drop p) (by simp; omega)
     have c4 := zdY s.se (by omega)
     change CT _ _ _ _ (.ref 1) [.row 4 (hdsE (cHds s))] at c4
     have hZo : ownE (.row 4 (hdsE (cHds s))) := zdO _
     have hpl := l1.1
     unfold slR at c2
     cases hs : z1Q ((b :: r).drop p) with
     | none =>
       rw [hs] at c2
       have c5 := z7D ho hho (cHds s) ok.ch []
       unfold nhR at c5
       rw [if_neg (fun c => by have := c.2; simp at this)] at c5
       unfold z1u at c5
       simp only at c2 ⊢
       change CT _ _ _ _ (.tup [.agg [.int .i64 0, .int .i64 0, .str [], .str [], .int .i64 0, .sl 1 [], .sl 1 [], .sl 1 []], .bool false]) _ at c2
       unfold cvH cvB
       generalize hdsE (cHds s) = Z at c4 c5 hZo
       refine z01 z03 6 rfl Tryz.func130 rfl rfl rfl ?_
       repeat ((try conv => whnf); first | (refine ccB ([_]) (cB) ?_) | (refine ccB ([_]) (c1) ?_) | (refine z0j k1' ?_) | (refine z0o k2' ?_) | (refine i_le hpl ?_) | (refine ccA ([]) (c2) ?_) | (refine z0N ([]) (c4) (by ((repeat' (first | (exact trivial) | (exact rfl) | (refine And.intro ?_ ?_))); first | done | fail)) (by ((repeat' (first | (exact trivial) | (exact rfl) | (refine And.intro ?_ ?_))); first | done | fail)) (by decide) (by rfl) (by first | exact .inl rfl | (refine .inr ⟨by simp [own2, own1, own0], fun e he => ?_⟩; simp only [List.mem_cons, List.not_mem_nil, or_false] at he <;> first | exact he.elim | (subst he; exact hZo) | (rcases he with rfl | rfl <;> exact hZo))) ?_) | (refine ccA ([]) (c5) ?_) | (refine And.intro (by kernel_rfl) ?_) | (refine stpQ ?_))
       (refine z00 (by rfl) ?_ ?_ (by rfl)) <;> (repeat' (first | (exact eqA) | (refine shE ?_) | (refine And.intro ?_ ?_)))
     | some y =>
       obtain ⟨h, g⟩ := y
       rw [hs] at c2
       obtain ⟨g1, g2, e⟩ := z2E.1 hs
       have hro := g1.2.2.2.1
       have c5 := z7D ho hho (cHds s) ok.ch h.ro
       simp only at c2 ⊢
       by_cases q4 : (cHds s).length < 4
       ·unfold nhR at c5
        rw [if_pos ⟨q4, hro⟩] at c5
        by_cases q3 : h = z1N ho (cHds s) h.ro
        ·rw [← q3] at c5
         by_cases q1 : n = s.ty
         ·by_cases q2 : n = 0
          ·rw [if_neg (fun c => c.2.1 q2)]
           have q2' : ¬ (n : Int) > 0 := by omega
           have q1' : (n : Int) = (s.ty : Int) := by omega
           clear q3
           obtain ⟨ho', ep, ro, pr⟩ := h
           obtain ⟨a, op, sh, si⟩ := g
           have hq := z7w (ho' : Int) (ep : Int) ro pr
           unfold hdE at c2 c5
           unfold sgE at c2
           unfold cvH cvB
           generalize hdsE (cHds s) = Z at c4 c5 hZo
           refine z01 z03 6 rfl Tryz.func130 rfl rfl rfl ?_
           repeat ((try conv => whnf); first | (refine ccB ([_]) (cB) ?_) | (refine ccB ([_]) (c1) ?_) | (refine z0j k1' ?_) | (refine z0o k2' ?_) | (refine i_le hpl ?_) | (refine ccA ([]) (c2) ?_) | (refine z0N ([]) (c4) (by ((repeat' (first | (exact trivial) | (exact rfl) | (refine And.intro ?_ ?_))); first | done | fail)) (by ((repeat' (first | (exact trivial) | (exact rfl) | (refine And.intro ?_ ?_))); first | done | fail)) (by decide) (by rfl) (by first | exact .inl rfl | (refine .inr ⟨by simp [own2, own1, own0], fun e he => ?_⟩; simp only [List.mem_cons, List.not_mem_nil, or_false] at he <;> first | exact he.elim | (subst he; exact hZo) | (rcases he with rfl | rfl <;> exact hZo))) ?_) | (refine ccA ([]) (c5) ?_) | (refine cb_t hq ?_) | (refine z0o q1' ?_) | (refine z0j q2' ?_) | (refine And.intro (by kernel_rfl) ?_) | (refine stpQ ?_))
           (refine z00 (by rfl) ?_ ?_ (by rfl)) <;> (repeat' (first | (exact eqA) | (refine shE ?_) | (refine And.intro ?_ ?_)))
          ·rw [if_pos ⟨q1, q2, q3, q4⟩]
           have q2' : (n : Int) > 0 := by omega
           have q1' : (n : Int) = (s.ty : Int) := by omega
           clear q3
           obtain ⟨ho', ep, ro, pr⟩ := h
           obtain ⟨a, op, sh, si⟩ := g
           have hq := z7w (ho' : Int) (ep : Int) ro pr
           unfold hdE at c2 c5
           unfold sgE at c2
           subst q1
           have hnl : (slE s.se).length = s.se.length := z9k _
           have hnt : (ntE s.tr).length = s.tr.length := by simp [ntE]
           have happ := zl2 s.se (⟨ho', ep, ro, pr⟩, ⟨a, op, sh, si⟩)
           have happ2 : ntE (s.tr ++ [s.ty]) = ntE s.tr ++ [[.int .i64 (s.ty : Int)]] := by simp [ntE]
           unfold cvH cvB
           dsimp only
           rw [happ, happ2]
           generalize hdsE (cHds s) = Z at c4 c5 hZo
           refine z01 z03 6 rfl Tryz.func130 rfl rfl rfl ?_
           repeat ((try conv => whnf); first | (refine ccB ([_]) (cB) ?_) | (refine ccB ([_]) (c1) ?_) | (refine z0j k1' ?_) | (refine z0o k2' ?_) | (refine i_le hpl ?_) | (refine ccA ([]) (c2) ?_) | (refine z0N ([]) (c4) (by ((repeat' (first | (exact trivial) | (exact rfl) | (refine And.intro ?_ ?_))); first | done | fail)) (by ((repeat' (first | (exact trivial) | (exact rfl) | (refine And.intro ?_ ?_))); first | done | fail)) (by decide) (by rfl) (by first | exact .inl rfl | (refine .inr ⟨by simp [own2, own1, own0], fun e he => ?_⟩; simp only [List.mem_cons, List.not_mem_nil, or_false] at he <;> first | exact he.elim | (subst he; exact hZo) | (rcases he with rfl | rfl <;> exact hZo))) ?_) | (refine ccA ([]) (c5) ?_) | (refine cb_t hq ?_) | (refine z0o q1' ?_) | (refine z0o q2' ?_) | (refine And.intro (by simp only [List.length_append, List.length_cons, List.length_nil, List.length_set, List.length_replicate]; omega) ?_) | (refine And.intro (by kernel_rfl) ?_) | (refine stpQ ?_))
           (refine z00 (by rfl) ?_ ?_ (by rfl)) <;> (repeat' (first | (exact eqA) | (refine shE ?_) | (refine And.intro ?_ ?_)))
           all_goals rfl
         ·rw [if_neg (fun c => q1 c.1)]
          have q1' : ¬ (n : Int) = (s.ty : Int) := by omega
          clear q3
          obtain ⟨ho', ep, ro, pr⟩ := h
          obtain ⟨a, op, sh, si⟩ := g
          have hq := z7w (ho' : Int) (ep : Int) ro pr
          unfold hdE at c2 c5
          unfold sgE at c2
          unfold cvH cvB
          generalize hdsE (cHds s) = Z at c4 c5 hZo
          refine z01 z03 6 rfl Tryz.func130 rfl rfl rfl ?_
          repeat ((try conv => whnf); first | (refine ccB ([_]) (cB) ?_) | (refine ccB ([_]) (c1) ?_) | (refine z0j k1' ?_) | (refine z0o k2' ?_) | (refine i_le hpl ?_) | (refine ccA ([]) (c2) ?_) | (refine z0N ([]) (c4) (by ((repeat' (first | (exact trivial) | (exact rfl) | (refine And.intro ?_ ?_))); first | done | fail)) (by ((repeat' (first | (exact trivial) | (exact rfl) | (refine And.intro ?_ ?_))); first | done | fail)) (by decide) (by rfl) (by first | exact .inl rfl | (refine .inr ⟨by simp [own2, own1, own0], fun e he => ?_⟩; simp only [List.mem_cons, List.not_mem_nil, or_false] at he <;> first | exact he.elim | (subst he; exact hZo) | (rcases he with rfl | rfl <;> exact hZo))) ?_) | (refine ccA ([]) (c5) ?_) | (refine cb_t hq ?_) | (refine z0j q1' ?_) | (refine And.intro (by kernel_rfl) ?_) | (refine stpQ ?_))
          (refine z00 (by rfl) ?_ ?_ (by rfl)) <;> (repeat' (first | (exact eqA) | (refine shE ?_) | (refine And.intro ?_ ?_)))
        ·rw [if_neg (fun c => q3 c.2.2.1)]
         have q5 : ¬ z1N ho (cHds s) h.ro = h := fun e => q3 e.symm
         have hq : eqC (hdE (z1N ho (cHds s) h.ro)) (hdE h) = false := by rw [zha, decide_eq_false q5]
         clear q3 q5
         generalize z1N ho (cHds s) h.ro = y at c5 hq
         obtain ⟨yh, ye, yr, yp⟩ := y
         obtain ⟨ho', ep, ro, pr⟩ := h
         obtain ⟨a, op, sh, si⟩ := g
         unfold hdE at c2 c5 hq
         unfold sgE at c2
         simp only at c5
         unfold cvH cvB
         generalize hdsE (cHds s) = Z at c4 c5 hZo
         refine z01 z03 6 rfl Tryz.func130 rfl rfl rfl ?_
         repeat ((try conv => whnf); first | (refine ccB ([_]) (cB) ?_) | (refine ccB ([_]) (c1) ?_) | (refine z0j k1' ?_) | (refine z0o k2' ?_) | (refine i_le hpl ?_) | (refine ccA ([]) (c2) ?_) | (refine z0N ([]) (c4) (by ((repeat' (first | (exact trivial) | (exact rfl) | (refine And.intro ?_ ?_))); first | done | fail)) (by ((repeat' (first | (exact trivial) | (exact rfl) | (refine And.intro ?_ ?_))); first | done | fail)) (by decide) (by rfl) (by first | exact .inl rfl | (refine .inr ⟨by simp [own2, own1, own0], fun e he => ?_⟩; simp only [List.mem_cons, List.not_mem_nil, or_false] at he <;> first | exact he.elim | (subst he; exact hZo) | (rcases he with rfl | rfl <;> exact hZo))) ?_) | (refine ccA ([]) (c5) ?_) | (refine cb_f hq ?_) | (refine And.intro (by kernel_rfl) ?_) | (refine stpQ ?_))
         (refine z00 (by rfl) ?_ ?_ (by rfl)) <;> (repeat' (first | (exact eqA) | (refine shE ?_) | (refine And.intro ?_ ?_)))
       ·rw [if_neg (fun c => q4 c.2.2.2)]
        unfold nhR at c5
        rw [if_neg (fun c => q4 c.1)] at c5
        obtain ⟨ho', ep, ro, pr⟩ := h
        obtain ⟨a, op, sh, si⟩ := g
        unfold z1u at c5
        unfold hdE sgE at c2
        simp only at c5
        unfold cvH cvB
        generalize hdsE (cHds s) = Z at c4 c5 hZo
        refine z01 z03 6 rfl Tryz.func130 rfl rfl rfl ?_
        repeat ((try conv => whnf); first | (refine ccB ([_]) (cB) ?_) | (refine ccB ([_]) (c1) ?_) | (refine z0j k1' ?_) | (refine z0o k2' ?_) | (refine i_le hpl ?_) | (refine ccA ([]) (c2) ?_) | (refine z0N ([]) (c4) (by ((repeat' (first | (exact trivial) | (exact rfl) | (refine And.intro ?_ ?_))); first | done | fail)) (by ((repeat' (first | (exact trivial) | (exact rfl) | (refine And.intro ?_ ?_))); first | done | fail)) (by decide) (by rfl) (by first | exact .inl rfl | (refine .inr ⟨by simp [own2, own1, own0], fun e he => ?_⟩; simp only [List.mem_cons, List.not_mem_nil, or_false] at he <;> first | exact he.elim | (subst he; exact hZo) | (rcases he with rfl | rfl <;> exact hZo))) ?_) | (refine ccA ([]) (c5) ?_) | (refine And.intro (by kernel_rfl) ?_) | (refine stpQ ?_))
        (refine z00 (by rfl) ?_ ?_ (by rfl)) <;> (repeat' (first | (exact eqA) | (refine shE ?_) | (refine And.intro ?_ ?_)))
    ·have k2' : ¬ ((b.toNat : Nat) : Int) = 2 := by omega
     rw [if_neg k2]
     unfold cvH cvB
     refine z01 z03 6 rfl Tryz.func130 rfl rfl rfl ?_
     repeat ((try conv => whnf); first | (refine ccB ([_]) (cB) ?_) | (refine ccB ([_]) (c1) ?_) | (refine z0j k1' ?_) | (refine z0j k2' ?_) | (refine And.intro (by kernel_rfl) ?_) | (refine stpQ ?_))
     (refine z00 (by rfl) ?_ ?_ (by rfl)) <;> (repeat' (first | (exact eqA) | (refine shE ?_) | (refine And.intro ?_ ?_)))
end Go.Proofs.YtnhcfmmdaihneaaGreatDoor
