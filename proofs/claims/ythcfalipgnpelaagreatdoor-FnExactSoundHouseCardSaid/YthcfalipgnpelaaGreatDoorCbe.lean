/- Functions by content: the program's coordinator applies a record. -/
import Derived.Test.YthcfalipgnpelaaGreatDoorCi
import Derived.Test.YthcfalipgnpelaaGreatDoorSzd
namespace Go.Proofs.YthcfalipgnpelaaGreatDoor
set_option linter.unusedVariables false
set_option linter.unusedSimpArgs false
set_option linter.unusedSectionVars false
open Go.RowKit Pl
attribute [local irreducible] z0o z0p z0z AnsP LeP
set_option maxRecDepth 100000 in
set_option maxHeartbeats 8000000 in
theorem zkb (ho : Nat) (hho : ho ≤ 2) (K : Int) (fs : List Fl) (po : List Bs) (V D : List (List T)) (s : Cv) (ok : CvOk ho s) (b : UInt8) (r : Bs) (hr : r.length ≤ 9000) :
 CT Tryz.prog 173 (cvH (ho : Int) K fs po V D s .no) [.ptr 1 0 0, .str (b :: r)] (.tup []) (cvH (ho : Int) K fs po V D s (ckOf ho s (b :: r))) := by
 have hl : (b :: r).length = r.length + 1 := rfl
 have h0 : 0 < (b :: r).length := by simp
 have hbl := b.toNat_lt
 have hsl := zbA ok
 have hty := ok.ty
 have htl := ok.tl
 have c1 := zjz (b :: r) 1 false (by omega) (by omega)
 have l1 := z3c (t := b :: r) (p := 1) (bad := false) (by omega)
 by_cases k1 : b.toNat = 1
 ·have k1' : ((b.toNat : Nat) : Int) = 1 := by omega
  rw [ckOf, if_pos k1]
  unfold num1
  generalize z18 (b :: r) 1 false = A at c1 l1 ⊢
  obtain ⟨n, p, bd⟩ := A
  simp only at c1 l1 ⊢
  have c2 := z8X (b :: r) p bd
  rw [hl] at c2
  by_cases hd : z1n bd p (r.length + 1) = true
  ·rw [hd] at c2
   by_cases hc : s.ty < n ∧ n ≤ 1000
   ·rw [if_pos ⟨hd, hc⟩]
    have h1' : (n : Int) > (s.ty : Int) := by omega
    have h2' : (n : Int) ≤ 1000 := by omega
    unfold cvH cvB fldB at *
    refine z01 z03 6 rfl Tryz.func173 rfl rfl rfl ?_
    repeat ((try conv => whnf); first | (refine ccB ([_]) (c1) ?_) | (refine Exists.intro 0 (And.intro rfl (And.intro h0 ?_))) | (refine z0k k1' ?_) | (refine ccB ([_]) (c2) ?_) | (refine And.intro (by kernel_rfl) ?_) | (refine stpQ ?_))
    (refine z00 (by rfl) ?_ ?_ (by rfl)) <;> (repeat' (first | (exact eqA) | (refine shE ?_) | (refine And.intro ?_ ?_)))
   ·rw [if_neg (fun h => hc h.2)]
    unfold cvH cvB fldB at *
    by_cases h1' : (n : Int) > (s.ty : Int)
    ·have h2' : ¬ (n : Int) ≤ 1000 := by omega
     refine z01 z03 6 rfl Tryz.func173 rfl rfl rfl ?_
     repeat ((try conv => whnf); first | (refine ccB ([_]) (c1) ?_) | (refine Exists.intro 0 (And.intro rfl (And.intro h0 ?_))) | (refine z0k k1' ?_) | (refine ccB ([_]) (c2) ?_) | (refine And.intro (by kernel_rfl) ?_) | (refine stpQ ?_))
     (refine z00 (by rfl) ?_ ?_ (by rfl)) <;> (repeat' (first | (exact eqA) | (refine shE ?_) | (refine And.intro ?_ ?_)))
    ·refine z01 z03 6 rfl Tryz.func173 rfl rfl rfl ?_
     repeat ((try conv => whnf); first | (refine ccB ([_]) (c1) ?_) | (refine Exists.intro 0 (And.intro rfl (And.intro h0 ?_))) | (refine z0k k1' ?_) | (refine ccB ([_]) (c2) ?_) | (refine And.intro (by kernel_rfl) ?_) | (refine stpQ ?_))
     (refine z00 (by rfl) ?_ ?_ (by rfl)) <;> (repeat' (first | (exact eqA) | (refine shE ?_) | (refine And.intro ?_ ?_)))
  ·rw [if_neg (fun h => hd h.1)]
   have hd' : z1n bd p (r.length + 1) = false := by simpa using hd
   rw [hd'] at c2
   unfold cvH cvB fldB at *
   refine z01 z03 6 rfl Tryz.func173 rfl rfl rfl ?_
   repeat ((try conv => whnf); first | (refine ccB ([_]) (c1) ?_) | (refine Exists.intro 0 (And.intro rfl (And.intro h0 ?_))) | (refine z0k k1' ?_) | (refine ccB ([_]) (c2) ?_) | (refine And.intro (by kernel_rfl) ?_) | (refine stpQ ?_))
   (refine z00 (by rfl) ?_ ?_ (by rfl)) <;> (repeat' (first | (exact eqA) | (refine shE ?_) | (refine And.intro ?_ ?_)))
 ·rw [ckOf, if_neg k1]
  have k1' : ¬ ((b.toNat : Nat) : Int) = 1 := by omega
  by_cases k2 : b.toNat = 2
  ·rw [if_pos k2]
   have k2' : ((b.toNat : Nat) : Int) = 2 := by omega
   unfold num1
   generalize hA : z18 (b :: r) 1 false = A at c1 l1 ⊢
   obtain ⟨n, p, bd⟩ := A
   simp only at c1 l1 ⊢
   have no : (bd = false → z2C ((b :: r).drop p) = none) → CT Tryz.prog 173 (cvH (ho : Int) K fs po V D s .no) [.ptr 1 0 0, .str (b :: r)] (.tup []) (cvH (ho : Int) K fs po V D s .no) := fun hn => by
    obtain ⟨xh, xe, xr, xp, xa, xo, xs, xi, q, bd', hdn, c2⟩ := zm9 (b :: r) p bd (by omega) l1.1 hn
    have c3 := z8X (b :: r) q bd'
    rw [hdn] at c3
    clear hdn hn hA
    unfold cvH cvB fldB z1B z1r at *
    refine z01 z03 6 rfl Tryz.func173 rfl rfl rfl ?_
    repeat ((try conv => whnf); first | (refine ccB ([_]) (c1) ?_) | (refine Exists.intro 0 (And.intro rfl (And.intro h0 ?_))) | (refine z0e k1' ?_) | (refine z0k k2' ?_) | (refine ccB ([_]) (c2) ?_) | (refine ccB ([_]) (c3) ?_) | (refine And.intro (by kernel_rfl) ?_) | (refine stpQ ?_))
    (refine z00 (by rfl) ?_ ?_ (by rfl)) <;> (repeat' (first | (exact eqA) | (refine shE ?_) | (refine And.intro ?_ ?_)))
   cases bd with
   | true => rw [if_pos rfl]; exact no (fun h => by cases h)
   | false =>
     rw [if_neg (by decide)]
     cases hs : z2C ((b :: r).drop p) with
     | none => exact no (fun _ => hs)
     | some y =>
       obtain ⟨h, g⟩ := y
       clear no
       obtain ⟨g1, g2, e⟩ := z2u.1 hs
       have c2 := zm8 (b :: r) p h g g1 g2 (by omega) l1.1 e
       have c3 := z8X (b :: r) (b :: r).length false
       rw [show z1n false (b :: r).length (b :: r).length = true by simp [z1n]] at c3
       have c4 := zbE s.se (by omega)
       have c5 := zfx ho hho (cHds s) ok.ch h.ro
       have hro := g1.2.2.2.1
       have hc2 : (cHds s).length = s.se.length := zeu s
       simp only
       show CT _ _ _ _ _ (cvH (ho : Int) K fs po V D s (if n = s.ty ∧ n ≠ 0 ∧ h = z1V ho (cHds s) h.ro ∧ (cHds s).length < 4 then .clo h g else .no))
       change CT _ _ _ _ (.ref 1) [.row 4 (hdsE (cHds s))] at c4
       have hZo : ownE (.row 4 (hdsE (cHds s))) := zex _
       have hlt : ((b :: r).length : Nat) = r.length + 1 := rfl
       unfold fldB at c1 c2 c3
       by_cases q1 : n = s.ty
       ·by_cases q2 : n = 0
        ·rw [if_neg (fun c => c.2.1 q2)]
         have q2' : (n : Int) = 0 := by omega
         have q1' : (n : Int) = (s.ty : Int) := by omega
         clear c5 c4
         generalize hgE : hdE h ++ sgE g = HG at c2
         obtain ⟨ho', ep, ro, pr⟩ := h
         obtain ⟨a, op, sh, si⟩ := g
         subst hgE
         unfold cvH cvB
         refine z01 z03 6 rfl Tryz.func173 rfl rfl rfl ?_
         repeat ((try conv => whnf); first | (refine ccB ([_]) (c1) ?_) | (refine Exists.intro 0 (And.intro rfl (And.intro h0 ?_))) | (refine z0e k1' ?_) | (refine z0k k2' ?_) | (refine ccB ([_]) (c2) ?_) | (refine ccB ([_]) (c3) ?_) | (refine z0A q1' ?_) | (refine z0k q2' ?_) | (refine And.intro (by kernel_rfl) ?_) | (refine stpQ ?_))
         (refine z00 (by rfl) ?_ ?_ (by rfl)) <;> (repeat' (first | (exact eqA) | (refine shE ?_) | (refine And.intro ?_ ?_)))
        ·have q2' : ¬ (n : Int) = 0 := by omega
         have q1' : (n : Int) = (s.ty : Int) := by omega
         by_cases q3 : h = z1V ho (cHds s) h.ro ∧ (cHds s).length < 4
         ·rw [if_pos ⟨q1, q2, q3⟩]
          unfold nhR at c5
          rw [if_pos ⟨q3.2, hro⟩, ← q3.1] at c5
          clear q3
          obtain ⟨ho', ep, ro, pr⟩ := h
          obtain ⟨a, op, sh, si⟩ := g
          have hq := z56 (ho' : Int) (ep : Int) ro pr
          simp only at c5 hro
          unfold hdE at c2 c5
          unfold sgE at c2
          subst q1
          have hnl : (slE s.se).length = s.se.length := z3W _
          have hnt : (ntE s.tr).length = s.tr.length := by simp [ntE]
          have happ := zhS s.se (⟨ho', ep, ro, pr⟩, ⟨a, op, sh, si⟩)
          have happ2 : ntE (s.tr ++ [s.ty]) = ntE s.tr ++ [[.int .i64 (s.ty : Int)]] := by simp [ntE]
          unfold cvH cvB
          dsimp only
          rw [happ, happ2]
          generalize hdsE (cHds s) = Z at c4 c5 hZo
          refine z01 z03 6 rfl Tryz.func173 rfl rfl rfl ?_
          repeat ((try conv => whnf); first | (refine ccB ([_]) (c1) ?_) | (refine Exists.intro 0 (And.intro rfl (And.intro h0 ?_))) | (refine z0e k1' ?_) | (refine z0k k2' ?_) | (refine ccB ([_]) (c2) ?_) | (refine ccB ([_]) (c3) ?_) | (refine z0A q1' ?_) | (refine z0e q2' ?_) | (refine z16 ([]) (c4) (by ((repeat' (first | (exact trivial) | (exact rfl) | (refine And.intro ?_ ?_))); first | done | fail)) (by ((repeat' (first | (exact trivial) | (exact rfl) | (refine And.intro ?_ ?_))); first | done | fail)) (by decide) (by rfl) (by first | exact .inl rfl | (refine .inr ⟨by simp [own2, own1, own0], fun e he => ?_⟩; simp only [List.mem_cons, List.not_mem_nil, or_false] at he <;> first | exact he.elim | (subst he; exact hZo) | (rcases he with rfl | rfl <;> exact hZo))) ?_) | (refine ccA ([]) (c5) ?_) | (refine cb_t hq ?_) | (refine And.intro (by simp only [List.length_append, List.length_cons, List.length_nil, List.length_set, List.length_replicate]; omega) ?_) | (refine And.intro (by kernel_rfl) ?_) | (refine stpQ ?_))
          (refine z00 (by rfl) ?_ ?_ (by rfl)) <;> (repeat' (first | (exact eqA) | (refine shE ?_) | (refine And.intro ?_ ?_)))
          all_goals rfl
         ·rw [if_neg (fun c => q3 c.2.2)]
          by_cases q4 : (cHds s).length < 4
          ·have q5 : ¬ z1V ho (cHds s) h.ro = h := fun e => q3 ⟨e.symm, q4⟩
           unfold nhR at c5
           rw [if_pos ⟨q4, hro⟩] at c5
           have hq : eqC (hdE (z1V ho (cHds s) h.ro)) (hdE h) = false := by rw [zhV, decide_eq_false q5]
           clear q3 q5
           generalize z1V ho (cHds s) h.ro = y at c5 hq
           obtain ⟨yh, ye, yr, yp⟩ := y
           obtain ⟨ho', ep, ro, pr⟩ := h
           obtain ⟨a, op, sh, si⟩ := g
           simp only at c5 hro
           unfold hdE at c2 c5 hq
           unfold sgE at c2
           unfold cvH cvB
           generalize hdsE (cHds s) = Z at c4 c5 hZo
           refine z01 z03 6 rfl Tryz.func173 rfl rfl rfl ?_
           repeat ((try conv => whnf); first | (refine ccB ([_]) (c1) ?_) | (refine Exists.intro 0 (And.intro rfl (And.intro h0 ?_))) | (refine z0e k1' ?_) | (refine z0k k2' ?_) | (refine ccB ([_]) (c2) ?_) | (refine ccB ([_]) (c3) ?_) | (refine z0A q1' ?_) | (refine z0e q2' ?_) | (refine z16 ([]) (c4) (by ((repeat' (first | (exact trivial) | (exact rfl) | (refine And.intro ?_ ?_))); first | done | fail)) (by ((repeat' (first | (exact trivial) | (exact rfl) | (refine And.intro ?_ ?_))); first | done | fail)) (by decide) (by rfl) (by first | exact .inl rfl | (refine .inr ⟨by simp [own2, own1, own0], fun e he => ?_⟩; simp only [List.mem_cons, List.not_mem_nil, or_false] at he <;> first | exact he.elim | (subst he; exact hZo) | (rcases he with rfl | rfl <;> exact hZo))) ?_) | (refine ccA ([]) (c5) ?_) | (refine cb_f hq ?_) | (refine And.intro (by kernel_rfl) ?_) | (refine stpQ ?_))
           (refine z00 (by rfl) ?_ ?_ (by rfl)) <;> (repeat' (first | (exact eqA) | (refine shE ?_) | (refine And.intro ?_ ?_)))
          ·unfold nhR at c5
           rw [if_neg (fun c => q4 c.1)] at c5
           clear q3
           obtain ⟨ho', ep, ro, pr⟩ := h
           obtain ⟨a, op, sh, si⟩ := g
           simp only at c5 hro
           unfold z1B at c5
           unfold hdE sgE at c2
           unfold cvH cvB
           generalize hdsE (cHds s) = Z at c4 c5 hZo
           refine z01 z03 6 rfl Tryz.func173 rfl rfl rfl ?_
           repeat ((try conv => whnf); first | (refine ccB ([_]) (c1) ?_) | (refine Exists.intro 0 (And.intro rfl (And.intro h0 ?_))) | (refine z0e k1' ?_) | (refine z0k k2' ?_) | (refine ccB ([_]) (c2) ?_) | (refine ccB ([_]) (c3) ?_) | (refine z0A q1' ?_) | (refine z0e q2' ?_) | (refine z16 ([]) (c4) (by ((repeat' (first | (exact trivial) | (exact rfl) | (refine And.intro ?_ ?_))); first | done | fail)) (by ((repeat' (first | (exact trivial) | (exact rfl) | (refine And.intro ?_ ?_))); first | done | fail)) (by decide) (by rfl) (by first | exact .inl rfl | (refine .inr ⟨by simp [own2, own1, own0], fun e he => ?_⟩; simp only [List.mem_cons, List.not_mem_nil, or_false] at he <;> first | exact he.elim | (subst he; exact hZo) | (rcases he with rfl | rfl <;> exact hZo))) ?_) | (refine ccA ([]) (c5) ?_) | (refine And.intro (by kernel_rfl) ?_) | (refine stpQ ?_))
           (refine z00 (by rfl) ?_ ?_ (by rfl)) <;> (repeat' (first | (exact eqA) | (refine shE ?_) | (refine And.intro ?_ ?_)))
       ·rw [if_neg (fun c => q1 c.1)]
        have q1' : ¬ (n : Int) = (s.ty : Int) := by omega
        clear c5 c4
        obtain ⟨ho', ep, ro, pr⟩ := h
        obtain ⟨a, op, sh, si⟩ := g
        unfold hdE sgE at c2
        unfold cvH cvB
        refine z01 z03 6 rfl Tryz.func173 rfl rfl rfl ?_
        repeat ((try conv => whnf); first | (refine ccB ([_]) (c1) ?_) | (refine Exists.intro 0 (And.intro rfl (And.intro h0 ?_))) | (refine z0e k1' ?_) | (refine z0k k2' ?_) | (refine ccB ([_]) (c2) ?_) | (refine ccB ([_]) (c3) ?_) | (refine z1w q1' ?_) | (refine And.intro (by kernel_rfl) ?_) | (refine stpQ ?_))
        (refine z00 (by rfl) ?_ ?_ (by rfl)) <;> (repeat' (first | (exact eqA) | (refine shE ?_) | (refine And.intro ?_ ?_)))
  ·rw [if_neg k2]
   have k2' : ¬ ((b.toNat : Nat) : Int) = 2 := by omega
   generalize z18 (b :: r) 1 false = A at c1 l1
   obtain ⟨n, p, bd⟩ := A
   simp only at c1 l1
   unfold cvH cvB
   unfold fldB at c1
   refine z01 z03 6 rfl Tryz.func173 rfl rfl rfl ?_
   repeat ((try conv => whnf); first | (refine ccB ([_]) (c1) ?_) | (refine Exists.intro 0 (And.intro rfl (And.intro h0 ?_))) | (refine z0e k1' ?_) | (refine z0e k2' ?_) | (refine And.intro (by kernel_rfl) ?_) | (refine stpQ ?_))
   (refine z00 (by rfl) ?_ ?_ (by rfl)) <;> (repeat' (first | (exact eqA) | (refine shE ?_) | (refine And.intro ?_ ?_)))
end Go.Proofs.YthcfalipgnpelaaGreatDoor
