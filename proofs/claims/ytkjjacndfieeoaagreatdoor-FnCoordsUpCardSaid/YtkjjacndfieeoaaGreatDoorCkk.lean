/- Functions by content: the program's coordinator applies a record. Functions by content: the program compares texts, signatures, seals. -/
import Derived.Test.YtkjjacndfieeoaaGreatDoorCi
import Derived.Test.YtkjjacndfieeoaaGreatDoorSvz
namespace Go.Proofs.YtkjjacndfieeoaaGreatDoor
set_option linter.unusedVariables false
set_option linter.unusedSimpArgs false
set_option linter.unusedSectionVars false
open Go.RowKit Pl
attribute [local irreducible] z0m z0n z0q AnsP LeP
set_option maxRecDepth 100000 in
set_option maxHeartbeats 8000000 in
theorem zhe (ho : Nat) (hho : ho ≤ 2) (K : Int) (fs : List Fl) (po : List Bs) (V D : List (List T)) (s : Cv) (ok : CvOk ho s) (b : UInt8) (r : Bs) (hr : r.length ≤ 9000) :
 CT Tryz.prog 100 (cvH (ho : Int) K fs po V D s .no) [.ptr 1 0 0, .str (b :: r)] (.tup []) (cvH (ho : Int) K fs po V D s (ckOf ho s (b :: r))) := by
 have hl : (b :: r).length = r.length + 1 := rfl
 have h0 : 0 < (b :: r).length := by simp
 have hbl := b.toNat_lt
 have hsl := z1H ok
 have hty := ok.ty
 have htl := ok.tl
 have c1 := c_num (b :: r) 1 false (by omega) (by omega)
 have l1 := zgi (t := b :: r) (p := 1) (bad := false) (by omega)
 by_cases k1 : b.toNat = 1
 ·have k1' : ((b.toNat : Nat) : Int) = 1 := by omega
  rw [ckOf, if_pos k1]
  unfold num1
  generalize z36 (b :: r) 1 false = A at c1 l1 ⊢
  obtain ⟨n, p, bd⟩ := A
  simp only at c1 l1 ⊢
  have c2 := zf0 (b :: r) p bd
  rw [hl] at c2
  by_cases hd : z40 bd p (r.length + 1) = true
  ·rw [hd] at c2
   by_cases hc : s.ty < n ∧ n ≤ 1000
   ·rw [if_pos ⟨hd, hc⟩]
    have h1' : (n : Int) > (s.ty : Int) := by omega
    have h2' : (n : Int) ≤ 1000 := by omega
    unfold cvH cvB fldB at *
    refine z01 z0f 6 rfl Tryz.func100 rfl rfl rfl ?_
    repeat ((try conv => whnf); first | (refine ccB ([_]) (c1) ?_) | (refine Exists.intro 0 (And.intro rfl (And.intro h0 ?_))) | (refine z0k k1' ?_) | (refine ccB ([_]) (c2) ?_) | (refine And.intro (by kernel_rfl) ?_) | (refine stpQ ?_))
    (refine z00 (by rfl) ?_ ?_ (by rfl)) <;> (repeat' (first | (exact eqA) | (refine shE ?_) | (refine And.intro ?_ ?_)))
   ·rw [if_neg (fun h => hc h.2)]
    unfold cvH cvB fldB at *
    by_cases h1' : (n : Int) > (s.ty : Int)
    ·have h2' : ¬ (n : Int) ≤ 1000 := by omega
     refine z01 z0f 6 rfl Tryz.func100 rfl rfl rfl ?_
     repeat ((try conv => whnf); first | (refine ccB ([_]) (c1) ?_) | (refine Exists.intro 0 (And.intro rfl (And.intro h0 ?_))) | (refine z0k k1' ?_) | (refine ccB ([_]) (c2) ?_) | (refine And.intro (by kernel_rfl) ?_) | (refine stpQ ?_))
     (refine z00 (by rfl) ?_ ?_ (by rfl)) <;> (repeat' (first | (exact eqA) | (refine shE ?_) | (refine And.intro ?_ ?_)))
    ·refine z01 z0f 6 rfl Tryz.func100 rfl rfl rfl ?_
     repeat ((try conv => whnf); first | (refine ccB ([_]) (c1) ?_) | (refine Exists.intro 0 (And.intro rfl (And.intro h0 ?_))) | (refine z0k k1' ?_) | (refine ccB ([_]) (c2) ?_) | (refine And.intro (by kernel_rfl) ?_) | (refine stpQ ?_))
     (refine z00 (by rfl) ?_ ?_ (by rfl)) <;> (repeat' (first | (exact eqA) | (refine shE ?_) | (refine And.intro ?_ ?_)))
  ·rw [if_neg (fun h => hd h.1)]
   have hd' : z40 bd p (r.length + 1) = false := by simpa using hd
   rw [hd'] at c2
   unfold cvH cvB fldB at *
   refine z01 z0f 6 rfl Tryz.func100 rfl rfl rfl ?_
   repeat ((try conv => whnf); first | (refine ccB ([_]) (c1) ?_) | (refine Exists.intro 0 (And.intro rfl (And.intro h0 ?_))) | (refine z0k k1' ?_) | (refine ccB ([_]) (c2) ?_) | (refine And.intro (by kernel_rfl) ?_) | (refine stpQ ?_))
   (refine z00 (by rfl) ?_ ?_ (by rfl)) <;> (repeat' (first | (exact eqA) | (refine shE ?_) | (refine And.intro ?_ ?_)))
 ·rw [ckOf, if_neg k1]
  have k1' : ¬ ((b.toNat : Nat) : Int) = 1 := by omega
  by_cases k2 : b.toNat = 2
  ·rw [if_pos k2]
   have k2' : ((b.toNat : Nat) : Int) = 2 := by omega
   unfold num1
   generalize hA : z36 (b :: r) 1 false = A at c1 l1 ⊢
   obtain ⟨n, p, bd⟩ := A
   simp only at c1 l1 ⊢
   have no : (bd = false → z6z ((b :: r).drop p) = none) → CT Tryz.prog 100 (cvH (ho : Int) K fs po V D s .no) [.ptr 1 0 0, .str (b :: r)] (.tup []) (cvH (ho : Int) K fs po V D s .no) := fun hn => by
    obtain ⟨xh, xe, xr, xp, xa, xo, xs, xi, q, bd', hdn, c2⟩ := zj1 (b :: r) p bd (by omega) l1.1 hn
    have c3 := zf0 (b :: r) q bd'
    rw [hdn] at c3
    clear hdn hn hA
    unfold cvH cvB fldB z2A z2n at *
    refine z01 z0f 6 rfl Tryz.func100 rfl rfl rfl ?_
    repeat ((try conv => whnf); first | (refine ccB ([_]) (c1) ?_) | (refine Exists.intro 0 (And.intro rfl (And.intro h0 ?_))) | (refine z0o k1' ?_) | (refine z0k k2' ?_) | (refine ccB ([_]) (c2) ?_) | (refine ccB ([_]) (c3) ?_) | (refine And.intro (by kernel_rfl) ?_) | (refine stpQ ?_))
    (refine z00 (by rfl) ?_ ?_ (by rfl)) <;> (repeat' (first | (exact eqA) | (refine shE ?_) | (refine And.intro ?_ ?_)))
   cases bd with
   | true => rw [if_pos rfl]; exact no (fun h => by cases h)
   | false =>
     rw [if_neg (by decide)]
     cases hs : z6z ((b :: r).drop p) with
     | none => exact no (fun _ => hs)
     | some y =>
       obtain ⟨h, g⟩ := y
       clear no
       obtain ⟨g1, g2, e⟩ := z3w.1 hs
       have c2 := zj0 (b :: r) p h g g1 g2 (by omega) l1.1 e
       have c3 := zf0 (b :: r) (b :: r).length false
       rw [show z40 false (b :: r).length (b :: r).length = true by simp [z40]] at c3
       have c4 := z9Y s.se (by omega)
       have c5 := z7P ho hho (cHds s) ok.ch h.ro
       have hro := g1.2.2.2.1
       have hc2 : (cHds s).length = s.se.length := z3x s
       simp only
       show CT _ _ _ _ _ (cvH (ho : Int) K fs po V D s (if n = s.ty ∧ n ≠ 0 ∧ h = z1u ho (cHds s) h.ro ∧ (cHds s).length < 4 then .clo h g else .no))
       change CT _ _ _ _ (.ref 1) [.row 4 (hdsE (cHds s))] at c4
       have hZo : ownE (.row 4 (hdsE (cHds s))) := z8L _
       have hlt : ((b :: r).length : Nat) = r.length + 1 := rfl
       unfold fldB at c1 c2 c3
       by_cases q1 : n = s.ty
       ·by_cases q2 : n = 0
        ·rw [if_neg (fun c => c.2.1 q2)]
         have q2' : (n : Int) = 0 := by omega
         have q1' : (n : Int) = (s.ty : Int) := by omega
         clear c5 c4
         generalize hgE : hdE h ++ sgE g = HG at c2
         obtain ⟨ho', ep, ro, pr⟩ := h
         obtain ⟨a, op, sh, si⟩ := g
         subst hgE
         unfold cvH cvB
         refine z01 z0f 6 rfl Tryz.func100 rfl rfl rfl ?_
         repeat ((try conv => whnf); first | (refine ccB ([_]) (c1) ?_) | (refine Exists.intro 0 (And.intro rfl (And.intro h0 ?_))) | (refine z0o k1' ?_) | (refine z0k k2' ?_) | (refine ccB ([_]) (c2) ?_) | (refine ccB ([_]) (c3) ?_) | (refine z0F q1' ?_) | (refine z0k q2' ?_) | (refine And.intro (by kernel_rfl) ?_) | (refine stpQ ?_))
         (refine z00 (by rfl) ?_ ?_ (by rfl)) <;> (repeat' (first | (exact eqA) | (refine shE ?_) | (refine And.intro ?_ ?_)))
        ·have q2' : ¬ (n : Int) = 0 := by omega
         have q1' : (n : Int) = (s.ty : Int) := by omega
         by_cases q3 : h = z1u ho (cHds s) h.ro ∧ (cHds s).length < 4
         ·rw [if_pos ⟨q1, q2, q3⟩]
          unfold nhR at c5
          rw [if_pos ⟨q3.2, hro⟩, ← q3.1] at c5
          clear q3
          obtain ⟨ho', ep, ro, pr⟩ := h
          obtain ⟨a, op, sh, si⟩ := g
          have hq := zb1 (ho' : Int) (ep : Int) ro pr
          simp only at c5 hro
          unfold hdE at c2 c5
          unfold sgE at c2
          subst q1
          have hnl : (slE s.se).length = s.se.length := z0B _
          have hnt : (ntE s.tr).length = s.tr.length := by simp [ntE]
          have happ := zaZ s.se (⟨ho', ep, ro, pr⟩, ⟨a, op, sh, si⟩)
          have happ2 : ntE (s.tr ++ [s.ty]) = ntE s.tr ++ [[.int .i64 (s.ty : Int)]] := by simp [ntE]
          unfold cvH cvB
          dsimp only
          rw [happ, happ2]
          generalize hdsE (cHds s) = Z at c4 c5 hZo
          refine z01 z0f 6 rfl Tryz.func100 rfl rfl rfl ?_
          repeat ((try conv => whnf); first | (refine ccB ([_]) (c1) ?_) | (refine Exists.intro 0 (And.intro rfl (And.intro h0 ?_))) | (refine z0o k1' ?_) | (refine z0k k2' ?_) | (refine ccB ([_]) (c2) ?_) | (refine ccB ([_]) (c3) ?_) | (refine z0F q1' ?_) | (refine z0o q2' ?_) | (refine z4g ([]) (c4) (by ((repeat' (first | (exact trivial) | (exact rfl) | (refine And.intro ?_ ?_))); first | done | fail)) (by ((repeat' (first | (exact trivial) | (exact rfl) | (refine And.intro ?_ ?_))); first | done | fail)) (by decide) (by rfl) (by first | exact .inl rfl | (refine .inr ⟨by simp [own2, own1, own0], fun e he => ?_⟩; simp only [List.mem_cons, List.not_mem_nil, or_false] at he <;> first | exact he.elim | (subst he; exact hZo) | (rcases he with rfl | rfl <;> exact hZo))) ?_) | (refine ccA ([]) (c5) ?_) | (refine cb_t hq ?_) | (refine And.intro (by simp only [List.length_append, List.length_cons, List.length_nil, List.length_set, List.length_replicate]; omega) ?_) | (refine And.intro (by kernel_rfl) ?_) | (refine stpQ ?_))
          (refine z00 (by rfl) ?_ ?_ (by rfl)) <;> (repeat' (first | (exact eqA) | (refine shE ?_) | (refine And.intro ?_ ?_)))
          all_goals rfl
         ·rw [if_neg (fun c => q3 c.2.2)]
          by_cases q4 : (cHds s).length < 4
          ·have q5 : ¬ z1u ho (cHds s) h.ro = h := fun e => q3 ⟨e.symm, q4⟩
           unfold nhR at c5
           rw [if_pos ⟨q4, hro⟩] at c5
           have hq : eqC (hdE (z1u ho (cHds s) h.ro)) (hdE h) = false := by rw [zhX, decide_eq_false q5]
           clear q3 q5
           generalize z1u ho (cHds s) h.ro = y at c5 hq
           obtain ⟨yh, ye, yr, yp⟩ := y
           obtain ⟨ho', ep, ro, pr⟩ := h
           obtain ⟨a, op, sh, si⟩ := g
           simp only at c5 hro
           unfold hdE at c2 c5 hq
           unfold sgE at c2
           unfold cvH cvB
           generalize hdsE (cHds s) = Z at c4 c5 hZo
           refine z01 z0f 6 rfl Tryz.func100 rfl rfl rfl ?_
           repeat ((try conv => whnf); first | (refine ccB ([_]) (c1) ?_) | (refine Exists.intro 0 (And.intro rfl (And.intro h0 ?_))) | (refine z0o k1' ?_) | (refine z0k k2' ?_) | (refine ccB ([_]) (c2) ?_) | (refine ccB ([_]) (c3) ?_) | (refine z0F q1' ?_) | (refine z0o q2' ?_) | (refine z4g ([]) (c4) (by ((repeat' (first | (exact trivial) | (exact rfl) | (refine And.intro ?_ ?_))); first | done | fail)) (by ((repeat' (first | (exact trivial) | (exact rfl) | (refine And.intro ?_ ?_))); first | done | fail)) (by decide) (by rfl) (by first | exact .inl rfl | (refine .inr ⟨by simp [own2, own1, own0], fun e he => ?_⟩; simp only [List.mem_cons, List.not_mem_nil, or_false] at he <;> first | exact he.elim | (subst he; exact hZo) | (rcases he with rfl | rfl <;> exact hZo))) ?_) | (refine ccA ([]) (c5) ?_) | (refine cb_f hq ?_) | (refine And.intro (by kernel_rfl) ?_) | (refine stpQ ?_))
           (refine z00 (by rfl) ?_ ?_ (by rfl)) <;> (repeat' (first | (exact eqA) | (refine shE ?_) | (refine And.intro ?_ ?_)))
          ·unfold nhR at c5
           rw [if_neg (fun c => q4 c.1)] at c5
           clear q3
           obtain ⟨ho', ep, ro, pr⟩ := h
           obtain ⟨a, op, sh, si⟩ := g
           simp only at c5 hro
           unfold z2A at c5
           unfold hdE sgE at c2
           unfold cvH cvB
           generalize hdsE (cHds s) = Z at c4 c5 hZo
           refine z01 z0f 6 rfl Tryz.func100 rfl rfl rfl ?_
           repeat ((try conv => whnf); first | (refine ccB ([_]) (c1) ?_) | (refine Exists.intro 0 (And.intro rfl (And.intro h0 ?_))) | (refine z0o k1' ?_) | (refine z0k k2' ?_) | (refine ccB ([_]) (c2) ?_) | (refine ccB ([_]) (c3) ?_) | (refine z0F q1' ?_) | (refine z0o q2' ?_) | (refine z4g ([]) (c4) (by ((repeat' (first | (exact trivial) | (exact rfl) | (refine And.intro ?_ ?_))); first | done | fail)) (by ((repeat' (first | (exact trivial) | (exact rfl) | (refine And.intro ?_ ?_))); first | done | fail)) (by decide) (by rfl) (by first | exact .inl rfl | (refine .inr ⟨by simp [own2, own1, own0], fun e he => ?_⟩; simp only [List.mem_cons, List.not_mem_nil, or_false] at he <;> first | exact he.elim | (subst he; exact hZo) | (rcases he with rfl | rfl <;> exact hZo))) ?_) | (refine ccA ([]) (c5) ?_) | (refine And.intro (by kernel_rfl) ?_) | (refine stpQ ?_))
           (refine z00 (by rfl) ?_ ?_ (by rfl)) <;> (repeat' (first | (exact eqA) | (refine shE ?_) | (refine And.intro ?_ ?_)))
       ·rw [if_neg (fun c => q1 c.1)]
        have q1' : ¬ (n : Int) = (s.ty : Int) := by omega
        clear c5 c4
        obtain ⟨ho', ep, ro, pr⟩ := h
        obtain ⟨a, op, sh, si⟩ := g
        unfold hdE sgE at c2
        unfold cvH cvB
        refine z01 z0f 6 rfl Tryz.func100 rfl rfl rfl ?_
        repeat ((try conv => whnf); first | (refine ccB ([_]) (c1) ?_) | (refine Exists.intro 0 (And.intro rfl (And.intro h0 ?_))) | (refine z0o k1' ?_) | (refine z0k k2' ?_) | (refine ccB ([_]) (c2) ?_) | (refine ccB ([_]) (c3) ?_) | (refine z2y q1' ?_) | (refine And.intro (by kernel_rfl) ?_) | (refine stpQ ?_))
        (refine z00 (by rfl) ?_ ?_ (by rfl)) <;> (repeat' (first | (exact eqA) | (refine shE ?_) | (refine And.intro ?_ ?_)))
  ·rw [if_neg k2]
   have k2' : ¬ ((b.toNat : Nat) : Int) = 2 := by omega
   generalize z36 (b :: r) 1 false = A at c1 l1
   obtain ⟨n, p, bd⟩ := A
   simp only at c1 l1
   unfold cvH cvB
   unfold fldB at c1
   refine z01 z0f 6 rfl Tryz.func100 rfl rfl rfl ?_
   repeat ((try conv => whnf); first | (refine ccB ([_]) (c1) ?_) | (refine Exists.intro 0 (And.intro rfl (And.intro h0 ?_))) | (refine z0o k1' ?_) | (refine z0o k2' ?_) | (refine And.intro (by kernel_rfl) ?_) | (refine stpQ ?_))
   (refine z00 (by rfl) ?_ ?_ (by rfl)) <;> (repeat' (first | (exact eqA) | (refine shE ?_) | (refine And.intro ?_ ?_)))
end Go.Proofs.YtkjjacndfieeoaaGreatDoor
namespace Go.Proofs.YtkjjacndfieeoaaGreatDoor
set_option maxRecDepth 100000
set_option maxHeartbeats 8000000
set_option linter.unusedVariables false
set_option linter.unusedSimpArgs false
set_option linter.unusedSectionVars false
open Go.RowKit Pl
attribute [local irreducible] z0m z0n z0q AnsP LeP
theorem z2w (l m : List Bs) (hl : (l.length : Int) ≤ 100000000) (hm : (m.length : Int) ≤ 100000000) : CT Tryz.prog 37 [] [.sl 1 (strE l), .sl 1 (strE m)] (.bool (decide (l = m))) [] := by
 have hll := z0d l
 have hlm := z0d m
 refine z01 z0f 1 rfl Tryz.func37 rfl rfl rfl ?_
 by_cases hn : l.length = m.length
 ·repeat ((try conv => whnf); first | (refine Exists.intro l.length (And.intro hll ?_)) | (refine Exists.intro m.length (And.intro hlm ?_)) | (refine stpQ ?_))
  refine z11 Nat (fun k => ⟨[(0, .sl 1 (strE l)), (1, .sl 1 (strE m)), (12, .int .i64 (l.length : Int)), (13, .int .i64 (k : Int))], [], 1⟩) (fun k => k ≤ l.length ∧ l.take k = m.take k) (fun k => l.length - k) 0 ⟨by omega, rfl⟩ ?_ ?_
  ·(refine z02 (by rfl) ?_ ?_) <;> repeat' (first | (exact eqA) | (refine shE ?_) | (refine And.intro ?_ ?_))
  ·intro Q1 hQ1 k hkk
   have hk := hkk.1
   have hp := hkk.2
   clear hkk
   by_cases hlt : k < l.length
   ·have hlt2 : k < m.length := by omega
    by_cases hq : pAt l k = pAt m k
    ·have hnx : l.take (k + 1) = m.take (k + 1) := by
      rw [List.take_add_one, List.take_add_one, hp, List.getElem?_eq_getElem hlt, List.getElem?_eq_getElem hlt2]
      simp only [pAt, List.getD, List.getElem?_eq_getElem hlt, List.getElem?_eq_getElem hlt2, Option.getD_some] at hq
      rw [hq]
     repeat ((try conv => whnf); first | (refine i_at (z0v hlt) ?_) | (refine i_at (z0v hlt2) ?_) | (refine z0F hq ?_) | (refine And.intro (by kernel_rfl) ?_) | (refine stpQ ?_))
     refine ⟨k + 1, ⟨by omega, hnx⟩, by omega, ?_⟩
     (refine z02 (by rfl) ?_ ?_) <;> repeat' (first | (exact eqA) | (refine shE ?_) | (refine And.intro ?_ ?_))
    ·have hne : ¬ l = m := fun h0 => hq (by rw [h0])
     repeat ((try conv => whnf); first | (refine i_at (z0v hlt) ?_) | (refine i_at (z0v hlt2) ?_) | (refine z2y hq ?_) | (refine And.intro (by kernel_rfl) ?_) | (refine stpQ ?_))
     refine hQ1 _ _ ?_
     (try conv => whnf)
     rw [decide_eq_false hne]
     (refine z00 (by rfl) ?_ ?_ (by rfl)) <;> repeat' (first | (exact eqA) | (refine shE ?_) | (refine And.intro ?_ ?_))
   ·have he : l = m := by
     rw [List.take_of_length_le (by omega), List.take_of_length_le (by omega)] at hp; exact hp
    have hke : k = l.length := by omega
    subst hke
    repeat ((try conv => whnf); first | (refine stpQ ?_))
    refine hQ1 _ _ ?_
    repeat ((try conv => whnf); first | (refine stpQ ?_))
    rw [decide_eq_true he]
    (refine z00 (by rfl) ?_ ?_ (by rfl)) <;> repeat' (first | (exact eqA) | (refine shE ?_) | (refine And.intro ?_ ?_))
 ·have hne : ¬ l = m := fun h0 => hn (by rw [h0])
  rw [decide_eq_false hne]
  repeat ((try conv => whnf); first | (refine Exists.intro l.length (And.intro hll ?_)) | (refine Exists.intro m.length (And.intro hlm ?_)) | (refine stpQ ?_))
  (refine z00 (by rfl) ?_ ?_ (by rfl)) <;> repeat' (first | (exact eqA) | (refine shE ?_) | (refine And.intro ?_ ?_))
theorem zg5 (a a' : Int) (op op' sh sh' si si' : List Bs) (h1 : op.length ≤ 1048576) (h2 : op'.length ≤ 1048576) (h3 : sh.length ≤ 1048576) (h4 : sh'.length ≤ 1048576) (h5 : si.length ≤ 1048576) (h6 : si'.length ≤ 1048576) :
 CT Tryz.prog 108 [] [.agg (z2n a op sh si), .agg (z2n a' op' sh' si')] (.bool (decide (a = a') && (decide (op = op') && (decide (sh = sh') && decide (si = si'))))) [] := by
 have c1 := z2w op op' (by omega) (by omega)
 have c2 := z2w sh sh' (by omega) (by omega)
 have c3 := z2w si si' (by omega) (by omega)
 unfold z2n
 generalize decide (op = op') = b1 at c1 ⊢
 generalize decide (sh = sh') = b2 at c2 ⊢
 generalize decide (si = si') = b3 at c3 ⊢
 refine z01 z0f 1 rfl Tryz.func108 rfl rfl rfl ?_
 by_cases h : a = a'
 ·rw [decide_eq_true h, Bool.true_and]
  cases b1
  ·repeat ((try conv => whnf); first | (refine ccA ([]) (c1) ?_) | (refine And.intro (by kernel_rfl) ?_) | (refine stpQ ?_))
   (refine z00 (by rfl) ?_ ?_ (by rfl)) <;> (repeat' (first | (exact eqA) | (refine shE ?_) | (refine And.intro ?_ ?_))) <;> rfl
  cases b2
  ·repeat ((try conv => whnf); first | (refine ccA ([]) (c1) ?_) | (refine ccA ([]) (c2) ?_) | (refine And.intro (by kernel_rfl) ?_) | (refine stpQ ?_))
   (refine z00 (by rfl) ?_ ?_ (by rfl)) <;> (repeat' (first | (exact eqA) | (refine shE ?_) | (refine And.intro ?_ ?_))) <;> rfl
  cases b3
  ·repeat ((try conv => whnf); first | (refine ccA ([]) (c1) ?_) | (refine ccA ([]) (c2) ?_) | (refine ccA ([]) (c3) ?_) | (refine And.intro (by kernel_rfl) ?_) | (refine stpQ ?_))
   (refine z00 (by rfl) ?_ ?_ (by rfl)) <;> (repeat' (first | (exact eqA) | (refine shE ?_) | (refine And.intro ?_ ?_))) <;> rfl
  ·repeat ((try conv => whnf); first | (refine ccA ([]) (c1) ?_) | (refine ccA ([]) (c2) ?_) | (refine ccA ([]) (c3) ?_) | (refine And.intro (by kernel_rfl) ?_) | (refine stpQ ?_))
   (refine z00 (by rfl) ?_ ?_ (by rfl)) <;> (repeat' (first | (exact eqA) | (refine shE ?_) | (refine And.intro ?_ ?_))) <;> rfl
 ·rw [decide_eq_false h, Bool.false_and]
  repeat ((try conv => whnf); first | (refine And.intro (by kernel_rfl) ?_) | (refine stpQ ?_))
  (refine z00 (by rfl) ?_ ?_ (by rfl)) <;> (repeat' (first | (exact eqA) | (refine shE ?_) | (refine And.intro ?_ ?_)))
theorem zjh (a b a' b' : Int) (c d c' d' : Bs) : eqC [.int .i64 a, .int .i64 b, .str c, .str d] [.int .i64 a', .int .i64 b', .str c', .str d'] = decide (a = a' ∧ b = b' ∧ c = c' ∧ d = d') := by
 by_cases h : a = a' ∧ b = b' ∧ c = c' ∧ d = d'
 ·rw [decide_eq_true h]
  obtain ⟨rfl, rfl, rfl, rfl⟩ := h
  exact zb1 _ _ _ _
 ·rw [decide_eq_false h]
  cases he : eqC [T.int .i64 a, .int .i64 b, .str c, .str d] [.int .i64 a', .int .i64 b', .str c', .str d'] with
  | false => rfl
  | true =>
    simp [eqC] at he
    exact absurd ⟨he.1, he.2.1, he.2.2.1, he.2.2.2⟩ h
theorem zdV (x y : Sa) (hx : zdv x) (hy : zdv y) : CT Tryz.prog 71 [] [.agg (saE x), .agg (saE y)] (.bool (decide (x = y))) [] := by
 obtain ⟨a, b, c, d, e, f, g, i⟩ := x
 obtain ⟨a', b', c', d', e', f', g', i'⟩ := y
 have c1 := zg5 e e' f f' g g' i i' hx.1 hy.1 hx.2.1 hy.2.1 hx.2.2 hy.2.2
 have hq := zjh a b a' b' c d c' d'
 have hr : decide ((⟨a, b, c, d, e, f, g, i⟩ : Sa) = ⟨a', b', c', d', e', f', g', i'⟩) = (decide (a = a' ∧ b = b' ∧ c = c' ∧ d = d') && (decide (e = e') && (decide (f = f') && (decide (g = g') && decide (i = i'))))) := by
  rw [Bool.eq_iff_iff]
  simp only [decide_eq_true_eq, Bool.and_eq_true, Sa.mk.injEq]
  constructor
  ·rintro ⟨h1, h2, h3, h4, h5, h6, h7, h8⟩
   exact ⟨⟨h1, h2, h3, h4⟩, h5, h6, h7, h8⟩
  ·rintro ⟨⟨h1, h2, h3, h4⟩, h5, h6, h7, h8⟩
   exact ⟨h1, h2, h3, h4, h5, h6, h7, h8⟩
 rw [hr]
 generalize (decide (e = e') && (decide (f = f') && (decide (g = g') && decide (i = i')))) = B at c1 ⊢
 generalize decide (a = a' ∧ b = b' ∧ c = c' ∧ d = d') = A at hq ⊢
 unfold saE
 show CT _ _ _ [.agg [.int .i64 a, .int .i64 b, .str c, .str d, .int .i64 e, .sl 1 (strE f), .sl 1 (strE g), .sl 1 (strE i)], .agg [.int .i64 a', .int .i64 b', .str c', .str d', .int .i64 e', .sl 1 (strE f'), .sl 1 (strE g'), .sl 1 (strE i')]] _ _
 unfold z2n at c1
 refine z01 z0f 1 rfl Tryz.func71 rfl rfl rfl ?_
 cases A with
 | true =>
   rw [Bool.true_and]
   repeat ((try conv => whnf); first | (refine ccA ([]) (c1) ?_) | (refine cb_t hq ?_) | (refine And.intro (by kernel_rfl) ?_) | (refine stpQ ?_))
   (refine z00 (by rfl) ?_ ?_ (by rfl)) <;> (repeat' (first | (exact eqA) | (refine shE ?_) | (refine And.intro ?_ ?_)))
 | false =>
   rw [Bool.false_and]
   repeat ((try conv => whnf); first | (refine cb_f hq ?_) | (refine And.intro (by kernel_rfl) ?_) | (refine stpQ ?_))
   (refine z00 (by rfl) ?_ ?_ (by rfl)) <;> (repeat' (first | (exact eqA) | (refine shE ?_) | (refine And.intro ?_ ?_)))
theorem zbr (l m : List Sa) (hl : l.length ≤ 1048576) (hm : m.length ≤ 1048576) (fl : ∀ x ∈ l, zdv x) (fm : ∀ x ∈ m, zdv x) : CT Tryz.prog 38 [] [.sl 8 (saL l), .sl 8 (saL m)] (.bool (decide (l = m))) [] := by
 have hll := zfE l
 have hlm := zfE m
 refine z01 z0f 1 rfl Tryz.func38 rfl rfl rfl ?_
 by_cases hn : l.length = m.length
 ·repeat ((try conv => whnf); first | (refine Exists.intro l.length (And.intro hll ?_)) | (refine Exists.intro m.length (And.intro hlm ?_)) | (refine stpQ ?_))
  refine z11 Nat (fun k => ⟨[(0, .sl 8 (saL l)), (1, .sl 8 (saL m)), (12, .int .i64 (l.length : Int)), (13, .int .i64 (k : Int))], [], 1⟩) (fun k => k ≤ l.length ∧ l.take k = m.take k) (fun k => l.length - k) 0 ⟨by omega, rfl⟩ ?_ ?_
  ·(refine z02 (by rfl) ?_ ?_) <;> repeat' (first | (exact eqA) | (refine shE ?_) | (refine And.intro ?_ ?_))
  ·intro Q1 hQ1 k hkk
   have hk := hkk.1
   have hp := hkk.2
   clear hkk
   by_cases hlt : k < l.length
   ·have hlt2 : k < m.length := by omega
    have g1 := zfF hlt
    have g2 := zfF hlt2
    have c1 := zdV l[k] m[k] (fl _ (List.getElem_mem hlt)) (fm _ (List.getElem_mem hlt2))
    by_cases hq : l[k] = m[k]
    ·have hnx : l.take (k + 1) = m.take (k + 1) := by rw [List.take_succ_eq_append_getElem hlt, List.take_succ_eq_append_getElem hlt2, hp, hq]
     rw [decide_eq_true hq] at c1
     generalize l[k] = x at g1 c1
     generalize m[k] = y at g2 c1
     clear hq
     obtain ⟨a, b, c, d, e, f, g, i⟩ := x
     obtain ⟨a', b', c', d', e', f', g', i'⟩ := y
     unfold saE z2A z2n at g1 g2 c1
     repeat ((try conv => whnf); first | (refine i_at g1 ?_) | (refine i_at g2 ?_) | (refine ccA ([]) (c1) ?_) | (refine And.intro (by kernel_rfl) ?_) | (refine stpQ ?_))
     refine ⟨k + 1, ⟨by omega, hnx⟩, by omega, ?_⟩
     (refine z02 (by rfl) ?_ ?_) <;> repeat' (first | (exact eqA) | (refine shE ?_) | (refine And.intro ?_ ?_))
    ·have hne : ¬ l = m := fun h0 => hq (by subst h0; rfl)
     rw [decide_eq_false hq] at c1
     generalize l[k] = x at g1 c1
     generalize m[k] = y at g2 c1
     clear hq
     obtain ⟨a, b, c, d, e, f, g, i⟩ := x
     obtain ⟨a', b', c', d', e', f', g', i'⟩ := y
     unfold saE z2A z2n at g1 g2 c1
     repeat ((try conv => whnf); first | (refine i_at g1 ?_) | (refine i_at g2 ?_) | (refine ccA ([]) (c1) ?_) | (refine And.intro (by kernel_rfl) ?_) | (refine stpQ ?_))
     refine hQ1 _ _ ?_
     (try conv => whnf)
     rw [decide_eq_false hne]
     (refine z00 (by rfl) ?_ ?_ (by rfl)) <;> repeat' (first | (exact eqA) | (refine shE ?_) | (refine And.intro ?_ ?_))
   ·have he : l = m := by
     rw [List.take_of_length_le (by omega), List.take_of_length_le (by omega)] at hp; exact hp
    have hke : k = l.length := by omega
    subst hke
    repeat ((try conv => whnf); first | (refine stpQ ?_))
    refine hQ1 _ _ ?_
    repeat ((try conv => whnf); first | (refine stpQ ?_))
    rw [decide_eq_true he]
    (refine z00 (by rfl) ?_ ?_ (by rfl)) <;> repeat' (first | (exact eqA) | (refine shE ?_) | (refine And.intro ?_ ?_))
 ·have hne : ¬ l = m := fun h0 => hn (by rw [h0])
  rw [decide_eq_false hne]
  repeat ((try conv => whnf); first | (refine Exists.intro l.length (And.intro hll ?_)) | (refine Exists.intro m.length (And.intro hlm ?_)) | (refine stpQ ?_))
  (refine z00 (by rfl) ?_ ?_ (by rfl)) <;> repeat' (first | (exact eqA) | (refine shE ?_) | (refine And.intro ?_ ?_))
def z6N (ask : Bool) (l : List Bs) (k : Nat) : Bool := decide (pAt l k = []) || (ask && decide (((pAt l k).length : Int) = 16))
def zho (ho K : Int) (po : List Bs) (se : List Sa) (tr : List Int) (ty : Int) (ask : Bool) (vo : List Bs) (nd : Nat) (n : Cv) : Bool :=
 inB ho 0 2 && (inB K 0 2 && (decide (vo.length = 2 ^ K.toNat) && (decide (nd = 2 ^ K.toNat) && (decide (po = z0g (z0j ho.toNat) 16) && (decide (se = n.se.map saOf) && (decide (tr = tkI n.tr) && (decide (ty = (n.ty : Int)) && allB (z6N ask vo) vo.length)))))))
theorem zcM {ho : Nat} {s : Cv} (g : CvOk ho s) : ∀ x ∈ s.se.map saOf, zdv x := fun x hx => by
 obtain ⟨y, hy, rfl⟩ := List.mem_map.1 hx
 have := (g.sg y hy).2
 exact ⟨by have := this.2.1.1; simp only [saOf]; omega, by have := this.2.2.1.1; simp only [saOf]; omega, by have := this.2.2.2.1; simp only [saOf]; omega⟩
end Go.Proofs.YtkjjacndfieeoaaGreatDoor
