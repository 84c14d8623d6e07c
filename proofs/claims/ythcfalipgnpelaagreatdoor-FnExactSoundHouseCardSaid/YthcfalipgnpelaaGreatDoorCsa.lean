/- Functions by content: the reference reads heads, signatures and seals of any content; chains. -/
import Derived.Test.YthcfalipgnpelaaGreatDoorCi
import Derived.Test.YthcfalipgnpelaaGreatDoorSiR
namespace Go.Proofs.YthcfalipgnpelaaGreatDoor
set_option maxRecDepth 100000
set_option maxHeartbeats 8000000
set_option linter.unusedVariables false
set_option linter.unusedSimpArgs false
set_option linter.unusedSectionVars false
open Go.RowKit Pl
attribute [local irreducible] z0o z0p z0z AnsP LeP
theorem z4y (ho ep : Int) (ro pr : Bs) : CT Tryz.prog 82 [] [.agg (z1B ho ep ro pr)] (.bool (z29 ho ep ro pr)) [] := by
 have c1 := z1f ho 0 2
 have c2 := z1f ep 1 4
 unfold z1B z29
 generalize inB ho 0 2 = b1 at c1 ⊢
 generalize inB ep 1 4 = b2 at c2 ⊢
 cases b1 with
 | false =>
   rw [Bool.false_and]
   refine z01 z03 1 rfl Tryz.func82 rfl rfl rfl ?_
   repeat ((try conv => whnf); first | (refine ccA ([]) (c1) ?_) | (refine stpQ ?_))
   (refine z00 (by rfl) ?_ ?_ (by rfl)) <;> (repeat' (first | (exact eqA) | (refine shE ?_) | (refine And.intro ?_ ?_)))
 | true =>
   cases b2 with
   | false =>
     rw [Bool.true_and, Bool.false_and]
     refine z01 z03 1 rfl Tryz.func82 rfl rfl rfl ?_
     repeat ((try conv => whnf); first | (refine ccA ([]) (c1) ?_) | (refine ccA ([]) (c2) ?_) | (refine stpQ ?_))
     (refine z00 (by rfl) ?_ ?_ (by rfl)) <;> (repeat' (first | (exact eqA) | (refine shE ?_) | (refine And.intro ?_ ?_)))
   | true =>
     rw [Bool.true_and, Bool.true_and]
     by_cases h3 : (ro.length : Int) = 16
     ·rw [decide_eq_true h3, Bool.true_and]
      by_cases h4 : ep = 1
      ·rw [if_pos h4]
       refine z01 z03 1 rfl Tryz.func82 rfl rfl rfl ?_
       repeat ((try conv => whnf); first | (refine ccA ([]) (c1) ?_) | (refine ccA ([]) (c2) ?_) | (refine stpQ ?_))
       (refine z00 (by rfl) ?_ ?_ (by rfl)) <;> (repeat' (first | (exact eqA) | (refine shE ?_) | (refine And.intro ?_ ?_)))
      ·rw [if_neg h4]
       refine z01 z03 1 rfl Tryz.func82 rfl rfl rfl ?_
       repeat ((try conv => whnf); first | (refine ccA ([]) (c1) ?_) | (refine ccA ([]) (c2) ?_) | (refine stpQ ?_))
       (refine z00 (by rfl) ?_ ?_ (by rfl)) <;> (repeat' (first | (exact eqA) | (refine shE ?_) | (refine And.intro ?_ ?_)))
     ·rw [decide_eq_false h3, Bool.false_and]
      refine z01 z03 1 rfl Tryz.func82 rfl rfl rfl ?_
      repeat ((try conv => whnf); first | (refine ccA ([]) (c1) ?_) | (refine ccA ([]) (c2) ?_) | (refine stpQ ?_))
      (refine z00 (by rfl) ?_ ?_ (by rfl)) <;> (repeat' (first | (exact eqA) | (refine shE ?_) | (refine And.intro ?_ ?_)))
theorem zbG (t : Bs) (ht : (t.length : Int) ≤ 1000000000) : CT Tryz.prog 274 [] [.str t] (.tup (hdR t)) [] := by
 by_cases hl : 18 ≤ t.length
 ·obtain ⟨a, b, r, rfl⟩ : ∃ a b r, t = a :: b :: r := by
   cases t with
   | nil => exact absurd hl (by simp)
   | cons a t => cases t with
     | nil => exact absurd hl (by simp)
     | cons b r => exact ⟨a, b, r, rfl⟩
  have hl2 : ¬ ((a :: b :: r).length : Int) < 18 := by omega
  have h0 : 0 < (a :: b :: r).length := by simp
  have h1 : 1 < (a :: b :: r).length := by simp
  have e1 := z5x a
  have e2 := z5x b
  have sl : ((a :: b :: r).take 18).drop 2 = r.take 16 := by rw [List.drop_take]; rfl
  have sd : (a :: b :: r).drop 18 = r.drop 16 := rfl
  have k := z4y ((a.toNat : Nat) : Int) ((b.toNat : Nat) : Int) (r.take 16) (r.drop 16)
  have hd : hdOf (a :: b :: r) = ⟨a.toNat, b.toNat, r.take 16, r.drop 16⟩ := rfl
  have hcut : 2 ≤ 18 ∧ 18 ≤ (a :: b :: r).length := ⟨by omega, hl⟩
  unfold hdR
  cases hr : z3G (a :: b :: r) with
  | some h =>
    have hg := (z2Q.1 hr).1
    have hh : h = ⟨a.toNat, b.toNat, r.take 16, r.drop 16⟩ := by
     rw [z3G] at hr
     split at hr
     ·injection hr with hr
      rw [← hr, hd]
     ·cases hr
    subst hh
    rw [z5J hg] at k
    unfold z1B at k
    clear hg hr hd
    show CT _ _ _ _ (.tup [.agg [.int .i64 ((a.toNat : Nat) : Int), .int .i64 ((b.toNat : Nat) : Int), .str (r.take 16), .str (r.drop 16)], .bool true]) _
    rw [← sl, ← sd] at k ⊢
    refine z01 z03 1 rfl Tryz.func274 rfl rfl rfl ?_
    repeat ((try conv => whnf); first | (refine z0e hl2 ?_) | (refine Exists.intro 0 (And.intro rfl (And.intro h0 ?_))) | (refine Exists.intro 1 (And.intro rfl (And.intro h1 ?_))) | (refine Exists.intro _ (And.intro e1.symm ?_)) | (refine Exists.intro _ (And.intro e2.symm ?_)) | (refine Exists.intro 2 (Exists.intro 18 (And.intro rfl (And.intro rfl (And.intro hcut.1 (And.intro hcut.2 ?_)))))) | (refine Exists.intro 18 (And.intro rfl (And.intro hl ?_))) | (refine ccA ([]) (k) ?_) | (refine And.intro (by kernel_rfl) ?_) | (refine stpQ ?_))
    (refine z00 (by rfl) ?_ ?_ (by rfl)) <;> (repeat' (first | (exact eqA) | (refine shE ?_) | (refine And.intro ?_ ?_)))
  | none =>
    have hv : z29 ((a.toNat : Nat) : Int) ((b.toNat : Nat) : Int) (r.take 16) (r.drop 16) = false := by
     cases hx : z29 ((a.toNat : Nat) : Int) ((b.toNat : Nat) : Int) (r.take 16) (r.drop 16) with
     | false => rfl
     | true =>
       have hq : (hdOf (a :: b :: r)).good := z3X hx
       rw [z3G, if_pos ⟨hl, hq⟩] at hr
       cases hr
    rw [hv] at k
    unfold z1B at k ⊢
    clear hv hr hd
    simp only
    rw [← sl, ← sd] at k
    refine z01 z03 1 rfl Tryz.func274 rfl rfl rfl ?_
    repeat ((try conv => whnf); first | (refine z0e hl2 ?_) | (refine Exists.intro 0 (And.intro rfl (And.intro h0 ?_))) | (refine Exists.intro 1 (And.intro rfl (And.intro h1 ?_))) | (refine Exists.intro _ (And.intro e1.symm ?_)) | (refine Exists.intro _ (And.intro e2.symm ?_)) | (refine Exists.intro 2 (Exists.intro 18 (And.intro rfl (And.intro rfl (And.intro hcut.1 (And.intro hcut.2 ?_)))))) | (refine Exists.intro 18 (And.intro rfl (And.intro hl ?_))) | (refine ccA ([]) (k) ?_) | (refine And.intro (by kernel_rfl) ?_) | (refine stpQ ?_))
    (refine z00 (by rfl) ?_ ?_ (by rfl)) <;> (repeat' (first | (exact eqA) | (refine shE ?_) | (refine And.intro ?_ ?_)))
 ·have hr : z3G t = none := by rw [z3G, if_neg (fun c => hl c.1)]
  have hl2 : (t.length : Int) < 18 := by omega
  unfold hdR
  rw [hr]
  unfold z1B
  simp only
  refine z01 z03 1 rfl Tryz.func274 rfl rfl rfl ?_
  repeat ((try conv => whnf); first | (refine z0k hl2 ?_) | (refine And.intro (by kernel_rfl) ?_) | (refine stpQ ?_))
  (refine z00 (by rfl) ?_ ?_ (by rfl)) <;> (repeat' (first | (exact eqA) | (refine shE ?_) | (refine And.intro ?_ ?_)))
theorem z85 (l : List Bs) (n : Int) (h : l.length ≤ 1048576) : CT Tryz.prog 208 [] [.sl 1 (strE l), .int .i64 n] (.bool (wideB l n)) [] := by
 have hl := z05 l
 refine z01 z03 1 rfl Tryz.func208 rfl rfl rfl ?_
 repeat ((try conv => whnf); first | (refine stpQ ?_))
 refine z0K Nat (fun k => ⟨[(0, .sl 1 (strE l)), (1, .int .i64 n), (5, .int .i64 (k : Int))], [], 1⟩) (fun k => k ≤ l.length ∧ ∀ j, j < k → (pAt l j).length = 16) (fun k => l.length - k) 0 ⟨by omega, fun j hj => by omega⟩ ?_ ?_
 ·(refine z02 (by rfl) ?_ ?_) <;> repeat' (first | (exact eqA) | (refine shE ?_) | (refine And.intro ?_ ?_))
 ·intro Q1 hQ1 k hkk
  have hk := hkk.1
  have hp := hkk.2
  clear hkk
  by_cases hlt : k < l.length
  ·have g := z0j hlt
   by_cases hq : ((pAt l k).length : Int) = 16
   ·have hgo : ∀ j, j < k + 1 → (pAt l j).length = 16 := fun j hj => by
     rcases Nat.lt_or_ge j k with h1 | h1
     ·exact hp j h1
     ·rw [show j = k by omega]; omega
    clear hp
    generalize pAt l k = v at g hq
    repeat ((try conv => whnf); first | (refine Exists.intro l.length (And.intro hl ?_)) | (refine i_at g ?_) | (refine And.intro (by kernel_rfl) ?_) | (refine stpQ ?_))
    refine ⟨k + 1, ⟨by omega, hgo⟩, by omega, ?_⟩
    (refine z02 (by rfl) ?_ ?_) <;> repeat' (first | (exact eqA) | (refine shE ?_) | (refine And.intro ?_ ?_))
   ·have hw : wideB l n = false := by
     cases hx : wideB l n with
     | false => rfl
     | true =>
       simp only [wideB, Bool.and_eq_true, List.all_eq_true, decide_eq_true_eq] at hx
       have := hx.1 l[k] (List.getElem_mem hlt)
       exact absurd (by simpa [pAt, List.getD, List.getElem?_eq_getElem hlt] using this) hq
    clear hp
    generalize pAt l k = v at g hq
    repeat ((try conv => whnf); first | (refine Exists.intro l.length (And.intro hl ?_)) | (refine i_at g ?_) | (refine And.intro (by kernel_rfl) ?_) | (refine stpQ ?_))
    refine hQ1 _ _ ?_
    (try conv => whnf)
    rw [hw]
    (refine z00 (by rfl) ?_ ?_ (by rfl)) <;> repeat' (first | (exact eqA) | (refine shE ?_) | (refine And.intro ?_ ?_))
  ·have hke : k = l.length := by omega
   subst hke
   have hw : wideB l n = decide ((l.length : Int) = n) := by
    have ha : (l.all fun x => decide ((x.length : Int) = 16)) = true := by
     rw [List.all_eq_true]
     intro x hx
     obtain ⟨i, hi, rfl⟩ := List.getElem_of_mem hx
     have := hp i hi
     simp only [pAt, List.getD, List.getElem?_eq_getElem hi, Option.getD_some] at this
     simp; omega
    rw [wideB, ha, Bool.true_and]
   repeat ((try conv => whnf); first | (refine Exists.intro l.length (And.intro hl ?_)) | (refine stpQ ?_))
   refine hQ1 _ _ ?_
   repeat ((try conv => whnf); first | (refine Exists.intro l.length (And.intro hl ?_)) | (refine stpQ ?_))
   rw [hw]
   (refine z00 (by rfl) ?_ ?_ (by rfl)) <;> repeat' (first | (exact eqA) | (refine shE ?_) | (refine And.intro ?_ ?_))
theorem z5L (a : Int) (op sh si : List Bs) (h1 : op.length ≤ 1048576) (h2 : sh.length ≤ 1048576) (h3 : si.length ≤ 1048576) : CT Tryz.prog 141 [] [.agg (z1r a op sh si)] (.bool (z3a a op sh si)) [] := by
 have c1 := z1f a 0 15
 have c2 := z85 op 8 h1
 have c3 := z85 sh 8 h2
 have c4 := z85 si 4 h3
 unfold z3a z1r
 generalize inB a 0 15 = b1 at c1 ⊢
 generalize wideB op 8 = b2 at c2 ⊢
 generalize wideB sh 8 = b3 at c3 ⊢
 generalize wideB si 4 = b4 at c4 ⊢
 refine z01 z03 1 rfl Tryz.func141 rfl rfl rfl ?_
 cases b1
 ·repeat ((try conv => whnf); first | (refine ccA ([]) (c1) ?_) | (refine stpQ ?_))
  (refine z00 (by rfl) ?_ ?_ (by rfl)) <;> (repeat' (first | (exact eqA) | (refine shE ?_) | (refine And.intro ?_ ?_))) <;> rfl
 cases b2
 ·repeat ((try conv => whnf); first | (refine ccA ([]) (c1) ?_) | (refine ccA ([]) (c2) ?_) | (refine stpQ ?_))
  (refine z00 (by rfl) ?_ ?_ (by rfl)) <;> (repeat' (first | (exact eqA) | (refine shE ?_) | (refine And.intro ?_ ?_))) <;> rfl
 cases b3
 ·repeat ((try conv => whnf); first | (refine ccA ([]) (c1) ?_) | (refine ccA ([]) (c2) ?_) | (refine ccA ([]) (c3) ?_) | (refine stpQ ?_))
  (refine z00 (by rfl) ?_ ?_ (by rfl)) <;> (repeat' (first | (exact eqA) | (refine shE ?_) | (refine And.intro ?_ ?_))) <;> rfl
 cases b4
 ·repeat ((try conv => whnf); first | (refine ccA ([]) (c1) ?_) | (refine ccA ([]) (c2) ?_) | (refine ccA ([]) (c3) ?_) | (refine ccA ([]) (c4) ?_) | (refine stpQ ?_))
  (refine z00 (by rfl) ?_ ?_ (by rfl)) <;> (repeat' (first | (exact eqA) | (refine shE ?_) | (refine And.intro ?_ ?_))) <;> rfl
 ·repeat ((try conv => whnf); first | (refine ccA ([]) (c1) ?_) | (refine ccA ([]) (c2) ?_) | (refine ccA ([]) (c3) ?_) | (refine ccA ([]) (c4) ?_) | (refine stpQ ?_))
  (refine z00 (by rfl) ?_ ?_ (by rfl)) <;> (repeat' (first | (exact eqA) | (refine shE ?_) | (refine And.intro ?_ ?_))) <;> rfl
theorem zcW (a : Int) (op sh si : List Bs) (h1 : op.length ≤ 1048576) (h2 : sh.length ≤ 1048576) (h3 : si.length ≤ 1048576) (hn : z3a a op sh si = false) : CT Tryz.prog 165 [] [.agg (z1r a op sh si)] (.tup [.str [], .bool false]) [] := by
 have c1 := z5L a op sh si h1 h2 h3
 rw [hn] at c1
 unfold z1r at c1 ⊢
 refine z01 z03 1 rfl Tryz.func165 rfl rfl rfl ?_
 repeat ((try conv => whnf); first | (refine ccA ([]) (c1) ?_) | (refine And.intro (by kernel_rfl) ?_) | (refine stpQ ?_))
 (refine z00 (by rfl) ?_ ?_ (by rfl)) <;> (repeat' (first | (exact eqA) | (refine shE ?_) | (refine And.intro ?_ ?_)))
theorem z35 (l m : List Bs) : strE (l ++ m) = strE l ++ strE m := by simp [strE]
theorem z86 (s : Sg) (gs : s.good) : CT Tryz.prog 165 [] [.agg (sgE s)] (.tup [.str (sigB s), .bool true]) [] := by
 have hk := zbC gs
 obtain ⟨a, op, sh, si⟩ := s
 obtain ⟨h1, ⟨h2, h3⟩, ⟨h4, h5⟩, h6, h7⟩ := gs
 simp only at h1 h2 h3 h4 h5 h6 h7 hk
 have c1 := z5L (a : Int) op sh si (by omega) (by omega) (by omega)
 rw [hk] at c1
 have hx : (UInt8.ofNat a).toNat = a := by simp [UInt8.toNat_ofNat']; omega
 have l1 := z05 op
 have l2 := z05 sh
 have l3 := z05 si
 have hs : sigB ⟨a, op, sh, si⟩ = [UInt8.ofNat a] ++ (op ++ sh ++ si).flatten := by simp [sigB]
 have hLl : (op ++ sh ++ si).length = 20 := by simp only [List.length_append]; omega
 have hLw : ∀ x ∈ op ++ sh ++ si, x.length = 16 := fun x hx => by
  simp only [List.mem_append] at hx
  rcases hx with (hx | hx) | hx
  ·exact h3 x hx
  ·exact h5 x hx
  ·exact h7 x hx
 have hLe : strE op ++ strE sh ++ strE si = strE (op ++ sh ++ si) := by rw [z35, z35]
 rw [hs]
 clear hs hk
 generalize hL : op ++ sh ++ si = L at hLl hLw hLe ⊢
 have hll := z05 L
 show CT _ _ _ [.agg [.int .i64 (a : Int), .sl 1 (strE op), .sl 1 (strE sh), .sl 1 (strE si)]] _ _
 unfold z1r at c1
 refine z01 z03 1 rfl Tryz.func165 rfl rfl rfl ?_
 repeat ((try conv => whnf); first | (refine ccA ([]) (c1) ?_) | (refine w_u8 ?_) | (refine Exists.intro [UInt8.ofNat a] (And.intro rfl ?_)) | (refine And.intro (by simp only [List.length_append, List.length_cons, List.length_nil, List.nil_append, List.length_set, List.length_replicate]; omega) ?_) | (refine And.intro (by kernel_rfl) ?_) | (refine stpQ ?_))
 refine z07 0 ⟨[(4, .str ([UInt8.ofNat a] ++ L.flatten))], [], 1⟩ Nat (fun i => ⟨[(4, .str ([UInt8.ofNat a] ++ (L.take i).flatten)), (5, .sl 1 (strE L)), (6, .int .i64 (i : Int))], [], 1⟩) (fun i => i ≤ L.length) (fun i => L.length - i) 0 (by omega) ?_ ?_ ?_
 ·(refine z02 (by rfl) ?_ ?_) <;> (repeat' (first | (exact eqA) | (refine shE ?_) | (refine And.intro ?_ ?_)))
  all_goals first
   | rfl
   | exact hLe
   | exact congrArg (fun z => some (Ent.row 1 z)) hLe
   | (simp; done)
 ·intro i hi
  by_cases hlt : i < L.length
  ·have g := z0j hlt
   have hw := hLw _ (List.getElem_mem hlt)
   have hnx : (L.take (i + 1)).flatten = (L.take i).flatten ++ pAt L i := by
    rw [List.take_succ_eq_append_getElem hlt, List.flatten_append]
    simp [pAt, List.getD, List.getElem?_eq_getElem hlt]
   have hpl : (pAt L i).length = 16 := by simpa [pAt, List.getD, List.getElem?_eq_getElem hlt] using hw
   have hfl : ((L.take i).flatten).length ≤ 1000 := by
    have := z4J (l := L.take i) (fun x hx => hLw x (List.mem_of_mem_take hx))
    rw [this, List.length_take]
    omega
   generalize pAt L i = v at g hnx hpl
   generalize (L.take i).flatten = u at hnx hfl ⊢
   repeat ((try conv => whnf); first | (refine Exists.intro L.length (And.intro hll ?_)) | (refine i_at g ?_) | (refine And.intro (by simp only [List.length_append, List.length_cons, List.length_nil, List.length_set, List.length_replicate]; omega) ?_) | (refine And.intro (by kernel_rfl) ?_) | (refine stpQ ?_))
   refine ⟨i + 1, by omega, by omega, ?_⟩
   rw [hnx]
   (refine z02 (by rfl) ?_ ?_) <;> (repeat' (first | (exact eqA) | (refine shE ?_) | (refine And.intro ?_ ?_)))
   all_goals simp
  ·obtain rfl : i = L.length := by omega
   rw [List.take_length]
   repeat ((try conv => whnf); first | (refine Exists.intro L.length (And.intro hll ?_)) | (refine stpQ ?_))
   (refine z02 (by rfl) ?_ ?_) <;> (repeat' (first | (exact eqA) | (refine shE ?_) | (refine And.intro ?_ ?_)))
 ·repeat ((try conv => whnf); first | (refine stpQ ?_))
  (refine z00 (by rfl) ?_ ?_ (by rfl)) <;> (repeat' (first | (exact eqA) | (refine shE ?_) | (refine And.intro ?_ ?_)))
theorem zbH (ho ep : Int) (ro pr : Bs) (hn : z29 ho ep ro pr = false) : CT Tryz.prog 164 [] [.agg (z1B ho ep ro pr)] (.tup [.str [], .bool false]) [] := by
 have c1 := z4y ho ep ro pr
 rw [hn] at c1
 unfold z1B at c1 ⊢
 refine z01 z03 1 rfl Tryz.func164 rfl rfl rfl ?_
 repeat ((try conv => whnf); first | (refine ccA ([]) (c1) ?_) | (refine And.intro (by kernel_rfl) ?_) | (refine stpQ ?_))
 (refine z00 (by rfl) ?_ ?_ (by rfl)) <;> (repeat' (first | (exact eqA) | (refine shE ?_) | (refine And.intro ?_ ?_)))
theorem z4p (h : Hd) (s : Sg) (g : h.good) (gs : s.good) : CT Tryz.prog 100 [] [.agg (hdE h ++ sgE s)] (.tup [.str (z39 h s), .bool true]) [] := by
 have c1 := z57 h g
 have c2 := z86 s gs
 have hl := z3F g
 have hs := z6R gs
 have c3 := zef (z1o h).length (by omega)
 have hv := z6N (n := (z1o h).length) (by omega)
 have e : z39 h s = z0d (z1o h).length ++ z1o h ++ sigB s := rfl
 rw [e]
 clear e g gs
 generalize z1o h = A at c1 c3 hl hv ⊢
 generalize sigB s = B at c2 hs ⊢
 generalize z0d A.length = C at c3 hv ⊢
 obtain ⟨ho, ep, ro, pr⟩ := h
 obtain ⟨a, op, sh, si⟩ := s
 unfold hdE at c1
 unfold sgE at c2
 show CT _ _ _ [.agg [.int .i64 (ho : Int), .int .i64 (ep : Int), .str ro, .str pr, .int .i64 (a : Int), .sl 1 (strE op), .sl 1 (strE sh), .sl 1 (strE si)]] _ _
 refine z01 z03 1 rfl Tryz.func100 rfl rfl rfl ?_
 repeat ((try conv => whnf); first | (refine ccA ([]) (c1) ?_) | (refine ccA ([]) (c2) ?_) | (refine ccA ([]) (c3) ?_) | (refine And.intro (by simp only [List.length_append]; omega) ?_) | (refine And.intro (by kernel_rfl) ?_) | (refine stpQ ?_))
 (refine z00 (by rfl) ?_ ?_ (by rfl)) <;> (repeat' (first | (exact eqA) | (refine shE ?_) | (refine And.intro ?_ ?_)))
theorem z6u (x : Sa) (hx : z6C x) (hn : saOk x = false) : CT Tryz.prog 100 [] [.agg (saE x)] (.tup [.str [], .bool false]) [] := by
 obtain ⟨ho, ep, ro, pr, a, op, sh, si⟩ := x
 simp only [saOk] at hn
 show CT _ _ _ [.agg [.int .i64 ho, .int .i64 ep, .str ro, .str pr, .int .i64 a, .sl 1 (strE op), .sl 1 (strE sh), .sl 1 (strE si)]] _ _
 obtain ⟨tb, bb, c2⟩ : ∃ (tb : Bs) (bb : Bool), CT Tryz.prog 165 [] [.agg [.int .i64 a, .sl 1 (strE op), .sl 1 (strE sh), .sl 1 (strE si)]] (.tup [.str tb, .bool bb]) [] ∧ (z3a a op sh si = false → bb = false) := by
  cases hs : z3a a op sh si with
  | true =>
    obtain ⟨s, gs, es⟩ := zew hs
    unfold z1r at es
    rw [es]
    exact ⟨_, _, z86 s gs, fun h => by cases h⟩
  | false => exact ⟨_, _, zcW a op sh si hx.1 hx.2.1 hx.2.2 hs, fun _ => rfl⟩
 cases hh : z29 ho ep ro pr with
 | false =>
   have c1 := zbH ho ep ro pr hh
   unfold z1B at c1
   have c2 := c2.1
   refine z01 z03 1 rfl Tryz.func100 rfl rfl rfl ?_
   repeat ((try conv => whnf); first | (refine ccA ([]) (c1) ?_) | (refine ccA ([]) (c2) ?_) | (refine And.intro (by kernel_rfl) ?_) | (refine stpQ ?_))
   (refine z00 (by rfl) ?_ ?_ (by rfl)) <;> (repeat' (first | (exact eqA) | (refine shE ?_) | (refine And.intro ?_ ?_)))
 | true =>
   rw [hh, Bool.true_and] at hn
   have hb := c2.2 hn
   have c2 := c2.1
   subst hb
   obtain ⟨h, g, -, eh⟩ := zk6 hh
   have c1 := z57 h g
   rw [← eh] at c1
   unfold z1B at c1
   generalize z1o h = A at c1
   refine z01 z03 1 rfl Tryz.func100 rfl rfl rfl ?_
   repeat ((try conv => whnf); first | (refine ccA ([]) (c1) ?_) | (refine ccA ([]) (c2) ?_) | (refine And.intro (by kernel_rfl) ?_) | (refine stpQ ?_))
   (refine z00 (by rfl) ?_ ?_ (by rfl)) <;> (repeat' (first | (exact eqA) | (refine shE ?_) | (refine And.intro ?_ ?_)))
theorem za1 (t : Bs) (p n : Nat) (hn : n ≤ 20) (hp : p + 16 * n ≤ t.length) (ht : t.length ≤ 1000000) : CT Tryz.prog 322 [] [.str t, .int .i64 (p : Int), .int .i64 (n : Int)] (.sl 1 (strE (cutR t p n))) [] := by
 refine z01 z03 1 rfl Tryz.func322 rfl rfl rfl ?_
 repeat ((try conv => whnf); first | (refine stpQ ?_))
 refine z07 0 ⟨[(7, .ref 1)], [(1, some (.row 1 (strE (cutR t p n))))], 2⟩ Nat (fun i => ⟨[(0, .str t), (1, .int .i64 (p : Int)), (2, .int .i64 (n : Int)), (7, .ref 1), (8, .int .i64 (i : Int))], [(1, some (.row 1 (strE (cutR t p i))))], 2⟩) (fun i => i ≤ n) (fun i => n - i) 0 (by omega) ?_ ?_ ?_
 ·(refine z02 (by rfl) ?_ ?_) <;> (repeat' (first | (exact eqA) | (refine shE ?_) | (refine And.intro ?_ ?_))) <;> first | rfl | decide
 ·intro i hi
  by_cases hlt : i < n
  ·have hlt2 : (i : Int) < (n : Int) := by omega
   have e1 : IntKind.i64.wrap ((i : Int) * 16) = ((i * 16 : Nat) : Int) := by rw [z08 (by omega) (by omega)]; omega
   have e2 : IntKind.i64.wrap ((p : Int) + ((i * 16 : Nat) : Int)) = ((p + i * 16 : Nat) : Int) := by rw [z08 (by omega) (by omega)]; omega
   have e3 : IntKind.i64.wrap (((i + 1 : Nat) : Int) * 16) = (((i + 1) * 16 : Nat) : Int) := by rw [z08 (by omega) (by omega)]; omega
   have e4 : IntKind.i64.wrap ((p : Int) + (((i + 1) * 16 : Nat) : Int)) = ((p + (i + 1) * 16 : Nat) : Int) := by rw [z08 (by omega) (by omega)]; omega
   have hcut : p + i * 16 ≤ p + (i + 1) * 16 ∧ p + (i + 1) * 16 ≤ t.length := by omega
   have hnx : cutR t p (i + 1) = cutR t p i ++ [(t.take (p + (i + 1) * 16)).drop (p + i * 16)] := by
    rw [zbx, List.drop_take, show p + (i + 1) * 16 - (p + i * 16) = 16 by omega, Nat.mul_comm 16 i]
   have hol := z05 (cutR t p i)
   rw [z5E] at hol
   generalize cutR t p i = o at hnx hol ⊢
   generalize i * 16 = i16 at e1 e2 hcut hnx
   generalize (i + 1) * 16 = j16 at e3 e4 hcut hnx
   repeat ((try conv => whnf); first | (refine Exists.intro _ (And.intro e1.symm ?_)) | (refine Exists.intro _ (And.intro e2.symm ?_)) | (refine Exists.intro _ (And.intro e3.symm ?_)) | (refine Exists.intro _ (And.intro e4.symm ?_)) | (refine zlu hcut ?_) | (refine And.intro (by simp only [List.length_append, List.length_cons, List.length_nil, List.length_set, List.length_replicate]; omega) ?_) | (refine And.intro (by kernel_rfl) ?_) | (refine stpQ ?_))
   refine ⟨i + 1, by omega, by omega, ?_⟩
   rw [hnx, z35]
   (refine z02 (by rfl) ?_ ?_) <;> (repeat' (first | (exact eqA) | (refine shE ?_) | (refine And.intro ?_ ?_)))
   all_goals rfl
  ·obtain rfl : i = n := by omega
   repeat ((try conv => whnf); first | (refine stpQ ?_))
   (refine z02 (by rfl) ?_ ?_) <;> (repeat' (first | (exact eqA) | (refine shE ?_) | (refine And.intro ?_ ?_)))
 ·repeat ((try conv => whnf); first | (refine stpQ ?_))
  (refine z00 (by rfl) ?_ ?_ (by rfl)) <;> (repeat' (first | (exact eqA) | (refine shE ?_) | (refine And.intro ?_ ?_)))
def sgR (t : Bs) : List T := match zfv t with
 | some s => [.agg (sgE s), .bool true]
 | none => [.agg (z1r 0 [] [] []), .bool false]
theorem zcX (t : Bs) (ht : t.length ≤ 1000000) : CT Tryz.prog 276 [] [.str t] (.tup (sgR t)) [] := by
 unfold sgR zfv
 by_cases hl : t.length = 321
 ·obtain ⟨a, r, rfl⟩ : ∃ a r, t = a :: r := by
   cases t with
   | nil => cases hl
   | cons a r => exact ⟨a, r, rfl⟩
  have hl2 : ((a :: r).length : Int) = 321 := by omega
  have h0 : 0 < (a :: r).length := by simp
  have e1 := z5x a
  have hal := a.toNat_lt
  by_cases ha : a.toNat < 16
  ·have ha2 : ¬ ((a.toNat : Nat) : Int) ≥ 16 := by omega
   have c1 := za1 (a :: r) 1 8 (by omega) (by omega) ht
   have c2 := za1 (a :: r) 129 8 (by omega) (by omega) ht
   have c3 := za1 (a :: r) 257 4 (by omega) (by omega) ht
   rw [if_pos ⟨hl, ha⟩]
   show CT _ _ _ _ (.tup [.agg [.int .i64 ((a.toNat : Nat) : Int), .sl 1 (strE (cutR (a :: r) 1 8)), .sl 1 (strE (cutR (a :: r) 129 8)), .sl 1 (strE (cutR (a :: r) 257 4))], .bool true]) _
   generalize cutR (a :: r) 1 8 = x1 at c1 ⊢
   generalize cutR (a :: r) 129 8 = x2 at c2 ⊢
   generalize cutR (a :: r) 257 4 = x3 at c3 ⊢
   refine z01 z03 1 rfl Tryz.func276 rfl rfl rfl ?_
   repeat ((try conv => whnf); first | (refine z0A hl2 ?_) | (refine Exists.intro 0 (And.intro rfl (And.intro h0 ?_))) | (refine Exists.intro _ (And.intro e1.symm ?_)) | (refine z0e ha2 ?_) | (refine ccA ([]) (c1) ?_) | (refine ccA ([]) (c2) ?_) | (refine ccA ([]) (c3) ?_) | (refine And.intro (by kernel_rfl) ?_) | (refine stpQ ?_))
   (refine z00 (by rfl) ?_ ?_ (by rfl)) <;> (repeat' (first | (exact eqA) | (refine shE ?_) | (refine And.intro ?_ ?_)))
  ·have ha2 : ((a.toNat : Nat) : Int) ≥ 16 := by omega
   rw [if_neg (fun c => ha c.2)]
   unfold z1r
   simp only
   refine z01 z03 1 rfl Tryz.func276 rfl rfl rfl ?_
   repeat ((try conv => whnf); first | (refine z0A hl2 ?_) | (refine Exists.intro 0 (And.intro rfl (And.intro h0 ?_))) | (refine Exists.intro _ (And.intro e1.symm ?_)) | (refine z0k ha2 ?_) | (refine And.intro (by kernel_rfl) ?_) | (refine stpQ ?_))
   (refine z00 (by rfl) ?_ ?_ (by rfl)) <;> (repeat' (first | (exact eqA) | (refine shE ?_) | (refine And.intro ?_ ?_))) <;> rfl
 ·have hl2 : ¬ (t.length : Int) = 321 := by omega
  rw [if_neg (fun c => hl c.1)]
  unfold z1r
  simp only
  refine z01 z03 1 rfl Tryz.func276 rfl rfl rfl ?_
  repeat ((try conv => whnf); first | (refine z1w hl2 ?_) | (refine And.intro (by kernel_rfl) ?_) | (refine stpQ ?_))
  (refine z00 (by rfl) ?_ ?_ (by rfl)) <;> (repeat' (first | (exact eqA) | (refine shE ?_) | (refine And.intro ?_ ?_))) <;> rfl
def sa0 : Sa := ⟨0, 0, [], [], 0, [], [], []⟩
def slR (t : Bs) : List T := match z2C t with
 | some x => [.agg (hdE x.1 ++ sgE x.2), .bool true]
 | none => [.agg (saE sa0), .bool false]
theorem zbI (t : Bs) (ht : t.length ≤ 1000000) : CT Tryz.prog 223 [] [.str t] (.tup (slR t)) [] := by
 have c0 := zjH t 0 false (by omega) (Nat.zero_le _)
 have l0 := z3s (t := t) (p := 0) (bad := false) (Nat.zero_le _)
 rw [show z1q t 0 false = z0G t 0 false from rfl] at c0
 unfold slR
 rcases hS : z0G t 0 false with ⟨hb, p, bd⟩
 rw [hS] at c0 l0
 simp only at c0 l0
 have k0 := zbG hb (by omega)
 have z : saE sa0 = [.int .i64 0, .int .i64 0, .str [], .str [], .int .i64 0, .sl 1 [], .sl 1 [], .sl 1 []] := rfl
 unfold fldB at c0
 cases bd with
 | true =>
   have hr : z2C t = none := by rw [z2C, hS]
   rw [hr]
   simp only
   rw [z]
   obtain ⟨x1, x2, x3, x4, xb, hR⟩ : ∃ (ho ep : Int) (ro pr : Bs) (ok : Bool), hdR hb = [.agg [.int .i64 ho, .int .i64 ep, .str ro, .str pr], .bool ok] := by
    unfold hdR
    split
    ·exact ⟨_, _, _, _, _, rfl⟩
    ·exact ⟨_, _, _, _, _, rfl⟩
   rw [hR] at k0
   refine z01 z03 1 rfl Tryz.func223 rfl rfl rfl ?_
   repeat ((try conv => whnf); first | (refine ccB ([_]) (c0) ?_) | (refine ccA ([]) (k0) ?_) | (refine And.intro (by kernel_rfl) ?_) | (refine stpQ ?_))
   (refine z00 (by rfl) ?_ ?_ (by rfl)) <;> (repeat' (first | (exact eqA) | (refine shE ?_) | (refine And.intro ?_ ?_)))
 | false =>
   unfold hdR at k0
   cases hh : z3G hb with
   | none =>
     have hr : z2C t = none := by rw [z2C, hS]; simp only [hh]
     rw [hr]
     rw [hh] at k0
     unfold z1B at k0
     simp only at k0 ⊢
     rw [z]
     refine z01 z03 1 rfl Tryz.func223 rfl rfl rfl ?_
     repeat ((try conv => whnf); first | (refine ccB ([_]) (c0) ?_) | (refine ccA ([]) (k0) ?_) | (refine And.intro (by kernel_rfl) ?_) | (refine stpQ ?_))
     (refine z00 (by rfl) ?_ ?_ (by rfl)) <;> (repeat' (first | (exact eqA) | (refine shE ?_) | (refine And.intro ?_ ?_)))
   | some h =>
     rw [hh] at k0
     simp only at k0
     have g := (z2Q.1 hh).1
     have k1 := zcX (t.drop p) (by simp; omega)
     unfold sgR at k1
     cases hs : zfv (t.drop p) with
     | none =>
       have hr : z2C t = none := by rw [z2C, hS]; simp only [hh, hs]
       rw [hr]
       rw [hs] at k1
       have k2 := z6u ⟨h.ho, h.ep, h.ro, h.pr, 0, [], [], []⟩ ⟨by simp, by simp, by simp⟩ (by simp only [saOk, z5J g]; rfl)
       clear hh hs hS hr
       obtain ⟨ho, ep, ro, pr⟩ := h
       unfold saE z1B z1r at k2
       unfold z1r at k1
       unfold hdE at k0
       simp only at k1 k2 ⊢
       rw [z]
       refine z01 z03 1 rfl Tryz.func223 rfl rfl rfl ?_
       repeat ((try conv => whnf); first | (refine ccB ([_]) (c0) ?_) | (refine ccA ([]) (k0) ?_) | (refine i_le l0.1 ?_) | (refine ccA ([]) (k1) ?_) | (refine ccA ([]) (k2) ?_) | (refine And.intro (by kernel_rfl) ?_) | (refine stpQ ?_))
       (refine z00 (by rfl) ?_ ?_ (by rfl)) <;> (repeat' (first | (exact eqA) | (refine shE ?_) | (refine And.intro ?_ ?_)))
     | some s =>
       have hr : z2C t = some (h, s) := by rw [z2C, hS]; simp only [hh, hs]
       rw [hr]
       rw [hs] at k1
       obtain ⟨-, gs, et⟩ := z2u.1 hr
       have k2 := z4p h s g gs
       rw [← et] at k2
       clear hh hs hS hr et
       obtain ⟨ho, ep, ro, pr⟩ := h
       obtain ⟨a, op, sh, si⟩ := s
       have hq : ¬ t ≠ t := fun c => c rfl
       unfold hdE at k0
       unfold sgE at k1
       simp only at k1
       show CT _ _ _ _ (.tup [.agg [.int .i64 (ho : Int), .int .i64 (ep : Int), .str ro, .str pr, .int .i64 (a : Int), .sl 1 (strE op), .sl 1 (strE sh), .sl 1 (strE si)], .bool true]) _
       change CT _ _ _ [.agg [.int .i64 (ho : Int), .int .i64 (ep : Int), .str ro, .str pr, .int .i64 (a : Int), .sl 1 (strE op), .sl 1 (strE sh), .sl 1 (strE si)]] _ _ at k2
       refine z01 z03 1 rfl Tryz.func223 rfl rfl rfl ?_
       repeat ((try conv => whnf); first | (refine ccB ([_]) (c0) ?_) | (refine ccA ([]) (k0) ?_) | (refine i_le l0.1 ?_) | (refine ccA ([]) (k1) ?_) | (refine ccA ([]) (k2) ?_) | (refine z0A rfl ?_) | (refine And.intro (by kernel_rfl) ?_) | (refine stpQ ?_))
       (refine z00 (by rfl) ?_ ?_ (by rfl)) <;> (repeat' (first | (exact eqA) | (refine shE ?_) | (refine And.intro ?_ ?_)))
theorem zey (l : List (Hd × Sg)) (h : l.length ≤ 10) : CT Tryz.prog 122 [] [.sl 8 (slE l)] (.ref 1) [.row 4 (hdsE (l.map fun x => x.1))] := by
 have hl := z3W l
 refine z01 z03 1 rfl Tryz.func122 rfl rfl rfl ?_
 repeat ((try conv => whnf); first | (refine stpQ ?_))
 refine z07 0 ⟨[(3, .ref 1)], [(1, some (.row 4 (hdsE (l.map fun x => x.1))))], 2⟩ Nat (fun k => ⟨[(0, .sl 8 (slE l)), (3, .ref 1), (4, .int .i64 (k : Int))], [(1, some (.row 4 (hdsE ((l.take k).map fun x => x.1))))], 2⟩) (fun k => k ≤ l.length) (fun k => l.length - k) 0 (by omega) ?_ ?_ ?_
 ·(refine z02 (by rfl) ?_ ?_) <;> (repeat' (first | (exact eqA) | (refine shE ?_) | (refine And.intro ?_ ?_))) <;> first | rfl | decide
 ·intro k hk
  by_cases hlt : k < l.length
  ·have g := z9Z hlt
   have hnx : (l.take (k + 1)).map (fun x => x.1) = (l.take k).map (fun x => x.1) ++ [l[k].1] := by rw [List.take_succ_eq_append_getElem hlt, List.map_append]; rfl
   have hol : (hdsE ((l.take k).map fun x => x.1)).length ≤ 10 := by simp [hdsE]; omega
   generalize (l.take k).map (fun x => x.1) = o at hnx hol ⊢
   generalize l[k] = x at g hnx
   obtain ⟨⟨a, b, c, d⟩, ⟨a2, b2, c2, d2⟩⟩ := x
   unfold hdE sgE at g
   repeat ((try conv => whnf); first | (refine Exists.intro l.length (And.intro hl ?_)) | (refine i_at g ?_) | (refine And.intro (by simp only [List.length_append, List.length_cons, List.length_nil, List.length_set, List.length_replicate]; omega) ?_) | (refine And.intro (by kernel_rfl) ?_) | (refine stpQ ?_))
   refine ⟨k + 1, by omega, by omega, ?_⟩
   rw [hnx, zev]
   (refine z02 (by rfl) ?_ ?_) <;> (repeat' (first | (exact eqA) | (refine shE ?_) | (refine And.intro ?_ ?_)))
   all_goals rfl
  ·obtain rfl : k = l.length := by omega
   rw [List.take_length]
   repeat ((try conv => whnf); first | (refine Exists.intro l.length (And.intro hl ?_)) | (refine stpQ ?_))
   (refine z02 (by rfl) ?_ ?_) <;> (repeat' (first | (exact eqA) | (refine shE ?_) | (refine And.intro ?_ ?_)))
 ·repeat ((try conv => whnf); first | (refine stpQ ?_))
  (refine z00 (by rfl) ?_ ?_ (by rfl)) <;> (repeat' (first | (exact eqA) | (refine shE ?_) | (refine And.intro ?_ ?_)))
theorem z9a (ho : Nat) (l : List Hd) (c : z6B ho l) : CT Tryz.prog 112 [] [.sl 4 (hdsE l), .int .i64 (ho : Int)] (.bool true) [] := by
 have hlen := z6S l
 have h4 := z4n c
 refine z01 z03 1 rfl Tryz.func112 rfl rfl rfl ?_
 repeat ((try conv => whnf); first | (refine stpQ ?_))
 refine z07 0 ⟨[], [], 1⟩ Nat (fun k => ⟨[(0, .sl 4 (hdsE l)), (1, .int .i64 (ho : Int)), (5, .int .i64 (k : Int))], [], 1⟩) (fun k => k ≤ l.length) (fun k => l.length - k) 0 (by omega) ?_ ?_ ?_
 ·(refine z02 (by rfl) ?_ ?_) <;> (repeat' (first | (exact eqA) | (refine shE ?_) | (refine And.intro ?_ ?_)))
 ·intro k hk
  by_cases hlt : k < l.length
  ·have g := z5I hlt
   have ck := c k hlt
   have c1 := z84 _ ck.1
   have hep := zk4 c hlt
   rcases Nat.eq_zero_or_pos k with hk0 | hk0
   ·subst hk0
    generalize l[0] = x at g c1 hep
    clear ck
    obtain ⟨a, b, x3, d⟩ := x
    obtain ⟨rfl, rfl⟩ := hep
    unfold hdE at g c1
    repeat ((try conv => whnf); first | (refine Exists.intro l.length (And.intro hlen ?_)) | (refine i_at g ?_) | (refine ccA ([]) (c1) ?_) | (refine And.intro (by kernel_rfl) ?_) | (refine stpQ ?_))
    refine ⟨0 + 1, by omega, by omega, ?_⟩
    (refine z02 (by rfl) ?_ ?_) <;> (repeat' (first | (exact eqA) | (refine shE ?_) | (refine And.intro ?_ ?_)))
   ·have hlt1 : k - 1 < l.length := by omega
    have g1 := z5I hlt1
    have c2 := z3Y _ (c (k - 1) hlt1).1
    have hpr : l[k].pr = z2l l[k - 1] := by
     have h1 := congrArg Hd.pr ck.2
     rw [h1]
     show z3V (l.take k) = _
     have hl2 : 0 < (l.take k).length := by simp; omega
     rw [z5H hl2, List.getElem_take]
     congr 1
     congr 1
     simp
     omega
    have hk1 : (k : Int) > 0 := by omega
    have e1 : IntKind.i64.wrap ((k : Int) - 1) = ((k - 1 : Nat) : Int) := by rw [z08 (by omega) (by omega)]; omega
    rw [← hpr] at c2
    generalize l[k] = x at g c1 hep c2
    generalize l[k - 1] = y at g1 c2
    clear ck hpr
    obtain ⟨a, b, x3, d⟩ := x
    obtain ⟨ya, yb, y3, yd⟩ := y
    obtain ⟨rfl, rfl⟩ := hep
    unfold hdE at g c1 g1 c2
    generalize k - 1 = k1 at g1 e1
    repeat ((try conv => whnf); first | (refine Exists.intro l.length (And.intro hlen ?_)) | (refine i_at g ?_) | (refine Exists.intro _ (And.intro e1.symm ?_)) | (refine i_at g1 ?_) | (refine ccA ([]) (c1) ?_) | (refine ccA ([]) (c2) ?_) | (refine z0A rfl ?_) | (refine And.intro (by kernel_rfl) ?_) | (refine stpQ ?_))
    refine ⟨k + 1, by omega, by omega, ?_⟩
    (refine z02 (by rfl) ?_ ?_) <;> (repeat' (first | (exact eqA) | (refine shE ?_) | (refine And.intro ?_ ?_)))
  ·obtain rfl : k = l.length := by omega
   repeat ((try conv => whnf); first | (refine Exists.intro l.length (And.intro hlen ?_)) | (refine stpQ ?_))
   (refine z02 (by rfl) ?_ ?_) <;> (repeat' (first | (exact eqA) | (refine shE ?_) | (refine And.intro ?_ ?_)))
 ·repeat ((try conv => whnf); first | (refine stpQ ?_))
  (refine z00 (by rfl) ?_ ?_ (by rfl)) <;> (repeat' (first | (exact eqA) | (refine shE ?_) | (refine And.intro ?_ ?_)))
theorem z87 (ho : Nat) (hho : ho ≤ 2) (l : List Hd) (c : z6B ho l) (ro : Bs) : CT Tryz.prog 224 [] [.sl 4 (hdsE l), .int .i64 (ho : Int), .str ro] (.tup (nhR ho l ro)) [] := by
 have h4 := z4n c
 have hlen := z6S l
 have c1 := z9a ho l c
 have c3 := z4y (ho : Int) ((l.length + 1 : Nat) : Int) ro (z3V l)
 have hx : hdE (z1V ho l ro) = z1B (ho : Int) ((l.length + 1 : Nat) : Int) ro (z3V l) := rfl
 have hv : z29 (ho : Int) ((l.length + 1 : Nat) : Int) ro (z3V l) = decide (l.length < 4 ∧ ro.length = 16) := by
  cases h : z29 (ho : Int) ((l.length + 1 : Nat) : Int) ro (z3V l) with
  | false =>
    rw [eq_comm, decide_eq_false_iff_not]
    intro hc
    have := z5J (h := z1V ho l ro) (z6e hho hc.1 hc.2)
    change z29 (ho : Int) ((l.length + 1 : Nat) : Int) ro (z3V l) = true at this
    rw [h] at this
    cases this
  | true =>
    have g : (z1V ho l ro).good := z3X (h := z1V ho l ro) h
    exact (decide_eq_true ((z4K hho).1 g)).symm
 rw [hv] at c3
 unfold nhR
 rw [hx]
 unfold z1B at c3 ⊢
 rcases Nat.eq_zero_or_pos l.length with h0 | h0
 ·have : l = [] := List.length_eq_zero_iff.1 h0
  subst this
  by_cases hc : ([] : List Hd).length < 4 ∧ ro.length = 16
  ·rw [if_pos hc]
   rw [decide_eq_true hc] at c3
   change CT _ _ _ [.agg [.int .i64 (ho : Int), .int .i64 ((0 + 1 : Nat) : Int), .str ro, .str []]] _ _ at c3
   show CT _ _ _ _ (.tup [.agg [.int .i64 (ho : Int), .int .i64 ((0 + 1 : Nat) : Int), .str ro, .str []], .bool true]) _
   refine z01 z03 1 rfl Tryz.func224 rfl rfl rfl ?_
   repeat ((try conv => whnf); first | (refine Exists.intro 0 (And.intro rfl ?_)) | (refine ccA ([]) (c1) ?_) | (refine ccA ([]) (c3) ?_) | (refine And.intro (by kernel_rfl) ?_) | (refine stpQ ?_))
   (refine z00 (by rfl) ?_ ?_ (by rfl)) <;> (repeat' (first | (exact eqA) | (refine shE ?_) | (refine And.intro ?_ ?_)))
  ·rw [if_neg hc]
   rw [decide_eq_false hc] at c3
   change CT _ _ _ [.agg [.int .i64 (ho : Int), .int .i64 ((0 + 1 : Nat) : Int), .str ro, .str []]] _ _ at c3
   refine z01 z03 1 rfl Tryz.func224 rfl rfl rfl ?_
   repeat ((try conv => whnf); first | (refine Exists.intro 0 (And.intro rfl ?_)) | (refine ccA ([]) (c1) ?_) | (refine ccA ([]) (c3) ?_) | (refine And.intro (by kernel_rfl) ?_) | (refine stpQ ?_))
   (refine z00 (by rfl) ?_ ?_ (by rfl)) <;> (repeat' (first | (exact eqA) | (refine shE ?_) | (refine And.intro ?_ ?_)))
 ·have hlt : l.length - 1 < l.length := by omega
  have g := z5I hlt
  have c2 := z3Y _ (c _ hlt).1
  have hp := z5H h0
  rw [hp] at c3 ⊢
  have e1 : IntKind.i64.wrap ((l.length : Int) - 1) = ((l.length - 1 : Nat) : Int) := by rw [z08 (by omega) (by omega)]; omega
  have h1 : (l.length : Int) > 0 := by omega
  clear hv hx
  generalize z2l l[l.length - 1] = R at c2 c3 ⊢
  generalize l[l.length - 1] = x at g c2
  obtain ⟨a, b, x3, d⟩ := x
  unfold hdE at g c2
  by_cases hc : l.length < 4 ∧ ro.length = 16
  ·rw [if_pos hc]
   rw [decide_eq_true hc] at c3
   refine z01 z03 1 rfl Tryz.func224 rfl rfl rfl ?_
   repeat ((try conv => whnf); first | (refine Exists.intro l.length (And.intro hlen ?_)) | (refine Exists.intro _ (And.intro e1.symm ?_)) | (refine i_at g ?_) | (refine ccA ([]) (c1) ?_) | (refine ccA ([]) (c2) ?_) | (refine ccA ([]) (c3) ?_) | (refine And.intro (by kernel_rfl) ?_) | (refine stpQ ?_))
   (refine z00 (by rfl) ?_ ?_ (by rfl)) <;> (repeat' (first | (exact eqA) | (refine shE ?_) | (refine And.intro ?_ ?_)))
  ·rw [if_neg hc]
   rw [decide_eq_false hc] at c3
   refine z01 z03 1 rfl Tryz.func224 rfl rfl rfl ?_
   repeat ((try conv => whnf); first | (refine Exists.intro l.length (And.intro hlen ?_)) | (refine Exists.intro _ (And.intro e1.symm ?_)) | (refine i_at g ?_) | (refine ccA ([]) (c1) ?_) | (refine ccA ([]) (c2) ?_) | (refine ccA ([]) (c3) ?_) | (refine And.intro (by kernel_rfl) ?_) | (refine stpQ ?_))
   (refine z00 (by rfl) ?_ ?_ (by rfl)) <;> (repeat' (first | (exact eqA) | (refine shE ?_) | (refine And.intro ?_ ?_)))
theorem zfA (n : Nat) (h : n ≤ 2) : CT Tryz.prog 163 [] [.int .i64 (n : Int)] (.str [UInt8.ofNat (48 + n)]) [] := by
 rcases Nat.eq_zero_or_pos n with h0 | h0
 ·subst h0
  refine z01 z0q 1 rfl Tryz.func163 rfl rfl rfl ?_
  repeat ((try conv => whnf); first | (refine stpQ ?_))
  (refine z00 (by rfl) ?_ ?_ (by rfl)) <;> (repeat' (first | (exact eqA) | (refine shE ?_) | (refine And.intro ?_ ?_))) <;> rfl
 ·have cF : CT Tryz.prog 226 [] [.int .i64 (n : Int)] (.int .u8 ((UInt8.ofNat (48 + n)).toNat : Int)) [] := by
   have hx : (UInt8.ofNat (48 + n)).toNat = 48 + n := by simp [UInt8.toNat_ofNat']; omega
   have e1 : IntKind.i64.wrap (48 + (n : Int)) = ((48 + n : Nat) : Int) := by rw [z08 (by omega) (by omega)]; omega
   have e2 : IntKind.u8.wrap ((48 + n : Nat) : Int) = ((48 + n : Nat) : Int) := by
    show ((48 + n : Nat) : Int) % 256 = _
    omega
   rw [hx]
   refine z01 z0q 1 rfl Tryz.func226 rfl rfl rfl ?_
   repeat ((try conv => whnf); first | (refine Exists.intro _ (And.intro e1.symm ?_)) | (refine Exists.intro _ (And.intro e2.symm ?_)) | (refine stpQ ?_))
   (refine z00 (by rfl) ?_ ?_ (by rfl)) <;> (repeat' (first | (exact eqA) | (refine shE ?_) | (refine And.intro ?_ ?_)))
  have hr1 : Int.tmod (n : Int) 10 = (n : Int) := by rcases (show n = 1 ∨ n = 2 by omega) with rfl | rfl <;> rfl
  have hd1 : IntKind.i64.wrap (Int.tdiv (n : Int) 10) = 0 := by rcases (show n = 1 ∨ n = 2 by omega) with rfl | rfl <;> rfl
  have hne : ¬ (n : Int) = 0 := by omega
  have hnn : ¬ (n : Int) < 0 := by omega
  refine z01 z0q 1 rfl Tryz.func163 rfl rfl rfl ?_
  repeat ((try conv => whnf); first | (refine stpQ ?_))
  refine z07 0 ⟨[(3, .bool false), (4, .str [UInt8.ofNat (48 + n)])], [], 1⟩ Bool (fun b => ⟨[(0, .int .i64 (bif b then 0 else (n : Int))), (3, .bool false), (4, .str (bif b then [UInt8.ofNat (48 + n)] else []))], [], 1⟩) (fun _ => True) (fun b => bif b then 0 else 1) false trivial ?_ ?_ ?_
  ·(refine z02 (by rfl) ?_ ?_) <;> (repeat' (first | (exact eqA) | (refine shE ?_) | (refine And.intro ?_ ?_))) <;> first | rfl | decide | (simp; omega)
  ·intro b _
   cases b with
   | true =>
     simp only [cond_true]
     repeat ((try conv => whnf); first | (refine stpQ ?_))
     (refine z02 (by rfl) ?_ ?_) <;> (repeat' (first | (exact eqA) | (refine shE ?_) | (refine And.intro ?_ ?_)))
   | false =>
     simp only [cond_false]
     repeat ((try conv => whnf); first | (refine ccA ([]) (cF) ?_) | (refine Exists.intro _ (And.intro hr1.symm ?_)) | (refine Exists.intro _ (And.intro hd1.symm ?_)) | (refine Exists.intro [UInt8.ofNat (48 + n)] (And.intro rfl ?_)) | (refine And.intro (by simp) ?_) | (refine And.intro (by kernel_rfl) ?_) | (refine stpQ ?_))
     refine ⟨true, trivial, by decide, ?_⟩
     simp only [cond_true]
     (refine z02 (by rfl) ?_ ?_) <;> (repeat' (first | (exact eqA) | (refine shE ?_) | (refine And.intro ?_ ?_)))
     all_goals rfl
  ·repeat ((try conv => whnf); first | (refine stpQ ?_))
   (refine z00 (by rfl) ?_ ?_ (by rfl)) <;> (repeat' (first | (exact eqA) | (refine shE ?_) | (refine And.intro ?_ ?_)))
theorem zi3 (n : Nat) (h : n ≤ 2) : CT Tryz.prog 99 [] [.int .i64 (n : Int)] (.str (z3U n)) [] := by
 have c0 := zfA n h
 have c1 := z8s (x := (n : Int)) (lo := 0) (hi := 2) (by omega)
 show CT _ _ _ _ (.str ([104, 111, 117, 115, 101] ++ [UInt8.ofNat (48 + n)])) _
 refine z01 z0q 1 rfl Tryz.func99 rfl rfl rfl ?_
 repeat ((try conv => whnf); first | (refine ccA ([]) (c1) ?_) | (refine ccA ([]) (c0) ?_) | (refine And.intro (by simp) ?_) | (refine stpQ ?_))
 (refine z00 (by rfl) ?_ ?_ (by rfl)) <;> (repeat' (first | (exact eqA) | (refine shE ?_) | (refine And.intro ?_ ?_)))
end Go.Proofs.YthcfalipgnpelaaGreatDoor
