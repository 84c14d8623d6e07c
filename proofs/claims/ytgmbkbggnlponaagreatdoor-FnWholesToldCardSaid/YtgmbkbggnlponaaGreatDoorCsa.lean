/- Functions by content: the reference reads heads, signatures and seals of any content; chains. -/
import Derived.Test.YtgmbkbggnlponaaGreatDoorCi
import Derived.Test.YtgmbkbggnlponaaGreatDoorSiR
namespace Go.Proofs.YtgmbkbggnlponaaGreatDoor
set_option maxRecDepth 100000
set_option maxHeartbeats 8000000
set_option linter.unusedVariables false
set_option linter.unusedSimpArgs false
set_option linter.unusedSectionVars false
open Go.RowKit Pl
attribute [local irreducible] z0t z0u z0y AnsP LeP
theorem z46 (ho ep : Int) (ro pr : Bs) : CT Tryz.prog 77 [] [.agg (z2I ho ep ro pr)] (.bool (z2C ho ep ro pr)) [] := by
 have c1 := z10 ho 0 2
 have c2 := z10 ep 1 4
 unfold z2I z2C
 generalize inB ho 0 2 = b1 at c1 ⊢
 generalize inB ep 1 4 = b2 at c2 ⊢
 cases b1 with
 | false =>
   rw [Bool.false_and]
   refine z01 z0B 1 rfl Tryz.func77 rfl rfl rfl ?_
   repeat ((try conv => whnf); first | (refine ccA ([]) (c1) ?_) | (refine stpQ ?_))
   (refine z00 (by rfl) ?_ ?_ (by rfl)) <;> (repeat' (first | (exact eqA) | (refine shE ?_) | (refine And.intro ?_ ?_)))
 | true =>
   cases b2 with
   | false =>
     rw [Bool.true_and, Bool.false_and]
     refine z01 z0B 1 rfl Tryz.func77 rfl rfl rfl ?_
     repeat ((try conv => whnf); first | (refine ccA ([]) (c1) ?_) | (refine ccA ([]) (c2) ?_) | (refine stpQ ?_))
     (refine z00 (by rfl) ?_ ?_ (by rfl)) <;> (repeat' (first | (exact eqA) | (refine shE ?_) | (refine And.intro ?_ ?_)))
   | true =>
     rw [Bool.true_and, Bool.true_and]
     by_cases h3 : (ro.length : Int) = 16
     ·rw [decide_eq_true h3, Bool.true_and]
      by_cases h4 : ep = 1
      ·rw [if_pos h4]
       refine z01 z0B 1 rfl Tryz.func77 rfl rfl rfl ?_
       repeat ((try conv => whnf); first | (refine ccA ([]) (c1) ?_) | (refine ccA ([]) (c2) ?_) | (refine stpQ ?_))
       (refine z00 (by rfl) ?_ ?_ (by rfl)) <;> (repeat' (first | (exact eqA) | (refine shE ?_) | (refine And.intro ?_ ?_)))
      ·rw [if_neg h4]
       refine z01 z0B 1 rfl Tryz.func77 rfl rfl rfl ?_
       repeat ((try conv => whnf); first | (refine ccA ([]) (c1) ?_) | (refine ccA ([]) (c2) ?_) | (refine stpQ ?_))
       (refine z00 (by rfl) ?_ ?_ (by rfl)) <;> (repeat' (first | (exact eqA) | (refine shE ?_) | (refine And.intro ?_ ?_)))
     ·rw [decide_eq_false h3, Bool.false_and]
      refine z01 z0B 1 rfl Tryz.func77 rfl rfl rfl ?_
      repeat ((try conv => whnf); first | (refine ccA ([]) (c1) ?_) | (refine ccA ([]) (c2) ?_) | (refine stpQ ?_))
      (refine z00 (by rfl) ?_ ?_ (by rfl)) <;> (repeat' (first | (exact eqA) | (refine shE ?_) | (refine And.intro ?_ ?_)))
theorem zay (t : Bs) (ht : (t.length : Int) ≤ 1000000000) : CT Tryz.prog 104 [] [.str t] (.tup (hdR t)) [] := by
 by_cases hl : 18 ≤ t.length
 ·obtain ⟨a, b, r, rfl⟩ : ∃ a b r, t = a :: b :: r := by
   cases t with
   | nil => exact absurd hl (by simp)
   | cons a t => cases t with
     | nil => exact absurd hl (by simp)
     | cons b r => exact ⟨a, b, r, rfl⟩
  have hl2 : ¬ ((a :: b :: r).length : Int) < 18 := by omega
  have h0 : 0 < (a :: b :: r).length := by simp
  have h1 : 1 < (a :: b :: r).length := by simp
  have e1 := z4T a
  have e2 := z4T b
  have sl : ((a :: b :: r).take 18).drop 2 = r.take 16 := by rw [List.drop_take]; rfl
  have sd : (a :: b :: r).drop 18 = r.drop 16 := rfl
  have k := z46 ((a.toNat : Nat) : Int) ((b.toNat : Nat) : Int) (r.take 16) (r.drop 16)
  have hd : hdOf (a :: b :: r) = ⟨a.toNat, b.toNat, r.take 16, r.drop 16⟩ := rfl
  have hcut : 2 ≤ 18 ∧ 18 ≤ (a :: b :: r).length := ⟨by omega, hl⟩
  unfold hdR
  cases hr : z3f (a :: b :: r) with
  | some h =>
    have hg := (z2M.1 hr).1
    have hh : h = ⟨a.toNat, b.toNat, r.take 16, r.drop 16⟩ := by
     rw [z3f] at hr
     split at hr
     ·injection hr with hr
      rw [← hr, hd]
     ·cases hr
    subst hh
    rw [zan hg] at k
    unfold z2I at k
    clear hg hr hd
    show CT _ _ _ _ (.tup [.agg [.int .i64 ((a.toNat : Nat) : Int), .int .i64 ((b.toNat : Nat) : Int), .str (r.take 16), .str (r.drop 16)], .bool true]) _
    rw [← sl, ← sd] at k ⊢
    refine z01 z0B 1 rfl Tryz.func104 rfl rfl rfl ?_
    repeat ((try conv => whnf); first | (refine z0k hl2 ?_) | (refine Exists.intro 0 (And.intro rfl (And.intro h0 ?_))) | (refine Exists.intro 1 (And.intro rfl (And.intro h1 ?_))) | (refine Exists.intro _ (And.intro e1.symm ?_)) | (refine Exists.intro _ (And.intro e2.symm ?_)) | (refine Exists.intro 2 (Exists.intro 18 (And.intro rfl (And.intro rfl (And.intro hcut.1 (And.intro hcut.2 ?_)))))) | (refine Exists.intro 18 (And.intro rfl (And.intro hl ?_))) | (refine ccA ([]) (k) ?_) | (refine And.intro (by kernel_rfl) ?_) | (refine stpQ ?_))
    (refine z00 (by rfl) ?_ ?_ (by rfl)) <;> (repeat' (first | (exact eqA) | (refine shE ?_) | (refine And.intro ?_ ?_)))
  | none =>
    have hv : z2C ((a.toNat : Nat) : Int) ((b.toNat : Nat) : Int) (r.take 16) (r.drop 16) = false := by
     cases hx : z2C ((a.toNat : Nat) : Int) ((b.toNat : Nat) : Int) (r.take 16) (r.drop 16) with
     | false => rfl
     | true =>
       have hq : (hdOf (a :: b :: r)).good := z62 hx
       rw [z3f, if_pos ⟨hl, hq⟩] at hr
       cases hr
    rw [hv] at k
    unfold z2I at k ⊢
    clear hv hr hd
    simp only
    rw [← sl, ← sd] at k
    refine z01 z0B 1 rfl Tryz.func104 rfl rfl rfl ?_
    repeat ((try conv => whnf); first | (refine z0k hl2 ?_) | (refine Exists.intro 0 (And.intro rfl (And.intro h0 ?_))) | (refine Exists.intro 1 (And.intro rfl (And.intro h1 ?_))) | (refine Exists.intro _ (And.intro e1.symm ?_)) | (refine Exists.intro _ (And.intro e2.symm ?_)) | (refine Exists.intro 2 (Exists.intro 18 (And.intro rfl (And.intro rfl (And.intro hcut.1 (And.intro hcut.2 ?_)))))) | (refine Exists.intro 18 (And.intro rfl (And.intro hl ?_))) | (refine ccA ([]) (k) ?_) | (refine And.intro (by kernel_rfl) ?_) | (refine stpQ ?_))
    (refine z00 (by rfl) ?_ ?_ (by rfl)) <;> (repeat' (first | (exact eqA) | (refine shE ?_) | (refine And.intro ?_ ?_)))
 ·have hr : z3f t = none := by rw [z3f, if_neg (fun c => hl c.1)]
  have hl2 : (t.length : Int) < 18 := by omega
  unfold hdR
  rw [hr]
  unfold z2I
  simp only
  refine z01 z0B 1 rfl Tryz.func104 rfl rfl rfl ?_
  repeat ((try conv => whnf); first | (refine z0i hl2 ?_) | (refine And.intro (by kernel_rfl) ?_) | (refine stpQ ?_))
  (refine z00 (by rfl) ?_ ?_ (by rfl)) <;> (repeat' (first | (exact eqA) | (refine shE ?_) | (refine And.intro ?_ ?_)))
theorem z7f (l : List Bs) (n : Int) (h : l.length ≤ 1048576) : CT Tryz.prog 168 [] [.sl 1 (strE l), .int .i64 n] (.bool (wideB l n)) [] := by
 have hl := z0c l
 refine z01 z0B 1 rfl Tryz.func168 rfl rfl rfl ?_
 repeat ((try conv => whnf); first | (refine stpQ ?_))
 refine z6x Nat (fun k => ⟨[(0, .sl 1 (strE l)), (1, .int .i64 n), (5, .int .i64 (k : Int))], [], 1⟩) (fun k => k ≤ l.length ∧ ∀ j, j < k → (pAt l j).length = 16) (fun k => l.length - k) 0 ⟨by omega, fun j hj => by omega⟩ ?_ ?_
 ·(refine z02 (by rfl) ?_ ?_) <;> repeat' (first | (exact eqA) | (refine shE ?_) | (refine And.intro ?_ ?_))
 ·intro Q1 hQ1 k hkk
  have hk := hkk.1
  have hp := hkk.2
  clear hkk
  by_cases hlt : k < l.length
  ·have g := z0n hlt
   by_cases hq : ((pAt l k).length : Int) = 16
   ·have hgo : ∀ j, j < k + 1 → (pAt l j).length = 16 := fun j hj => by
     rcases Nat.lt_or_ge j k with h1 | h1
     ·exact hp j h1
     ·rw [show j = k by omega]; omega
    clear hp
    generalize pAt l k = v at g hq
    repeat ((try conv => whnf); first | (refine Exists.intro l.length (And.intro hl ?_)) | (refine i_at g ?_) | (refine And.intro (by kernel_rfl) ?_) | (refine stpQ ?_))
    refine ⟨k + 1, ⟨by omega, hgo⟩, by omega, ?_⟩
    (refine z02 (by rfl) ?_ ?_) <;> repeat' (first | (exact eqA) | (refine shE ?_) | (refine And.intro ?_ ?_))
   ·have hw : wideB l n = false := by
     cases hx : wideB l n with
     | false => rfl
     | true =>
       simp only [wideB, Bool.and_eq_true, List.all_eq_true, decide_eq_true_eq] at hx
       have := hx.1 l[k] (List.getElem_mem hlt)
       exact absurd (by simpa [pAt, List.getD, List.getElem?_eq_getElem hlt] using this) hq
    clear hp
    generalize pAt l k = v at g hq
    repeat ((try conv => whnf); first | (refine Exists.intro l.length (And.intro hl ?_)) | (refine i_at g ?_) | (refine And.intro (by kernel_rfl) ?_) | (refine stpQ ?_))
    refine hQ1 _ _ ?_
    (try conv => whnf)
    rw [hw]
    (refine z00 (by rfl) ?_ ?_ (by rfl)) <;> repeat' (first | (exact eqA) | (refine shE ?_) | (refine And.intro ?_ ?_))
  ·have hke : k = l.length := by omega
   subst hke
   have hw : wideB l n = decide ((l.length : Int) = n) := by
    have ha : (l.all fun x => decide ((x.length : Int) = 16)) = true := by
     rw [List.all_eq_true]
     intro x hx
     obtain ⟨i, hi, rfl⟩ := List.getElem_of_mem hx
     have := hp i hi
     simp only [pAt, List.getD, List.getElem?_eq_getElem hi, Option.getD_some] at this
     simp; omega
    rw [wideB, ha, Bool.true_and]
   repeat ((try conv => whnf); first | (refine Exists.intro l.length (And.intro hl ?_)) | (refine stpQ ?_))
   refine hQ1 _ _ ?_
   repeat ((try conv => whnf); first | (refine Exists.intro l.length (And.intro hl ?_)) | (refine stpQ ?_))
   rw [hw]
   (refine z00 (by rfl) ?_ ?_ (by rfl)) <;> repeat' (first | (exact eqA) | (refine shE ?_) | (refine And.intro ?_ ?_))
theorem z57 (a : Int) (op sh si : List Bs) (h1 : op.length ≤ 1048576) (h2 : sh.length ≤ 1048576) (h3 : si.length ≤ 1048576) : CT Tryz.prog 137 [] [.agg (z23 a op sh si)] (.bool (z2D a op sh si)) [] := by
 have c1 := z10 a 0 15
 have c2 := z7f op 8 h1
 have c3 := z7f sh 8 h2
 have c4 := z7f si 4 h3
 unfold z2D z23
 generalize inB a 0 15 = b1 at c1 ⊢
 generalize wideB op 8 = b2 at c2 ⊢
 generalize wideB sh 8 = b3 at c3 ⊢
 generalize wideB si 4 = b4 at c4 ⊢
 refine z01 z0B 1 rfl Tryz.func137 rfl rfl rfl ?_
 cases b1
 ·repeat ((try conv => whnf); first | (refine ccA ([]) (c1) ?_) | (refine stpQ ?_))
  (refine z00 (by rfl) ?_ ?_ (by rfl)) <;> (repeat' (first | (exact eqA) | (refine shE ?_) | (refine And.intro ?_ ?_))) <;> rfl
 cases b2
 ·repeat ((try conv => whnf); first | (refine ccA ([]) (c1) ?_) | (refine ccA ([]) (c2) ?_) | (refine stpQ ?_))
  (refine z00 (by rfl) ?_ ?_ (by rfl)) <;> (repeat' (first | (exact eqA) | (refine shE ?_) | (refine And.intro ?_ ?_))) <;> rfl
 cases b3
 ·repeat ((try conv => whnf); first | (refine ccA ([]) (c1) ?_) | (refine ccA ([]) (c2) ?_) | (refine ccA ([]) (c3) ?_) | (refine stpQ ?_))
  (refine z00 (by rfl) ?_ ?_ (by rfl)) <;> (repeat' (first | (exact eqA) | (refine shE ?_) | (refine And.intro ?_ ?_))) <;> rfl
 cases b4
 ·repeat ((try conv => whnf); first | (refine ccA ([]) (c1) ?_) | (refine ccA ([]) (c2) ?_) | (refine ccA ([]) (c3) ?_) | (refine ccA ([]) (c4) ?_) | (refine stpQ ?_))
  (refine z00 (by rfl) ?_ ?_ (by rfl)) <;> (repeat' (first | (exact eqA) | (refine shE ?_) | (refine And.intro ?_ ?_))) <;> rfl
 ·repeat ((try conv => whnf); first | (refine ccA ([]) (c1) ?_) | (refine ccA ([]) (c2) ?_) | (refine ccA ([]) (c3) ?_) | (refine ccA ([]) (c4) ?_) | (refine stpQ ?_))
  (refine z00 (by rfl) ?_ ?_ (by rfl)) <;> (repeat' (first | (exact eqA) | (refine shE ?_) | (refine And.intro ?_ ?_))) <;> rfl
theorem z7g (a : Int) (op sh si : List Bs) (h1 : op.length ≤ 1048576) (h2 : sh.length ≤ 1048576) (h3 : si.length ≤ 1048576) (hn : z2D a op sh si = false) : CT Tryz.prog 93 [] [.agg (z23 a op sh si)] (.tup [.str [], .bool false]) [] := by
 have c1 := z57 a op sh si h1 h2 h3
 rw [hn] at c1
 unfold z23 at c1 ⊢
 refine z01 z0B 1 rfl Tryz.func93 rfl rfl rfl ?_
 repeat ((try conv => whnf); first | (refine ccA ([]) (c1) ?_) | (refine And.intro (by kernel_rfl) ?_) | (refine stpQ ?_))
 (refine z00 (by rfl) ?_ ?_ (by rfl)) <;> (repeat' (first | (exact eqA) | (refine shE ?_) | (refine And.intro ?_ ?_)))
theorem z2U (l m : List Bs) : strE (l ++ m) = strE l ++ strE m := by simp [strE]
theorem z3s (s : Sg) (gs : s.good) : CT Tryz.prog 93 [] [.agg (sgE s)] (.tup [.str (sigB s), .bool true]) [] := by
 have hk := zao gs
 obtain ⟨a, op, sh, si⟩ := s
 obtain ⟨h1, ⟨h2, h3⟩, ⟨h4, h5⟩, h6, h7⟩ := gs
 simp only at h1 h2 h3 h4 h5 h6 h7 hk
 have c1 := z57 (a : Int) op sh si (by omega) (by omega) (by omega)
 rw [hk] at c1
 have hx : (UInt8.ofNat a).toNat = a := by simp [UInt8.toNat_ofNat']; omega
 have l1 := z0c op
 have l2 := z0c sh
 have l3 := z0c si
 have hs : sigB ⟨a, op, sh, si⟩ = [UInt8.ofNat a] ++ (op ++ sh ++ si).flatten := by simp [sigB]
 have hLl : (op ++ sh ++ si).length = 20 := by simp only [List.length_append]; omega
 have hLw : ∀ x ∈ op ++ sh ++ si, x.length = 16 := fun x hx => by
  simp only [List.mem_append] at hx
  rcases hx with (hx | hx) | hx
  ·exact h3 x hx
  ·exact h5 x hx
  ·exact h7 x hx
 have hLe : strE op ++ strE sh ++ strE si = strE (op ++ sh ++ si) := by rw [z2U, z2U]
 rw [hs]
 clear hs hk
 generalize hL : op ++ sh ++ si = L at hLl hLw hLe ⊢
 have hll := z0c L
 show CT _ _ _ [.agg [.int .i64 (a : Int), .sl 1 (strE op), .sl 1 (strE sh), .sl 1 (strE si)]] _ _
 unfold z23 at c1
 refine z01 z0B 1 rfl Tryz.func93 rfl rfl rfl ?_
 repeat ((try conv => whnf); first | (refine ccA ([]) (c1) ?_) | (refine w_u8 ?_) | (refine Exists.intro [UInt8.ofNat a] (And.intro rfl ?_)) | (refine And.intro (by simp only [List.length_append, List.length_cons, List.length_nil, List.nil_append, List.length_set, List.length_replicate]; omega) ?_) | (refine And.intro (by kernel_rfl) ?_) | (refine stpQ ?_))
 refine z0h 0 ⟨[(4, .str ([UInt8.ofNat a] ++ L.flatten))], [], 1⟩ Nat (fun i => ⟨[(4, .str ([UInt8.ofNat a] ++ (L.take i).flatten)), (5, .sl 1 (strE L)), (6, .int .i64 (i : Int))], [], 1⟩) (fun i => i ≤ L.length) (fun i => L.length - i) 0 (by omega) ?_ ?_ ?_
 ·(refine z02 (by rfl) ?_ ?_) <;> (repeat' (first | (exact eqA) | (refine shE ?_) | (refine And.intro ?_ ?_)))
  all_goals first
   | rfl
   | exact hLe
   | exact congrArg (fun z => some (Ent.row 1 z)) hLe
   | (simp; done)
 ·intro i hi
  by_cases hlt : i < L.length
  ·have g := z0n hlt
   have hw := hLw _ (List.getElem_mem hlt)
   have hnx : (L.take (i + 1)).flatten = (L.take i).flatten ++ pAt L i := by
    rw [List.take_succ_eq_append_getElem hlt, List.flatten_append]
    simp [pAt, List.getD, List.getElem?_eq_getElem hlt]
   have hpl : (pAt L i).length = 16 := by simpa [pAt, List.getD, List.getElem?_eq_getElem hlt] using hw
   have hfl : ((L.take i).flatten).length ≤ 1000 := by
    have := z1Q (l := L.take i) (fun x hx => hLw x (List.mem_of_mem_take hx))
    rw [this, List.length_take]
    omega
   generalize pAt L i = v at g hnx hpl
   generalize (L.take i).flatten = u at hnx hfl ⊢
   repeat ((try conv => whnf); first | (refine Exists.intro L.length (And.intro hll ?_)) | (refine i_at g ?_) | (refine And.intro (by simp only [List.length_append, List.length_cons, List.length_nil, List.length_set, List.length_replicate]; omega) ?_) | (refine And.intro (by kernel_rfl) ?_) | (refine stpQ ?_))
   refine ⟨i + 1, by omega, by omega, ?_⟩
   rw [hnx]
   (refine z02 (by rfl) ?_ ?_) <;> (repeat' (first | (exact eqA) | (refine shE ?_) | (refine And.intro ?_ ?_)))
   all_goals simp
  ·obtain rfl : i = L.length := by omega
   rw [List.take_length]
   repeat ((try conv => whnf); first | (refine Exists.intro L.length (And.intro hll ?_)) | (refine stpQ ?_))
   (refine z02 (by rfl) ?_ ?_) <;> (repeat' (first | (exact eqA) | (refine shE ?_) | (refine And.intro ?_ ?_)))
 ·repeat ((try conv => whnf); first | (refine stpQ ?_))
  (refine z00 (by rfl) ?_ ?_ (by rfl)) <;> (repeat' (first | (exact eqA) | (refine shE ?_) | (refine And.intro ?_ ?_)))
theorem zaz (ho ep : Int) (ro pr : Bs) (hn : z2C ho ep ro pr = false) : CT Tryz.prog 140 [] [.agg (z2I ho ep ro pr)] (.tup [.str [], .bool false]) [] := by
 have c1 := z46 ho ep ro pr
 rw [hn] at c1
 unfold z2I at c1 ⊢
 refine z01 z0B 1 rfl Tryz.func140 rfl rfl rfl ?_
 repeat ((try conv => whnf); first | (refine ccA ([]) (c1) ?_) | (refine And.intro (by kernel_rfl) ?_) | (refine stpQ ?_))
 (refine z00 (by rfl) ?_ ?_ (by rfl)) <;> (repeat' (first | (exact eqA) | (refine shE ?_) | (refine And.intro ?_ ?_)))
theorem z3X (h : Hd) (s : Sg) (g : h.good) (gs : s.good) : CT Tryz.prog 91 [] [.agg (hdE h ++ sgE s)] (.tup [.str (z12 h s), .bool true]) [] := by
 have c1 := z4w h g
 have c2 := z3s s gs
 have hl := z0N g
 have hs := z1Y gs
 have c3 := z2Z (z0P h).length (by omega)
 have hv := z0O (n := (z0P h).length) (by omega)
 have e : z12 h s = z0g (z0P h).length ++ z0P h ++ sigB s := rfl
 rw [e]
 clear e g gs
 generalize z0P h = A at c1 c3 hl hv ⊢
 generalize sigB s = B at c2 hs ⊢
 generalize z0g A.length = C at c3 hv ⊢
 obtain ⟨ho, ep, ro, pr⟩ := h
 obtain ⟨a, op, sh, si⟩ := s
 unfold hdE at c1
 unfold sgE at c2
 show CT _ _ _ [.agg [.int .i64 (ho : Int), .int .i64 (ep : Int), .str ro, .str pr, .int .i64 (a : Int), .sl 1 (strE op), .sl 1 (strE sh), .sl 1 (strE si)]] _ _
 refine z01 z0B 1 rfl Tryz.func91 rfl rfl rfl ?_
 repeat ((try conv => whnf); first | (refine ccA ([]) (c1) ?_) | (refine ccA ([]) (c2) ?_) | (refine ccA ([]) (c3) ?_) | (refine And.intro (by simp only [List.length_append]; omega) ?_) | (refine And.intro (by kernel_rfl) ?_) | (refine stpQ ?_))
 (refine z00 (by rfl) ?_ ?_ (by rfl)) <;> (repeat' (first | (exact eqA) | (refine shE ?_) | (refine And.intro ?_ ?_)))
theorem z5H (x : Sa) (hx : saFit x) (hn : saOk x = false) : CT Tryz.prog 91 [] [.agg (saE x)] (.tup [.str [], .bool false]) [] := by
 obtain ⟨ho, ep, ro, pr, a, op, sh, si⟩ := x
 simp only [saOk] at hn
 show CT _ _ _ [.agg [.int .i64 ho, .int .i64 ep, .str ro, .str pr, .int .i64 a, .sl 1 (strE op), .sl 1 (strE sh), .sl 1 (strE si)]] _ _
 obtain ⟨tb, bb, c2⟩ : ∃ (tb : Bs) (bb : Bool), CT Tryz.prog 93 [] [.agg [.int .i64 a, .sl 1 (strE op), .sl 1 (strE sh), .sl 1 (strE si)]] (.tup [.str tb, .bool bb]) [] ∧ (z2D a op sh si = false → bb = false) := by
  cases hs : z2D a op sh si with
  | true =>
    obtain ⟨s, gs, es⟩ := zcI hs
    unfold z23 at es
    rw [es]
    exact ⟨_, _, z3s s gs, fun h => by cases h⟩
  | false => exact ⟨_, _, z7g a op sh si hx.1 hx.2.1 hx.2.2 hs, fun _ => rfl⟩
 cases hh : z2C ho ep ro pr with
 | false =>
   have c1 := zaz ho ep ro pr hh
   unfold z2I at c1
   have c2 := c2.1
   refine z01 z0B 1 rfl Tryz.func91 rfl rfl rfl ?_
   repeat ((try conv => whnf); first | (refine ccA ([]) (c1) ?_) | (refine ccA ([]) (c2) ?_) | (refine And.intro (by kernel_rfl) ?_) | (refine stpQ ?_))
   (refine z00 (by rfl) ?_ ?_ (by rfl)) <;> (repeat' (first | (exact eqA) | (refine shE ?_) | (refine And.intro ?_ ?_)))
 | true =>
   rw [hh, Bool.true_and] at hn
   have hb := c2.2 hn
   have c2 := c2.1
   subst hb
   obtain ⟨h, g, -, eh⟩ := zgB hh
   have c1 := z4w h g
   rw [← eh] at c1
   unfold z2I at c1
   generalize z0P h = A at c1
   refine z01 z0B 1 rfl Tryz.func91 rfl rfl rfl ?_
   repeat ((try conv => whnf); first | (refine ccA ([]) (c1) ?_) | (refine ccA ([]) (c2) ?_) | (refine And.intro (by kernel_rfl) ?_) | (refine stpQ ?_))
   (refine z00 (by rfl) ?_ ?_ (by rfl)) <;> (repeat' (first | (exact eqA) | (refine shE ?_) | (refine And.intro ?_ ?_)))
theorem z99 (t : Bs) (p n : Nat) (hn : n ≤ 20) (hp : p + 16 * n ≤ t.length) (ht : t.length ≤ 1000000) : CT Tryz.prog 105 [] [.str t, .int .i64 (p : Int), .int .i64 (n : Int)] (.sl 1 (strE (cutR t p n))) [] := by
 refine z01 z0B 1 rfl Tryz.func105 rfl rfl rfl ?_
 repeat ((try conv => whnf); first | (refine stpQ ?_))
 refine z0h 0 ⟨[(7, .ref 1)], [(1, some (.row 1 (strE (cutR t p n))))], 2⟩ Nat (fun i => ⟨[(0, .str t), (1, .int .i64 (p : Int)), (2, .int .i64 (n : Int)), (7, .ref 1), (8, .int .i64 (i : Int))], [(1, some (.row 1 (strE (cutR t p i))))], 2⟩) (fun i => i ≤ n) (fun i => n - i) 0 (by omega) ?_ ?_ ?_
 ·(refine z02 (by rfl) ?_ ?_) <;> (repeat' (first | (exact eqA) | (refine shE ?_) | (refine And.intro ?_ ?_))) <;> first | rfl | decide
 ·intro i hi
  by_cases hlt : i < n
  ·have hlt2 : (i : Int) < (n : Int) := by omega
   have e1 : IntKind.i64.wrap ((i : Int) * 16) = ((i * 16 : Nat) : Int) := by rw [wrap_i64 (by omega) (by omega)]; omega
   have e2 : IntKind.i64.wrap ((p : Int) + ((i * 16 : Nat) : Int)) = ((p + i * 16 : Nat) : Int) := by rw [wrap_i64 (by omega) (by omega)]; omega
   have e3 : IntKind.i64.wrap (((i + 1 : Nat) : Int) * 16) = (((i + 1) * 16 : Nat) : Int) := by rw [wrap_i64 (by omega) (by omega)]; omega
   have e4 : IntKind.i64.wrap ((p : Int) + (((i + 1) * 16 : Nat) : Int)) = ((p + (i + 1) * 16 : Nat) : Int) := by rw [wrap_i64 (by omega) (by omega)]; omega
   have hcut : p + i * 16 ≤ p + (i + 1) * 16 ∧ p + (i + 1) * 16 ≤ t.length := by omega
   have hnx : cutR t p (i + 1) = cutR t p i ++ [(t.take (p + (i + 1) * 16)).drop (p + i * 16)] := by
    rw [zal, List.drop_take, show p + (i + 1) * 16 - (p + i * 16) = 16 by omega, Nat.mul_comm 16 i]
   have hol := z0c (cutR t p i)
   rw [z52] at hol
   generalize cutR t p i = o at hnx hol ⊢
   generalize i * 16 = i16 at e1 e2 hcut hnx
   generalize (i + 1) * 16 = j16 at e3 e4 hcut hnx
   repeat ((try conv => whnf); first | (refine Exists.intro _ (And.intro e1.symm ?_)) | (refine Exists.intro _ (And.intro e2.symm ?_)) | (refine Exists.intro _ (And.intro e3.symm ?_)) | (refine Exists.intro _ (And.intro e4.symm ?_)) | (refine i_cut hcut ?_) | (refine And.intro (by simp only [List.length_append, List.length_cons, List.length_nil, List.length_set, List.length_replicate]; omega) ?_) | (refine And.intro (by kernel_rfl) ?_) | (refine stpQ ?_))
   refine ⟨i + 1, by omega, by omega, ?_⟩
   rw [hnx, z2U]
   (refine z02 (by rfl) ?_ ?_) <;> (repeat' (first | (exact eqA) | (refine shE ?_) | (refine And.intro ?_ ?_)))
   all_goals rfl
  ·obtain rfl : i = n := by omega
   repeat ((try conv => whnf); first | (refine stpQ ?_))
   (refine z02 (by rfl) ?_ ?_) <;> (repeat' (first | (exact eqA) | (refine shE ?_) | (refine And.intro ?_ ?_)))
 ·repeat ((try conv => whnf); first | (refine stpQ ?_))
  (refine z00 (by rfl) ?_ ?_ (by rfl)) <;> (repeat' (first | (exact eqA) | (refine shE ?_) | (refine And.intro ?_ ?_)))
def sgR (t : Bs) : List T := match z4u t with
 | some s => [.agg (sgE s), .bool true]
 | none => [.agg (z23 0 [] [] []), .bool false]
theorem z7h (t : Bs) (ht : t.length ≤ 1000000) : CT Tryz.prog 52 [] [.str t] (.tup (sgR t)) [] := by
 unfold sgR z4u
 by_cases hl : t.length = 321
 ·obtain ⟨a, r, rfl⟩ : ∃ a r, t = a :: r := by
   cases t with
   | nil => cases hl
   | cons a r => exact ⟨a, r, rfl⟩
  have hl2 : ((a :: r).length : Int) = 321 := by omega
  have h0 : 0 < (a :: r).length := by simp
  have e1 := z4T a
  have hal := a.toNat_lt
  by_cases ha : a.toNat < 16
  ·have ha2 : ¬ ((a.toNat : Nat) : Int) ≥ 16 := by omega
   have c1 := z99 (a :: r) 1 8 (by omega) (by omega) ht
   have c2 := z99 (a :: r) 129 8 (by omega) (by omega) ht
   have c3 := z99 (a :: r) 257 4 (by omega) (by omega) ht
   rw [if_pos ⟨hl, ha⟩]
   show CT _ _ _ _ (.tup [.agg [.int .i64 ((a.toNat : Nat) : Int), .sl 1 (strE (cutR (a :: r) 1 8)), .sl 1 (strE (cutR (a :: r) 129 8)), .sl 1 (strE (cutR (a :: r) 257 4))], .bool true]) _
   generalize cutR (a :: r) 1 8 = x1 at c1 ⊢
   generalize cutR (a :: r) 129 8 = x2 at c2 ⊢
   generalize cutR (a :: r) 257 4 = x3 at c3 ⊢
   refine z01 z0B 1 rfl Tryz.func52 rfl rfl rfl ?_
   repeat ((try conv => whnf); first | (refine z1C hl2 ?_) | (refine Exists.intro 0 (And.intro rfl (And.intro h0 ?_))) | (refine Exists.intro _ (And.intro e1.symm ?_)) | (refine z0k ha2 ?_) | (refine ccA ([]) (c1) ?_) | (refine ccA ([]) (c2) ?_) | (refine ccA ([]) (c3) ?_) | (refine And.intro (by kernel_rfl) ?_) | (refine stpQ ?_))
   (refine z00 (by rfl) ?_ ?_ (by rfl)) <;> (repeat' (first | (exact eqA) | (refine shE ?_) | (refine And.intro ?_ ?_)))
  ·have ha2 : ((a.toNat : Nat) : Int) ≥ 16 := by omega
   rw [if_neg (fun c => ha c.2)]
   unfold z23
   simp only
   refine z01 z0B 1 rfl Tryz.func52 rfl rfl rfl ?_
   repeat ((try conv => whnf); first | (refine z1C hl2 ?_) | (refine Exists.intro 0 (And.intro rfl (And.intro h0 ?_))) | (refine Exists.intro _ (And.intro e1.symm ?_)) | (refine z0i ha2 ?_) | (refine And.intro (by kernel_rfl) ?_) | (refine stpQ ?_))
   (refine z00 (by rfl) ?_ ?_ (by rfl)) <;> (repeat' (first | (exact eqA) | (refine shE ?_) | (refine And.intro ?_ ?_))) <;> rfl
 ·have hl2 : ¬ (t.length : Int) = 321 := by omega
  rw [if_neg (fun c => hl c.1)]
  unfold z23
  simp only
  refine z01 z0B 1 rfl Tryz.func52 rfl rfl rfl ?_
  repeat ((try conv => whnf); first | (refine z30 hl2 ?_) | (refine And.intro (by kernel_rfl) ?_) | (refine stpQ ?_))
  (refine z00 (by rfl) ?_ ?_ (by rfl)) <;> (repeat' (first | (exact eqA) | (refine shE ?_) | (refine And.intro ?_ ?_))) <;> rfl
def sa0 : Sa := ⟨0, 0, [], [], 0, [], [], []⟩
def slR (t : Bs) : List T := match z1i t with
 | some x => [.agg (hdE x.1 ++ sgE x.2), .bool true]
 | none => [.agg (saE sa0), .bool false]
theorem zaA (t : Bs) (ht : t.length ≤ 1000000) : CT Tryz.prog 50 [] [.str t] (.tup (slR t)) [] := by
 have c0 := z4R t 0 false (by omega) (Nat.zero_le _)
 have l0 := z1A (t := t) (p := 0) (bad := false) (Nat.zero_le _)
 rw [show z1x t 0 false = z0E t 0 false from rfl] at c0
 unfold slR
 rcases hS : z0E t 0 false with ⟨hb, p, bd⟩
 rw [hS] at c0 l0
 simp only at c0 l0
 have k0 := zay hb (by omega)
 have z : saE sa0 = [.int .i64 0, .int .i64 0, .str [], .str [], .int .i64 0, .sl 1 [], .sl 1 [], .sl 1 []] := rfl
 unfold fldB at c0
 cases bd with
 | true =>
   have hr : z1i t = none := by rw [z1i, hS]
   rw [hr]
   simp only
   rw [z]
   obtain ⟨x1, x2, x3, x4, xb, hR⟩ : ∃ (ho ep : Int) (ro pr : Bs) (ok : Bool), hdR hb = [.agg [.int .i64 ho, .int .i64 ep, .str ro, .str pr], .bool ok] := by
    unfold hdR
    split
    ·exact ⟨_, _, _, _, _, rfl⟩
    ·exact ⟨_, _, _, _, _, rfl⟩
   rw [hR] at k0
   refine z01 z0B 1 rfl Tryz.func50 rfl rfl rfl ?_
   repeat ((try conv => whnf); first | (refine ccB ([_]) (c0) ?_) | (refine ccA ([]) (k0) ?_) | (refine And.intro (by kernel_rfl) ?_) | (refine stpQ ?_))
   (refine z00 (by rfl) ?_ ?_ (by rfl)) <;> (repeat' (first | (exact eqA) | (refine shE ?_) | (refine And.intro ?_ ?_)))
 | false =>
   unfold hdR at k0
   cases hh : z3f hb with
   | none =>
     have hr : z1i t = none := by rw [z1i, hS]; simp only [hh]
     rw [hr]
     rw [hh] at k0
     unfold z2I at k0
     simp only at k0 ⊢
     rw [z]
     refine z01 z0B 1 rfl Tryz.func50 rfl rfl rfl ?_
     repeat ((try conv => whnf); first | (refine ccB ([_]) (c0) ?_) | (refine ccA ([]) (k0) ?_) | (refine And.intro (by kernel_rfl) ?_) | (refine stpQ ?_))
     (refine z00 (by rfl) ?_ ?_ (by rfl)) <;> (repeat' (first | (exact eqA) | (refine shE ?_) | (refine And.intro ?_ ?_)))
   | some h =>
     rw [hh] at k0
     simp only at k0
     have g := (z2M.1 hh).1
     have k1 := z7h (t.drop p) (by simp; omega)
     unfold sgR at k1
     cases hs : z4u (t.drop p) with
     | none =>
       have hr : z1i t = none := by rw [z1i, hS]; simp only [hh, hs]
       rw [hr]
       rw [hs] at k1
       have k2 := z5H ⟨h.ho, h.ep, h.ro, h.pr, 0, [], [], []⟩ ⟨by simp, by simp, by simp⟩ (by simp only [saOk, zan g]; rfl)
       clear hh hs hS hr
       obtain ⟨ho, ep, ro, pr⟩ := h
       unfold saE z2I z23 at k2
       unfold z23 at k1
       unfold hdE at k0
       simp only at k1 k2 ⊢
       rw [z]
       refine z01 z0B 1 rfl Tryz.func50 rfl rfl rfl ?_
       repeat ((try conv => whnf); first | (refine ccB ([_]) (c0) ?_) | (refine ccA ([]) (k0) ?_) | (refine i_le l0.1 ?_) | (refine ccA ([]) (k1) ?_) | (refine ccA ([]) (k2) ?_) | (refine And.intro (by kernel_rfl) ?_) | (refine stpQ ?_))
       (refine z00 (by rfl) ?_ ?_ (by rfl)) <;> (repeat' (first | (exact eqA) | (refine shE ?_) | (refine And.intro ?_ ?_)))
     | some s =>
       have hr : z1i t = some (h, s) := by rw [z1i, hS]; simp only [hh, hs]
       rw [hr]
       rw [hs] at k1
       obtain ⟨-, gs, et⟩ := z3h.1 hr
       have k2 := z3X h s g gs
       rw [← et] at k2
       clear hh hs hS hr et
       obtain ⟨ho, ep, ro, pr⟩ := h
       obtain ⟨a, op, sh, si⟩ := s
       have hq : ¬ t ≠ t := fun c => c rfl
       unfold hdE at k0
       unfold sgE at k1
       simp only at k1
       show CT _ _ _ _ (.tup [.agg [.int .i64 (ho : Int), .int .i64 (ep : Int), .str ro, .str pr, .int .i64 (a : Int), .sl 1 (strE op), .sl 1 (strE sh), .sl 1 (strE si)], .bool true]) _
       change CT _ _ _ [.agg [.int .i64 (ho : Int), .int .i64 (ep : Int), .str ro, .str pr, .int .i64 (a : Int), .sl 1 (strE op), .sl 1 (strE sh), .sl 1 (strE si)]] _ _ at k2
       refine z01 z0B 1 rfl Tryz.func50 rfl rfl rfl ?_
       repeat ((try conv => whnf); first | (refine ccB ([_]) (c0) ?_) | (refine ccA ([]) (k0) ?_) | (refine i_le l0.1 ?_) | (refine ccA ([]) (k1) ?_) | (refine ccA ([]) (k2) ?_) | (refine z1C rfl ?_) | (refine And.intro (by kernel_rfl) ?_) | (refine stpQ ?_))
       (refine z00 (by rfl) ?_ ?_ (by rfl)) <;> (repeat' (first | (exact eqA) | (refine shE ?_) | (refine And.intro ?_ ?_)))
end Go.Proofs.YtgmbkbggnlponaaGreatDoor
