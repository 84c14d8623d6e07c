/- Functions by content: the reference reads heads, signatures and seals of any content; chains. Functions by content: hashes of parts of any length; the root of a pool of any content. -/
import Derived.Test.YtkjjacndfieeoaaGreatDoorCi
import Derived.Test.YtkjjacndfieeoaaGreatDoorSiR
namespace Go.Proofs.YtkjjacndfieeoaaGreatDoor
set_option maxRecDepth 100000
set_option maxHeartbeats 8000000
set_option linter.unusedVariables false
set_option linter.unusedSimpArgs false
set_option linter.unusedSectionVars false
open Go.RowKit Pl
attribute [local irreducible] z0m z0n z0q AnsP LeP
theorem zdz (ho ep : Int) (ro pr : Bs) : CT Tryz.prog 50 [] [.agg (z2A ho ep ro pr)] (.bool (z3z ho ep ro pr)) [] := by
 have c1 := z0U ho 0 2
 have c2 := z0U ep 1 4
 unfold z2A z3z
 generalize inB ho 0 2 = b1 at c1 ⊢
 generalize inB ep 1 4 = b2 at c2 ⊢
 cases b1 with
 | false =>
   rw [Bool.false_and]
   refine z01 z0f 1 rfl Tryz.func50 rfl rfl rfl ?_
   repeat ((try conv => whnf); first | (refine ccA ([]) (c1) ?_) | (refine stpQ ?_))
   (refine z00 (by rfl) ?_ ?_ (by rfl)) <;> (repeat' (first | (exact eqA) | (refine shE ?_) | (refine And.intro ?_ ?_)))
 | true =>
   cases b2 with
   | false =>
     rw [Bool.true_and, Bool.false_and]
     refine z01 z0f 1 rfl Tryz.func50 rfl rfl rfl ?_
     repeat ((try conv => whnf); first | (refine ccA ([]) (c1) ?_) | (refine ccA ([]) (c2) ?_) | (refine stpQ ?_))
     (refine z00 (by rfl) ?_ ?_ (by rfl)) <;> (repeat' (first | (exact eqA) | (refine shE ?_) | (refine And.intro ?_ ?_)))
   | true =>
     rw [Bool.true_and, Bool.true_and]
     by_cases h3 : (ro.length : Int) = 16
     ·rw [decide_eq_true h3, Bool.true_and]
      by_cases h4 : ep = 1
      ·rw [if_pos h4]
       refine z01 z0f 1 rfl Tryz.func50 rfl rfl rfl ?_
       repeat ((try conv => whnf); first | (refine ccA ([]) (c1) ?_) | (refine ccA ([]) (c2) ?_) | (refine stpQ ?_))
       (refine z00 (by rfl) ?_ ?_ (by rfl)) <;> (repeat' (first | (exact eqA) | (refine shE ?_) | (refine And.intro ?_ ?_)))
      ·rw [if_neg h4]
       refine z01 z0f 1 rfl Tryz.func50 rfl rfl rfl ?_
       repeat ((try conv => whnf); first | (refine ccA ([]) (c1) ?_) | (refine ccA ([]) (c2) ?_) | (refine stpQ ?_))
       (refine z00 (by rfl) ?_ ?_ (by rfl)) <;> (repeat' (first | (exact eqA) | (refine shE ?_) | (refine And.intro ?_ ?_)))
     ·rw [decide_eq_false h3, Bool.false_and]
      refine z01 z0f 1 rfl Tryz.func50 rfl rfl rfl ?_
      repeat ((try conv => whnf); first | (refine ccA ([]) (c1) ?_) | (refine ccA ([]) (c2) ?_) | (refine stpQ ?_))
      (refine z00 (by rfl) ?_ ?_ (by rfl)) <;> (repeat' (first | (exact eqA) | (refine shE ?_) | (refine And.intro ?_ ?_)))
theorem z6G (l : List Bs) (n : Int) (h : l.length ≤ 1048576) : CT Tryz.prog 122 [] [.sl 1 (strE l), .int .i64 n] (.bool (wideB l n)) [] := by
 have hl := z0d l
 refine z01 z0f 1 rfl Tryz.func122 rfl rfl rfl ?_
 repeat ((try conv => whnf); first | (refine stpQ ?_))
 refine z11 Nat (fun k => ⟨[(0, .sl 1 (strE l)), (1, .int .i64 n), (5, .int .i64 (k : Int))], [], 1⟩) (fun k => k ≤ l.length ∧ ∀ j, j < k → (pAt l j).length = 16) (fun k => l.length - k) 0 ⟨by omega, fun j hj => by omega⟩ ?_ ?_
 ·(refine z02 (by rfl) ?_ ?_) <;> repeat' (first | (exact eqA) | (refine shE ?_) | (refine And.intro ?_ ?_))
 ·intro Q1 hQ1 k hkk
  have hk := hkk.1
  have hp := hkk.2
  clear hkk
  by_cases hlt : k < l.length
  ·have g := z0v hlt
   by_cases hq : ((pAt l k).length : Int) = 16
   ·have hgo : ∀ j, j < k + 1 → (pAt l j).length = 16 := fun j hj => by
     rcases Nat.lt_or_ge j k with h1 | h1
     ·exact hp j h1
     ·rw [show j = k by omega]; omega
    clear hp
    generalize pAt l k = v at g hq
    repeat ((try conv => whnf); first | (refine Exists.intro l.length (And.intro hl ?_)) | (refine i_at g ?_) | (refine And.intro (by kernel_rfl) ?_) | (refine stpQ ?_))
    refine ⟨k + 1, ⟨by omega, hgo⟩, by omega, ?_⟩
    (refine z02 (by rfl) ?_ ?_) <;> repeat' (first | (exact eqA) | (refine shE ?_) | (refine And.intro ?_ ?_))
   ·have hw : wideB l n = false := by
     cases hx : wideB l n with
     | false => rfl
     | true =>
       simp only [wideB, Bool.and_eq_true, List.all_eq_true, decide_eq_true_eq] at hx
       have := hx.1 l[k] (List.getElem_mem hlt)
       exact absurd (by simpa [pAt, List.getD, List.getElem?_eq_getElem hlt] using this) hq
    clear hp
    generalize pAt l k = v at g hq
    repeat ((try conv => whnf); first | (refine Exists.intro l.length (And.intro hl ?_)) | (refine i_at g ?_) | (refine And.intro (by kernel_rfl) ?_) | (refine stpQ ?_))
    refine hQ1 _ _ ?_
    (try conv => whnf)
    rw [hw]
    (refine z00 (by rfl) ?_ ?_ (by rfl)) <;> repeat' (first | (exact eqA) | (refine shE ?_) | (refine And.intro ?_ ?_))
  ·have hke : k = l.length := by omega
   subst hke
   have hw : wideB l n = decide ((l.length : Int) = n) := by
    have ha : (l.all fun x => decide ((x.length : Int) = 16)) = true := by
     rw [List.all_eq_true]
     intro x hx
     obtain ⟨i, hi, rfl⟩ := List.getElem_of_mem hx
     have := hp i hi
     simp only [pAt, List.getD, List.getElem?_eq_getElem hi, Option.getD_some] at this
     simp; omega
    rw [wideB, ha, Bool.true_and]
   repeat ((try conv => whnf); first | (refine Exists.intro l.length (And.intro hl ?_)) | (refine stpQ ?_))
   refine hQ1 _ _ ?_
   repeat ((try conv => whnf); first | (refine Exists.intro l.length (And.intro hl ?_)) | (refine stpQ ?_))
   rw [hw]
   (refine z00 (by rfl) ?_ ?_ (by rfl)) <;> repeat' (first | (exact eqA) | (refine shE ?_) | (refine And.intro ?_ ?_))
theorem za3 (a : Int) (op sh si : List Bs) (h1 : op.length ≤ 1048576) (h2 : sh.length ≤ 1048576) (h3 : si.length ≤ 1048576) : CT Tryz.prog 84 [] [.agg (z2n a op sh si)] (.bool (z70 a op sh si)) [] := by
 have c1 := z0U a 0 15
 have c2 := z6G op 8 h1
 have c3 := z6G sh 8 h2
 have c4 := z6G si 4 h3
 unfold z70 z2n
 generalize inB a 0 15 = b1 at c1 ⊢
 generalize wideB op 8 = b2 at c2 ⊢
 generalize wideB sh 8 = b3 at c3 ⊢
 generalize wideB si 4 = b4 at c4 ⊢
 refine z01 z0f 1 rfl Tryz.func84 rfl rfl rfl ?_
 cases b1
 ·repeat ((try conv => whnf); first | (refine ccA ([]) (c1) ?_) | (refine stpQ ?_))
  (refine z00 (by rfl) ?_ ?_ (by rfl)) <;> (repeat' (first | (exact eqA) | (refine shE ?_) | (refine And.intro ?_ ?_))) <;> rfl
 cases b2
 ·repeat ((try conv => whnf); first | (refine ccA ([]) (c1) ?_) | (refine ccA ([]) (c2) ?_) | (refine stpQ ?_))
  (refine z00 (by rfl) ?_ ?_ (by rfl)) <;> (repeat' (first | (exact eqA) | (refine shE ?_) | (refine And.intro ?_ ?_))) <;> rfl
 cases b3
 ·repeat ((try conv => whnf); first | (refine ccA ([]) (c1) ?_) | (refine ccA ([]) (c2) ?_) | (refine ccA ([]) (c3) ?_) | (refine stpQ ?_))
  (refine z00 (by rfl) ?_ ?_ (by rfl)) <;> (repeat' (first | (exact eqA) | (refine shE ?_) | (refine And.intro ?_ ?_))) <;> rfl
 cases b4
 ·repeat ((try conv => whnf); first | (refine ccA ([]) (c1) ?_) | (refine ccA ([]) (c2) ?_) | (refine ccA ([]) (c3) ?_) | (refine ccA ([]) (c4) ?_) | (refine stpQ ?_))
  (refine z00 (by rfl) ?_ ?_ (by rfl)) <;> (repeat' (first | (exact eqA) | (refine shE ?_) | (refine And.intro ?_ ?_))) <;> rfl
 ·repeat ((try conv => whnf); first | (refine ccA ([]) (c1) ?_) | (refine ccA ([]) (c2) ?_) | (refine ccA ([]) (c3) ?_) | (refine ccA ([]) (c4) ?_) | (refine stpQ ?_))
  (refine z00 (by rfl) ?_ ?_ (by rfl)) <;> (repeat' (first | (exact eqA) | (refine shE ?_) | (refine And.intro ?_ ?_))) <;> rfl
theorem z2V (l m : List Bs) : strE (l ++ m) = strE l ++ strE m := by simp [strE]
theorem zb4 (s : Sg) (gs : s.good) : CT Tryz.prog 167 [] [.agg (sgE s)] (.tup [.str (sigB s), .bool true]) [] := by
 have hk := z9T gs
 obtain ⟨a, op, sh, si⟩ := s
 obtain ⟨h1, ⟨h2, h3⟩, ⟨h4, h5⟩, h6, h7⟩ := gs
 simp only at h1 h2 h3 h4 h5 h6 h7 hk
 have c1 := za3 (a : Int) op sh si (by omega) (by omega) (by omega)
 rw [hk] at c1
 have hx : (UInt8.ofNat a).toNat = a := by simp [UInt8.toNat_ofNat']; omega
 have l1 := z0d op
 have l2 := z0d sh
 have l3 := z0d si
 have hs : sigB ⟨a, op, sh, si⟩ = [UInt8.ofNat a] ++ (op ++ sh ++ si).flatten := by simp [sigB]
 have hLl : (op ++ sh ++ si).length = 20 := by simp only [List.length_append]; omega
 have hLw : ∀ x ∈ op ++ sh ++ si, x.length = 16 := fun x hx => by
  simp only [List.mem_append] at hx
  rcases hx with (hx | hx) | hx
  ·exact h3 x hx
  ·exact h5 x hx
  ·exact h7 x hx
 have hLe : strE op ++ strE sh ++ strE si = strE (op ++ sh ++ si) := by rw [z2V, z2V]
 rw [hs]
 clear hs hk
 generalize hL : op ++ sh ++ si = L at hLl hLw hLe ⊢
 have hll := z0d L
 show CT _ _ _ [.agg [.int .i64 (a : Int), .sl 1 (strE op), .sl 1 (strE sh), .sl 1 (strE si)]] _ _
 unfold z2n at c1
 refine z01 z0f 1 rfl Tryz.func167 rfl rfl rfl ?_
 repeat ((try conv => whnf); first | (refine ccA ([]) (c1) ?_) | (refine w_u8 ?_) | (refine Exists.intro [UInt8.ofNat a] (And.intro rfl ?_)) | (refine And.intro (by simp only [List.length_append, List.length_cons, List.length_nil, List.nil_append, List.length_set, List.length_replicate]; omega) ?_) | (refine And.intro (by kernel_rfl) ?_) | (refine stpQ ?_))
 refine z0i 0 ⟨[(4, .str ([UInt8.ofNat a] ++ L.flatten))], [], 1⟩ Nat (fun i => ⟨[(4, .str ([UInt8.ofNat a] ++ (L.take i).flatten)), (5, .sl 1 (strE L)), (6, .int .i64 (i : Int))], [], 1⟩) (fun i => i ≤ L.length) (fun i => L.length - i) 0 (by omega) ?_ ?_ ?_
 ·(refine z02 (by rfl) ?_ ?_) <;> (repeat' (first | (exact eqA) | (refine shE ?_) | (refine And.intro ?_ ?_)))
  all_goals first
   | rfl
   | exact hLe
   | exact congrArg (fun z => some (Ent.row 1 z)) hLe
   | (simp; done)
 ·intro i hi
  by_cases hlt : i < L.length
  ·have g := z0v hlt
   have hw := hLw _ (List.getElem_mem hlt)
   have hnx : (L.take (i + 1)).flatten = (L.take i).flatten ++ pAt L i := by
    rw [List.take_succ_eq_append_getElem hlt, List.flatten_append]
    simp [pAt, List.getD, List.getElem?_eq_getElem hlt]
   have hpl : (pAt L i).length = 16 := by simpa [pAt, List.getD, List.getElem?_eq_getElem hlt] using hw
   have hfl : ((L.take i).flatten).length ≤ 1000 := by
    have := z2J (l := L.take i) (fun x hx => hLw x (List.mem_of_mem_take hx))
    rw [this, List.length_take]
    omega
   generalize pAt L i = v at g hnx hpl
   generalize (L.take i).flatten = u at hnx hfl ⊢
   repeat ((try conv => whnf); first | (refine Exists.intro L.length (And.intro hll ?_)) | (refine i_at g ?_) | (refine And.intro (by simp only [List.length_append, List.length_cons, List.length_nil, List.length_set, List.length_replicate]; omega) ?_) | (refine And.intro (by kernel_rfl) ?_) | (refine stpQ ?_))
   refine ⟨i + 1, by omega, by omega, ?_⟩
   rw [hnx]
   (refine z02 (by rfl) ?_ ?_) <;> (repeat' (first | (exact eqA) | (refine shE ?_) | (refine And.intro ?_ ?_)))
   all_goals simp
  ·obtain rfl : i = L.length := by omega
   rw [List.take_length]
   repeat ((try conv => whnf); first | (refine Exists.intro L.length (And.intro hll ?_)) | (refine stpQ ?_))
   (refine z02 (by rfl) ?_ ?_) <;> (repeat' (first | (exact eqA) | (refine shE ?_) | (refine And.intro ?_ ?_)))
 ·repeat ((try conv => whnf); first | (refine stpQ ?_))
  (refine z00 (by rfl) ?_ ?_ (by rfl)) <;> (repeat' (first | (exact eqA) | (refine shE ?_) | (refine And.intro ?_ ?_)))
theorem za4 (h : Hd) (s : Sg) (g : h.good) (gs : s.good) : CT Tryz.prog 132 [] [.agg (hdE h ++ sgE s)] (.tup [.str (z1C h s), .bool true]) [] := by
 have c1 := z6F h g
 have c2 := zb4 s gs
 have hl := z1U g
 have hs := z4p gs
 have c3 := z7w (z0T h).length (by omega)
 have hv := z5n (n := (z0T h).length) (by omega)
 have e : z1C h s = z0e (z0T h).length ++ z0T h ++ sigB s := rfl
 rw [e]
 clear e g gs
 generalize z0T h = A at c1 c3 hl hv ⊢
 generalize sigB s = B at c2 hs ⊢
 generalize z0e A.length = C at c3 hv ⊢
 obtain ⟨ho, ep, ro, pr⟩ := h
 obtain ⟨a, op, sh, si⟩ := s
 unfold hdE at c1
 unfold sgE at c2
 show CT _ _ _ [.agg [.int .i64 (ho : Int), .int .i64 (ep : Int), .str ro, .str pr, .int .i64 (a : Int), .sl 1 (strE op), .sl 1 (strE sh), .sl 1 (strE si)]] _ _
 refine z01 z0f 1 rfl Tryz.func132 rfl rfl rfl ?_
 repeat ((try conv => whnf); first | (refine ccA ([]) (c1) ?_) | (refine ccA ([]) (c2) ?_) | (refine ccA ([]) (c3) ?_) | (refine And.intro (by simp only [List.length_append]; omega) ?_) | (refine And.intro (by kernel_rfl) ?_) | (refine stpQ ?_))
 (refine z00 (by rfl) ?_ ?_ (by rfl)) <;> (repeat' (first | (exact eqA) | (refine shE ?_) | (refine And.intro ?_ ?_)))
theorem zhb (l : List (Hd × Sg)) (h : l.length ≤ 10) : CT Tryz.prog 130 [] [.sl 8 (slE l)] (.ref 1) [.row 4 (hdsE (l.map fun x => x.1))] := by
 have hl := z0B l
 refine z01 z0f 1 rfl Tryz.func130 rfl rfl rfl ?_
 repeat ((try conv => whnf); first | (refine stpQ ?_))
 refine z0i 0 ⟨[(3, .ref 1)], [(1, some (.row 4 (hdsE (l.map fun x => x.1))))], 2⟩ Nat (fun k => ⟨[(0, .sl 8 (slE l)), (3, .ref 1), (4, .int .i64 (k : Int))], [(1, some (.row 4 (hdsE ((l.take k).map fun x => x.1))))], 2⟩) (fun k => k ≤ l.length) (fun k => l.length - k) 0 (by omega) ?_ ?_ ?_
 ·(refine z02 (by rfl) ?_ ?_) <;> (repeat' (first | (exact eqA) | (refine shE ?_) | (refine And.intro ?_ ?_))) <;> first | rfl | decide
 ·intro k hk
  by_cases hlt : k < l.length
  ·have g := zfD hlt
   have hnx : (l.take (k + 1)).map (fun x => x.1) = (l.take k).map (fun x => x.1) ++ [l[k].1] := by rw [List.take_succ_eq_append_getElem hlt, List.map_append]; rfl
   have hol : (hdsE ((l.take k).map fun x => x.1)).length ≤ 10 := by simp [hdsE]; omega
   generalize (l.take k).map (fun x => x.1) = o at hnx hol ⊢
   generalize l[k] = x at g hnx
   obtain ⟨⟨a, b, c, d⟩, ⟨a2, b2, c2, d2⟩⟩ := x
   unfold hdE sgE at g
   repeat ((try conv => whnf); first | (refine Exists.intro l.length (And.intro hl ?_)) | (refine i_at g ?_) | (refine And.intro (by simp only [List.length_append, List.length_cons, List.length_nil, List.length_set, List.length_replicate]; omega) ?_) | (refine And.intro (by kernel_rfl) ?_) | (refine stpQ ?_))
   refine ⟨k + 1, by omega, by omega, ?_⟩
   rw [hnx, zcv]
   (refine z02 (by rfl) ?_ ?_) <;> (repeat' (first | (exact eqA) | (refine shE ?_) | (refine And.intro ?_ ?_)))
   all_goals rfl
  ·obtain rfl : k = l.length := by omega
   rw [List.take_length]
   repeat ((try conv => whnf); first | (refine Exists.intro l.length (And.intro hl ?_)) | (refine stpQ ?_))
   (refine z02 (by rfl) ?_ ?_) <;> (repeat' (first | (exact eqA) | (refine shE ?_) | (refine And.intro ?_ ?_)))
 ·repeat ((try conv => whnf); first | (refine stpQ ?_))
  (refine z00 (by rfl) ?_ ?_ (by rfl)) <;> (repeat' (first | (exact eqA) | (refine shE ?_) | (refine And.intro ?_ ?_)))
theorem zdA (ho : Nat) (l : List Hd) (c : z6Z ho l) : CT Tryz.prog 165 [] [.sl 4 (hdsE l), .int .i64 (ho : Int)] (.bool true) [] := by
 have hlen := z5w l
 have h4 := z3l c
 refine z01 z0f 1 rfl Tryz.func165 rfl rfl rfl ?_
 repeat ((try conv => whnf); first | (refine stpQ ?_))
 refine z0i 0 ⟨[], [], 1⟩ Nat (fun k => ⟨[(0, .sl 4 (hdsE l)), (1, .int .i64 (ho : Int)), (5, .int .i64 (k : Int))], [], 1⟩) (fun k => k ≤ l.length) (fun k => l.length - k) 0 (by omega) ?_ ?_ ?_
 ·(refine z02 (by rfl) ?_ ?_) <;> (repeat' (first | (exact eqA) | (refine shE ?_) | (refine And.intro ?_ ?_)))
 ·intro k hk
  by_cases hlt : k < l.length
  ·have g := z4u hlt
   have ck := c k hlt
   have c1 := z4v _ ck.1
   have hep := zh3 c hlt
   rcases Nat.eq_zero_or_pos k with hk0 | hk0
   ·subst hk0
    generalize l[0] = x at g c1 hep
    clear ck
    obtain ⟨a, b, x3, d⟩ := x
    obtain ⟨rfl, rfl⟩ := hep
    unfold hdE at g c1
    repeat ((try conv => whnf); first | (refine Exists.intro l.length (And.intro hlen ?_)) | (refine i_at g ?_) | (refine ccA ([]) (c1) ?_) | (refine And.intro (by kernel_rfl) ?_) | (refine stpQ ?_))
    refine ⟨0 + 1, by omega, by omega, ?_⟩
    (refine z02 (by rfl) ?_ ?_) <;> (repeat' (first | (exact eqA) | (refine shE ?_) | (refine And.intro ?_ ?_)))
   ·have hlt1 : k - 1 < l.length := by omega
    have g1 := z4u hlt1
    have c2 := z2U _ (c (k - 1) hlt1).1
    have hpr : l[k].pr = z1G l[k - 1] := by
     have h1 := congrArg Hd.pr ck.2
     rw [h1]
     show z2T (l.take k) = _
     have hl2 : 0 < (l.take k).length := by simp; omega
     rw [z4t hl2, List.getElem_take]
     congr 1
     congr 1
     simp
     omega
    have hk1 : (k : Int) > 0 := by omega
    have e1 : IntKind.i64.wrap ((k : Int) - 1) = ((k - 1 : Nat) : Int) := by rw [wrap_i64 (by omega) (by omega)]; omega
    rw [← hpr] at c2
    generalize l[k] = x at g c1 hep c2
    generalize l[k - 1] = y at g1 c2
    clear ck hpr
    obtain ⟨a, b, x3, d⟩ := x
    obtain ⟨ya, yb, y3, yd⟩ := y
    obtain ⟨rfl, rfl⟩ := hep
    unfold hdE at g c1 g1 c2
    generalize k - 1 = k1 at g1 e1
    repeat ((try conv => whnf); first | (refine Exists.intro l.length (And.intro hlen ?_)) | (refine i_at g ?_) | (refine Exists.intro _ (And.intro e1.symm ?_)) | (refine i_at g1 ?_) | (refine ccA ([]) (c1) ?_) | (refine ccA ([]) (c2) ?_) | (refine z0F rfl ?_) | (refine And.intro (by kernel_rfl) ?_) | (refine stpQ ?_))
    refine ⟨k + 1, by omega, by omega, ?_⟩
    (refine z02 (by rfl) ?_ ?_) <;> (repeat' (first | (exact eqA) | (refine shE ?_) | (refine And.intro ?_ ?_)))
  ·obtain rfl : k = l.length := by omega
   repeat ((try conv => whnf); first | (refine Exists.intro l.length (And.intro hlen ?_)) | (refine stpQ ?_))
   (refine z02 (by rfl) ?_ ?_) <;> (repeat' (first | (exact eqA) | (refine shE ?_) | (refine And.intro ?_ ?_)))
 ·repeat ((try conv => whnf); first | (refine stpQ ?_))
  (refine z00 (by rfl) ?_ ?_ (by rfl)) <;> (repeat' (first | (exact eqA) | (refine shE ?_) | (refine And.intro ?_ ?_)))
theorem zb5 (ho : Nat) (hho : ho ≤ 2) (l : List Hd) (c : z6Z ho l) (ro : Bs) : CT Tryz.prog 129 [] [.sl 4 (hdsE l), .int .i64 (ho : Int), .str ro] (.tup (nhR ho l ro)) [] := by
 have h4 := z3l c
 have hlen := z5w l
 have c1 := zdA ho l c
 have c3 := zdz (ho : Int) ((l.length + 1 : Nat) : Int) ro (z2T l)
 have hx : hdE (z1u ho l ro) = z2A (ho : Int) ((l.length + 1 : Nat) : Int) ro (z2T l) := rfl
 have hv : z3z (ho : Int) ((l.length + 1 : Nat) : Int) ro (z2T l) = decide (l.length < 4 ∧ ro.length = 16) := by
  cases h : z3z (ho : Int) ((l.length + 1 : Nat) : Int) ro (z2T l) with
  | false =>
    rw [eq_comm, decide_eq_false_iff_not]
    intro hc
    have := z9S (h := z1u ho l ro) (z2L hho hc.1 hc.2)
    change z3z (ho : Int) ((l.length + 1 : Nat) : Int) ro (z2T l) = true at this
    rw [h] at this
    cases this
  | true =>
    have g : (z1u ho l ro).good := z8I (h := z1u ho l ro) h
    exact (decide_eq_true ((z3G hho).1 g)).symm
 rw [hv] at c3
 unfold nhR
 rw [hx]
 unfold z2A at c3 ⊢
 rcases Nat.eq_zero_or_pos l.length with h0 | h0
 ·have : l = [] := List.length_eq_zero_iff.1 h0
  subst this
  by_cases hc : ([] : List Hd).length < 4 ∧ ro.length = 16
  ·rw [if_pos hc]
   rw [decide_eq_true hc] at c3
   change CT _ _ _ [.agg [.int .i64 (ho : Int), .int .i64 ((0 + 1 : Nat) : Int), .str ro, .str []]] _ _ at c3
   show CT _ _ _ _ (.tup [.agg [.int .i64 (ho : Int), .int .i64 ((0 + 1 : Nat) : Int), .str ro, .str []], .bool true]) _
   refine z01 z0f 1 rfl Tryz.func129 rfl rfl rfl ?_
   repeat ((try conv => whnf); first | (refine Exists.intro 0 (And.intro rfl ?_)) | (refine ccA ([]) (c1) ?_) | (refine ccA ([]) (c3) ?_) | (refine And.intro (by kernel_rfl) ?_) | (refine stpQ ?_))
   (refine z00 (by rfl) ?_ ?_ (by rfl)) <;> (repeat' (first | (exact eqA) | (refine shE ?_) | (refine And.intro ?_ ?_)))
  ·rw [if_neg hc]
   rw [decide_eq_false hc] at c3
   change CT _ _ _ [.agg [.int .i64 (ho : Int), .int .i64 ((0 + 1 : Nat) : Int), .str ro, .str []]] _ _ at c3
   refine z01 z0f 1 rfl Tryz.func129 rfl rfl rfl ?_
   repeat ((try conv => whnf); first | (refine Exists.intro 0 (And.intro rfl ?_)) | (refine ccA ([]) (c1) ?_) | (refine ccA ([]) (c3) ?_) | (refine And.intro (by kernel_rfl) ?_) | (refine stpQ ?_))
   (refine z00 (by rfl) ?_ ?_ (by rfl)) <;> (repeat' (first | (exact eqA) | (refine shE ?_) | (refine And.intro ?_ ?_)))
 ·have hlt : l.length - 1 < l.length := by omega
  have g := z4u hlt
  have c2 := z2U _ (c _ hlt).1
  have hp := z4t h0
  rw [hp] at c3 ⊢
  have e1 : IntKind.i64.wrap ((l.length : Int) - 1) = ((l.length - 1 : Nat) : Int) := by rw [wrap_i64 (by omega) (by omega)]; omega
  have h1 : (l.length : Int) > 0 := by omega
  clear hv hx
  generalize z1G l[l.length - 1] = R at c2 c3 ⊢
  generalize l[l.length - 1] = x at g c2
  obtain ⟨a, b, x3, d⟩ := x
  unfold hdE at g c2
  by_cases hc : l.length < 4 ∧ ro.length = 16
  ·rw [if_pos hc]
   rw [decide_eq_true hc] at c3
   refine z01 z0f 1 rfl Tryz.func129 rfl rfl rfl ?_
   repeat ((try conv => whnf); first | (refine Exists.intro l.length (And.intro hlen ?_)) | (refine Exists.intro _ (And.intro e1.symm ?_)) | (refine i_at g ?_) | (refine ccA ([]) (c1) ?_) | (refine ccA ([]) (c2) ?_) | (refine ccA ([]) (c3) ?_) | (refine And.intro (by kernel_rfl) ?_) | (refine stpQ ?_))
   (refine z00 (by rfl) ?_ ?_ (by rfl)) <;> (repeat' (first | (exact eqA) | (refine shE ?_) | (refine And.intro ?_ ?_)))
  ·rw [if_neg hc]
   rw [decide_eq_false hc] at c3
   refine z01 z0f 1 rfl Tryz.func129 rfl rfl rfl ?_
   repeat ((try conv => whnf); first | (refine Exists.intro l.length (And.intro hlen ?_)) | (refine Exists.intro _ (And.intro e1.symm ?_)) | (refine i_at g ?_) | (refine ccA ([]) (c1) ?_) | (refine ccA ([]) (c2) ?_) | (refine ccA ([]) (c3) ?_) | (refine And.intro (by kernel_rfl) ?_) | (refine stpQ ?_))
   (refine z00 (by rfl) ?_ ?_ (by rfl)) <;> (repeat' (first | (exact eqA) | (refine shE ?_) | (refine And.intro ?_ ?_)))
theorem zdB (n : Nat) (h : n ≤ 2) : CT Tryz.prog 17 [] [.int .i64 (n : Int)] (.str [UInt8.ofNat (48 + n)]) [] := by
 rcases Nat.eq_zero_or_pos n with h0 | h0
 ·subst h0
  refine z01 z0A 1 rfl Tryz.func17 rfl rfl rfl ?_
  repeat ((try conv => whnf); first | (refine stpQ ?_))
  (refine z00 (by rfl) ?_ ?_ (by rfl)) <;> (repeat' (first | (exact eqA) | (refine shE ?_) | (refine And.intro ?_ ?_))) <;> rfl
 ·have cF : CT Tryz.prog 47 [] [.int .i64 (n : Int)] (.int .u8 ((UInt8.ofNat (48 + n)).toNat : Int)) [] := by
   have hx : (UInt8.ofNat (48 + n)).toNat = 48 + n := by simp [UInt8.toNat_ofNat']; omega
   have e1 : IntKind.i64.wrap (48 + (n : Int)) = ((48 + n : Nat) : Int) := by rw [wrap_i64 (by omega) (by omega)]; omega
   have e2 : IntKind.u8.wrap ((48 + n : Nat) : Int) = ((48 + n : Nat) : Int) := by
    show ((48 + n : Nat) : Int) % 256 = _
    omega
   rw [hx]
   refine z01 z0A 1 rfl Tryz.func47 rfl rfl rfl ?_
   repeat ((try conv => whnf); first | (refine Exists.intro _ (And.intro e1.symm ?_)) | (refine Exists.intro _ (And.intro e2.symm ?_)) | (refine stpQ ?_))
   (refine z00 (by rfl) ?_ ?_ (by rfl)) <;> (repeat' (first | (exact eqA) | (refine shE ?_) | (refine And.intro ?_ ?_)))
  have hr1 : Int.tmod (n : Int) 10 = (n : Int) := by rcases (show n = 1 ∨ n = 2 by omega) with rfl | rfl <;> rfl
  have hd1 : IntKind.i64.wrap (Int.tdiv (n : Int) 10) = 0 := by rcases (show n = 1 ∨ n = 2 by omega) with rfl | rfl <;> rfl
  have hne : ¬ (n : Int) = 0 := by omega
  have hnn : ¬ (n : Int) < 0 := by omega
  refine z01 z0A 1 rfl Tryz.func17 rfl rfl rfl ?_
  repeat ((try conv => whnf); first | (refine stpQ ?_))
  refine z0i 0 ⟨[(3, .bool false), (4, .str [UInt8.ofNat (48 + n)])], [], 1⟩ Bool (fun b => ⟨[(0, .int .i64 (bif b then 0 else (n : Int))), (3, .bool false), (4, .str (bif b then [UInt8.ofNat (48 + n)] else []))], [], 1⟩) (fun _ => True) (fun b => bif b then 0 else 1) false trivial ?_ ?_ ?_
  ·(refine z02 (by rfl) ?_ ?_) <;> (repeat' (first | (exact eqA) | (refine shE ?_) | (refine And.intro ?_ ?_))) <;> first | rfl | decide | (simp; omega)
  ·intro b _
   cases b with
   | true =>
     simp only [cond_true]
     repeat ((try conv => whnf); first | (refine stpQ ?_))
     (refine z02 (by rfl) ?_ ?_) <;> (repeat' (first | (exact eqA) | (refine shE ?_) | (refine And.intro ?_ ?_)))
   | false =>
     simp only [cond_false]
     repeat ((try conv => whnf); first | (refine ccA ([]) (cF) ?_) | (refine Exists.intro _ (And.intro hr1.symm ?_)) | (refine Exists.intro _ (And.intro hd1.symm ?_)) | (refine Exists.intro [UInt8.ofNat (48 + n)] (And.intro rfl ?_)) | (refine And.intro (by simp) ?_) | (refine And.intro (by kernel_rfl) ?_) | (refine stpQ ?_))
     refine ⟨true, trivial, by decide, ?_⟩
     simp only [cond_true]
     (refine z02 (by rfl) ?_ ?_) <;> (repeat' (first | (exact eqA) | (refine shE ?_) | (refine And.intro ?_ ?_)))
     all_goals rfl
  ·repeat ((try conv => whnf); first | (refine stpQ ?_))
   (refine z00 (by rfl) ?_ ?_ (by rfl)) <;> (repeat' (first | (exact eqA) | (refine shE ?_) | (refine And.intro ?_ ?_)))
theorem za5 (n : Nat) (h : n ≤ 2) : CT Tryz.prog 91 [] [.int .i64 (n : Int)] (.str (z0j n)) [] := by
 have c0 := zdB n h
 have c1 := z8M (x := (n : Int)) (lo := 0) (hi := 2) (by omega)
 show CT _ _ _ _ (.str ([104, 111, 117, 115, 101] ++ [UInt8.ofNat (48 + n)])) _
 refine z01 z0A 1 rfl Tryz.func91 rfl rfl rfl ?_
 repeat ((try conv => whnf); first | (refine ccA ([]) (c1) ?_) | (refine ccA ([]) (c0) ?_) | (refine And.intro (by simp) ?_) | (refine stpQ ?_))
 (refine z00 (by rfl) ?_ ?_ (by rfl)) <;> (repeat' (first | (exact eqA) | (refine shE ?_) | (refine And.intro ?_ ?_)))
end Go.Proofs.YtkjjacndfieeoaaGreatDoor
namespace Go.Proofs.YtkjjacndfieeoaaGreatDoor
set_option maxRecDepth 100000
set_option maxHeartbeats 4000000
set_option linter.unusedVariables false
set_option linter.unusedSimpArgs false
set_option linter.unusedSectionVars false
open Go.RowKit Pl
attribute [local irreducible] z0m z0n z0q AnsP LeP
instance partsDec (ps : List Bs) : Decidable (z0Q ps) := by unfold z0Q; exact inferInstance
def z3A (k : Nat) (ps : List Bs) (w : Nat) : Bs := if z0Q ps then z1a k ps w else []
def upA (l : List Bs) (n : Nat) : List Bs := (List.range n).map fun i => z3A 3 [pAt l (2 * i), pAt l (2 * i + 1)] 16
theorem zb6 (l : List Bs) (n : Nat) : (upA l n).length = n := by simp [upA]
theorem zcy (l : List Bs) (n : Nat) : upA l (n + 1) = upA l n ++ [z3A 3 [pAt l (2 * n), pAt l (2 * n + 1)] 16] := by simp [upA, List.range_succ]
def lvlA (l : List Bs) : Nat → List Bs
 | 0 => l
 | j + 1 => upA (lvlA l j) ((lvlA l j).length / 2)
theorem z8N : ∀ (ps : List Bs), (¬ ∀ p ∈ ps, p.length ≤ 200) → ∃ j, j < ps.length ∧ 200 < (pAt ps j).length ∧ ∀ p ∈ ps.take j, p.length ≤ 200
 | [], h => absurd (fun p hp => by cases hp) h
 | p :: ps, h => by
   by_cases hp : p.length ≤ 200
   ·obtain ⟨j, h1, h2, h3⟩ := z8N ps (fun hx => h (fun q hq => by
     rcases List.mem_cons.1 hq with rfl | hq
     ·exact hp
     ·exact hx q hq))
    refine ⟨j + 1, by simp; omega, by simpa [pAt] using h2, fun q hq => ?_⟩
    rw [List.take_succ_cons, List.mem_cons] at hq
    rcases hq with rfl | hq
    ·exact hp
    ·exact h3 q hq
   ·exact ⟨0, by simp, by simp [pAt]; omega, fun q hq => by simp at hq⟩
theorem zcz {ps : List Bs} {i j : Nat} (h : i < j) : pAt (ps.take j) i = pAt ps i := by
 simp only [pAt, List.getD, List.getElem?_take, if_pos h]
theorem zdC (k : Nat) (ps : List Bs) (hk : 1 ≤ k ∧ k ≤ 8) (hl60 : ps.length ≤ 60) (hn : ¬ z0Q ps) : CT Tryz.prog 175 [] [.int .i64 (k : Int), .sl 1 (strE ps)] (.tup [.str [], .bool false]) [] := by
 have hlen := z0d ps
 obtain ⟨j, hj, hj2, hj3⟩ := z8N ps (fun h => hn ⟨hl60, h⟩)
 have c1 : CT Tryz.prog 28 [] [.int .i64 (k : Int), .int .i64 1, .int .i64 8] (.bool true) [] := by
  have := c_in (k : Int) 1 8
  rwa [z0u.2 (by omega)] at this
 have hqo : z0Q (ps.take j) := ⟨by rw [List.length_take]; omega, hj3⟩
 have hql : (ps.take j).length = j := by rw [List.length_take]; omega
 have hqp : ∀ i, i < j → pAt (ps.take j) i = pAt ps i := fun i h => zcz h
 generalize ps.take j = qs at hqo hql hqp
 refine z01 z0A 1 rfl Tryz.func175 rfl rfl rfl ?_
 repeat ((try conv => whnf); first | (refine ccA ([]) (c1) ?_) | (refine Exists.intro ps.length (And.intro hlen ?_)) | (refine w_u8 ?_) | (refine stpQ ?_))
 refine z11 Nat (fun i => ⟨[(6, .ref 1), (20, .sl 1 (strE ps)), (21, .int .i64 (ps.length : Int)), (22, .int .i64 (i : Int))], [(1, some (.row 1 (z0h (z2p k qs i))))], 2⟩) (fun i => i ≤ j) (fun i => j - i) 0 (by omega) ?_ ?_
 ·(refine z02 (by rfl) ?_ ?_) <;> (repeat' (first | (exact eqA) | (refine shE ?_) | (refine And.intro ?_ ?_))) <;> first | rfl | decide
 ·intro Q1 hQ1 i hi
  have hlt0 : i < ps.length := by omega
  have hlt1 : (i : Int) < (ps.length : Int) := by omega
  have g := z0v hlt0
  by_cases hlt : i < j
  ·have hnx := z2H (k := k) (ps := qs) (i := i) (by omega)
   have hw := z2l (k := k) hqo i
   have hpl := z9I hqo i
   rw [hqp i hlt] at hnx hpl
   have cs := z3S (pAt ps i) (by omega)
   have hsl := z25 (l := pAt ps i) (by omega)
   generalize z2p k qs i = o at hnx hw ⊢
   generalize pAt ps i = v at g cs hsl hnx hpl
   have hbl := z0y o
   have hb2 := z0y (z0p v)
   repeat ((try conv => whnf); first | (refine i_at g ?_) | (refine ccA ([]) (cs) ?_) | (refine And.intro (by rw [List.length_append, hbl, hb2]; omega) ?_) | (refine stpQ ?_))
   refine ⟨i + 1, by omega, by omega, ?_⟩
   rw [hnx]
   (refine z02 (by rfl) ?_ ?_) <;> (repeat' (first | (exact eqA) | (refine shE ?_) | (refine And.intro ?_ ?_)))
   simp [z0h]
  ·have hie : i = j := by omega
   subst hie
   generalize pAt ps i = v at g hj2
   have hv : (v.length : Int) > 200 := by omega
   repeat ((try conv => whnf); first | (refine i_at g ?_) | (refine stpQ ?_))
   refine hQ1 _ _ ?_
   (try conv => whnf)
   (refine z00 (by rfl) ?_ ?_ (by rfl)) <;> (repeat' (first | (exact eqA) | (refine shE ?_) | (refine And.intro ?_ ?_)))
theorem zdD (k : Nat) (ps : List Bs) (w : Nat) (hk : 1 ≤ k ∧ k ≤ 8) (hl60 : ps.length ≤ 60) (hw : 1 ≤ w ∧ w ≤ 32) : CT Tryz.prog 140 [] [.int .i64 (k : Int), .sl 1 (strE ps), .int .i64 (w : Int)] (.str (z3A k ps w)) [] := by
 unfold z3A
 by_cases hp : z0Q ps
 ·rw [if_pos hp]; exact z6p k ps w hk hp hw
 ·rw [if_neg hp]
  have c1 := zdC k ps hk hl60 hp
  refine z01 z0A 1 rfl Tryz.func140 rfl rfl rfl ?_
  repeat ((try conv => whnf); first | (refine ccA ([]) (c1) ?_) | (refine stpQ ?_))
  (refine z00 (by rfl) ?_ ?_ (by rfl)) <;> (repeat' (first | (exact eqA) | (refine shE ?_) | (refine And.intro ?_ ?_)))
theorem zfM (k : Nat) (ps : List Bs) (w : Nat) (hk : 1 ≤ k ∧ k ≤ 8) (hl60 : ps.length ≤ 60) (hw : 1 ≤ w ∧ w ≤ 32) : CT Tryz.prog 150 [] [.int .i64 (k : Int), .int .i64 (w : Int), .sl 1 (strE ps)] (.str (z3A k ps w)) [] := by
 have c1 := zdD k ps w hk hl60 hw
 refine z01 z0A 1 rfl Tryz.func150 rfl rfl rfl ?_
 repeat ((try conv => whnf); first | (refine ccA ([]) (c1) ?_) | (refine stpQ ?_))
 (refine z00 (by rfl) ?_ ?_ (by rfl)) <;> (repeat' (first | (exact eqA) | (refine shE ?_) | (refine And.intro ?_ ?_)))
theorem zb7 (k : Nat) (ps : List Bs) (hk : 1 ≤ k ∧ k ≤ 8) (hl60 : ps.length ≤ 60) (hn : ¬ z0Q ps) : CT Tryz.prog 121 [] [.int .i64 (k : Int), .sl 1 (strE ps)] (.tup [.str [], .bool false]) [] := by
 have hlen := z0d ps
 obtain ⟨j, hj, hj2, hj3⟩ := z8N ps (fun h => hn ⟨hl60, h⟩)
 have c1 : CT Tryz.prog 42 [] [.int .i64 (k : Int), .int .i64 1, .int .i64 8] (.bool true) [] := by
  have := z0U (k : Int) 1 8
  rwa [z0u.2 (by omega)] at this
 have hqo : z0Q (ps.take j) := ⟨by rw [List.length_take]; omega, hj3⟩
 have hql : (ps.take j).length = j := by rw [List.length_take]; omega
 have hqp : ∀ i, i < j → pAt (ps.take j) i = pAt ps i := fun i h => zcz h
 generalize ps.take j = qs at hqo hql hqp
 refine z01 z0A 1 rfl Tryz.func121 rfl rfl rfl ?_
 repeat ((try conv => whnf); first | (refine ccA ([]) (c1) ?_) | (refine Exists.intro ps.length (And.intro hlen ?_)) | (refine w_u8 ?_) | (refine Exists.intro [UInt8.ofNat k] (And.intro rfl ?_)) | (refine stpQ ?_))
 refine z11 Nat (fun i => ⟨[(1, .sl 1 (strE ps)), (6, .str (z2p k qs i)), (7, .int .i64 (i : Int))], [], 1⟩) (fun i => i ≤ j) (fun i => j - i) 0 (by omega) ?_ ?_
 ·(refine z02 (by rfl) ?_ ?_) <;> (repeat' (first | (exact eqA) | (refine shE ?_) | (refine And.intro ?_ ?_))) <;> first | rfl | decide
 ·intro Q1 hQ1 i hi
  have hlt0 : i < ps.length := by omega
  have hlt1 : (i : Int) < (ps.length : Int) := by omega
  have g := z0v hlt0
  by_cases hlt : i < j
  ·have hnx := z2H (k := k) (ps := qs) (i := i) (by omega)
   have hw := z2l (k := k) hqo i
   have hpl := z9I hqo i
   rw [hqp i hlt] at hnx hpl
   have cs := z7w (pAt ps i).length (by omega)
   have hvl := z5n (n := (pAt ps i).length) (by omega)
   have hsh : z0p (pAt ps i) = z0e (pAt ps i).length ++ pAt ps i := rfl
   rw [hsh] at hnx
   generalize z2p k qs i = o at hnx hw ⊢
   generalize pAt ps i = x at g cs hvl hnx hpl
   generalize z0e x.length = v at cs hvl hnx
   repeat ((try conv => whnf); first | (refine Exists.intro ps.length (And.intro hlen ?_)) | (refine i_at g ?_) | (refine ccA ([]) (cs) ?_) | (refine And.intro (by rw [List.length_append]; omega) ?_) | (refine And.intro (by kernel_rfl) ?_) | (refine stpQ ?_))
   refine ⟨i + 1, by omega, by omega, ?_⟩
   rw [hnx]
   (refine z02 (by rfl) ?_ ?_) <;> (repeat' (first | (exact eqA) | (refine shE ?_) | (refine And.intro ?_ ?_)))
   rw [List.append_assoc]
  ·have hie : i = j := by omega
   subst hie
   generalize pAt ps i = v at g hj2
   have hv : (v.length : Int) > 200 := by omega
   repeat ((try conv => whnf); first | (refine Exists.intro ps.length (And.intro hlen ?_)) | (refine i_at g ?_) | (refine stpQ ?_))
   refine hQ1 _ _ ?_
   (try conv => whnf)
   (refine z00 (by rfl) ?_ ?_ (by rfl)) <;> (repeat' (first | (exact eqA) | (refine shE ?_) | (refine And.intro ?_ ?_)))
theorem zb8 (k : Nat) (ps : List Bs) (w : Nat) (hk : 1 ≤ k ∧ k ≤ 8) (hl60 : ps.length ≤ 60) (hw : 1 ≤ w ∧ w ≤ 32) : CT Tryz.prog 83 [] [.int .i64 (k : Int), .sl 1 (strE ps), .int .i64 (w : Int)] (.str (z3A k ps w)) [] := by
 unfold z3A
 by_cases hp : z0Q ps
 ·rw [if_pos hp]; exact z1b k ps w hk hp hw
 ·rw [if_neg hp]
  have c1 := zb7 k ps hk hl60 hp
  refine z01 z0A 1 rfl Tryz.func83 rfl rfl rfl ?_
  repeat ((try conv => whnf); first | (refine ccA ([]) (c1) ?_) | (refine stpQ ?_))
  (refine z00 (by rfl) ?_ ?_ (by rfl)) <;> (repeat' (first | (exact eqA) | (refine shE ?_) | (refine And.intro ?_ ?_)))
theorem zcA (l : List Bs) (hl : l.length ≤ 60) : CT Tryz.prog 110 [] [.sl 1 (strE l), .int .i64 16] (.sl 1 (strE (upA l (l.length / 2)))) [] := by
 have hlen := z0d l
 refine z01 z0A 1 rfl Tryz.func110 rfl rfl rfl ?_
 repeat ((try conv => whnf); first | (refine stpQ ?_))
 refine z0i 0 ⟨[(5, .ref 1)], [(1, some (.row 1 (strE (upA l (l.length / 2)))))], 2⟩ Nat (fun k => ⟨[(0, .sl 1 (strE l)), (1, .int .i64 16), (5, .ref 1), (6, .int .i64 ((2 * k : Nat) : Int))], [(1, some (.row 1 (strE (upA l k))))], 2⟩) (fun k => k ≤ l.length / 2) (fun k => l.length / 2 - k) 0 (by omega) ?_ ?_ ?_
 ·(refine z02 (by rfl) ?_ ?_) <;> (repeat' (first | (exact eqA) | (refine shE ?_) | (refine And.intro ?_ ?_))) <;> first | rfl | decide
 ·intro k hk
  by_cases hlt : k < l.length / 2
  ·have h0 : 2 * k < l.length := by omega
   have h1 : 2 * k + 1 < l.length := by omega
   have g0 := z0v h0
   have g1 := z0v h1
   have cs := zfM 3 [pAt l (2 * k), pAt l (2 * k + 1)] 16 (by omega) (by simp) (by omega)
   have hnx := zcy l k
   have hll := zb6 l k
   generalize upA l k = o at hnx hll ⊢
   generalize z3A 3 [pAt l (2 * k), pAt l (2 * k + 1)] 16 = r at cs hnx
   generalize pAt l (2 * k) = u0 at g0 cs
   generalize pAt l (2 * k + 1) = u1 at g1 cs
   have hol := z0d o
   have e1 : IntKind.i64.wrap (((2 * k : Nat) : Int) + 1) = ((2 * k + 1 : Nat) : Int) := by rw [wrap_i64 (by omega) (by omega)]; omega
   have e2 : IntKind.i64.wrap (((2 * k : Nat) : Int) + 2) = ((2 * (k + 1) : Nat) : Int) := by rw [wrap_i64 (by omega) (by omega)]; omega
   have h2 : ((2 * k + 1 : Nat) : Int) < (l.length : Int) := by omega
   repeat ((try conv => whnf); first | (refine Exists.intro _ (And.intro e1.symm ?_)) | (refine Exists.intro l.length (And.intro hlen ?_)) | (refine i_at g0 ?_) | (refine i_at g1 ?_) | (refine ccA ([]) (cs) ?_) | (refine And.intro (by simp [z0d]; omega) ?_) | (refine Exists.intro _ (And.intro e2.symm ?_)) | (refine And.intro (by kernel_rfl) ?_) | (refine stpQ ?_))
   refine ⟨k + 1, by omega, by omega, ?_⟩
   rw [hnx]
   (refine z02 (by rfl) ?_ ?_) <;> (repeat' (first | (exact eqA) | (refine shE ?_) | (refine And.intro ?_ ?_)))
   rw [z1m]; rfl
  ·obtain rfl : k = l.length / 2 := by omega
   have e1 : IntKind.i64.wrap (((2 * (l.length / 2) : Nat) : Int) + 1) = ((2 * (l.length / 2) + 1 : Nat) : Int) := by rw [wrap_i64 (by omega) (by omega)]; omega
   have h2 : ¬ ((2 * (l.length / 2) + 1 : Nat) : Int) < (l.length : Int) := by omega
   repeat ((try conv => whnf); first | (refine Exists.intro _ (And.intro e1.symm ?_)) | (refine Exists.intro l.length (And.intro hlen ?_)) | (refine stpQ ?_))
   (refine z02 (by rfl) ?_ ?_) <;> (repeat' (first | (exact eqA) | (refine shE ?_) | (refine And.intro ?_ ?_)))
 ·repeat ((try conv => whnf); first | (refine stpQ ?_))
  (refine z00 (by rfl) ?_ ?_ (by rfl)) <;> (repeat' (first | (exact eqA) | (refine shE ?_) | (refine And.intro ?_ ?_)))
end Go.Proofs.YtkjjacndfieeoaaGreatDoor
