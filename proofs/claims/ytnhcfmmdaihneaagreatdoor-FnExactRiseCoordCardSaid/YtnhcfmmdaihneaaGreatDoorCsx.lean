/- Functions by content: the reference's coordinator of any house, of any number of shards. -/
import Derived.Test.YtnhcfmmdaihneaaGreatDoorCsn
import Derived.Test.YtnhcfmmdaihneaaGreatDoorPx
namespace Go.Proofs.YtnhcfmmdaihneaaGreatDoor
set_option maxRecDepth 100000
set_option maxHeartbeats 8000000
set_option linter.unusedVariables false
set_option linter.unusedSimpArgs false
set_option linter.unusedSectionVars false
open Go.RowKit Pl
attribute [local irreducible] z0w z0x z0A AnsP LeP
theorem z4J {x lo hi : Int} (h : ¬ (lo ≤ x ∧ x ≤ hi)) : inB x lo hi = false := by
 cases e : inB x lo hi with
 | false => rfl
 | true => exact absurd (z0T.1 e) h
theorem zji {ho : Int} (h : ¬ isHo ho) (ep : Int) (ro pr : Bs) : z2b ho ep ro pr = false := by
 unfold z2b
 rw [z4J (x := ho) (lo := 0) (hi := 2) h]; rfl
theorem zcv (ho : Int) : CT Tryz.prog 240 [] [.sl 4 [], .int .i64 ho] (.bool true) [] := by
 refine z01 z03 1 rfl Tryz.func240 rfl rfl rfl ?_
 repeat ((try conv => whnf); first | (refine stpQ ?_))
 refine z0n 0 ⟨[], [], 1⟩ Nat (fun k => ⟨[(0, .sl 4 []), (1, .int .i64 ho), (5, .int .i64 (k : Int))], [], 1⟩) (fun k => k ≤ 0) (fun k => 0 - k) 0 (by omega) ?_ ?_ ?_
 ·(refine z02 (by rfl) ?_ ?_) <;> (repeat' (first | (exact eqA) | (refine And.intro ?_ ?_) | ((fail_if_success (with_reducible (show _ = _))); (show _ = _))))
 ·intro k hk
  obtain rfl : k = 0 := by omega
  repeat ((try conv => whnf); first | (refine Exists.intro 0 (And.intro rfl ?_)) | (refine stpQ ?_))
  (refine z02 (by rfl) ?_ ?_) <;> (repeat' (first | (exact eqA) | (refine And.intro ?_ ?_) | ((fail_if_success (with_reducible (show _ = _))); (show _ = _))))
 ·repeat ((try conv => whnf); first | (refine stpQ ?_))
  (refine z00 (by rfl) ?_ ?_ (by rfl)) <;> (repeat' (first | (exact eqA) | (refine And.intro ?_ ?_) | ((fail_if_success (with_reducible (show _ = _))); (show _ = _))))
theorem z69 (ho : Int) (h : ¬ isHo ho) (ro : Bs) : CT Tryz.prog 178 [] [.sl 4 [], .int .i64 ho, .str ro] (.tup [.agg [.int .i64 0, .int .i64 0, .str [], .str []], .bool false]) [] := by
 have c1 := zcv ho
 have c3 := z49 ho 1 ro []
 rw [zji h] at c3
 unfold z1u at c3
 refine z01 z03 1 rfl Tryz.func178 rfl rfl rfl ?_
 repeat ((try conv => whnf); first | (refine Exists.intro 0 (And.intro rfl ?_)) | (refine ccA ([]) (c1) ?_) | (refine ccA ([]) (c3) ?_) | (refine And.intro (by kernel_rfl) ?_) | (refine stpQ ?_))
 (refine z00 (by rfl) ?_ ?_ (by rfl)) <;> (repeat' (first | (exact eqA) | (refine And.intro ?_ ?_) | ((fail_if_success (with_reducible (show _ = _))); (show _ = _))))
theorem zbb (ho : Int) (hho : ¬ isHo ho) (K : Int) (fs : List Fl) (po : List Bs) (V D : List (List T)) (ty : Nat) (hty : ty ≤ 1000) (b : UInt8) (r : Bs) (hr : r.length ≤ 9000) :
 CT Tryz.prog 130 (cvH ho K fs po V D ⟨[], [], ty⟩ .no) [.ptr 1 0 0, .str (b :: r)] (.tup []) (cvH ho K fs po V D ⟨[], [], ty⟩ (ckX ⟨[], [], ty⟩ (b :: r))) := by
 have hl : (b :: r).length = r.length + 1 := rfl
 have hbl := b.toNat_lt
 have cB := z9t b r (by omega)
 have c1 : CT Tryz.prog 36 [fldB (b :: r) 1 false] [.ptr 1 0 0] (.int .i64 ((z0W (b :: r) 1 false).1 : Int)) [fldB (b :: r) (z0W (b :: r) 1 false).2.1 (z0W (b :: r) 1 false).2.2] := zaA (b :: r) 1 false (by omega) (by omega)
 have l1 := z2d (t := b :: r) (p := 1) (bad := false) (by omega)
 rcases hA : z0W (b :: r) 1 false with ⟨n, p, bd⟩
 have hN : num1 (b :: r) = (n, p, bd) := hA
 rw [hA] at c1 l1
 simp only at c1 l1
 unfold fldB at c1
 clear hA
 cases bd with
 | true =>
   have hR : ckX ⟨[], [], ty⟩ (b :: r) = .no := by
    rw [ckX, hN]
    simp only
    split
    ·rw [if_neg (fun c => by simp [z19] at c)]
    ·rfl
   rw [hR]
   clear hR
   unfold cvH cvB
   refine z01 z03 6 rfl Tryz.func130 rfl rfl rfl ?_
   repeat ((try conv => whnf); first | (refine ccB ([_]) (cB) ?_) | (refine ccB ([_]) (c1) ?_) | (refine And.intro (by kernel_rfl) ?_) | (refine stpQ ?_))
   (refine z00 (by rfl) ?_ ?_ (by rfl)) <;> (repeat' (first | (exact eqA) | (refine And.intro ?_ ?_) | ((fail_if_success (with_reducible (show _ = _))); (show _ = _))))
 | false =>
   rw [ckX, hN]
   simp only
   by_cases k1 : b.toNat = 1
   ·have k1' : ((b.toNat : Nat) : Int) = 1 := by omega
    rw [if_pos k1]
    unfold cvH cvB
    by_cases hd : p = r.length + 1
    ·have hd' : (p : Int) = (((b :: r).length : Nat) : Int) := by omega
     have hD : z19 false p (r.length + 1) = true := by simp [z19, hd]
     by_cases hc : ty < n ∧ n ≤ 1000
     ·rw [if_pos ⟨hD, hc⟩]
      have h1' : (n : Int) > (ty : Int) := by omega
      have h2' : (n : Int) ≤ 1000 := by omega
      refine z01 z03 6 rfl Tryz.func130 rfl rfl rfl ?_
      repeat ((try conv => whnf); first | (refine ccB ([_]) (cB) ?_) | (refine ccB ([_]) (c1) ?_) | (refine z0o k1' ?_) | (refine z0o hd' ?_) | (refine And.intro (by kernel_rfl) ?_) | (refine stpQ ?_))
      (refine z00 (by rfl) ?_ ?_ (by rfl)) <;> (repeat' (first | (exact eqA) | (refine And.intro ?_ ?_) | ((fail_if_success (with_reducible (show _ = _))); (show _ = _))))
     ·rw [if_neg (fun h => hc h.2)]
      by_cases h1' : (n : Int) > (ty : Int)
      ·have h2' : ¬ (n : Int) ≤ 1000 := by omega
       refine z01 z03 6 rfl Tryz.func130 rfl rfl rfl ?_
       repeat ((try conv => whnf); first | (refine ccB ([_]) (cB) ?_) | (refine ccB ([_]) (c1) ?_) | (refine z0o k1' ?_) | (refine z0o hd' ?_) | (refine And.intro (by kernel_rfl) ?_) | (refine stpQ ?_))
       (refine z00 (by rfl) ?_ ?_ (by rfl)) <;> (repeat' (first | (exact eqA) | (refine And.intro ?_ ?_) | ((fail_if_success (with_reducible (show _ = _))); (show _ = _))))
      ·refine z01 z03 6 rfl Tryz.func130 rfl rfl rfl ?_
       repeat ((try conv => whnf); first | (refine ccB ([_]) (cB) ?_) | (refine ccB ([_]) (c1) ?_) | (refine z0o k1' ?_) | (refine z0o hd' ?_) | (refine And.intro (by kernel_rfl) ?_) | (refine stpQ ?_))
       (refine z00 (by rfl) ?_ ?_ (by rfl)) <;> (repeat' (first | (exact eqA) | (refine And.intro ?_ ?_) | ((fail_if_success (with_reducible (show _ = _))); (show _ = _))))
    ·have hd' : ¬ (p : Int) = (((b :: r).length : Nat) : Int) := by omega
     rw [if_neg (fun h => hd (by simpa [z19] using h.1))]
     refine z01 z03 6 rfl Tryz.func130 rfl rfl rfl ?_
     repeat ((try conv => whnf); first | (refine ccB ([_]) (cB) ?_) | (refine ccB ([_]) (c1) ?_) | (refine z0o k1' ?_) | (refine z0j hd' ?_) | (refine And.intro (by kernel_rfl) ?_) | (refine stpQ ?_))
     (refine z00 (by rfl) ?_ ?_ (by rfl)) <;> (repeat' (first | (exact eqA) | (refine And.intro ?_ ?_) | ((fail_if_success (with_reducible (show _ = _))); (show _ = _))))
   ·have k1' : ¬ ((b.toNat : Nat) : Int) = 1 := by omega
    rw [if_neg k1]
    by_cases k2 : b.toNat = 2
    ·have k2' : ((b.toNat : Nat) : Int) = 2 := by omega
     have c2 := z68 ((b :: r).drop p) (by simp; omega)
     have c4 : CT Tryz.prog 179 [] [.sl 8 []] (.ref 1) [.row 4 []] := zdY [] (by decide)
     have hZo : ownE (.row 4 ([] : List (List T))) := fun e he => by cases he
     have hpl := l1.1
     unfold slR at c2
     cases hs : z1Q ((b :: r).drop p) with
     | none =>
       rw [hs] at c2
       have c5 := z69 ho hho []
       simp only at c2 ⊢
       change CT _ _ _ _ (.tup [.agg [.int .i64 0, .int .i64 0, .str [], .str [], .int .i64 0, .sl 1 [], .sl 1 [], .sl 1 []], .bool false]) _ at c2
       unfold cvH cvB
       refine z01 z03 6 rfl Tryz.func130 rfl rfl rfl ?_
       repeat ((try conv => whnf); first | (refine ccB ([_]) (cB) ?_) | (refine ccB ([_]) (c1) ?_) | (refine z0j k1' ?_) | (refine z0o k2' ?_) | (refine i_le hpl ?_) | (refine ccA ([]) (c2) ?_) | (refine z0N ([]) (c4) (by ((repeat' (first | (exact trivial) | (exact rfl) | (refine And.intro ?_ ?_))); first | done | fail)) (by ((repeat' (first | (exact trivial) | (exact rfl) | (refine And.intro ?_ ?_))); first | done | fail)) (by decide) (by rfl) (by first | exact .inl rfl | (refine .inr ⟨by simp [own2, own1, own0], fun e he => ?_⟩; simp only [List.mem_cons, List.not_mem_nil, or_false] at he <;> first | exact he.elim | (subst he; exact hZo) | (rcases he with rfl | rfl <;> exact hZo))) ?_) | (refine ccA ([]) (c5) ?_) | (refine And.intro (by kernel_rfl) ?_) | (refine stpQ ?_))
       (refine z00 (by rfl) ?_ ?_ (by rfl)) <;> (repeat' (first | (exact eqA) | (refine And.intro ?_ ?_) | ((fail_if_success (with_reducible (show _ = _))); (show _ = _))))
     | some y =>
       obtain ⟨h, g⟩ := y
       rw [hs] at c2
       have c5 := z69 ho hho h.ro
       simp only at c2 ⊢
       obtain ⟨ho', ep, ro, pr⟩ := h
       obtain ⟨a, op, sh, si⟩ := g
       unfold hdE sgE at c2
       simp only at c5
       unfold cvH cvB
       refine z01 z03 6 rfl Tryz.func130 rfl rfl rfl ?_
       repeat ((try conv => whnf); first | (refine ccB ([_]) (cB) ?_) | (refine ccB ([_]) (c1) ?_) | (refine z0j k1' ?_) | (refine z0o k2' ?_) | (refine i_le hpl ?_) | (refine ccA ([]) (c2) ?_) | (refine z0N ([]) (c4) (by ((repeat' (first | (exact trivial) | (exact rfl) | (refine And.intro ?_ ?_))); first | done | fail)) (by ((repeat' (first | (exact trivial) | (exact rfl) | (refine And.intro ?_ ?_))); first | done | fail)) (by decide) (by rfl) (by first | exact .inl rfl | (refine .inr ⟨by simp [own2, own1, own0], fun e he => ?_⟩; simp only [List.mem_cons, List.not_mem_nil, or_false] at he <;> first | exact he.elim | (subst he; exact hZo) | (rcases he with rfl | rfl <;> exact hZo))) ?_) | (refine ccA ([]) (c5) ?_) | (refine And.intro (by kernel_rfl) ?_) | (refine stpQ ?_))
       (refine z00 (by rfl) ?_ ?_ (by rfl)) <;> (repeat' (first | (exact eqA) | (refine And.intro ?_ ?_) | ((fail_if_success (with_reducible (show _ = _))); (show _ = _))))
    ·have k2' : ¬ ((b.toNat : Nat) : Int) = 2 := by omega
     unfold cvH cvB
     refine z01 z03 6 rfl Tryz.func130 rfl rfl rfl ?_
     repeat ((try conv => whnf); first | (refine ccB ([_]) (cB) ?_) | (refine ccB ([_]) (c1) ?_) | (refine z0j k1' ?_) | (refine z0j k2' ?_) | (refine And.intro (by kernel_rfl) ?_) | (refine stpQ ?_))
     (refine z00 (by rfl) ?_ ?_ (by rfl)) <;> (repeat' (first | (exact eqA) | (refine And.intro ?_ ?_) | ((fail_if_success (with_reducible (show _ = _))); (show _ = _))))
theorem z6a (ho K : Int) (fs : List Fl) (po : List Bs) (V D : List (List T)) (s : Cv) (ok : z4b ho s) (b : UInt8) (r : Bs) (hr : r.length ≤ 9000) :
 CT Tryz.prog 130 (cvH ho K fs po V D s .no) [.ptr 1 0 0, .str (b :: r)] (.tup []) (cvH ho K fs po V D s (ckA ho s (b :: r))) := by
 unfold ckA
 rcases ok with ⟨h, k⟩ | ⟨h, k1, k2, k3⟩
 ·rw [if_pos h]
  obtain ⟨n, rfl, h2, h3⟩ := z3x h
  rw [h3] at k ⊢
  exact z7E n h2 K fs po V D s k b r hr
 ·rw [if_neg h]
  obtain ⟨se, tr, ty⟩ := s
  simp only at k1 k2 k3
  subst k1 k2
  exact zbb ho h K fs po V D ty k3 b r hr
theorem z8z (ho : Int) : CT Tryz.prog 57 [] [.int .i64 ho] (.str (z1x ho)) [] := by
 unfold z1x
 by_cases h : isHo ho
 ·rw [if_pos h]
  obtain ⟨n, rfl, h2, h3⟩ := z3x h
  rw [h3]
  exact zb7 n h2
 ·rw [if_neg h]
  have c1 := z1B ho 0 2
  rw [z4J (x := ho) (lo := 0) (hi := 2) h] at c1
  refine z01 z03 1 rfl Tryz.func57 rfl rfl rfl ?_
  repeat ((try conv => whnf); first | (refine ccA ([]) (c1) ?_) | (refine stpQ ?_))
  (refine z00 (by rfl) ?_ ?_ (by rfl)) <;> (repeat' (first | (exact eqA) | (refine And.intro ?_ ?_) | ((fail_if_success (with_reducible (show _ = _))); (show _ = _))))
theorem zf6 (k : Int) (hk : ¬ isHo k) : CT Tryz.prog 85 [] [.int .i64 k] (.int .i64 0) [] := by
 have c1 := z1B k 0 2
 rw [z4J (x := k) (lo := 0) (hi := 2) hk] at c1
 refine z01 z03 1 rfl Tryz.func85 rfl rfl rfl ?_
 repeat ((try conv => whnf); first | (refine ccA ([]) (c1) ?_) | (refine stpQ ?_))
 (refine z00 (by rfl) ?_ ?_ (by rfl)) <;> (repeat' (first | (exact eqA) | (refine And.intro ?_ ?_) | ((fail_if_success (with_reducible (show _ = _))); (show _ = _))))
theorem zcw (ho : Int) (k : Nat) (hk : k ≤ 2) (A B : List (List T)) : CT Tryz.prog 128
 [.box [.int .i64 ho, .int .i64 (k : Int), .bool true, .ref 2, .ref 3, .val nilV, .val nilV, .int .i64 0, .bool false, .val nilV, .val nilV], .row 3 A, .row 1 B] [.ptr 1 0 0] (.tup [])
 [.box [.int .i64 ho, .int .i64 (k : Int), .bool true, .ref 2, .ref 3, .val nilV, .val nilV, .int .i64 0, .bool false, .ref 4, .ref 5], .row 3 A, .row 1 B, .row 1 (emV (2 ^ k)), .row 1 (emD (2 ^ k))] := by
 have c1 := z7F k hk
 obtain ⟨e1, e2⟩ := pow2 hk
 unfold emV emD
 generalize 2 ^ k = pk at c1 e2 ⊢
 refine z01 z03 4 rfl Tryz.func128 rfl rfl rfl ?_
 repeat ((try conv => whnf); first | (refine ccA ([]) (c1) ?_) | (refine Exists.intro pk (And.intro rfl (And.intro rfl (And.intro (by omega) ?_)))) | (refine And.intro (by kernel_rfl) ?_) | (refine stpQ ?_))
 (refine z00 (by rfl) ?_ ?_ (by rfl)) <;> (repeat' (first | (exact eqA) | (refine And.intro ?_ ?_) | ((fail_if_success (with_reducible (show _ = _))); (show _ = _))))
theorem zhF (ho : Int) (k : Nat) (hk : k ≤ 2) (fs : List Fl) (hf : z2T fs) (po : List Bs) (hpo : (po.length : Int) ≤ 100000000) :
 CT Tryz.prog 55 [] [.int .i64 ho, .int .i64 (k : Int), .agg [.sl 3 (flE fs)], .sl 1 (strE po)] (.agg (cvE ho (k : Int) fs po (cvA ho (z0i fs z0g)) (emV (2 ^ k)) (emD (2 ^ k)))) [] := by
 have hfl := z3c fs
 have hfl2 := hf.1
 have hpl := z0m po
 have c1 := zcw ho k hk (flE fs) (strE po)
 have c2 := z3s fs z0g hf
 have hfacts := z0Z fs z0g
 generalize z0i fs z0g = ts at c2 hfacts ⊢
 have hts := z0m ts
 have hts2 : (ts.length : Int) ≤ 20001 := by omega
 unfold z0g at c2
 generalize emV (2 ^ k) = EV at c1 ⊢
 generalize emD (2 ^ k) = ED at c1 ⊢
 refine z01 z03 1 rfl Tryz.func55 rfl rfl rfl ?_
 repeat ((try conv => whnf); first | (refine ccB ([_, _, _]) (c1) ?_) | (refine ccA ([]) (c2) ?_) | (refine And.intro (by simp only [List.length_append, List.length_cons, List.length_nil, List.nil_append, List.length_replicate, List.length_set]; omega) ?_) | (refine And.intro (by kernel_rfl) ?_) | (refine stpQ ?_))
 refine z1C Nat (fun i => ⟨[(8, .ptr 1 0 0), (9, .ptr 2 0 0), (10, .sl 1 (strE ts)), (11, .int .i64 (i : Int))],
  [(1, some (.box [.int .i64 0, .int .i64 0, .bool false, .val nilV, .val nilV, .val nilV, .val nilV, .int .i64 0, .bool false, .val nilV, .val nilV])), (2, some (cvB ho (k : Int) fs po (cvA ho (ts.take i)) 3 4 5 6)), (3, some (.row 8 (slE (cvA ho (ts.take i)).se))), (4, some (.row 1 (ntE (cvA ho (ts.take i)).tr))), (5, some (.row 1 EV)), (6, some (.row 1 ED))], 7⟩) (fun i => i ≤ ts.length) (fun i => ts.length - i) 0 (by omega) ?_ ?_
 ·(refine z02 (by rfl) ?_ ?_)
  all_goals (repeat' (first | (exact trivial) | ((try conv => whnf); first | (exact trivial) | (refine And.intro ?_ ?_))))
  all_goals first
   | rfl
   | decide
 ·intro Q1 hQ1 i hi
  by_cases hlt : i < ts.length
  ·have hlt2 : (i : Int) < ((strE ts).length : Int) := by omega
   have hnx := z6w ho hlt
   have g : z4b ho (cvA ho (ts.take i)) := z8y ho _
   have hmem := hfacts.1 _ (List.getElem_mem hlt)
   have gt := z67 (ps := ts) hlt
   generalize ts[i] = t at hnx hmem gt
   obtain ⟨b, r, rfl⟩ : ∃ b r, t = b :: r := by
    cases t with
    | nil => simp at hmem
    | cons b r => exact ⟨b, r, rfl⟩
   have hr : r.length ≤ 9000 := by have := hmem.2; simp at this; omega
   generalize cvA ho (ts.take i) = s at hnx g ⊢
   have cA := z6a ho (k : Int) fs po EV ED s g b r hr
   have hs' : z4j ho s (b :: r) = ckDo s (ckA ho s (b :: r)) := rfl
   rw [hs'] at hnx
   generalize ckA ho s (b :: r) = rk at cA hnx
   clear hs' g hfacts hmem
   cases rk with
   | no =>
     unfold cvH cvB at cA
     unfold cvB
     repeat ((try conv => whnf); first | (refine i_at gt ?_) | (refine z0N ([2, 3, 4, 5, 6]) (cA) (by ((repeat' (first | (exact trivial) | (exact rfl) | (decide) | (refine And.intro ?_ ?_))); first | done | fail)) (by ((repeat' (first | (exact trivial) | (exact rfl) | (decide) | (refine And.intro ?_ ?_))); first | done | fail)) (by decide) (by rfl) (by first | exact .inl rfl | (refine .inr ⟨by simp [own2, own1, own0], fun e he => ?_⟩; simp only [List.mem_cons, List.not_mem_nil, or_false] at he <;> first | exact he.elim | (subst he; (first | exact z0f | exact z0e | exact z0h _ | exact z0d _)) | (rcases he with rfl | rfl <;> (first | exact z0f | exact z0e | exact z0h _ | exact z0d _)) | (rcases he with rfl | rfl | rfl <;> (first | exact z0f | exact z0e | exact z0h _ | exact z0d _)))) ?_) | (refine ccB ([2, 3, 4, 5, 6]) (cA) ?_) | (refine stpQ ?_))
     refine ⟨i + 1, by omega, by omega, ?_⟩
     rw [hnx]
     (refine z02 (by rfl) ?_ ?_) <;> (repeat' (first | (exact eqA) | (refine And.intro ?_ ?_) | ((fail_if_success (with_reducible (show _ = _))); (show _ = _))))
     all_goals rfl
   | beg n =>
     unfold cvH cvB at cA
     unfold cvB
     repeat ((try conv => whnf); first | (refine i_at gt ?_) | (refine z0N ([2, 3, 4, 5, 6]) (cA) (by ((repeat' (first | (exact trivial) | (exact rfl) | (decide) | (refine And.intro ?_ ?_))); first | done | fail)) (by ((repeat' (first | (exact trivial) | (exact rfl) | (decide) | (refine And.intro ?_ ?_))); first | done | fail)) (by decide) (by rfl) (by first | exact .inl rfl | (refine .inr ⟨by simp [own2, own1, own0], fun e he => ?_⟩; simp only [List.mem_cons, List.not_mem_nil, or_false] at he <;> first | exact he.elim | (subst he; (first | exact z0f | exact z0e | exact z0h _ | exact z0d _)) | (rcases he with rfl | rfl <;> (first | exact z0f | exact z0e | exact z0h _ | exact z0d _)) | (rcases he with rfl | rfl | rfl <;> (first | exact z0f | exact z0e | exact z0h _ | exact z0d _)))) ?_) | (refine ccB ([2, 3, 4, 5, 6]) (cA) ?_) | (refine stpQ ?_))
     refine ⟨i + 1, by omega, by omega, ?_⟩
     rw [hnx]
     (refine z02 (by rfl) ?_ ?_) <;> (repeat' (first | (exact eqA) | (refine And.intro ?_ ?_) | ((fail_if_success (with_reducible (show _ = _))); (show _ = _))))
     all_goals rfl
   | clo h g =>
     unfold cvH cvB at cA
     unfold cvB
     repeat ((try conv => whnf); first | (refine i_at gt ?_) | (refine z0N ([2, 3, 4, 5, 6]) (cA) (by ((repeat' (first | (exact trivial) | (exact rfl) | (decide) | (refine And.intro ?_ ?_))); first | done | fail)) (by ((repeat' (first | (exact trivial) | (exact rfl) | (decide) | (refine And.intro ?_ ?_))); first | done | fail)) (by decide) (by rfl) (by first | exact .inl rfl | (refine .inr ⟨by simp [own2, own1, own0], fun e he => ?_⟩; simp only [List.mem_cons, List.not_mem_nil, or_false] at he <;> first | exact he.elim | (subst he; (first | exact z0f | exact z0e | exact z0h _ | exact z0d _)) | (rcases he with rfl | rfl <;> (first | exact z0f | exact z0e | exact z0h _ | exact z0d _)) | (rcases he with rfl | rfl | rfl <;> (first | exact z0f | exact z0e | exact z0h _ | exact z0d _)))) ?_) | (refine ccB ([2, 3, 4, 5, 6]) (cA) ?_) | (refine stpQ ?_))
     refine ⟨i + 1, by omega, by omega, ?_⟩
     rw [hnx]
     (refine z02 (by rfl) ?_ ?_) <;> (repeat' (first | (exact eqA) | (refine And.intro ?_ ?_) | ((fail_if_success (with_reducible (show _ = _))); (show _ = _))))
     all_goals rfl
  ·have hie : i = ts.length := by omega
   subst hie
   rw [List.take_length]
   unfold cvB
   repeat ((try conv => whnf); first | (refine stpQ ?_))
   refine hQ1 _ _ ?_
   repeat ((try conv => whnf); first | (refine And.intro (by kernel_rfl) ?_) | (refine stpQ ?_))
   (refine z00 (by rfl) ?_ ?_ (by rfl)) <;> (repeat' (first | (exact eqA) | (refine And.intro ?_ ?_) | ((fail_if_success (with_reducible (show _ = _))); (show _ = _))))
theorem zbc (ho : Int) (k : Nat) (hk : k ≤ 2) (fs : List Fl) (hf : z2T fs) :
 CT Tryz.prog 14 [] [.int .i64 ho, .int .i64 (k : Int), .agg [.sl 3 (flE fs)]] (.agg (cvE ho (k : Int) fs (z1c (z1x ho) 16) (cvA ho (z0i fs z0g)) (emV (2 ^ k)) (emD (2 ^ k)))) [] := by
 have c1 := z8z ho
 have c2 := z9w (z1x ho) (z5p ho)
 have c3 := zhF ho k hk fs hf (z1c (z1x ho) 16) (by rw [z1D]; omega)
 generalize z1c (z1x ho) 16 = P at c2 c3 ⊢
 generalize z1x ho = S at c1 c2
 unfold cvE at c3 ⊢
 refine z01 z03 1 rfl Tryz.func14 rfl rfl rfl ?_
 repeat ((try conv => whnf); first | (refine ccA ([]) (c1) ?_) | (refine ccA ([]) (c2) ?_) | (refine ccA ([]) (c3) ?_) | (refine And.intro (by kernel_rfl) ?_) | (refine stpQ ?_))
 (refine z00 (by rfl) ?_ ?_ (by rfl)) <;> (repeat' (first | (exact eqA) | (refine And.intro ?_ ?_) | ((fail_if_success (with_reducible (show _ = _))); (show _ = _))))
theorem zbd (ho : Int) (k : Int) (hk : ¬ isHo k) (A B : List (List T)) : CT Tryz.prog 128
 [.box [.int .i64 ho, .int .i64 k, .bool true, .ref 2, .ref 3, .val nilV, .val nilV, .int .i64 0, .bool false, .val nilV, .val nilV], .row 3 A, .row 1 B] [.ptr 1 0 0] (.tup [])
 [.box [.int .i64 ho, .int .i64 k, .bool true, .ref 2, .ref 3, .val nilV, .val nilV, .int .i64 0, .bool false, .ref 4, .ref 5], .row 3 A, .row 1 B, .row 1 (emV 0), .row 1 (emD 0)] := by
 have c1 := zf6 k hk
 unfold emV emD
 refine z01 z03 4 rfl Tryz.func128 rfl rfl rfl ?_
 repeat ((try conv => whnf); first | (refine ccA ([]) (c1) ?_) | (refine Exists.intro 0 (And.intro rfl (And.intro rfl (And.intro (by omega) ?_)))) | (refine And.intro (by kernel_rfl) ?_) | (refine stpQ ?_))
 (refine z00 (by rfl) ?_ ?_ (by rfl)) <;> (repeat' (first | (exact eqA) | (refine And.intro ?_ ?_) | ((fail_if_success (with_reducible (show _ = _))); (show _ = _))))
theorem zf7 (ho : Int) (k : Int) (hk : ¬ isHo k) (fs : List Fl) (hf : z2T fs) (po : List Bs) (hpo : (po.length : Int) ≤ 100000000) :
 CT Tryz.prog 55 [] [.int .i64 ho, .int .i64 k, .agg [.sl 3 (flE fs)], .sl 1 (strE po)] (.agg (cvE ho k fs po (cvA ho (z0i fs z0g)) (emV 0) (emD 0))) [] := by
 have hfl := z3c fs
 have hfl2 := hf.1
 have hpl := z0m po
 have c1 := zbd ho k hk (flE fs) (strE po)
 have c2 := z3s fs z0g hf
 have hfacts := z0Z fs z0g
 generalize z0i fs z0g = ts at c2 hfacts ⊢
 have hts := z0m ts
 have hts2 : (ts.length : Int) ≤ 20001 := by omega
 unfold z0g at c2
 generalize emV 0 = EV at c1 ⊢
 generalize emD 0 = ED at c1 ⊢
 refine z01 z03 1 rfl Tryz.func55 rfl rfl rfl ?_
 repeat ((try conv => whnf); first | (refine ccB ([_, _, _]) (c1) ?_) | (refine ccA ([]) (c2) ?_) | (refine And.intro (by simp only [List.length_append, List.length_cons, List.length_nil, List.nil_append, List.length_replicate, List.length_set]; omega) ?_) | (refine And.intro (by kernel_rfl) ?_) | (refine stpQ ?_))
 refine z1C Nat (fun i => ⟨[(8, .ptr 1 0 0), (9, .ptr 2 0 0), (10, .sl 1 (strE ts)), (11, .int .i64 (i : Int))],
  [(1, some (.box [.int .i64 0, .int .i64 0, .bool false, .val nilV, .val nilV, .val nilV, .val nilV, .int .i64 0, .bool false, .val nilV, .val nilV])), (2, some (cvB ho k fs po (cvA ho (ts.take i)) 3 4 5 6)), (3, some (.row 8 (slE (cvA ho (ts.take i)).se))), (4, some (.row 1 (ntE (cvA ho (ts.take i)).tr))), (5, some (.row 1 EV)), (6, some (.row 1 ED))], 7⟩) (fun i => i ≤ ts.length) (fun i => ts.length - i) 0 (by omega) ?_ ?_
 ·(refine z02 (by rfl) ?_ ?_)
  all_goals (repeat' (first | (exact trivial) | ((try conv => whnf); first | (exact trivial) | (refine And.intro ?_ ?_))))
  all_goals first
   | rfl
   | decide
 ·intro Q1 hQ1 i hi
  by_cases hlt : i < ts.length
  ·have hlt2 : (i : Int) < ((strE ts).length : Int) := by omega
   have hnx := z6w ho hlt
   have g : z4b ho (cvA ho (ts.take i)) := z8y ho _
   have hmem := hfacts.1 _ (List.getElem_mem hlt)
   have gt := z67 (ps := ts) hlt
   generalize ts[i] = t at hnx hmem gt
   obtain ⟨b, r, rfl⟩ : ∃ b r, t = b :: r := by
    cases t with
    | nil => simp at hmem
    | cons b r => exact ⟨b, r, rfl⟩
   have hr : r.length ≤ 9000 := by have := hmem.2; simp at this; omega
   generalize cvA ho (ts.take i) = s at hnx g ⊢
   have cA := z6a ho k fs po EV ED s g b r hr
   have hs' : z4j ho s (b :: r) = ckDo s (ckA ho s (b :: r)) := rfl
   rw [hs'] at hnx
   generalize ckA ho s (b :: r) = rk at cA hnx
   clear hs' g hfacts hmem
   cases rk with
   | no =>
     unfold cvH cvB at cA
     unfold cvB
     repeat ((try conv => whnf); first | (refine i_at gt ?_) | (refine z0N ([2, 3, 4, 5, 6]) (cA) (by ((repeat' (first | (exact trivial) | (exact rfl) | (decide) | (refine And.intro ?_ ?_))); first | done | fail)) (by ((repeat' (first | (exact trivial) | (exact rfl) | (decide) | (refine And.intro ?_ ?_))); first | done | fail)) (by decide) (by rfl) (by first | exact .inl rfl | (refine .inr ⟨by simp [own2, own1, own0], fun e he => ?_⟩; simp only [List.mem_cons, List.not_mem_nil, or_false] at he <;> first | exact he.elim | (subst he; (first | exact z0f | exact z0e | exact z0h _ | exact z0d _)) | (rcases he with rfl | rfl <;> (first | exact z0f | exact z0e | exact z0h _ | exact z0d _)) | (rcases he with rfl | rfl | rfl <;> (first | exact z0f | exact z0e | exact z0h _ | exact z0d _)))) ?_) | (refine ccB ([2, 3, 4, 5, 6]) (cA) ?_) | (refine stpQ ?_))
     refine ⟨i + 1, by omega, by omega, ?_⟩
     rw [hnx]
     (refine z02 (by rfl) ?_ ?_) <;> (repeat' (first | (exact eqA) | (refine And.intro ?_ ?_) | ((fail_if_success (with_reducible (show _ = _))); (show _ = _))))
     all_goals rfl
   | beg n =>
     unfold cvH cvB at cA
     unfold cvB
     repeat ((try conv => whnf); first | (refine i_at gt ?_) | (refine z0N ([2, 3, 4, 5, 6]) (cA) (by ((repeat' (first | (exact trivial) | (exact rfl) | (decide) | (refine And.intro ?_ ?_))); first | done | fail)) (by ((repeat' (first | (exact trivial) | (exact rfl) | (decide) | (refine And.intro ?_ ?_))); first | done | fail)) (by decide) (by rfl) (by first | exact .inl rfl | (refine .inr ⟨by simp [own2, own1, own0], fun e he => ?_⟩; simp only [List.mem_cons, List.not_mem_nil, or_false] at he <;> first | exact he.elim | (subst he; (first | exact z0f | exact z0e | exact z0h _ | exact z0d _)) | (rcases he with rfl | rfl <;> (first | exact z0f | exact z0e | exact z0h _ | exact z0d _)) | (rcases he with rfl | rfl | rfl <;> (first | exact z0f | exact z0e | exact z0h _ | exact z0d _)))) ?_) | (refine ccB ([2, 3, 4, 5, 6]) (cA) ?_) | (refine stpQ ?_))
     refine ⟨i + 1, by omega, by omega, ?_⟩
     rw [hnx]
     (refine z02 (by rfl) ?_ ?_) <;> (repeat' (first | (exact eqA) | (refine And.intro ?_ ?_) | ((fail_if_success (with_reducible (show _ = _))); (show _ = _))))
     all_goals rfl
   | clo h g =>
     unfold cvH cvB at cA
     unfold cvB
     repeat ((try conv => whnf); first | (refine i_at gt ?_) | (refine z0N ([2, 3, 4, 5, 6]) (cA) (by ((repeat' (first | (exact trivial) | (exact rfl) | (decide) | (refine And.intro ?_ ?_))); first | done | fail)) (by ((repeat' (first | (exact trivial) | (exact rfl) | (decide) | (refine And.intro ?_ ?_))); first | done | fail)) (by decide) (by rfl) (by first | exact .inl rfl | (refine .inr ⟨by simp [own2, own1, own0], fun e he => ?_⟩; simp only [List.mem_cons, List.not_mem_nil, or_false] at he <;> first | exact he.elim | (subst he; (first | exact z0f | exact z0e | exact z0h _ | exact z0d _)) | (rcases he with rfl | rfl <;> (first | exact z0f | exact z0e | exact z0h _ | exact z0d _)) | (rcases he with rfl | rfl | rfl <;> (first | exact z0f | exact z0e | exact z0h _ | exact z0d _)))) ?_) | (refine ccB ([2, 3, 4, 5, 6]) (cA) ?_) | (refine stpQ ?_))
     refine ⟨i + 1, by omega, by omega, ?_⟩
     rw [hnx]
     (refine z02 (by rfl) ?_ ?_) <;> (repeat' (first | (exact eqA) | (refine And.intro ?_ ?_) | ((fail_if_success (with_reducible (show _ = _))); (show _ = _))))
     all_goals rfl
  ·have hie : i = ts.length := by omega
   subst hie
   rw [List.take_length]
   unfold cvB
   repeat ((try conv => whnf); first | (refine stpQ ?_))
   refine hQ1 _ _ ?_
   repeat ((try conv => whnf); first | (refine And.intro (by kernel_rfl) ?_) | (refine stpQ ?_))
   (refine z00 (by rfl) ?_ ?_ (by rfl)) <;> (repeat' (first | (exact eqA) | (refine And.intro ?_ ?_) | ((fail_if_success (with_reducible (show _ = _))); (show _ = _))))
theorem z9y (ho : Int) (k : Int) (hk : ¬ isHo k) (fs : List Fl) (hf : z2T fs) :
 CT Tryz.prog 14 [] [.int .i64 ho, .int .i64 k, .agg [.sl 3 (flE fs)]] (.agg (cvE ho k fs (z1c (z1x ho) 16) (cvA ho (z0i fs z0g)) (emV 0) (emD 0))) [] := by
 have c1 := z8z ho
 have c2 := z9w (z1x ho) (z5p ho)
 have c3 := zf7 ho k hk fs hf (z1c (z1x ho) 16) (by rw [z1D]; omega)
 generalize z1c (z1x ho) 16 = P at c2 c3 ⊢
 generalize z1x ho = S at c1 c2
 unfold cvE at c3 ⊢
 refine z01 z03 1 rfl Tryz.func14 rfl rfl rfl ?_
 repeat ((try conv => whnf); first | (refine ccA ([]) (c1) ?_) | (refine ccA ([]) (c2) ?_) | (refine ccA ([]) (c3) ?_) | (refine And.intro (by kernel_rfl) ?_) | (refine stpQ ?_))
 (refine z00 (by rfl) ?_ ?_ (by rfl)) <;> (repeat' (first | (exact eqA) | (refine And.intro ?_ ?_) | ((fail_if_success (with_reducible (show _ = _))); (show _ = _))))
end Go.Proofs.YtnhcfmmdaihneaaGreatDoor
