/- Functions by content: the reference's coordinator is made from its disk. -/
import Derived.Test.YtnhcfmmdaihneaaGreatDoorCsr
import Derived.Test.YtnhcfmmdaihneaaGreatDoorCb
namespace Go.Proofs.YtnhcfmmdaihneaaGreatDoor
set_option maxRecDepth 100000
set_option maxHeartbeats 8000000
set_option linter.unusedVariables false
set_option linter.unusedSimpArgs false
set_option linter.unusedSectionVars false
open Go.RowKit Pl
attribute [local irreducible] z0w z0x z0A AnsP LeP
theorem z7F (k : Nat) (hk : k ≤ 2) : CT Tryz.prog 85 [] [.int .i64 (k : Int)] (.int .i64 ((2 ^ k : Nat) : Int)) [] := by
 have c1 := z9u (x := (k : Int)) (lo := 0) (hi := 2) (by omega)
 obtain ⟨e1, e2⟩ := pow2 hk
 have e1u : IntKind.u64.wrap ((k : Nat) : Int) = ((k : Nat) : Int) := by
  show ((k : Nat) : Int) % 18446744073709551616 = _
  omega
 generalize 2 ^ k = pk at e1 ⊢
 refine z01 z03 1 rfl Tryz.func85 rfl rfl rfl ?_
 repeat ((try conv => whnf); first | (refine ccA ([]) (c1) ?_) | (refine And.intro (show _ ≤ (64 : Int) from by omega) ?_) | (refine Exists.intro _ (And.intro e1.symm ?_)) | (refine Exists.intro _ (And.intro e1u.symm ?_)) | (refine stpQ ?_))
 (refine z00 (by rfl) ?_ ?_ (by rfl)) <;> (repeat' (first | (exact eqA) | (refine shE ?_) | (refine And.intro ?_ ?_)))
theorem zf5 (ho : Nat) (k : Nat) (hk : k ≤ 2) (A B : List (List T)) : CT Tryz.prog 128
 [.box [.int .i64 (ho : Int), .int .i64 (k : Int), .bool true, .ref 2, .ref 3, .val nilV, .val nilV, .int .i64 0, .bool false, .val nilV, .val nilV], .row 3 A, .row 1 B] [.ptr 1 0 0] (.tup [])
 [.box [.int .i64 (ho : Int), .int .i64 (k : Int), .bool true, .ref 2, .ref 3, .val nilV, .val nilV, .int .i64 0, .bool false, .ref 4, .ref 5], .row 3 A, .row 1 B, .row 1 (emV (2 ^ k)), .row 1 (emD (2 ^ k))] := by
 have c1 := z7F k hk
 obtain ⟨e1, e2⟩ := pow2 hk
 unfold emV emD
 generalize 2 ^ k = pk at c1 e2 ⊢
 refine z01 z03 4 rfl Tryz.func128 rfl rfl rfl ?_
 repeat ((try conv => whnf); first | (refine ccA ([]) (c1) ?_) | (refine Exists.intro pk (And.intro rfl (And.intro rfl (And.intro (by omega) ?_)))) | (refine And.intro (by kernel_rfl) ?_) | (refine stpQ ?_))
 (refine z00 (by rfl) ?_ ?_ (by rfl)) <;> (repeat' (first | (exact eqA) | (refine shE ?_) | (refine And.intro ?_ ?_)))
theorem zjh (ho : Nat) (hho : ho ≤ 2) (k : Nat) (hk : k ≤ 2) (fs : List Fl) (hf : z2T fs) (po : List Bs) (hpo : (po.length : Int) ≤ 100000000) :
 CT Tryz.prog 55 [] [.int .i64 (ho : Int), .int .i64 (k : Int), .agg [.sl 3 (flE fs)], .sl 1 (strE po)] (.agg (cvE (ho : Int) (k : Int) fs po (cvOf ho (z0i fs z0g)) (emV (2 ^ k)) (emD (2 ^ k)))) [] := by
 have hfl := z3c fs
 have hfl2 := hf.1
 have hpl := z0m po
 have c1 := zf5 ho k hk (flE fs) (strE po)
 have c2 := z3s fs z0g hf
 have hfacts := z0Z fs z0g
 generalize z0i fs z0g = ts at c2 hfacts ⊢
 have hts := z0m ts
 have hts2 : (ts.length : Int) ≤ 20001 := by omega
 unfold z0g at c2
 generalize emV (2 ^ k) = EV at c1 ⊢
 generalize emD (2 ^ k) = ED at c1 ⊢
 refine z01 z03 1 rfl Tryz.func55 rfl rfl rfl ?_
 repeat ((try conv => whnf); first | (refine ccB ([_, _, _]) (c1) ?_) | (refine ccA ([]) (c2) ?_) | (refine And.intro (by simp only [List.length_append, List.length_cons, List.length_nil, List.nil_append, List.length_replicate, List.length_set]; omega) ?_) | (refine And.intro (by kernel_rfl) ?_) | (refine stpQ ?_))
 refine z1C Nat (fun i => ⟨[(8, .ptr 1 0 0), (9, .ptr 2 0 0), (10, .sl 1 (strE ts)), (11, .int .i64 (i : Int))],
  [(1, some (.box [.int .i64 0, .int .i64 0, .bool false, .val nilV, .val nilV, .val nilV, .val nilV, .int .i64 0, .bool false, .val nilV, .val nilV])), (2, some (cvB (ho : Int) (k : Int) fs po (cvOf ho (ts.take i)) 3 4 5 6)), (3, some (.row 8 (slE (cvOf ho (ts.take i)).se))), (4, some (.row 1 (ntE (cvOf ho (ts.take i)).tr))), (5, some (.row 1 EV)), (6, some (.row 1 ED))], 7⟩) (fun i => i ≤ ts.length) (fun i => ts.length - i) 0 (by omega) ?_ ?_
 ·(refine z02 (by rfl) ?_ ?_)
  all_goals (repeat' (first | (exact trivial) | ((try conv => whnf); first | (exact trivial) | (refine And.intro ?_ ?_))))
  all_goals first
   | rfl
   | decide
 ·intro Q1 hQ1 i hi
  by_cases hlt : i < ts.length
  ·have hlt2 : (i : Int) < ((strE ts).length : Int) := by omega
   have hnx := zh3 ho hlt
   have g : CvOk ho (cvOf ho (ts.take i)) := zh2 hho _
   have hmem := hfacts.1 _ (List.getElem_mem hlt)
   have gt := z67 (ps := ts) hlt
   generalize ts[i] = t at hnx hmem gt
   obtain ⟨b, r, rfl⟩ : ∃ b r, t = b :: r := by
    cases t with
    | nil => simp at hmem
    | cons b r => exact ⟨b, r, rfl⟩
   have hr : r.length ≤ 9000 := by have := hmem.2; simp at this; omega
   generalize cvOf ho (ts.take i) = s at hnx g ⊢
   have cA := z7E ho hho (k : Int) fs po EV ED s g b r hr
   have hs' : zc5 ho s (b :: r) = ckDo s (ckOf ho s (b :: r)) := rfl
   rw [hs'] at hnx
   generalize ckOf ho s (b :: r) = rk at cA hnx
   clear hs' g hfacts hmem
   cases rk with
   | no =>
     unfold cvH cvB at cA
     unfold cvB
     repeat ((try conv => whnf); first | (refine i_at gt ?_) | (refine z0N ([2, 3, 4, 5, 6]) (cA) (by ((repeat' (first | (exact trivial) | (exact rfl) | (decide) | (refine And.intro ?_ ?_))); first | done | fail)) (by ((repeat' (first | (exact trivial) | (exact rfl) | (decide) | (refine And.intro ?_ ?_))); first | done | fail)) (by decide) (by rfl) (by first | exact .inl rfl | (refine .inr ⟨by simp [own2, own1, own0], fun e he => ?_⟩; simp only [List.mem_cons, List.not_mem_nil, or_false] at he <;> first | exact he.elim | (subst he; (first | exact z0f | exact z0e | exact z0h _ | exact z0d _)) | (rcases he with rfl | rfl <;> (first | exact z0f | exact z0e | exact z0h _ | exact z0d _)) | (rcases he with rfl | rfl | rfl <;> (first | exact z0f | exact z0e | exact z0h _ | exact z0d _)))) ?_) | (refine ccB ([2, 3, 4, 5, 6]) (cA) ?_) | (refine stpQ ?_))
     refine ⟨i + 1, by omega, by omega, ?_⟩
     rw [hnx]
     (refine z02 (by rfl) ?_ ?_) <;> (repeat' (first | (exact eqA) | (refine shE ?_) | (refine And.intro ?_ ?_)))
     all_goals rfl
   | beg n =>
     unfold cvH cvB at cA
     unfold cvB
     repeat ((try conv => whnf); first | (refine i_at gt ?_) | (refine z0N ([2, 3, 4, 5, 6]) (cA) (by ((repeat' (first | (exact trivial) | (exact rfl) | (decide) | (refine And.intro ?_ ?_))); first | done | fail)) (by ((repeat' (first | (exact trivial) | (exact rfl) | (decide) | (refine And.intro ?_ ?_))); first | done | fail)) (by decide) (by rfl) (by first | exact .inl rfl | (refine .inr ⟨by simp [own2, own1, own0], fun e he => ?_⟩; simp only [List.mem_cons, List.not_mem_nil, or_false] at he <;> first | exact he.elim | (subst he; (first | exact z0f | exact z0e | exact z0h _ | exact z0d _)) | (rcases he with rfl | rfl <;> (first | exact z0f | exact z0e | exact z0h _ | exact z0d _)) | (rcases he with rfl | rfl | rfl <;> (first | exact z0f | exact z0e | exact z0h _ | exact z0d _)))) ?_) | (refine ccB ([2, 3, 4, 5, 6]) (cA) ?_) | (refine stpQ ?_))
     refine ⟨i + 1, by omega, by omega, ?_⟩
     rw [hnx]
     (refine z02 (by rfl) ?_ ?_) <;> (repeat' (first | (exact eqA) | (refine shE ?_) | (refine And.intro ?_ ?_)))
     all_goals rfl
   | clo h g =>
     unfold cvH cvB at cA
     unfold cvB
     repeat ((try conv => whnf); first | (refine i_at gt ?_) | (refine z0N ([2, 3, 4, 5, 6]) (cA) (by ((repeat' (first | (exact trivial) | (exact rfl) | (decide) | (refine And.intro ?_ ?_))); first | done | fail)) (by ((repeat' (first | (exact trivial) | (exact rfl) | (decide) | (refine And.intro ?_ ?_))); first | done | fail)) (by decide) (by rfl) (by first | exact .inl rfl | (refine .inr ⟨by simp [own2, own1, own0], fun e he => ?_⟩; simp only [List.mem_cons, List.not_mem_nil, or_false] at he <;> first | exact he.elim | (subst he; (first | exact z0f | exact z0e | exact z0h _ | exact z0d _)) | (rcases he with rfl | rfl <;> (first | exact z0f | exact z0e | exact z0h _ | exact z0d _)) | (rcases he with rfl | rfl | rfl <;> (first | exact z0f | exact z0e | exact z0h _ | exact z0d _)))) ?_) | (refine ccB ([2, 3, 4, 5, 6]) (cA) ?_) | (refine stpQ ?_))
     refine ⟨i + 1, by omega, by omega, ?_⟩
     rw [hnx]
     (refine z02 (by rfl) ?_ ?_) <;> (repeat' (first | (exact eqA) | (refine shE ?_) | (refine And.intro ?_ ?_)))
     all_goals rfl
  ·have hie : i = ts.length := by omega
   subst hie
   rw [List.take_length]
   unfold cvB
   repeat ((try conv => whnf); first | (refine stpQ ?_))
   refine hQ1 _ _ ?_
   repeat ((try conv => whnf); first | (refine And.intro (by kernel_rfl) ?_) | (refine stpQ ?_))
   (refine z00 (by rfl) ?_ ?_ (by rfl)) <;> (repeat' (first | (exact eqA) | (refine shE ?_) | (refine And.intro ?_ ?_)))
theorem z9w (seed : Bs) (hs : seed.length ≤ 100) : CT Tryz.prog 56 [] [.str seed] (.sl 1 (strE (z1c seed 16))) [] := by
 refine z01 z0L 1 rfl Tryz.func56 rfl rfl rfl ?_
 repeat ((try conv => whnf); first | (refine stpQ ?_))
 refine z0n 0 ⟨[(3, .ref 1)], [(1, some (.row 1 (strE (z1c seed 16))))], 2⟩ Nat (fun b => ⟨[(0, .str seed), (3, .ref 1), (4, .int .i64 (b : Int))], [(1, some (.row 1 (strE (z1c seed b))))], 2⟩) (fun b => b ≤ 16) (fun b => 16 - b) 0 (by omega) ?_ ?_ ?_
 ·(refine z02 (by rfl) ?_ ?_) <;> (repeat' (first | (exact eqA) | (refine shE ?_) | (refine And.intro ?_ ?_))) <;> first | rfl | decide
 ·intro b hb
  by_cases hlt : b < 16
  ·have hb8 : (b : Int) < 16 := by omega
   have cs := zhC seed b hs hlt
   have hnx := z8t seed b
   have hll := z1D seed b
   generalize z1c seed b = o at hnx hll ⊢
   generalize pubB seed b = k at cs hnx
   have hol := z0m o
   repeat ((try conv => whnf); first | (refine ccA ([]) (cs) ?_) | (refine And.intro (by simp [z0m]; omega) ?_) | (refine stpQ ?_))
   refine ⟨b + 1, by omega, by omega, ?_⟩
   rw [hnx]
   (refine z02 (by rfl) ?_ ?_) <;> (repeat' (first | (exact eqA) | (refine shE ?_) | (refine And.intro ?_ ?_)))
   rw [z6u]; rfl
  ·obtain rfl : b = 16 := by omega
   repeat ((try conv => whnf); first | (refine stpQ ?_))
   (refine z02 (by rfl) ?_ ?_) <;> (repeat' (first | (exact eqA) | (refine shE ?_) | (refine And.intro ?_ ?_)))
 ·repeat ((try conv => whnf); first | (refine stpQ ?_))
  (refine z00 (by rfl) ?_ ?_ (by rfl)) <;> (repeat' (first | (exact eqA) | (refine shE ?_) | (refine And.intro ?_ ?_)))
theorem zcu (ho : Nat) (hho : ho ≤ 2) (k : Nat) (hk : k ≤ 2) (fs : List Fl) (hf : z2T fs) :
 CT Tryz.prog 14 [] [.int .i64 (ho : Int), .int .i64 (k : Int), .agg [.sl 3 (flE fs)]] (.agg (cvE (ho : Int) (k : Int) fs (z1c (z2U ho) 16) (cvOf ho (z0i fs z0g)) (emV (2 ^ k)) (emD (2 ^ k)))) [] := by
 have c1 := zb7 ho hho
 have c2 := z9w (z2U ho) (z9i ho)
 have c3 := zjh ho hho k hk fs hf (z1c (z2U ho) 16) (by rw [z1D]; omega)
 generalize z1c (z2U ho) 16 = P at c2 c3 ⊢
 generalize z2U ho = S at c1 c2
 unfold cvE at c3 ⊢
 refine z01 z03 1 rfl Tryz.func14 rfl rfl rfl ?_
 repeat ((try conv => whnf); first | (refine ccA ([]) (c1) ?_) | (refine ccA ([]) (c2) ?_) | (refine ccA ([]) (c3) ?_) | (refine And.intro (by kernel_rfl) ?_) | (refine stpQ ?_))
 (refine z00 (by rfl) ?_ ?_ (by rfl)) <;> (repeat' (first | (exact eqA) | (refine shE ?_) | (refine And.intro ?_ ?_)))
end Go.Proofs.YtnhcfmmdaihneaaGreatDoor
