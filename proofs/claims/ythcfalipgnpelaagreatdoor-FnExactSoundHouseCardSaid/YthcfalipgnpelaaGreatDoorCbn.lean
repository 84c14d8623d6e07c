/- Functions by content: the program's coordinator is made from its disk. -/
import Derived.Test.YthcfalipgnpelaaGreatDoorVd
import Derived.Test.YthcfalipgnpelaaGreatDoorCbe
import Derived.Test.YthcfalipgnpelaaGreatDoorCk
namespace Go.Proofs.YthcfalipgnpelaaGreatDoor
set_option maxRecDepth 100000
set_option maxHeartbeats 8000000
set_option linter.unusedVariables false
set_option linter.unusedSimpArgs false
set_option linter.unusedSectionVars false
open Go.RowKit Pl
attribute [local irreducible] z0o z0p z0z AnsP LeP
theorem pow2 {k : Nat} (h : k ≤ 2) : IntKind.i64.wrap (1 * 2 ^ ((k : Nat) : Int).toNat) = ((2 ^ k : Nat) : Int) ∧ 2 ^ k ≤ 4 := by
 rw [Int.toNat_natCast]
 rcases (show k = 0 ∨ k = 1 ∨ k = 2 by omega) with rfl | rfl | rfl <;> exact ⟨by decide, by decide⟩
theorem zfE (ho : Nat) (hho : ho ≤ 2) (k : Nat) (hk : k ≤ 2) (fs : List Fl) (hf : z50 fs) (po : List Bs) (hpo : (po.length : Int) ≤ 100000000) :
 CT Tryz.prog 103 [] [.int .i64 (ho : Int), .int .i64 (k : Int), .agg [.sl 3 (flE fs)], .sl 1 (strE po)] (.agg (cvE (ho : Int) (k : Int) fs po (cvOf ho (z0i fs z0M)) (emV (2 ^ k)) (emD (2 ^ k)))) [] := by
 have c1 := z9b fs hf.1
 have c2 := z92 fs z0M hf
 have c3 := zbL po hpo
 have c4 := zfq (n := (k : Int)) (by omega)
 obtain ⟨e1, e2⟩ := pow2 hk
 have hfacts := z1h fs z0M
 generalize z0i fs z0M = ts at c2 hfacts ⊢
 have hts := z05 ts
 have hts2 : (ts.length : Int) ≤ 20001 := by omega
 unfold z0M at c2
 unfold emV emD
 generalize 2 ^ k = pk at e1 e2 ⊢
 refine z01 z03 1 rfl Tryz.func103 rfl rfl rfl ?_
 iterate 34 ((try conv => whnf); first | (refine ccA ([]) (c1) ?_) | (refine ccA ([]) (c2) ?_) | (refine ccA ([]) (c3) ?_) | (refine ccA ([]) (c4) ?_) | (refine And.intro (show _ ≤ (64 : Int) from by omega) ?_) | (refine Exists.intro _ (And.intro e1.symm ?_)) | (refine Exists.intro pk (And.intro rfl (And.intro rfl (And.intro (by omega) ?_)))) | (refine And.intro (by kernel_rfl) ?_) | (refine stpQ ?_))
 repeat ((try conv => whnf); first | (refine stpQ ?_))
 refine z0K Nat (fun i => ⟨[(8, .ptr 1 0 0), (9, .ptr 2 0 0), (30, .sl 1 (strE ts)), (31, .int .i64 ((strE ts).length : Int)), (32, .int .i64 (i : Int))],
  [(1, some (.box [.int .i64 0, .int .i64 0, .bool false, .val nilV, .val nilV, .val nilV, .val nilV, .int .i64 0, .bool false, .val nilV, .val nilV])), (2, some (cvB (ho : Int) (k : Int) fs po (cvOf ho (ts.take i)) 3 4 5 6)), (3, some (.row 8 (slE (cvOf ho (ts.take i)).se))), (4, some (.row 1 (ntE (cvOf ho (ts.take i)).tr))), (5, some (.row 1 (List.replicate pk [.str []]))), (6, some (.row 1 (List.replicate pk [.bool false])))], 7⟩) (fun i => i ≤ ts.length) (fun i => ts.length - i) 0 (by omega) ?_ ?_
 ·(refine z02 (by rfl) ?_ ?_)
  all_goals (repeat' (first | (exact trivial) | ((try conv => whnf); first | (exact trivial) | (refine And.intro ?_ ?_))))
  all_goals first
   | rfl
   | decide
 ·intro Q1 hQ1 i hi
  by_cases hlt : i < ts.length
  ·have hlt2 : (i : Int) < ((strE ts).length : Int) := by omega
   have hnx := zhR ho hlt
   have g : CvOk ho (cvOf ho (ts.take i)) := z80 hho _
   have hmem := hfacts.1 _ (List.getElem_mem hlt)
   have gt := zeB (ps := ts) hlt
   generalize ts[i] = t at hnx hmem gt
   obtain ⟨b, r, rfl⟩ : ∃ b r, t = b :: r := by
    cases t with
    | nil => simp at hmem
    | cons b r => exact ⟨b, r, rfl⟩
   have hr : r.length ≤ 9000 := by have := hmem.2; simp at this; omega
   generalize cvOf ho (ts.take i) = s at hnx g ⊢
   have cA := zkb ho hho (k : Int) fs po (List.replicate pk [.str []]) (List.replicate pk [.bool false]) s g b r hr
   have hs' : zcT ho s (b :: r) = ckDo s (ckOf ho s (b :: r)) := rfl
   rw [hs'] at hnx
   generalize ckOf ho s (b :: r) = rk at cA hnx
   clear hs' g hfacts hmem
   cases rk with
   | no =>
     unfold cvH cvB at cA
     unfold cvB
     repeat ((try conv => whnf); first | (refine i_at gt ?_) | (refine z16 ([2, 3, 4, 5, 6]) (cA) (by ((repeat' (first | (exact trivial) | (exact rfl) | (decide) | (refine And.intro ?_ ?_))); first | done | fail)) (by ((repeat' (first | (exact trivial) | (exact rfl) | (decide) | (refine And.intro ?_ ?_))); first | done | fail)) (by decide) (by rfl) (by first | exact .inl rfl | (refine .inr ⟨by simp [own2, own1, own0], fun e he => ?_⟩; simp only [List.mem_cons, List.not_mem_nil, or_false] at he <;> first | exact he.elim | (subst he; (first | exact z0b | exact z0a | exact z0c _ | exact z09 _)) | (rcases he with rfl | rfl <;> (first | exact z0b | exact z0a | exact z0c _ | exact z09 _)) | (rcases he with rfl | rfl | rfl <;> (first | exact z0b | exact z0a | exact z0c _ | exact z09 _)))) ?_) | (refine ccB ([2, 3, 4, 5, 6]) (cA) ?_) | (refine stpQ ?_))
     refine ⟨i + 1, by omega, by omega, ?_⟩
     rw [hnx]
     (refine z02 (by rfl) ?_ ?_) <;> (repeat' (first | (exact eqA) | (refine shE ?_) | (refine And.intro ?_ ?_)))
     all_goals rfl
   | beg n =>
     unfold cvH cvB at cA
     unfold cvB
     repeat ((try conv => whnf); first | (refine i_at gt ?_) | (refine z16 ([2, 3, 4, 5, 6]) (cA) (by ((repeat' (first | (exact trivial) | (exact rfl) | (decide) | (refine And.intro ?_ ?_))); first | done | fail)) (by ((repeat' (first | (exact trivial) | (exact rfl) | (decide) | (refine And.intro ?_ ?_))); first | done | fail)) (by decide) (by rfl) (by first | exact .inl rfl | (refine .inr ⟨by simp [own2, own1, own0], fun e he => ?_⟩; simp only [List.mem_cons, List.not_mem_nil, or_false] at he <;> first | exact he.elim | (subst he; (first | exact z0b | exact z0a | exact z0c _ | exact z09 _)) | (rcases he with rfl | rfl <;> (first | exact z0b | exact z0a | exact z0c _ | exact z09 _)) | (rcases he with rfl | rfl | rfl <;> (first | exact z0b | exact z0a | exact z0c _ | exact z09 _)))) ?_) | (refine ccB ([2, 3, 4, 5, 6]) (cA) ?_) | (refine stpQ ?_))
     refine ⟨i + 1, by omega, by omega, ?_⟩
     rw [hnx]
     (refine z02 (by rfl) ?_ ?_) <;> (repeat' (first | (exact eqA) | (refine shE ?_) | (refine And.intro ?_ ?_)))
     all_goals rfl
   | clo h g =>
     unfold cvH cvB at cA
     unfold cvB
     repeat ((try conv => whnf); first | (refine i_at gt ?_) | (refine z16 ([2, 3, 4, 5, 6]) (cA) (by ((repeat' (first | (exact trivial) | (exact rfl) | (decide) | (refine And.intro ?_ ?_))); first | done | fail)) (by ((repeat' (first | (exact trivial) | (exact rfl) | (decide) | (refine And.intro ?_ ?_))); first | done | fail)) (by decide) (by rfl) (by first | exact .inl rfl | (refine .inr ⟨by simp [own2, own1, own0], fun e he => ?_⟩; simp only [List.mem_cons, List.not_mem_nil, or_false] at he <;> first | exact he.elim | (subst he; (first | exact z0b | exact z0a | exact z0c _ | exact z09 _)) | (rcases he with rfl | rfl <;> (first | exact z0b | exact z0a | exact z0c _ | exact z09 _)) | (rcases he with rfl | rfl | rfl <;> (first | exact z0b | exact z0a | exact z0c _ | exact z09 _)))) ?_) | (refine ccB ([2, 3, 4, 5, 6]) (cA) ?_) | (refine stpQ ?_))
     refine ⟨i + 1, by omega, by omega, ?_⟩
     rw [hnx]
     (refine z02 (by rfl) ?_ ?_) <;> (repeat' (first | (exact eqA) | (refine shE ?_) | (refine And.intro ?_ ?_)))
     all_goals rfl
  ·have hie : i = ts.length := by omega
   subst hie
   rw [List.take_length]
   unfold cvB
   repeat ((try conv => whnf); first | (refine stpQ ?_))
   refine hQ1 _ _ ?_
   repeat ((try conv => whnf); first | (refine And.intro (by kernel_rfl) ?_) | (refine stpQ ?_))
   (refine z00 (by rfl) ?_ ?_ (by rfl)) <;> (repeat' (first | (exact eqA) | (refine shE ?_) | (refine And.intro ?_ ?_)))
theorem zfF (ho : Nat) (hho : ho ≤ 2) (k : Nat) (hk : k ≤ 2) (fs : List Fl) (hf : z50 fs) :
 CT Tryz.prog 58 [] [.int .i64 (ho : Int), .int .i64 (k : Int), .agg [.sl 3 (flE fs)]] (.agg (cvE (ho : Int) (k : Int) fs (z2B (z3U ho) 16) (cvOf ho (z0i fs z0M)) (emV (2 ^ k)) (emD (2 ^ k)))) [] := by
 have c1 := zkc ho hho
 have c2 := zmU (z3U ho) (zet ho)
 have c3 := zfE ho hho k hk fs hf (z2B (z3U ho) 16) (by rw [z3E]; omega)
 generalize z2B (z3U ho) 16 = P at c2 c3 ⊢
 generalize z3U ho = S at c1 c2
 unfold cvE at c3 ⊢
 refine z01 z03 1 rfl Tryz.func58 rfl rfl rfl ?_
 repeat ((try conv => whnf); first | (refine ccA ([]) (c1) ?_) | (refine ccA ([]) (c2) ?_) | (refine ccA ([]) (c3) ?_) | (refine And.intro (by kernel_rfl) ?_) | (refine stpQ ?_))
 (refine z00 (by rfl) ?_ ?_ (by rfl)) <;> (repeat' (first | (exact eqA) | (refine shE ?_) | (refine And.intro ?_ ?_)))
end Go.Proofs.YthcfalipgnpelaaGreatDoor
