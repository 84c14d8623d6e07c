/- Functions by content: a coordinator is made from its disk; its rows are told as rows that may be moved. -/
import Derived.Test.YtnhcfmmdaihneaaGreatDoorVd
import Derived.Test.YtnhcfmmdaihneaaGreatDoorCk
import Derived.Test.YtnhcfmmdaihneaaGreatDoorCdb
namespace Go.Proofs.YtnhcfmmdaihneaaGreatDoor
set_option maxRecDepth 100000
set_option maxHeartbeats 8000000
set_option linter.unusedVariables false
set_option linter.unusedSimpArgs false
set_option linter.unusedSectionVars false
open Go.RowKit Pl
attribute [local irreducible] z0w z0x z0A AnsP LeP CvE
theorem zjf {k : Nat} (h : k ≤ 2) : IntKind.i64.wrap (1 * 2 ^ ((k : Nat) : Int).toNat) = ((2 ^ k : Nat) : Int) ∧ 2 ^ k ≤ 4 := by
 rw [Int.toNat_natCast]
 rcases (show k = 0 ∨ k = 1 ∨ k = 2 by omega) with rfl | rfl | rfl <;> exact ⟨by decide, by decide⟩
theorem zhy (n : Nat) : ∀ e ∈ List.replicate n ([.str []] : List T), ∀ c ∈ e, cl0 c := fun e he c hc => by
 rw [(List.mem_replicate.1 he).2, List.mem_singleton] at hc
 subst hc; trivial
theorem zhz (n : Nat) : ∀ e ∈ List.replicate n ([.bool false] : List T), ∀ c ∈ e, cl0 c := fun e he c hc => by
 rw [(List.mem_replicate.1 he).2, List.mem_singleton] at hc
 subst hc; trivial
theorem z3Y (l : List Bs) (h : (l.length : Int) ≤ 100000000) : CT Tryz.prog 135 [] [.sl 1 (strE l)] (.ref 1) [.row 1 (strE l)] := by
 have hl := z0m l
 refine z01 z03 1 rfl Tryz.func135 rfl rfl rfl ?_
 repeat ((try conv => whnf); first | (refine And.intro (by simp only [List.length_append, List.length_cons, List.length_nil, List.nil_append, List.length_replicate, List.length_set]; omega) ?_) | (refine And.intro (by kernel_rfl) ?_) | (refine stpQ ?_))
 (refine z00 (by rfl) ?_ ?_ (by rfl)) <;> (repeat' (first | (exact eqA) | (refine And.intro ?_ ?_) | ((fail_if_success (with_reducible (show _ = _))); (show _ = _))))
theorem zco (ho : Nat) (hho : ho ≤ 2) (k : Nat) (hk : k ≤ 2) (fs : List Fl) (hf : z2T fs) (po : List Bs) (hpo : (po.length : Int) ≤ 100000000) :
 CT Tryz.prog 59 [] [.int .i64 (ho : Int), .int .i64 (k : Int), .agg [.sl 3 (flE fs)], .sl 1 (strE po)] (.agg [.int .i64 (ho : Int), .int .i64 (k : Int), .bool true, .ref 1, .ref 2, .ref 3, .ref 4, .int .i64 ((cvOf ho (z0i fs z0g)).ty : Int), .bool false, .ref 5, .ref 6]) [.deep 3 (flE fs) [], .deep 1 (strE po) [], .deep 8 (sdE (cvOf ho (z0i fs z0g)).se) [], .deep 1 (ntE (cvOf ho (z0i fs z0g)).tr) [], .deep 1 (emV (2 ^ k)) [], .deep 1 (emD (2 ^ k)) []] := by
 have c1 := z4G fs hf.1
 have c2 := z44 fs z0g hf
 have c3 := z3Y po hpo
 have c4 := z5N (n := (k : Int)) (by omega)
 obtain ⟨e1, e2⟩ := zjf hk
 have hfacts := z0Z fs z0g
 generalize z0i fs z0g = ts at c2 hfacts ⊢
 have hts := z0m ts
 have hts2 : (ts.length : Int) ≤ 20001 := by omega
 unfold z0g at c2
 unfold emV emD
 generalize 2 ^ k = pk at e1 e2 ⊢
 refine z01 z03 1 rfl Tryz.func59 rfl rfl rfl ?_
 iterate 34 ((try conv => whnf); first | (refine ccA ([]) (c1) ?_) | (refine ccA ([]) (c2) ?_) | (refine ccA ([]) (c3) ?_) | (refine ccA ([]) (c4) ?_) | (refine And.intro (show _ ≤ (64 : Int) from by omega) ?_) | (refine Exists.intro _ (And.intro e1.symm ?_)) | (refine Exists.intro pk (And.intro rfl (And.intro rfl (And.intro (by omega) ?_)))) | (refine And.intro (by kernel_rfl) ?_) | (refine stpQ ?_))
 repeat ((try conv => whnf); first | (refine stpQ ?_))
 refine z1C Nat (fun i => ⟨[(8, .ptr 1 0 0), (9, .ptr 2 0 0), (30, .sl 1 (strE ts)), (31, .int .i64 ((strE ts).length : Int)), (32, .int .i64 (i : Int))],
  [(1, some (.box [.int .i64 0, .int .i64 0, .bool false, .val nilV, .val nilV, .val nilV, .val nilV, .int .i64 0, .bool false, .val nilV, .val nilV])), (2, some (cvBD (ho : Int) (k : Int) (cvOf ho (ts.take i)) 3 4 5 6 7 8)), (3, some (.row 3 (flE fs))), (4, some (.row 1 (strE po))), (5, some (.deep 8 (sdE (cvOf ho (ts.take i)).se) [])), (6, some (.row 1 (ntE (cvOf ho (ts.take i)).tr))), (7, some (.row 1 (List.replicate pk [.str []]))), (8, some (.row 1 (List.replicate pk [.bool false])))], 9⟩) (fun i => i ≤ ts.length) (fun i => ts.length - i) 0 (by omega) ?_ ?_
 ·(refine z02 (by rfl) ?_ ?_)
  all_goals (repeat' (first | (exact trivial) | ((try conv => whnf); first | (exact trivial) | (refine And.intro ?_ ?_))))
  all_goals first
   | rfl
   | decide
 ·intro Q1 hQ1 i hi
  by_cases hlt : i < ts.length
  ·have hlt2 : (i : Int) < ((strE ts).length : Int) := by omega
   have hnx := zh3 ho hlt
   have g : CvOk ho (cvOf ho (ts.take i)) := zh2 hho _
   have hmem := hfacts.1 _ (List.getElem_mem hlt)
   have gt := z67 (ps := ts) hlt
   generalize ts[i] = t at hnx hmem gt
   obtain ⟨b, r, rfl⟩ : ∃ b r, t = b :: r := by
    cases t with
    | nil => simp at hmem
    | cons b r => exact ⟨b, r, rfl⟩
   have hr : r.length ≤ 9000 := by have := hmem.2; simp at this; omega
   generalize cvOf ho (ts.take i) = s at hnx g ⊢
   have cA := zaY ho hho (k : Int) fs po (List.replicate pk [.str []]) (List.replicate pk [.bool false]) s g b r hr
   have hs' : zc5 ho s (b :: r) = ckDo s (ckOf ho s (b :: r)) := rfl
   rw [hs'] at hnx
   generalize ckOf ho s (b :: r) = rk at cA hnx
   clear hs' g hfacts hmem
   cases rk with
   | no =>
     unfold cvHD cvBD at cA
     unfold cvBD
     repeat ((try conv => whnf); first | (refine i_at gt ?_) | (refine z0N ([2, 3, 4, 5, 6, 7, 8]) (cA) (by ((repeat' (first | (exact trivial) | (exact rfl) | (decide) | (refine And.intro ?_ ?_))); first | done | fail)) (by ((repeat' (first | (exact trivial) | (exact rfl) | (decide) | (refine And.intro ?_ ?_))); first | done | fail)) (by decide) (by rfl) (by first | exact .inl rfl | (refine .inr ⟨by simp [own2, own1, own0], fun e he => ?_⟩; simp only [List.mem_cons, List.not_mem_nil, or_false] at he <;> first | exact he.elim | (subst he; (first | exact z0f | exact z0e | exact z0h _ | exact z0d _)) | (rcases he with rfl | rfl <;> (first | exact z0f | exact z0e | exact z0h _ | exact z0d _)) | (rcases he with rfl | rfl | rfl <;> (first | exact z0f | exact z0e | exact z0h _ | exact z0d _)))) ?_) | (refine ccB ([2, 3, 4, 5, 6, 7, 8]) (cA) ?_) | (refine stpQ ?_))
     refine ⟨i + 1, by omega, by omega, ?_⟩
     rw [hnx]
     (refine z02 (by rfl) ?_ ?_) <;> (repeat' (first | (exact eqA) | (refine And.intro ?_ ?_) | ((fail_if_success (with_reducible (show _ = _))); (show _ = _))))
     all_goals rfl
   | beg n =>
     unfold cvHD cvBD at cA
     unfold cvBD
     repeat ((try conv => whnf); first | (refine i_at gt ?_) | (refine z0N ([2, 3, 4, 5, 6, 7, 8]) (cA) (by ((repeat' (first | (exact trivial) | (exact rfl) | (decide) | (refine And.intro ?_ ?_))); first | done | fail)) (by ((repeat' (first | (exact trivial) | (exact rfl) | (decide) | (refine And.intro ?_ ?_))); first | done | fail)) (by decide) (by rfl) (by first | exact .inl rfl | (refine .inr ⟨by simp [own2, own1, own0], fun e he => ?_⟩; simp only [List.mem_cons, List.not_mem_nil, or_false] at he <;> first | exact he.elim | (subst he; (first | exact z0f | exact z0e | exact z0h _ | exact z0d _)) | (rcases he with rfl | rfl <;> (first | exact z0f | exact z0e | exact z0h _ | exact z0d _)) | (rcases he with rfl | rfl | rfl <;> (first | exact z0f | exact z0e | exact z0h _ | exact z0d _)))) ?_) | (refine ccB ([2, 3, 4, 5, 6, 7, 8]) (cA) ?_) | (refine stpQ ?_))
     refine ⟨i + 1, by omega, by omega, ?_⟩
     rw [hnx]
     (refine z02 (by rfl) ?_ ?_) <;> (repeat' (first | (exact eqA) | (refine And.intro ?_ ?_) | ((fail_if_success (with_reducible (show _ = _))); (show _ = _))))
     all_goals rfl
   | clo h g =>
     unfold cvHD cvBD at cA
     unfold cvBD
     repeat ((try conv => whnf); first | (refine i_at gt ?_) | (refine z0N ([2, 3, 4, 5, 6, 7, 8]) (cA) (by ((repeat' (first | (exact trivial) | (exact rfl) | (decide) | (refine And.intro ?_ ?_))); first | done | fail)) (by ((repeat' (first | (exact trivial) | (exact rfl) | (decide) | (refine And.intro ?_ ?_))); first | done | fail)) (by decide) (by rfl) (by first | exact .inl rfl | (refine .inr ⟨by simp [own2, own1, own0], fun e he => ?_⟩; simp only [List.mem_cons, List.not_mem_nil, or_false] at he <;> first | exact he.elim | (subst he; (first | exact z0f | exact z0e | exact z0h _ | exact z0d _)) | (rcases he with rfl | rfl <;> (first | exact z0f | exact z0e | exact z0h _ | exact z0d _)) | (rcases he with rfl | rfl | rfl <;> (first | exact z0f | exact z0e | exact z0h _ | exact z0d _)))) ?_) | (refine ccB ([2, 3, 4, 5, 6, 7, 8]) (cA) ?_) | (refine stpQ ?_))
     refine ⟨i + 1, by omega, by omega, ?_⟩
     rw [hnx]
     (refine z02 (by rfl) ?_ ?_) <;> (repeat' (first | (exact eqA) | (refine And.intro ?_ ?_) | ((fail_if_success (with_reducible (show _ = _))); (show _ = _))))
     all_goals rfl
  ·have hie : i = ts.length := by omega
   subst hie
   rw [List.take_length]
   unfold cvBD
   repeat ((try conv => whnf); first | (refine stpQ ?_))
   refine hQ1 _ _ ?_
   repeat ((try conv => whnf); first | (refine And.intro (by kernel_rfl) ?_) | (refine stpQ ?_))
   (refine z00 (by rfl) ?_ ?_ (by rfl)) <;> (repeat' (first | (exact eqA) | (refine And.intro ?_ ?_) | ((fail_if_success (with_reducible (show _ = _))); (show _ = _)))) <;> first | rfl | exact CvE.refl (zhw _) | exact CvE.refl (zhx _) | exact CvE.refl (zc9 _) | exact CvE.refl (zhy _) | exact CvE.refl (zhz _)
theorem zcp (ho : Nat) (hho : ho ≤ 2) (k : Nat) (hk : k ≤ 2) (fs : List Fl) (hf : z2T fs) :
 CT Tryz.prog 16 [] [.int .i64 (ho : Int), .int .i64 (k : Int), .agg [.sl 3 (flE fs)]] (.agg [.int .i64 (ho : Int), .int .i64 (k : Int), .bool true, .ref 1, .ref 2, .ref 3, .ref 4, .int .i64 ((cvOf ho (z0i fs z0g)).ty : Int), .bool false, .ref 5, .ref 6]) [.deep 3 (flE fs) [], .deep 1 (strE (z1c (z2U ho) 16)) [], .deep 8 (sdE (cvOf ho (z0i fs z0g)).se) [], .deep 1 (ntE (cvOf ho (z0i fs z0g)).tr) [], .deep 1 (emV (2 ^ k)) [], .deep 1 (emD (2 ^ k)) []] := by
 have c1 := zdW ho hho
 have c2 := zhu (z2U ho) (z9i ho)
 have c3 := zco ho hho k hk fs hf (z1c (z2U ho) 16) (by rw [z1D]; omega)
 generalize z1c (z2U ho) 16 = P at c2 c3 ⊢
 generalize z2U ho = S at c1 c2
 refine z01 z03 1 rfl Tryz.func16 rfl rfl rfl ?_
 repeat ((try conv => whnf); first | (refine ccA ([]) (c1) ?_) | (refine ccA ([]) (c2) ?_) | (refine ccA ([]) (c3) ?_) | (refine And.intro (by kernel_rfl) ?_) | (refine stpQ ?_))
 (refine z00 (by rfl) ?_ ?_ (by rfl)) <;> (repeat' (first | (exact eqA) | (refine And.intro ?_ ?_) | ((fail_if_success (with_reducible (show _ = _))); (show _ = _)))) <;> first | rfl | exact CvE.refl (zc9 _)
end Go.Proofs.YtnhcfmmdaihneaaGreatDoor
