/- Functions by content: a proof is read by the reference. -/
import Derived.Test.YtgmbkbggnlponaaGreatDoorGg
namespace Go.Proofs.YtgmbkbggnlponaaGreatDoor
set_option linter.unusedVariables false
set_option linter.unusedSimpArgs false
set_option linter.unusedSectionVars false
open Go.RowKit Pl
attribute [local irreducible] z0t z0u z0y AnsP LeP
def SdAt (t : Bs) (w : Int) (R : List Bs × Nat × Bool) (n : Nat) (s : List Bs) (q : Nat) (b : Bool) : Prop := R = (s ++ (z36 t w n q b).1, (z36 t w n q b).2)
theorem SdAt.step {t : Bs} {w : Int} {R : List Bs × Nat × Bool} {n : Nat} {s : List Bs} {q : Nat} (h : SdAt t w R (n + 1) s q false) : SdAt t w R n (s ++ [(z0M t q false w).1]) (z0M t q false w).2.1 (z0M t q false w).2.2 := by
 unfold SdAt at h ⊢; rw [h, z36]; simp
theorem SdAt.bad {t : Bs} {w : Int} {R : List Bs × Nat × Bool} {n : Nat} {s : List Bs} {q : Nat} (h : SdAt t w R n s q true) : R = (s, q, true) := by
 unfold SdAt at h; rw [h]; cases n <;> simp [z36]
theorem SdAt.done {t : Bs} {w : Int} {R : List Bs × Nat × Bool} {s : List Bs} {q : Nat} {b : Bool} (h : SdAt t w R 0 s q b) : R = (s, q, b) := by
 unfold SdAt at h; rw [h]; simp [z36]
set_option maxRecDepth 100000 in
set_option maxHeartbeats 2000000 in
theorem z5J (t : Bs) (w : Int) (ht : (t.length : Int) ≤ 1000000000) : CT Tryz.prog 46 [] [.str t, .int .i64 w] (.tup [.agg [.ref 1, .ref 2], .bool (z1D t w).isSome]) [.row 2 (lvE (z4p (z1D t w)).1), .row 1 (strE (z4p (z1D t w)).2)] := by
 have cA := zf4 t 0 false ht (by omega)
 have hsml := zbr (t := t) (p := 0) (b := false) (by omega)
 have hleA := zdg (t := t) (p := 0) (b := false) (by omega)
 have hl30 := (z3L (sh := z1x t) (fun p b hp => z2t hp) (min (numS t 0 false).1 30) _ (numS t 0 false).2.2 (z4l (t := t) (p := 0) (bad := false) (by omega)).1).1
 change (z2m t 0 false).1.length ≤ _ at hl30
 unfold z1D
 rcases hA : z2m t 0 false with ⟨l, p1, b1⟩
 rw [hA] at cA hsml hleA hl30
 simp only at cA hsml hleA hl30 ⊢
 have cB := zcx t p1 b1 ht hleA
 have hleB := z4l (bad := b1) hleA
 rcases hB : numS t p1 b1 with ⟨n, p2, b2⟩
 rw [hB] at cB hleB
 simp only at cB hleB ⊢
 generalize hC : z36 t w (min n 10) p2 b2 = R
 refine z01 z0m 1 rfl Tryz.func46 rfl rfl rfl ?_
 repeat ((try conv => whnf); first | (refine ccB ([_]) (cA) ?_) | (refine ccB ([_]) (cB) ?_) | (refine stpQ ?_))
 refine z0S (Nat × Nat × List Bs × Bool) (fun ⟨k, q, s, bd⟩ => ⟨[(0, .str t), (1, .int .i64 w), (4, .ptr 5 0 0), (5, .bool false), (6, .ptr 1 0 0), (7, .ptr 2 0 0), (8, .int .i64 (n : Int)), (9, .int .i64 (k : Int))], [(1, some (fldB t q bd)), (2, some (.box [.ref 3, .ref 4])), (3, some (.row 2 (lvE l))), (4, some (.row 1 (strE s))), (5, some (.box [.val nilV, .val nilV]))], 6⟩) (fun ⟨k, q, s, bd⟩ => k ≤ min n 10 ∧ s.length = k ∧ SdAt t w R (min n 10 - k) s q bd ∧ q ≤ t.length) (fun ⟨k, q, s, bd⟩ => min n 10 - k) (0, p2, [], b2) ⟨by omega, rfl, by rw [← hC]; rfl, hleB.1⟩ ?_ ?_
 ·(refine z02 (by rfl) ?_ ?_) <;> (repeat' (first | (exact eqA) | (refine shE ?_) | (refine And.intro ?_ ?_))) <;> first | rfl | decide
 ·rintro ⟨k, q, s, bd⟩ ⟨hk, hl, hat, hq⟩
  have hll := z0c s
  by_cases hgo : bd = false ∧ k < min n 10
  ·obtain ⟨rfl, hlt⟩ := hgo
   obtain ⟨m, hm⟩ : ∃ m, min n 10 - k = m + 1 := ⟨min n 10 - k - 1, by omega⟩
   rw [hm] at hat
   have c1 := zbq t q false w ht hq
   have hst := hat.step
   have hle := z4S (w := w) (b := false) hq
   have k1 : (k : Int) < (n : Int) := by omega
   have k2 : (k : Int) < 10 := by omega
   repeat ((try conv => whnf); first | (refine ccB ([1]) (c1) ?_) | (refine And.intro (by simp [z0c]; omega) ?_) | (refine stpQ ?_))
   ((try conv => whnf); refine And.intro (by kernel_rfl) ?_)
   repeat ((try conv => whnf); first | (refine stpQ ?_))
   refine ⟨(k + 1, (z0M t q false w).2.1, s ++ [(z0M t q false w).1], (z0M t q false w).2.2), ⟨by omega, by simp [hl], by rw [show min n 10 - (k + 1) = m by omega]; exact hst, hle⟩, (by show min n 10 - (k + 1) < min n 10 - k; omega), ?_⟩
   (refine z02 (by rfl) ?_ ?_) <;> (repeat' (first | (exact eqA) | (refine shE ?_) | (refine And.intro ?_ ?_)))
   all_goals first
    | (simp [strE]; done)
    | decide
  ·have e : R = (s, q, bd) := by
    cases bd
    ·have hkn : min n 10 - k = 0 := by
      have : ¬ k < min n 10 := fun h => hgo ⟨rfl, h⟩
      omega
     rw [hkn] at hat; exact hat.done
    ·exact hat.bad
   rw [e]
   simp only
   have cT := z3M l s w hsml (by omega) (by omega)
   cases bd
   ·have hnk : ¬ k < min n 10 := fun h => hgo ⟨rfl, h⟩
    cases ho : z0J l s w
    ·rw [ho] at cT
     rw [if_neg (by simp)]
     repeat' (first | ((try conv => whnf); first | (refine ccA ([]) (cT) ?_) | (refine stpQ ?_)) | ((try conv => whnf); first | (refine cb_d (fun h => ?_) (fun h => ?_)) | (refine cb_n (fun h => ?_) (fun h => ?_)) | (refine cb (fun h => ?_) (fun h => ?_))))
     all_goals first
      | (exfalso; omega)
      | ((refine z00 (by rfl) ?_ ?_ (by rfl)) <;> (repeat' (first | (exact eqA) | (refine shE ?_) | (refine And.intro ?_ ?_))) <;> first | rfl | decide)
    ·rw [ho] at cT
     by_cases htx : z0l l s = t
     ·rw [if_pos ⟨rfl, rfl, htx⟩]
      repeat' (first | ((try conv => whnf); first | (refine ccA ([]) (cT) ?_) | (refine z1C htx ?_) | (refine stpQ ?_)) | ((try conv => whnf); first | (refine cb_d (fun h => ?_) (fun h => ?_)) | (refine cb_n (fun h => ?_) (fun h => ?_)) | (refine cb (fun h => ?_) (fun h => ?_))))
      all_goals first
       | (exfalso; omega)
       | ((refine z00 (by rfl) ?_ ?_ (by rfl)) <;> (repeat' (first | (exact eqA) | (refine shE ?_) | (refine And.intro ?_ ?_))) <;> first | rfl | decide)
     ·rw [if_neg (fun h => htx h.2.2)]
      repeat' (first | ((try conv => whnf); first | (refine ccA ([]) (cT) ?_) | (refine z30 htx ?_) | (refine stpQ ?_)) | ((try conv => whnf); first | (refine cb_d (fun h => ?_) (fun h => ?_)) | (refine cb_n (fun h => ?_) (fun h => ?_)) | (refine cb (fun h => ?_) (fun h => ?_))))
      all_goals first
       | (exfalso; omega)
       | ((refine z00 (by rfl) ?_ ?_ (by rfl)) <;> (repeat' (first | (exact eqA) | (refine shE ?_) | (refine And.intro ?_ ?_))) <;> first | rfl | decide)
   ·rw [if_neg (by simp)]
    repeat' (first | ((try conv => whnf); first | (refine ccA ([]) (cT) ?_) | (refine stpQ ?_)) | ((try conv => whnf); first | (refine cb_d (fun h => ?_) (fun h => ?_)) | (refine cb_n (fun h => ?_) (fun h => ?_)) | (refine cb (fun h => ?_) (fun h => ?_))))
    all_goals
     (refine z00 (by rfl) ?_ ?_ (by rfl)) <;> (repeat' (first | (exact eqA) | (refine shE ?_) | (refine And.intro ?_ ?_))) <;> first | rfl | decide
end Go.Proofs.YtgmbkbggnlponaaGreatDoor
