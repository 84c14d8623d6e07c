/- Functions by content: lists of entries. -/
import Derived.Test.YtmmnkndmlkhmhaaGreatDoorFA
namespace Go.Proofs.YtmmnkndmlkhmhaaGreatDoor
open Go.RowKit Pl
set_option linter.unusedVariables false
set_option linter.unusedSimpArgs false
attribute [local irreducible] CondB CallP LoopW AnsP LeP

def lvE (l : List Lf) : List (List T) := l.map fun x => [.str x.1, .str x.2]
theorem lfAt_get {l : List Lf} {k : Nat} (h : k < l.length) : lfAt l k = l[k] := by simp [lfAt, List.getD, List.getElem?_eq_getElem h]
theorem lv_get {l : List Lf} {k : Nat} (h : k < l.length) : (lvE l)[k]? = some [.str (lfAt l k).1, .str (lfAt l k).2] := by
  rw [lfAt_get h]; simp [lvE, List.getElem?_eq_getElem h]
theorem lv_len (l : List Lf) : (lvE l).length = l.length := by simp [lvE]
theorem lvE_append (a b : List Lf) : lvE (a ++ b) = lvE a ++ lvE b := by simp [lvE]
def Fit (l : List Lf) : Prop := ∀ i, ((lfAt l i).1.length : Int) ≤ 1000000000 ∧ ((lfAt l i).2.length : Int) ≤ 1000000000
theorem pos_dec (k : Nat) : (k == 0) = !decide ((0 : Int) < (k : Int)) := by cases k <;> simp <;> omega
set_option maxRecDepth 100000 in
set_option maxHeartbeats 1000000 in
theorem c_LeavesOk (l : List Lf) (hl : (l.length : Int) ≤ 1000000000) (hf : Fit l) : CT Tryz.prog 63 [] [.sl 2 (lvE l)] (.bool (leavesOk l)) [] := by
  have hlen := lv_len l
  refine ct_intro tt_ok 1 rfl Tryz.func63 rfl rfl rfl ?_
  repeat ((try conv => whnf); first | (refine stpQ ?_))
  refine loop_of Nat (fun k => ⟨[(0, .sl 2 (lvE l)), (5, .sl 2 (lvE l)), (6, .int .i64 ((lvE l).length : Int)), (7, .int .i64 (k : Int))], [], 2⟩) (fun k => k ≤ l.length ∧ k ≤ 24 ∧ ∀ j, j < k → stepOk l j = true) (fun k => l.length - k) 0 ⟨by omega, by omega, fun j hj => by omega⟩ ?_ ?_
  · (refine le_auto (by rfl) ?_ ?_) <;> repeat' (first | (exact eqA) | (refine And.intro ?_ ?_) | ((fail_if_success (with_reducible (show _ = _))); (show _ = _)))
  · rintro k ⟨hk, hk2, hp⟩
    have hz := pos_dec k
    repeat ((try conv => whnf); first | (refine stpQ ?_))
    ((try conv => whnf); first | (refine cb_d (fun h => ?_) (fun h => ?_)) | (refine cb_n (fun h => ?_) (fun h => ?_)) | (refine cb (fun h => ?_) (fun h => ?_)))
    · have hlt : k < l.length := by omega
      have next : stepOk l k = true → ∀ j, j < k + 1 → stepOk l j = true := fun hx j hj => by
        by_cases hjk : j = k
        · subst hjk; exact hx
        · exact hp j (by omega)
      repeat' (first | ((try conv => whnf); first | (refine i_at (lv_get hlt) ?_) | (refine i_at (lv_get (show k - 1 < l.length by omega)) ?_) | (refine ccA ([]) (c_NameOk _ (hf k).1) ?_) | (refine ccA ([]) (c_ValueOk _ (hf k).2) ?_) | (refine stpQ ?_)) | ((try conv => whnf); first | (refine cb_d (fun h => ?_) (fun h => ?_)) | (refine cb_n (fun h => ?_) (fun h => ?_)) | (refine cb (fun h => ?_) (fun h => ?_))))
      all_goals first
        | (refine ⟨k + 1, ⟨by omega, by omega, next (by simp_all [stepOk, ltB])⟩, by omega, ?_⟩
           (refine le_auto (by rfl) ?_ ?_) <;> repeat' (first | (exact eqA) | (refine And.intro ?_ ?_) | ((fail_if_success (with_reducible (show _ = _))); (show _ = _))))
        | (rw [leavesOk_long (by omega)]
           (refine ans_auto (by rfl) ?_ ?_ (by rfl)) <;> repeat' (first | (exact eqA) | (refine And.intro ?_ ?_) | ((fail_if_success (with_reducible (show _ = _))); (show _ = _))))
        | (rw [leavesOk_bad hlt (by simp_all [stepOk, ltB])]
           (refine ans_auto (by rfl) ?_ ?_ (by rfl)) <;> repeat' (first | (exact eqA) | (refine And.intro ?_ ?_) | ((fail_if_success (with_reducible (show _ = _))); (show _ = _))))
    · repeat ((try conv => whnf); first | (refine stpQ ?_))
      rw [leavesOk_good (by omega) (fun j hj => hp j (by omega))]
      (refine ans_auto (by rfl) ?_ ?_ (by rfl)) <;> repeat' (first | (exact eqA) | (refine And.intro ?_ ?_) | ((fail_if_success (with_reducible (show _ = _))); (show _ = _)))
set_option maxRecDepth 100000 in
set_option maxHeartbeats 1000000 in
theorem c_sLeavesOk (l : List Lf) (hl : (l.length : Int) ≤ 1000000000) (hf : Fit l) : CT Tryz.prog 181 [] [.sl 2 (lvE l)] (.bool (leavesOk l)) [] := by
  have hlen := lv_len l
  refine ct_intro tt_ok 1 rfl Tryz.func181 rfl rfl rfl ?_
  repeat ((try conv => whnf); first | (refine stpQ ?_))
  refine loop_of Nat (fun k => ⟨[(0, .sl 2 (lvE l)), (3, .int .i64 (k : Int))], [], 2⟩) (fun k => k ≤ l.length ∧ ∀ j, j < k → stepOk l j = true) (fun k => l.length - k) 0 ⟨by omega, fun j hj => by omega⟩ ?_ ?_
  · (refine le_auto (by rfl) ?_ ?_) <;> repeat' (first | (exact eqA) | (refine And.intro ?_ ?_) | ((fail_if_success (with_reducible (show _ = _))); (show _ = _)))
  · rintro k ⟨hk, hp⟩
    have hz := pos_dec k
    repeat ((try conv => whnf); first | (refine stpQ ?_))
    ((try conv => whnf); first | (refine cb_d (fun h => ?_) (fun h => ?_)) | (refine cb_n (fun h => ?_) (fun h => ?_)) | (refine cb (fun h => ?_) (fun h => ?_)))
    · have hlt : k < l.length := by omega
      have next : stepOk l k = true → ∀ j, j < k + 1 → stepOk l j = true := fun hx j hj => by
        by_cases hjk : j = k
        · subst hjk; exact hx
        · exact hp j (by omega)
      repeat' (first | ((try conv => whnf); first | (refine i_at (lv_get hlt) ?_) | (refine i_at (lv_get (show k - 1 < l.length by omega)) ?_) | (refine ccA ([]) (c_sNameOk _ (hf k).1) ?_) | (refine ccA ([]) (c_sValueOk _ (hf k).2) ?_) | (refine stpQ ?_)) | ((try conv => whnf); first | (refine cb_d (fun h => ?_) (fun h => ?_)) | (refine cb_n (fun h => ?_) (fun h => ?_)) | (refine cb (fun h => ?_) (fun h => ?_))))
      all_goals first
        | (refine ⟨k + 1, ⟨by omega, next (by simp_all [stepOk, ltB])⟩, by omega, ?_⟩
           (refine le_auto (by rfl) ?_ ?_) <;> repeat' (first | (exact eqA) | (refine And.intro ?_ ?_) | ((fail_if_success (with_reducible (show _ = _))); (show _ = _))))
        | (rw [leavesOk_bad hlt (by simp_all [stepOk, ltB])]
           (refine ans_auto (by rfl) ?_ ?_ (by rfl)) <;> repeat' (first | (exact eqA) | (refine And.intro ?_ ?_) | ((fail_if_success (with_reducible (show _ = _))); (show _ = _))))
    · repeat ((try conv => whnf); first | (refine stpQ ?_))
      (refine ans_auto (by rfl) ?_ ?_ (by rfl)) <;> repeat' (first | (exact eqA) | (refine And.intro ?_ ?_) | ((fail_if_success (with_reducible (show _ = _))); (show _ = _)))
      by_cases h24 : l.length ≤ 24
      · rw [leavesOk_good (by omega) (fun j hj => hp j (by omega))]; simp; omega
      · rw [leavesOk_long (by omega)]; simp; omega
end Go.Proofs.YtmmnkndmlkhmhaaGreatDoor
