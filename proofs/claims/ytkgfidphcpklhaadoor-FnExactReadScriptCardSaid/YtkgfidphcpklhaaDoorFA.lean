/- Functions by content: names, values, lists of entries. -/
import Derived.Test.YtkgfidphcpklhaaDoorV21
import Derived.Test.YtkgfidphcpklhaaDoorTypes
import Derived.Test.YtkgfidphcpklhaaDoorPlainA
namespace Go.Proofs.YtkgfidphcpklhaaDoor
open Go.RowKit Pl
set_option linter.unusedVariables false
set_option linter.unusedSimpArgs false
attribute [local irreducible] CondB CallP LoopW AnsP LeP

theorem aN_bad {f : Nat → Bool} {l : Bs} {k : Nat} (hk : k < l.length) (h : f (l.getD k 0).toNat = false) : allN f l = false := by
  have : l.all (fun b => f b.toNat) = false := by
    rw [List.all_eq_false]
    refine ⟨l[k], List.getElem_mem hk, ?_⟩
    have e : l.getD k 0 = l[k] := by simp [List.getD, List.getElem?_eq_getElem hk]
    rw [← e, h]; simp
  rw [allN, this, Bool.and_false]
theorem aN_good {f : Nat → Bool} {l : Bs} (h : ∀ k, k < l.length → f (l.getD k 0).toNat = true) : allN f l = inB l.length 1 12 := by
  have : l.all (fun b => f b.toNat) = true := by
    rw [List.all_eq_true]
    intro b hb
    obtain ⟨k, hk, rfl⟩ := List.getElem_of_mem hb
    have e : l.getD k 0 = l[k] := by simp [List.getD, List.getElem?_eq_getElem hk]
    rw [← e]; exact h k hk
  rw [allN, this, Bool.and_true, inB]
  congr 1 <;> exact decide_eq_decide.2 (by omega)
theorem aN_long {f : Nat → Bool} {l : Bs} (h : 12 < l.length) : allN f l = false := by
  have : decide (l.length ≤ 12) = false := by simp; omega
  rw [allN, this]; simp
theorem nameN_yes {n : Nat} (h : (97 ≤ n ∧ n ≤ 122) ∨ (48 ≤ n ∧ n ≤ 57) ∨ n = 64 ∨ n = 46) : nameN n = true := by simp [nameN]; omega
theorem nameN_no {n : Nat} (h : ¬ ((97 ≤ n ∧ n ≤ 122) ∨ (48 ≤ n ∧ n ≤ 57) ∨ n = 64 ∨ n = 46)) : nameN n = false := by simp [nameN]; omega
theorem valN_yes {n : Nat} (h : 33 ≤ n ∧ n ≤ 126) : valN n = true := by simp [valN]; omega
theorem valN_no {n : Nat} (h : ¬ (33 ≤ n ∧ n ≤ 126)) : valN n = false := by simp [valN]; omega
theorem inB_long {l : Bs} (h : 12 < l.length) : inB l.length 1 12 = false := by
  simp [inB]; omega

set_option maxRecDepth 100000 in
set_option maxHeartbeats 400000 in
theorem c_in (a lo hi : Int) : CT Tryd.prog 16 [] [.int .i64 a, .int .i64 lo, .int .i64 hi] (.bool (inB a lo hi)) [] := by
  refine ct_intro tt_ok 1 rfl Tryd.func16 rfl rfl rfl ?_
  repeat' (first | ((try conv => whnf); first | (refine stpQ ?_)) | ((try conv => whnf); first | (refine cb_d (fun h => ?_) (fun h => ?_)) | (refine cb_n (fun h => ?_) (fun h => ?_)) | (refine cb (fun h => ?_) (fun h => ?_))))
  all_goals
    (refine ans_auto (by rfl) ?_ ?_ (by rfl)) <;> repeat' (first | (exact eqA) | (refine And.intro ?_ ?_) | ((fail_if_success (with_reducible (show _ = _))); (show _ = _))) <;> simp [inB] <;> omega
set_option maxRecDepth 100000 in
set_option maxHeartbeats 400000 in
theorem c_l01In (a lo hi : Int) : CT Tryd.prog 40 [] [.int .i64 a, .int .i64 lo, .int .i64 hi] (.bool (inB a lo hi)) [] := by
  refine ct_intro tt_ok 1 rfl Tryd.func40 rfl rfl rfl ?_
  repeat' (first | ((try conv => whnf); first | (refine stpQ ?_)) | ((try conv => whnf); first | (refine cb_d (fun h => ?_) (fun h => ?_)) | (refine cb_n (fun h => ?_) (fun h => ?_)) | (refine cb (fun h => ?_) (fun h => ?_))))
  all_goals
    (refine ans_auto (by rfl) ?_ ?_ (by rfl)) <;> repeat' (first | (exact eqA) | (refine And.intro ?_ ?_) | ((fail_if_success (with_reducible (show _ = _))); (show _ = _))) <;> simp [inB] <;> omega
set_option maxRecDepth 100000 in
set_option maxHeartbeats 1000000 in
theorem c_NameOk (s : Bs) (hs : (s.length : Int) ≤ 1000000000) : CT Tryd.prog 98 [] [.str s] (.bool (nameOk s)) [] := by
  refine ct_intro tt_ok 1 rfl Tryd.func98 rfl rfl rfl ?_
  repeat ((try conv => whnf); first | (refine stpQ ?_))
  refine loop_of Nat (fun k => ⟨[(0, .str s), (3, .int .i64 (k : Int))], [], 2⟩) (fun k => k ≤ s.length ∧ k ≤ 13 ∧ ∀ j, j < k → nameN (s.getD j 0).toNat = true) (fun k => s.length - k) 0 ⟨by omega, by omega, fun j hj => by omega⟩ ?_ ?_
  · (refine le_auto (by rfl) ?_ ?_) <;> repeat' (first | (exact eqA) | (refine And.intro ?_ ?_) | ((fail_if_success (with_reducible (show _ = _))); (show _ = _)))
  · rintro k ⟨hk, hk2, hp⟩
    repeat ((try conv => whnf); first | (refine stpQ ?_))
    ((try conv => whnf); first | (refine cb_d (fun h => ?_) (fun h => ?_)) | (refine cb_n (fun h => ?_) (fun h => ?_)) | (refine cb (fun h => ?_) (fun h => ?_)))
    · repeat ((try conv => whnf); first | (refine stpQ ?_))
      ((try conv => whnf); first | (refine cb_d (fun h => ?_) (fun h => ?_)) | (refine cb_n (fun h => ?_) (fun h => ?_)) | (refine cb (fun h => ?_) (fun h => ?_)))
      · have hlt : k < s.length := by omega
        have next : nameN (s.getD k 0).toNat = true → ∀ j, j < k + 1 → nameN (s.getD j 0).toNat = true := fun hx j hj => by
          by_cases hjk : j = k
          · subst hjk; exact hx
          · exact hp j (by omega)
        have bad : nameN (s.getD k 0).toNat = false → nameOk s = false := fun hx => aN_bad hlt hx
        repeat' (first | ((try conv => whnf); first | (refine stpQ ?_)) | ((try conv => whnf); first | (refine cb_d (fun h => ?_) (fun h => ?_)) | (refine cb_n (fun h => ?_) (fun h => ?_)) | (refine cb (fun h => ?_) (fun h => ?_))))
        all_goals first
          | (refine ⟨k + 1, ⟨by omega, by omega, next (nameN_yes (by omega))⟩, by omega, ?_⟩
             (refine le_auto (by rfl) ?_ ?_) <;> repeat' (first | (exact eqA) | (refine And.intro ?_ ?_) | ((fail_if_success (with_reducible (show _ = _))); (show _ = _))))
          | (rw [bad (nameN_no (by omega))]
             (refine ans_auto (by rfl) ?_ ?_ (by rfl)) <;> repeat' (first | (exact eqA) | (refine And.intro ?_ ?_) | ((fail_if_success (with_reducible (show _ = _))); (show _ = _))))
      · repeat ((try conv => whnf); first | (refine ccA ([]) (c_in _ _ _) ?_) | (refine stpQ ?_))
        (refine ans_auto (by rfl) ?_ ?_ (by rfl)) <;> repeat' (first | (exact eqA) | (refine And.intro ?_ ?_) | ((fail_if_success (with_reducible (show _ = _))); (show _ = _)))
        rw [nameOk, aN_long (by omega), inB_long (by omega)]
    · repeat ((try conv => whnf); first | (refine ccA ([]) (c_in _ _ _) ?_) | (refine stpQ ?_))
      (refine ans_auto (by rfl) ?_ ?_ (by rfl)) <;> repeat' (first | (exact eqA) | (refine And.intro ?_ ?_) | ((fail_if_success (with_reducible (show _ = _))); (show _ = _)))
      rw [nameOk, aN_good (fun j hj => hp j (by omega))]

set_option maxRecDepth 100000 in
set_option maxHeartbeats 1000000 in
theorem c_sNameOk (s : Bs) (hs : (s.length : Int) ≤ 1000000000) : CT Tryd.prog 90 [] [.str s] (.bool (nameOk s)) [] := by
  refine ct_intro tt_ok 1 rfl Tryd.func90 rfl rfl rfl ?_
  repeat ((try conv => whnf); first | (refine stpQ ?_))
  refine loop_of Nat (fun k => ⟨[(0, .str s), (3, .int .i64 (k : Int))], [], 2⟩) (fun k => k ≤ s.length ∧ ∀ j, j < k → nameN (s.getD j 0).toNat = true) (fun k => s.length - k) 0 ⟨by omega, fun j hj => by omega⟩ ?_ ?_
  · (refine le_auto (by rfl) ?_ ?_) <;> repeat' (first | (exact eqA) | (refine And.intro ?_ ?_) | ((fail_if_success (with_reducible (show _ = _))); (show _ = _)))
  · rintro k ⟨hk, hp⟩
    repeat ((try conv => whnf); first | (refine stpQ ?_))
    ((try conv => whnf); first | (refine cb_d (fun h => ?_) (fun h => ?_)) | (refine cb_n (fun h => ?_) (fun h => ?_)) | (refine cb (fun h => ?_) (fun h => ?_)))
    · have hlt : k < s.length := by omega
      have next : nameN (s.getD k 0).toNat = true → ∀ j, j < k + 1 → nameN (s.getD j 0).toNat = true := fun hx j hj => by
        by_cases hjk : j = k
        · subst hjk; exact hx
        · exact hp j (by omega)
      have bad : nameN (s.getD k 0).toNat = false → nameOk s = false := fun hx => aN_bad hlt hx
      repeat' (first | ((try conv => whnf); first | (refine stpQ ?_)) | ((try conv => whnf); first | (refine cb_d (fun h => ?_) (fun h => ?_)) | (refine cb_n (fun h => ?_) (fun h => ?_)) | (refine cb (fun h => ?_) (fun h => ?_))))
      all_goals first
        | (refine ⟨k + 1, ⟨by omega, next (nameN_yes (by omega))⟩, by omega, ?_⟩
           (refine le_auto (by rfl) ?_ ?_) <;> repeat' (first | (exact eqA) | (refine And.intro ?_ ?_) | ((fail_if_success (with_reducible (show _ = _))); (show _ = _))))
        | (rw [bad (nameN_no (by omega))]
           (refine ans_auto (by rfl) ?_ ?_ (by rfl)) <;> repeat' (first | (exact eqA) | (refine And.intro ?_ ?_) | ((fail_if_success (with_reducible (show _ = _))); (show _ = _))))
    · repeat ((try conv => whnf); first | (refine ccA ([]) (c_l01In _ _ _) ?_) | (refine stpQ ?_))
      (refine ans_auto (by rfl) ?_ ?_ (by rfl)) <;> repeat' (first | (exact eqA) | (refine And.intro ?_ ?_) | ((fail_if_success (with_reducible (show _ = _))); (show _ = _)))
      rw [nameOk, aN_good (fun j hj => hp j (by omega))]
set_option maxRecDepth 100000 in
set_option maxHeartbeats 1000000 in
theorem c_ValueOk (s : Bs) (hs : (s.length : Int) ≤ 1000000000) : CT Tryd.prog 99 [] [.str s] (.bool (valueOk s)) [] := by
  refine ct_intro tt_ok 1 rfl Tryd.func99 rfl rfl rfl ?_
  repeat ((try conv => whnf); first | (refine stpQ ?_))
  refine loop_of Nat (fun k => ⟨[(0, .str s), (3, .int .i64 (k : Int))], [], 2⟩) (fun k => k ≤ s.length ∧ k ≤ 13 ∧ ∀ j, j < k → valN (s.getD j 0).toNat = true) (fun k => s.length - k) 0 ⟨by omega, by omega, fun j hj => by omega⟩ ?_ ?_
  · (refine le_auto (by rfl) ?_ ?_) <;> repeat' (first | (exact eqA) | (refine And.intro ?_ ?_) | ((fail_if_success (with_reducible (show _ = _))); (show _ = _)))
  · rintro k ⟨hk, hk2, hp⟩
    repeat ((try conv => whnf); first | (refine stpQ ?_))
    ((try conv => whnf); first | (refine cb_d (fun h => ?_) (fun h => ?_)) | (refine cb_n (fun h => ?_) (fun h => ?_)) | (refine cb (fun h => ?_) (fun h => ?_)))
    · repeat ((try conv => whnf); first | (refine stpQ ?_))
      ((try conv => whnf); first | (refine cb_d (fun h => ?_) (fun h => ?_)) | (refine cb_n (fun h => ?_) (fun h => ?_)) | (refine cb (fun h => ?_) (fun h => ?_)))
      · have hlt : k < s.length := by omega
        have next : valN (s.getD k 0).toNat = true → ∀ j, j < k + 1 → valN (s.getD j 0).toNat = true := fun hx j hj => by
          by_cases hjk : j = k
          · subst hjk; exact hx
          · exact hp j (by omega)
        have bad : valN (s.getD k 0).toNat = false → valueOk s = false := fun hx => aN_bad hlt hx
        have h8 := (s.getD k 0).toNat_lt
        repeat ((try conv => whnf); first | (refine ccA ([]) (c_in _ _ _) ?_) | (refine stpQ ?_))
        ((try conv => whnf); first | (refine cb_d (fun h => ?_) (fun h => ?_)) | (refine cb_n (fun h => ?_) (fun h => ?_)) | (refine cb (fun h => ?_) (fun h => ?_)))
        · have hx : inB ((s.getD k 0).toNat : Int) 33 126 = false := by simpa using h
          rw [bad (valN_no fun hc => by rw [inB_iff.2 (by omega)] at hx; cases hx)]
          repeat ((try conv => whnf); first | (refine stpQ ?_))
          (refine ans_auto (by rfl) ?_ ?_ (by rfl)) <;> repeat' (first | (exact eqA) | (refine And.intro ?_ ?_) | ((fail_if_success (with_reducible (show _ = _))); (show _ = _)))
        · have hx : inB ((s.getD k 0).toNat : Int) 33 126 = true := by simpa using h
          rw [inB_iff] at hx
          repeat ((try conv => whnf); first | (refine stpQ ?_))
          refine ⟨k + 1, ⟨by omega, by omega, next (valN_yes (by omega))⟩, by omega, ?_⟩
          (refine le_auto (by rfl) ?_ ?_) <;> repeat' (first | (exact eqA) | (refine And.intro ?_ ?_) | ((fail_if_success (with_reducible (show _ = _))); (show _ = _)))
      · repeat ((try conv => whnf); first | (refine ccA ([]) (c_in _ _ _) ?_) | (refine stpQ ?_))
        (refine ans_auto (by rfl) ?_ ?_ (by rfl)) <;> repeat' (first | (exact eqA) | (refine And.intro ?_ ?_) | ((fail_if_success (with_reducible (show _ = _))); (show _ = _)))
        rw [valueOk, aN_long (by omega), inB_long (by omega)]
    · repeat ((try conv => whnf); first | (refine ccA ([]) (c_in _ _ _) ?_) | (refine stpQ ?_))
      (refine ans_auto (by rfl) ?_ ?_ (by rfl)) <;> repeat' (first | (exact eqA) | (refine And.intro ?_ ?_) | ((fail_if_success (with_reducible (show _ = _))); (show _ = _)))
      rw [valueOk, aN_good (fun j hj => hp j (by omega))]
set_option maxRecDepth 100000 in
set_option maxHeartbeats 1000000 in
theorem c_sValueOk (s : Bs) (hs : (s.length : Int) ≤ 1000000000) : CT Tryd.prog 91 [] [.str s] (.bool (valueOk s)) [] := by
  refine ct_intro tt_ok 1 rfl Tryd.func91 rfl rfl rfl ?_
  repeat ((try conv => whnf); first | (refine stpQ ?_))
  refine loop_of Nat (fun k => ⟨[(0, .str s), (3, .int .i64 (k : Int))], [], 2⟩) (fun k => k ≤ s.length ∧ ∀ j, j < k → valN (s.getD j 0).toNat = true) (fun k => s.length - k) 0 ⟨by omega, fun j hj => by omega⟩ ?_ ?_
  · (refine le_auto (by rfl) ?_ ?_) <;> repeat' (first | (exact eqA) | (refine And.intro ?_ ?_) | ((fail_if_success (with_reducible (show _ = _))); (show _ = _)))
  · rintro k ⟨hk, hp⟩
    repeat ((try conv => whnf); first | (refine stpQ ?_))
    ((try conv => whnf); first | (refine cb_d (fun h => ?_) (fun h => ?_)) | (refine cb_n (fun h => ?_) (fun h => ?_)) | (refine cb (fun h => ?_) (fun h => ?_)))
    · have hlt : k < s.length := by omega
      have next : valN (s.getD k 0).toNat = true → ∀ j, j < k + 1 → valN (s.getD j 0).toNat = true := fun hx j hj => by
        by_cases hjk : j = k
        · subst hjk; exact hx
        · exact hp j (by omega)
      have bad : valN (s.getD k 0).toNat = false → valueOk s = false := fun hx => aN_bad hlt hx
      repeat' (first | ((try conv => whnf); first | (refine stpQ ?_)) | ((try conv => whnf); first | (refine cb_d (fun h => ?_) (fun h => ?_)) | (refine cb_n (fun h => ?_) (fun h => ?_)) | (refine cb (fun h => ?_) (fun h => ?_))))
      all_goals first
        | (refine ⟨k + 1, ⟨by omega, next (valN_yes (by omega))⟩, by omega, ?_⟩
           (refine le_auto (by rfl) ?_ ?_) <;> repeat' (first | (exact eqA) | (refine And.intro ?_ ?_) | ((fail_if_success (with_reducible (show _ = _))); (show _ = _))))
        | (rw [bad (valN_no (by omega))]
           (refine ans_auto (by rfl) ?_ ?_ (by rfl)) <;> repeat' (first | (exact eqA) | (refine And.intro ?_ ?_) | ((fail_if_success (with_reducible (show _ = _))); (show _ = _))))
    · repeat ((try conv => whnf); first | (refine ccA ([]) (c_l01In _ _ _) ?_) | (refine stpQ ?_))
      (refine ans_auto (by rfl) ?_ ?_ (by rfl)) <;> repeat' (first | (exact eqA) | (refine And.intro ?_ ?_) | ((fail_if_success (with_reducible (show _ = _))); (show _ = _)))
      rw [valueOk, aN_good (fun j hj => hp j (by omega))]

end Go.Proofs.YtkgfidphcpklhaaDoor
