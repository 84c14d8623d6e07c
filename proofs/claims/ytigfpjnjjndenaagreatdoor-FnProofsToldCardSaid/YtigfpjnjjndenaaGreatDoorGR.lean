/- Functions by content: a proof is read by the reference. -/
import Derived.Test.YtigfpjnjjndenaaGreatDoorGP
namespace Go.Proofs.YtigfpjnjjndenaaGreatDoor
open Go.RowKit Pl
set_option linter.unusedVariables false
set_option linter.unusedSimpArgs false
attribute [local irreducible] CondB CallP LoopW AnsP LeP

def SdAt (t : Bs) (w : Int) (R : List Bs × Nat × Bool) (n : Nat) (s : List Bs) (q : Nat) (b : Bool) : Prop := R = (s ++ (sideL t w n q b).1, (sideL t w n q b).2)
theorem SdAt.step {t : Bs} {w : Int} {R : List Bs × Nat × Bool} {n : Nat} {s : List Bs} {q : Nat} (h : SdAt t w R (n + 1) s q false) : SdAt t w R n (s ++ [(takeOf t q false w).1]) (takeOf t q false w).2.1 (takeOf t q false w).2.2 := by
  unfold SdAt at h ⊢; rw [h, sideL]; simp
theorem SdAt.bad {t : Bs} {w : Int} {R : List Bs × Nat × Bool} {n : Nat} {s : List Bs} {q : Nat} (h : SdAt t w R n s q true) : R = (s, q, true) := by
  unfold SdAt at h; rw [h]; cases n <;> simp [sideL]
theorem SdAt.done {t : Bs} {w : Int} {R : List Bs × Nat × Bool} {s : List Bs} {q : Nat} {b : Bool} (h : SdAt t w R 0 s q b) : R = (s, q, b) := by
  unfold SdAt at h; rw [h]; simp [sideL]
set_option maxRecDepth 100000 in
set_option maxHeartbeats 2000000 in
theorem c_sReadProof (t : Bs) (w : Int) (ht : (t.length : Int) ≤ 1000000000) : CT Tryz.prog 13 [] [.str t, .int .i64 w] (.tup [.agg [.ref 1, .ref 2], .bool (readPfS t w).isSome]) [.row 2 (lvE (pfGet (readPfS t w)).1), .row 1 (strE (pfGet (readPfS t w)).2)] := by
  have cA := c_sLeaves t 0 false ht (by omega)
  have hsml := leavesS_sml (t := t) (p := 0) (b := false) (by omega)
  have hleA := leavesS_le (t := t) (p := 0) (b := false) (by omega)
  have hl30 := (lvLoop_small (sh := shortS t) (fun p b hp => shortS_le hp) (min (numS t 0 false).1 30) _ (numS t 0 false).2.2 (numS_le (t := t) (p := 0) (bad := false) (by omega)).1).1
  change (leavesS t 0 false).1.length ≤ _ at hl30
  unfold readPfS
  rcases hA : leavesS t 0 false with ⟨l, p1, b1⟩
  rw [hA] at cA hsml hleA hl30
  simp only at cA hsml hleA hl30 ⊢
  have cB := c_sNum t p1 b1 ht hleA
  have hleB := numS_le (bad := b1) hleA
  rcases hB : numS t p1 b1 with ⟨n, p2, b2⟩
  rw [hB] at cB hleB
  simp only at cB hleB ⊢
  generalize hC : sideL t w (min n 10) p2 b2 = R
  refine ct_intro tt_ok 1 rfl Tryz.func13 rfl rfl rfl ?_
  repeat ((try conv => whnf); first | (refine c_call ([_]) (cA) (by ((repeat' (first | (exact trivial) | (exact rfl) | (decide) | (refine And.intro ?_ ?_))); first | done | fail)) (by ((repeat' (first | (exact trivial) | (exact rfl) | (decide) | (refine And.intro ?_ ?_))); first | done | fail)) (by decide) (by rfl) (by first | exact .inl rfl | (refine .inr ⟨?_, ?_⟩ <;> simp [own2, own1, own0, ownE])) ?_) | (refine c_call ([_]) (cB) (by ((repeat' (first | (exact trivial) | (exact rfl) | (decide) | (refine And.intro ?_ ?_))); first | done | fail)) (by ((repeat' (first | (exact trivial) | (exact rfl) | (decide) | (refine And.intro ?_ ?_))); first | done | fail)) (by decide) (by rfl) (by first | exact .inl rfl | (refine .inr ⟨?_, ?_⟩ <;> simp [own2, own1, own0, ownE])) ?_) | (refine And.intro rfl ?_) | (refine w_addn (by omega) ?_) | (refine w_subn (by omega) ?_) | (refine w_add (by omega) ?_) | (refine w_sub (by omega) ?_) | (refine w_any (by omega) ?_) | (refine Exists.intro _ (And.intro rfl ?_)) | (with_reducible (refine cb_t rfl ?_)) | (with_reducible (refine cb_f rfl ?_)) | (refine cb_dt (by omega) ?_) | (refine cb_df (by omega) ?_) | (refine cb_nt (by omega) ?_) | (refine cb_nf (by omega) ?_) | (refine cb_t (by assumption) ?_) | (refine cb_f (by assumption) ?_) | (refine i_lt (by omega) ?_) | (refine i_le (by omega) ?_) | (refine i_cut (by omega) ?_) | (refine And.intro (by omega) ?_) | (refine And.intro trivial ?_) | (refine And.intro (by decide) ?_) | (refine And.intro (Nat.le_of_ble_eq_true rfl) ?_))
  refine loop_of (Nat × Nat × List Bs × Bool) (fun ⟨k, q, s, bd⟩ => ⟨[(0, .str t), (1, .int .i64 w), (4, .ptr 5 0 0), (5, .bool false), (6, .ptr 1 0 0), (7, .ptr 2 0 0), (8, .int .i64 (n : Int)), (9, .int .i64 (k : Int))], [(1, some (fldB t q bd)), (2, some (.box [.ref 3, .ref 4])), (3, some (.row 2 (lvE l))), (4, some (.row 1 (strE s))), (5, some (.box [.val nilV, .val nilV]))], 6⟩) (fun ⟨k, q, s, bd⟩ => k ≤ min n 10 ∧ s.length = k ∧ SdAt t w R (min n 10 - k) s q bd ∧ q ≤ t.length) (fun ⟨k, q, s, bd⟩ => min n 10 - k) (0, p2, [], b2) ⟨by omega, rfl, by rw [← hC]; rfl, hleB.1⟩ ?_ ?_
  · (refine le_auto (by rfl) ?_ ?_) <;> (repeat' (first | (exact trivial) | (with_reducible rfl) | (exact (rfl : _ = true)) | (exact (rfl : _ = some _)) | (exact (rfl : _ = none)) | (refine And.intro ?_ ?_) | ((show (_ : Int) = _); omega) | ((fail_if_success (with_reducible (show _ = _))); (show _ = _)))) <;> first | rfl | decide
  · rintro ⟨k, q, s, bd⟩ ⟨hk, hl, hat, hq⟩
    have hll := strE_len s
    by_cases hgo : bd = false ∧ k < min n 10
    · obtain ⟨rfl, hlt⟩ := hgo
      obtain ⟨m, hm⟩ : ∃ m, min n 10 - k = m + 1 := ⟨min n 10 - k - 1, by omega⟩
      rw [hm] at hat
      have c1 := c_sTake t q false w ht hq
      have hst := hat.step
      have hle := takeOf_le (w := w) (b := false) hq
      have k1 : (k : Int) < (n : Int) := by omega
      have k2 : (k : Int) < 10 := by omega
      repeat ((try conv => whnf); first | (refine c_call ([1]) (c1) (by ((repeat' (first | (exact trivial) | (exact rfl) | (decide) | (refine And.intro ?_ ?_))); first | done | fail)) (by ((repeat' (first | (exact trivial) | (exact rfl) | (decide) | (refine And.intro ?_ ?_))); first | done | fail)) (by decide) (by rfl) (by first | exact .inl rfl | (refine .inr ⟨?_, ?_⟩ <;> simp [own2, own1, own0, ownE])) ?_) | (refine And.intro (by simp [strE_len]; omega) ?_) | (refine And.intro rfl ?_) | (refine w_addn (by omega) ?_) | (refine w_subn (by omega) ?_) | (refine w_add (by omega) ?_) | (refine w_sub (by omega) ?_) | (refine w_any (by omega) ?_) | (refine Exists.intro _ (And.intro rfl ?_)) | (with_reducible (refine cb_t rfl ?_)) | (with_reducible (refine cb_f rfl ?_)) | (refine cb_dt (by omega) ?_) | (refine cb_df (by omega) ?_) | (refine cb_nt (by omega) ?_) | (refine cb_nf (by omega) ?_) | (refine cb_t (by assumption) ?_) | (refine cb_f (by assumption) ?_) | (refine i_lt (by omega) ?_) | (refine i_le (by omega) ?_) | (refine i_cut (by omega) ?_) | (refine And.intro (by omega) ?_) | (refine And.intro trivial ?_) | (refine And.intro (by decide) ?_) | (refine And.intro (Nat.le_of_ble_eq_true rfl) ?_))
      ((try conv => whnf); refine And.intro (by kernel_rfl) ?_)
      repeat ((try conv => whnf); first | (refine And.intro rfl ?_) | (refine w_addn (by omega) ?_) | (refine w_subn (by omega) ?_) | (refine w_add (by omega) ?_) | (refine w_sub (by omega) ?_) | (refine w_any (by omega) ?_) | (refine Exists.intro _ (And.intro rfl ?_)) | (with_reducible (refine cb_t rfl ?_)) | (with_reducible (refine cb_f rfl ?_)) | (refine cb_dt (by omega) ?_) | (refine cb_df (by omega) ?_) | (refine cb_nt (by omega) ?_) | (refine cb_nf (by omega) ?_) | (refine cb_t (by assumption) ?_) | (refine cb_f (by assumption) ?_) | (refine i_lt (by omega) ?_) | (refine i_le (by omega) ?_) | (refine i_cut (by omega) ?_) | (refine And.intro (by omega) ?_) | (refine And.intro trivial ?_) | (refine And.intro (by decide) ?_) | (refine And.intro (Nat.le_of_ble_eq_true rfl) ?_))
      refine ⟨(k + 1, (takeOf t q false w).2.1, s ++ [(takeOf t q false w).1], (takeOf t q false w).2.2), ⟨by omega, by simp [hl], by rw [show min n 10 - (k + 1) = m by omega]; exact hst, hle⟩, (by show min n 10 - (k + 1) < min n 10 - k; omega), ?_⟩
      (refine le_auto (by rfl) ?_ ?_) <;> (repeat' (first | (exact trivial) | (with_reducible rfl) | (exact (rfl : _ = true)) | (exact (rfl : _ = some _)) | (exact (rfl : _ = none)) | (refine And.intro ?_ ?_) | ((show (_ : Int) = _); omega) | ((fail_if_success (with_reducible (show _ = _))); (show _ = _))))
      all_goals first
        | (simp [strE]; done)
        | decide
    · have e : R = (s, q, bd) := by
        cases bd
        · have hkn : min n 10 - k = 0 := by
            have : ¬ k < min n 10 := fun h => hgo ⟨rfl, h⟩
            omega
          rw [hkn] at hat; exact hat.done
        · exact hat.bad
      rw [e]
      simp only
      have cT := c_sProofText l s w hsml (by omega) (by omega)
      cases bd
      · have hnk : ¬ k < min n 10 := fun h => hgo ⟨rfl, h⟩
        cases ho : proofOkB l s w
        · rw [ho] at cT
          rw [if_neg (by simp)]
          repeat' (first | ((try conv => whnf); first | (refine c_call ([]) (cT) (by ((repeat' (first | (exact trivial) | (exact rfl) | (refine And.intro ?_ ?_))); first | done | fail)) (by ((repeat' (first | (exact trivial) | (exact rfl) | (refine And.intro ?_ ?_))); first | done | fail)) (by decide) (by rfl) (by first | exact .inl rfl | (refine .inr ⟨?_, ?_⟩ <;> simp [own2, own1, own0, ownE])) ?_) | (refine And.intro rfl ?_) | (refine w_addn (by omega) ?_) | (refine w_subn (by omega) ?_) | (refine w_add (by omega) ?_) | (refine w_sub (by omega) ?_) | (refine w_any (by omega) ?_) | (refine Exists.intro _ (And.intro rfl ?_)) | (with_reducible (refine cb_t rfl ?_)) | (with_reducible (refine cb_f rfl ?_)) | (refine cb_dt (by omega) ?_) | (refine cb_df (by omega) ?_) | (refine cb_nt (by omega) ?_) | (refine cb_nf (by omega) ?_) | (refine cb_t (by assumption) ?_) | (refine cb_f (by assumption) ?_) | (refine i_lt (by omega) ?_) | (refine i_le (by omega) ?_) | (refine i_cut (by omega) ?_) | (refine And.intro (by omega) ?_) | (refine And.intro trivial ?_) | (refine And.intro (by decide) ?_) | (refine And.intro (Nat.le_of_ble_eq_true rfl) ?_)) | ((try conv => whnf); first | (refine cb_d (fun h => ?_) (fun h => ?_)) | (refine cb_n (fun h => ?_) (fun h => ?_)) | (refine cb (fun h => ?_) (fun h => ?_))))
          all_goals first
            | (exfalso; omega)
            | ((refine ans_auto (by rfl) ?_ ?_ (by rfl)) <;> (repeat' (first | (exact trivial) | (with_reducible rfl) | (exact (rfl : _ = true)) | (exact (rfl : _ = some _)) | (exact (rfl : _ = none)) | (refine And.intro ?_ ?_) | ((show (_ : Int) = _); omega) | ((fail_if_success (with_reducible (show _ = _))); (show _ = _)))) <;> first | rfl | decide)
        · rw [ho] at cT
          by_cases htx : proofText l s = t
          · rw [if_pos ⟨rfl, rfl, htx⟩]
            repeat' (first | ((try conv => whnf); first | (refine c_call ([]) (cT) (by ((repeat' (first | (exact trivial) | (exact rfl) | (refine And.intro ?_ ?_))); first | done | fail)) (by ((repeat' (first | (exact trivial) | (exact rfl) | (refine And.intro ?_ ?_))); first | done | fail)) (by decide) (by rfl) (by first | exact .inl rfl | (refine .inr ⟨?_, ?_⟩ <;> simp [own2, own1, own0, ownE])) ?_) | (refine cb_nf htx ?_) | (refine And.intro rfl ?_) | (refine w_addn (by omega) ?_) | (refine w_subn (by omega) ?_) | (refine w_add (by omega) ?_) | (refine w_sub (by omega) ?_) | (refine w_any (by omega) ?_) | (refine Exists.intro _ (And.intro rfl ?_)) | (with_reducible (refine cb_t rfl ?_)) | (with_reducible (refine cb_f rfl ?_)) | (refine cb_dt (by omega) ?_) | (refine cb_df (by omega) ?_) | (refine cb_nt (by omega) ?_) | (refine cb_nf (by omega) ?_) | (refine cb_t (by assumption) ?_) | (refine cb_f (by assumption) ?_) | (refine i_lt (by omega) ?_) | (refine i_le (by omega) ?_) | (refine i_cut (by omega) ?_) | (refine And.intro (by omega) ?_) | (refine And.intro trivial ?_) | (refine And.intro (by decide) ?_) | (refine And.intro (Nat.le_of_ble_eq_true rfl) ?_)) | ((try conv => whnf); first | (refine cb_d (fun h => ?_) (fun h => ?_)) | (refine cb_n (fun h => ?_) (fun h => ?_)) | (refine cb (fun h => ?_) (fun h => ?_))))
            all_goals first
              | (exfalso; omega)
              | ((refine ans_auto (by rfl) ?_ ?_ (by rfl)) <;> (repeat' (first | (exact trivial) | (with_reducible rfl) | (exact (rfl : _ = true)) | (exact (rfl : _ = some _)) | (exact (rfl : _ = none)) | (refine And.intro ?_ ?_) | ((show (_ : Int) = _); omega) | ((fail_if_success (with_reducible (show _ = _))); (show _ = _)))) <;> first | rfl | decide)
          · rw [if_neg (fun h => htx h.2.2)]
            repeat' (first | ((try conv => whnf); first | (refine c_call ([]) (cT) (by ((repeat' (first | (exact trivial) | (exact rfl) | (refine And.intro ?_ ?_))); first | done | fail)) (by ((repeat' (first | (exact trivial) | (exact rfl) | (refine And.intro ?_ ?_))); first | done | fail)) (by decide) (by rfl) (by first | exact .inl rfl | (refine .inr ⟨?_, ?_⟩ <;> simp [own2, own1, own0, ownE])) ?_) | (refine cb_nt htx ?_) | (refine And.intro rfl ?_) | (refine w_addn (by omega) ?_) | (refine w_subn (by omega) ?_) | (refine w_add (by omega) ?_) | (refine w_sub (by omega) ?_) | (refine w_any (by omega) ?_) | (refine Exists.intro _ (And.intro rfl ?_)) | (with_reducible (refine cb_t rfl ?_)) | (with_reducible (refine cb_f rfl ?_)) | (refine cb_dt (by omega) ?_) | (refine cb_df (by omega) ?_) | (refine cb_nt (by omega) ?_) | (refine cb_nf (by omega) ?_) | (refine cb_t (by assumption) ?_) | (refine cb_f (by assumption) ?_) | (refine i_lt (by omega) ?_) | (refine i_le (by omega) ?_) | (refine i_cut (by omega) ?_) | (refine And.intro (by omega) ?_) | (refine And.intro trivial ?_) | (refine And.intro (by decide) ?_) | (refine And.intro (Nat.le_of_ble_eq_true rfl) ?_)) | ((try conv => whnf); first | (refine cb_d (fun h => ?_) (fun h => ?_)) | (refine cb_n (fun h => ?_) (fun h => ?_)) | (refine cb (fun h => ?_) (fun h => ?_))))
            all_goals first
              | (exfalso; omega)
              | ((refine ans_auto (by rfl) ?_ ?_ (by rfl)) <;> (repeat' (first | (exact trivial) | (with_reducible rfl) | (exact (rfl : _ = true)) | (exact (rfl : _ = some _)) | (exact (rfl : _ = none)) | (refine And.intro ?_ ?_) | ((show (_ : Int) = _); omega) | ((fail_if_success (with_reducible (show _ = _))); (show _ = _)))) <;> first | rfl | decide)
      · rw [if_neg (by simp)]
        repeat' (first | ((try conv => whnf); first | (refine c_call ([]) (cT) (by ((repeat' (first | (exact trivial) | (exact rfl) | (refine And.intro ?_ ?_))); first | done | fail)) (by ((repeat' (first | (exact trivial) | (exact rfl) | (refine And.intro ?_ ?_))); first | done | fail)) (by decide) (by rfl) (by first | exact .inl rfl | (refine .inr ⟨?_, ?_⟩ <;> simp [own2, own1, own0, ownE])) ?_) | (refine And.intro rfl ?_) | (refine w_addn (by omega) ?_) | (refine w_subn (by omega) ?_) | (refine w_add (by omega) ?_) | (refine w_sub (by omega) ?_) | (refine w_any (by omega) ?_) | (refine Exists.intro _ (And.intro rfl ?_)) | (with_reducible (refine cb_t rfl ?_)) | (with_reducible (refine cb_f rfl ?_)) | (refine cb_dt (by omega) ?_) | (refine cb_df (by omega) ?_) | (refine cb_nt (by omega) ?_) | (refine cb_nf (by omega) ?_) | (refine cb_t (by assumption) ?_) | (refine cb_f (by assumption) ?_) | (refine i_lt (by omega) ?_) | (refine i_le (by omega) ?_) | (refine i_cut (by omega) ?_) | (refine And.intro (by omega) ?_) | (refine And.intro trivial ?_) | (refine And.intro (by decide) ?_) | (refine And.intro (Nat.le_of_ble_eq_true rfl) ?_)) | ((try conv => whnf); first | (refine cb_d (fun h => ?_) (fun h => ?_)) | (refine cb_n (fun h => ?_) (fun h => ?_)) | (refine cb (fun h => ?_) (fun h => ?_))))
        all_goals
          (refine ans_auto (by rfl) ?_ ?_ (by rfl)) <;> (repeat' (first | (exact trivial) | (with_reducible rfl) | (exact (rfl : _ = true)) | (exact (rfl : _ = some _)) | (exact (rfl : _ = none)) | (refine And.intro ?_ ?_) | ((show (_ : Int) = _); omega) | ((fail_if_success (with_reducible (show _ = _))); (show _ = _)))) <;> first | rfl | decide
end Go.Proofs.YtigfpjnjjndenaaGreatDoor
