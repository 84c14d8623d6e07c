/- Functions by content: an entry is dropped; one is put, by the reference; lists are compared. -/
import Derived.Test.YtmmnkndmlkhmhaaGreatDoorFC
namespace Go.Proofs.YtmmnkndmlkhmhaaGreatDoor
open Go.RowKit Pl
set_option linter.unusedVariables false
set_option linter.unusedSimpArgs false
attribute [local irreducible] CondB CallP LoopW AnsP LeP

set_option maxRecDepth 100000 in
set_option maxHeartbeats 400000 in
theorem c_LeafDrop (l : List Lf) (nm : Bs) (hl : (l.length : Int) ≤ 100000000) (hf : Fit l) : CT Tryz.prog 392 [] [.sl 2 (lvE l), .str nm] (.tup [.ref 1, .bool (dropR l nm).2]) [.row 2 (lvE (dropR l nm).1)] := by
  have hlen := lv_len l
  refine ct_intro tt_ok 1 rfl Tryz.func392 rfl rfl rfl ?_
  repeat' (first | ((try conv => whnf); first | (refine ccA ([]) (c_LeafGet l nm (by omega)) ?_) | (refine ccA ([]) (c_LeavesOk l (by omega) hf) ?_) | (refine ccA ([]) (c_copyLeaves l (by omega)) ?_) | (refine stpQ ?_)) | ((try conv => whnf); first | (refine cb_d (fun h => ?_) (fun h => ?_)) | (refine cb_n (fun h => ?_) (fun h => ?_)) | (refine cb (fun h => ?_) (fun h => ?_))))
  · have e : dropR l nm = (l, false) := by simp at h; simp [dropR, h]
    rw [e]
    (refine ans_auto (by rfl) ?_ ?_ (by rfl)) <;> repeat' (first | (exact eqA) | (refine And.intro ?_ ?_) | ((fail_if_success (with_reducible (show _ = _))); (show _ = _)))
  · have e : dropR l nm = (l, false) := by simp at h; simp [dropR, h]
    rw [e]
    (refine ans_auto (by rfl) ?_ ?_ (by rfl)) <;> repeat' (first | (exact eqA) | (refine And.intro ?_ ?_) | ((fail_if_success (with_reducible (show _ = _))); (show _ = _)))
  · rename_i h0
    have e : dropR l nm = (without l nm, true) := by simp at h h0; simp [dropR, h, h0]
    rw [e]
    refine loop_of Nat (fun k => ⟨[(1, .str nm), (8, .ref 1), (26, .sl 2 (lvE l)), (27, .int .i64 ((lvE l).length : Int)), (28, .int .i64 (k : Int))], [(1, some (.row 2 (lvE (without (l.take k) nm))))], 2⟩) (fun k => k ≤ l.length) (fun k => l.length - k) 0 (by omega) ?_ ?_
    · (refine le_auto (by rfl) ?_ ?_) <;> (repeat' (first | (exact eqA) | (refine And.intro ?_ ?_) | ((fail_if_success (with_reducible (show _ = _))); (show _ = _)))) <;> first | rfl | decide
    · intro k hk
      have hw : (without (l.take k) nm).length ≤ k := Nat.le_trans (List.length_filter_le _ _) (by simp; omega)
      repeat ((try conv => whnf); first | (refine stpQ ?_))
      ((try conv => whnf); first | (refine cb_d (fun h => ?_) (fun h => ?_)) | (refine cb_n (fun h => ?_) (fun h => ?_)) | (refine cb (fun h => ?_) (fun h => ?_)))
      · have hk2 : k < l.length := by omega
        have hnx := without_next (n := nm) hk2
        repeat ((try conv => whnf); first | (refine i_at (lv_get hk2) ?_) | (refine stpQ ?_))
        ((try conv => whnf); first | (refine cb_d (fun h => ?_) (fun h => ?_)) | (refine cb_n (fun h => ?_) (fun h => ?_)) | (refine cb (fun h => ?_) (fun h => ?_)))
        · repeat ((try conv => whnf); first | (refine And.intro (by simp [lv_len]; omega) ?_) | (refine stpQ ?_))
          refine ⟨k + 1, by omega, by omega, ?_⟩
          (refine le_auto (by rfl) ?_ ?_) <;> (repeat' (first | (exact eqA) | (refine And.intro ?_ ?_) | ((fail_if_success (with_reducible (show _ = _))); (show _ = _))))
          rw [hnx, if_neg ‹_›, lvE_append]; rfl
        · repeat ((try conv => whnf); first | (refine stpQ ?_))
          refine ⟨k + 1, by omega, by omega, ?_⟩
          (refine le_auto (by rfl) ?_ ?_) <;> (repeat' (first | (exact eqA) | (refine And.intro ?_ ?_) | ((fail_if_success (with_reducible (show _ = _))); (show _ = _))))
          rw [hnx, if_pos ‹_›, List.append_nil]
      · obtain rfl : k = l.length := by omega
        rw [List.take_length]
        repeat ((try conv => whnf); first | (refine stpQ ?_))
        (refine ans_auto (by rfl) ?_ ?_ (by rfl)) <;> repeat' (first | (exact eqA) | (refine And.intro ?_ ?_) | ((fail_if_success (with_reducible (show _ = _))); (show _ = _)))
set_option maxRecDepth 100000 in
set_option maxHeartbeats 1000000 in
theorem c_sLeafPut (l : List Lf) (nm vl : Bs) (hl : (l.length : Int) ≤ 10000000) (hf : Fit l) (hf2 : Fit (putL l nm vl)) : CT Tryz.prog 168 [] [.sl 2 (lvE l), .str nm, .str vl] (.tup [.ref 1, .bool (putR l nm vl).2]) [.row 2 (lvE (putR l nm vl).1)] := by
  have hlen := lv_len l
  refine ct_intro tt_ok 1 rfl Tryz.func168 rfl rfl rfl ?_
  repeat ((try conv => whnf); first | (refine ccA ([]) (c_without l nm (by omega)) ?_) | (refine stpQ ?_))
  generalize hr : without l nm = r
  have hrl : r.length ≤ l.length := by rw [← hr]; exact List.length_filter_le _ _
  have hlr := lv_len r
  refine loop_of Nat (fun k => ⟨[(0, .sl 2 (lvE l)), (1, .str nm), (2, .str vl), (8, .ref 1), (9, .ref 2), (10, .int .i64 (k : Int))], [(1, some (.row 2 (lvE (lowL (r.take k) nm)))), (2, some (.row 2 (lvE r)))], 3⟩) (fun k => k ≤ r.length) (fun k => r.length - k) 0 (by omega) ?_ ?_
  · (refine le_auto (by rfl) ?_ ?_) <;> (repeat' (first | (exact eqA) | (refine And.intro ?_ ?_) | ((fail_if_success (with_reducible (show _ = _))); (show _ = _)))) <;> first | rfl | decide
  · intro k hk
    have hw : (lowL (r.take k) nm).length ≤ k := Nat.le_trans (List.length_filter_le _ _) (by simp; omega)
    repeat ((try conv => whnf); first | (refine stpQ ?_))
    ((try conv => whnf); first | (refine cb_d (fun h => ?_) (fun h => ?_)) | (refine cb_n (fun h => ?_) (fun h => ?_)) | (refine cb (fun h => ?_) (fun h => ?_)))
    · have hk2 : k < r.length := by omega
      have hnx := lowL_next (n := nm) hk2
      repeat ((try conv => whnf); first | (refine Exists.intro _ (And.intro (lv_get hk2) ?_)) | (refine stpQ ?_))
      ((try conv => whnf); first | (refine cb_d (fun h => ?_) (fun h => ?_)) | (refine cb_n (fun h => ?_) (fun h => ?_)) | (refine cb (fun h => ?_) (fun h => ?_)))
      · repeat ((try conv => whnf); first | (refine Exists.intro _ (And.intro (lv_get hk2) ?_)) | (refine And.intro (by simp [lv_len]; omega) ?_) | (refine stpQ ?_))
        refine ⟨k + 1, by omega, by omega, ?_⟩
        (refine le_auto (by rfl) ?_ ?_) <;> (repeat' (first | (exact eqA) | (refine And.intro ?_ ?_) | ((fail_if_success (with_reducible (show _ = _))); (show _ = _))))
        rw [hnx, if_pos (show ltB (lfAt r k).1 nm = true from h), lvE_append]; rfl
      · repeat ((try conv => whnf); first | (refine stpQ ?_))
        refine ⟨k + 1, by omega, by omega, ?_⟩
        (refine le_auto (by rfl) ?_ ?_) <;> (repeat' (first | (exact eqA) | (refine And.intro ?_ ?_) | ((fail_if_success (with_reducible (show _ = _))); (show _ = _))))
        rw [hnx, if_neg (by rw [ltB, h]; decide), List.append_nil]
    · obtain rfl : k = r.length := by omega
      rw [List.take_length] at hw ⊢
      repeat ((try conv => whnf); first | (refine And.intro (by simp [lv_len]; omega) ?_) | (refine stpQ ?_))
      refine loop_of Nat (fun k => ⟨[(0, .sl 2 (lvE l)), (1, .str nm), (2, .str vl), (8, .ref 1), (9, .ref 2), (11, .int .i64 (k : Int))], [(1, some (.row 2 (lvE (lowL r nm ++ [(nm, vl)] ++ highL (r.take k) nm)))), (2, some (.row 2 (lvE r)))], 3⟩) (fun k => k ≤ r.length) (fun k => r.length - k) 0 (by omega) ?_ ?_
      · (refine le_auto (by rfl) ?_ ?_) <;> (repeat' (first | (exact eqA) | (refine And.intro ?_ ?_) | ((fail_if_success (with_reducible (show _ = _))); (show _ = _)))) <;> first | decide | (simp [lvE, highL]; done)
      · intro k hk
        have hw2 : (highL (r.take k) nm).length ≤ k := Nat.le_trans (List.length_filter_le _ _) (by simp; omega)
        have hlo := lv_len (lowL r nm ++ [(nm, vl)] ++ highL (r.take k) nm)
        simp only [List.length_append, List.length_singleton] at hlo
        repeat ((try conv => whnf); first | (refine stpQ ?_))
        ((try conv => whnf); first | (refine cb_d (fun h => ?_) (fun h => ?_)) | (refine cb_n (fun h => ?_) (fun h => ?_)) | (refine cb (fun h => ?_) (fun h => ?_)))
        · have hk2 : k < r.length := by omega
          have hnx := highL_next (n := nm) hk2
          repeat ((try conv => whnf); first | (refine Exists.intro _ (And.intro (lv_get hk2) ?_)) | (refine stpQ ?_))
          ((try conv => whnf); first | (refine cb_d (fun h => ?_) (fun h => ?_)) | (refine cb_n (fun h => ?_) (fun h => ?_)) | (refine cb (fun h => ?_) (fun h => ?_)))
          · repeat ((try conv => whnf); first | (refine Exists.intro _ (And.intro (lv_get hk2) ?_)) | (refine And.intro (by simp [lv_len]; omega) ?_) | (refine stpQ ?_))
            refine ⟨k + 1, by omega, by omega, ?_⟩
            (refine le_auto (by rfl) ?_ ?_) <;> (repeat' (first | (exact eqA) | (refine And.intro ?_ ?_) | ((fail_if_success (with_reducible (show _ = _))); (show _ = _))))
            rw [hnx, if_pos (show (!(ltB (lfAt r k).1 nm || decide ((lfAt r k).1 = nm))) = true from h)]
            simp [lvE]
          · repeat ((try conv => whnf); first | (refine stpQ ?_))
            refine ⟨k + 1, by omega, by omega, ?_⟩
            (refine le_auto (by rfl) ?_ ?_) <;> (repeat' (first | (exact eqA) | (refine And.intro ?_ ?_) | ((fail_if_success (with_reducible (show _ = _))); (show _ = _))))
            rw [hnx, if_neg (show ¬ (!(ltB (lfAt r k).1 nm || decide ((lfAt r k).1 = nm))) = true from fun c => by rw [ltB, h] at c; cases c), List.append_nil]
        · obtain rfl : k = r.length := by omega
          rw [List.take_length] at hw2 hlo ⊢
          have hP : lowL r nm ++ [(nm, vl)] ++ highL r nm = putL l nm vl := by rw [putL, hr]
          rw [hP] at hlo ⊢
          have hpl := lv_len (putL l nm vl)
          repeat ((try conv => whnf); first | (refine ccA ([]) (c_sLeavesOk l (by omega) hf) ?_) | (refine stpQ ?_))
          ((try conv => whnf); first | (refine cb_d (fun h => ?_) (fun h => ?_)) | (refine cb_n (fun h => ?_) (fun h => ?_)) | (refine cb (fun h => ?_) (fun h => ?_)))
          · have e : putR l nm vl = (l, false) := by simp at h; simp [putR, h]
            rw [e]
            repeat ((try conv => whnf); first | (refine And.intro (by simp [lv_len]; omega) ?_) | (refine stpQ ?_))
            (refine ans_auto (by rfl) ?_ ?_ (by rfl)) <;> repeat' (first | (exact eqA) | (refine And.intro ?_ ?_) | ((fail_if_success (with_reducible (show _ = _))); (show _ = _)))
            rfl
          · repeat ((try conv => whnf); first | (refine ccA ([]) (c_sLeavesOk (putL l nm vl) (by omega) hf2) ?_) | (refine stpQ ?_))
            ((try conv => whnf); first | (refine cb_d (fun h => ?_) (fun h => ?_)) | (refine cb_n (fun h => ?_) (fun h => ?_)) | (refine cb (fun h => ?_) (fun h => ?_)))
            · have e : putR l nm vl = (l, false) := by simp at h; simp [putR, h]
              rw [e]
              repeat ((try conv => whnf); first | (refine And.intro (by simp [lv_len]; omega) ?_) | (refine stpQ ?_))
              (refine ans_auto (by rfl) ?_ ?_ (by rfl)) <;> repeat' (first | (exact eqA) | (refine And.intro ?_ ?_) | ((fail_if_success (with_reducible (show _ = _))); (show _ = _)))
              rfl
            · rename_i h0
              have e : putR l nm vl = (putL l nm vl, true) := by simp at h h0; simp [putR, h, h0]
              rw [e]
              repeat ((try conv => whnf); first | (refine stpQ ?_))
              (refine ans_auto (by rfl) ?_ ?_ (by rfl)) <;> repeat' (first | (exact eqA) | (refine And.intro ?_ ?_) | ((fail_if_success (with_reducible (show _ = _))); (show _ = _)))
set_option maxRecDepth 100000 in
set_option maxHeartbeats 400000 in
theorem c_sameLeaves (l m : List Lf) (hl : (l.length : Int) ≤ 100000000) (hm : (m.length : Int) ≤ 100000000) : CT Tryz.prog 87 [] [.sl 2 (lvE l), .sl 2 (lvE m)] (.bool (decide (l = m))) [] := by
  have h1 := lv_len l
  have h2 := lv_len m
  refine ct_intro tt_ok 1 rfl Tryz.func87 rfl rfl rfl ?_
  repeat ((try conv => whnf); first | (refine stpQ ?_))
  ((try conv => whnf); first | (refine cb_d (fun h => ?_) (fun h => ?_)) | (refine cb_n (fun h => ?_) (fun h => ?_)) | (refine cb (fun h => ?_) (fun h => ?_)))
  · repeat ((try conv => whnf); first | (refine stpQ ?_))
    (refine ans_auto (by rfl) ?_ ?_ (by rfl)) <;> repeat' (first | (exact eqA) | (refine And.intro ?_ ?_) | ((fail_if_success (with_reducible (show _ = _))); (show _ = _)))
    have : l ≠ m := fun e => by subst e; exact h rfl
    simp [this]
  · repeat ((try conv => whnf); first | (refine stpQ ?_))
    have he : l.length = m.length := by omega
    refine loop_of Nat (fun k => ⟨[(0, .sl 2 (lvE l)), (1, .sl 2 (lvE m)), (5, .int .i64 (k : Int))], [], 2⟩) (fun k => k ≤ l.length ∧ l.take k = m.take k) (fun k => l.length - k) 0 ⟨by omega, rfl⟩ ?_ ?_
    · (refine le_auto (by rfl) ?_ ?_) <;> repeat' (first | (exact eqA) | (refine And.intro ?_ ?_) | ((fail_if_success (with_reducible (show _ = _))); (show _ = _)))
    · rintro k ⟨hk, hp⟩
      repeat ((try conv => whnf); first | (refine stpQ ?_))
      ((try conv => whnf); first | (refine cb_d (fun h => ?_) (fun h => ?_)) | (refine cb_n (fun h => ?_) (fun h => ?_)) | (refine cb (fun h => ?_) (fun h => ?_)))
      · have hk1 : k < l.length := by omega
        have hk2 : k < m.length := by omega
        repeat ((try conv => whnf); first | (refine i_at (lv_get hk1) ?_) | (refine i_at (lv_get hk2) ?_) | (refine stpQ ?_))
        ((try conv => whnf); first | (refine cb_d (fun h => ?_) (fun h => ?_)) | (refine cb_n (fun h => ?_) (fun h => ?_)) | (refine cb (fun h => ?_) (fun h => ?_)))
        · have hne : lfAt l k ≠ lfAt m k := fun e => by rw [e] at h; simp [eqC] at h
          repeat ((try conv => whnf); first | (refine stpQ ?_))
          (refine ans_auto (by rfl) ?_ ?_ (by rfl)) <;> repeat' (first | (exact eqA) | (refine And.intro ?_ ?_) | ((fail_if_success (with_reducible (show _ = _))); (show _ = _)))
          have : l ≠ m := fun e => by subst e; exact hne rfl
          simp [this]
        · have heq : lfAt l k = lfAt m k := by simp [eqC] at h; exact Prod.ext h.1 h.2
          repeat ((try conv => whnf); first | (refine stpQ ?_))
          refine ⟨k + 1, ⟨by omega, ?_⟩, by omega, ?_⟩
          · rw [take_next l k hk1, take_next m k hk2, hp, heq]
          · (refine le_auto (by rfl) ?_ ?_) <;> repeat' (first | (exact eqA) | (refine And.intro ?_ ?_) | ((fail_if_success (with_reducible (show _ = _))); (show _ = _)))
      · obtain rfl : k = l.length := by omega
        have hlm : l = m := by
          rw [List.take_length] at hp
          rw [hp, he, List.take_length]
        repeat ((try conv => whnf); first | (refine stpQ ?_))
        (refine ans_auto (by rfl) ?_ ?_ (by rfl)) <;> repeat' (first | (exact eqA) | (refine And.intro ?_ ?_) | ((fail_if_success (with_reducible (show _ = _))); (show _ = _)))
        simp [hlm]
set_option maxRecDepth 100000 in
set_option maxHeartbeats 400000 in
theorem c_sLeafGet (l : List Lf) (nm : Bs) (hl : (l.length : Int) ≤ 1000000000) : CT Tryz.prog 18 [] [.sl 2 (lvE l), .str nm] (.tup [.str ((leafGet l nm).getD []), .bool (leafGet l nm).isSome]) [] := by
  have hlen := lv_len l
  refine ct_intro tt_ok 1 rfl Tryz.func18 rfl rfl rfl ?_
  repeat ((try conv => whnf); first | (refine stpQ ?_))
  refine loop_of Nat (fun k => ⟨[(0, .sl 2 (lvE l)), (1, .str nm), (6, .int .i64 (k : Int))], [], 2⟩) (fun k => k ≤ l.length ∧ leafGet (l.take k) nm = none) (fun k => l.length - k) 0 ⟨by omega, rfl⟩ ?_ ?_
  · (refine le_auto (by rfl) ?_ ?_) <;> repeat' (first | (exact eqA) | (refine And.intro ?_ ?_) | ((fail_if_success (with_reducible (show _ = _))); (show _ = _)))
  · rintro k ⟨hk, hp⟩
    by_cases hlt : k < l.length
    · repeat ((try conv => whnf); first | (refine i_at (lv_get hlt) ?_) | (refine stpQ ?_))
      ((try conv => whnf); first | (refine cb_d (fun h => ?_) (fun h => ?_)) | (refine cb_n (fun h => ?_) (fun h => ?_)) | (refine cb (fun h => ?_) (fun h => ?_)))
      · have hg := get_here hlt hp h
        repeat ((try conv => whnf); first | (refine i_at (lv_get hlt) ?_) | (refine stpQ ?_))
        rw [hg]
        (refine ans_auto (by rfl) ?_ ?_ (by rfl)) <;> (repeat' (first | (exact eqA) | (refine And.intro ?_ ?_) | ((fail_if_success (with_reducible (show _ = _))); (show _ = _)))) <;> rfl
      · have hg := get_next hlt hp h
        repeat ((try conv => whnf); first | (refine stpQ ?_))
        refine ⟨k + 1, ⟨by omega, hg⟩, by omega, ?_⟩
        (refine le_auto (by rfl) ?_ ?_) <;> repeat' (first | (exact eqA) | (refine And.intro ?_ ?_) | ((fail_if_success (with_reducible (show _ = _))); (show _ = _)))
    · obtain rfl : k = l.length := by omega
      rw [List.take_length] at hp
      repeat ((try conv => whnf); first | (refine stpQ ?_))
      rw [hp]
      (refine ans_auto (by rfl) ?_ ?_ (by rfl)) <;> (repeat' (first | (exact eqA) | (refine And.intro ?_ ?_) | ((fail_if_success (with_reducible (show _ = _))); (show _ = _)))) <;> rfl
set_option maxRecDepth 100000 in
set_option maxHeartbeats 400000 in
theorem c_sLeafDrop (l : List Lf) (nm : Bs) (hl : (l.length : Int) ≤ 100000000) (hf : Fit l) : CT Tryz.prog 391 [] [.sl 2 (lvE l), .str nm] (.tup [.ref 1, .bool (dropR l nm).2]) [.row 2 (lvE (dropR l nm).1)] := by
  have hlen := lv_len l
  have cG := c_sLeafGet l nm (by omega)
  have cO := c_sLeavesOk l (by omega) hf
  have cW := c_without l nm (by omega)
  refine ct_intro tt_ok 1 rfl Tryz.func391 rfl rfl rfl ?_
  unfold dropR
  generalize leavesOk l = b1 at cO ⊢
  generalize leafGet l nm = o at cG ⊢
  cases b1 <;> cases o
  all_goals
    repeat ((try conv => whnf); first | (refine ccA ([]) (cG) ?_) | (refine ccA ([]) (cO) ?_) | (refine ccA ([]) (cW) ?_) | (refine And.intro (by simp [lv_len]; omega) ?_) | (refine stpQ ?_))
    (refine ans_auto (by rfl) ?_ ?_ (by rfl)) <;> (repeat' (first | (exact eqA) | (refine And.intro ?_ ?_) | ((fail_if_success (with_reducible (show _ = _))); (show _ = _)))) <;> first | rfl | decide
end Go.Proofs.YtmmnkndmlkhmhaaGreatDoor
