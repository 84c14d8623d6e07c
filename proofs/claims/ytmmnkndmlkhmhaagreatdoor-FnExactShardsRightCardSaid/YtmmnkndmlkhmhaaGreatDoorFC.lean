/- Functions by content: an entry is looked up, put, dropped. -/
import Derived.Test.YtmmnkndmlkhmhaaGreatDoorFB
import Derived.Test.YtmmnkndmlkhmhaaGreatDoorPlainA
namespace Go.Proofs.YtmmnkndmlkhmhaaGreatDoor
open Go.RowKit Pl
set_option linter.unusedVariables false
set_option linter.unusedSimpArgs false
attribute [local irreducible] CondB CallP LoopW AnsP LeP

set_option maxRecDepth 100000 in
set_option maxHeartbeats 400000 in
theorem c_copyLeaves (l : List Lf) (hl : (l.length : Int) ≤ 1000000000) : CT Tryz.prog 351 [] [.sl 2 (lvE l)] (.ref 1) [.row 2 (lvE l)] := by
  have hlen := lv_len l
  refine ct_intro tt_ok 1 rfl Tryz.func351 rfl rfl rfl ?_
  repeat ((try conv => whnf); first | (refine stpQ ?_))
  (refine ans_auto (by rfl) ?_ ?_ (by rfl)) <;> repeat' (first | (exact eqA) | (refine And.intro ?_ ?_) | ((fail_if_success (with_reducible (show _ = _))); (show _ = _)))
set_option maxRecDepth 100000 in
set_option maxHeartbeats 400000 in
theorem c_LeafGet (l : List Lf) (nm : Bs) (hl : (l.length : Int) ≤ 1000000000) : CT Tryz.prog 75 [] [.sl 2 (lvE l), .str nm] (.tup [.str ((leafGet l nm).getD []), .bool (leafGet l nm).isSome]) [] := by
  have hlen := lv_len l
  refine ct_intro tt_ok 1 rfl Tryz.func75 rfl rfl rfl ?_
  repeat ((try conv => whnf); first | (refine stpQ ?_))
  refine loop_of Nat (fun k => ⟨[(1, .str nm), (8, .sl 2 (lvE l)), (9, .int .i64 ((lvE l).length : Int)), (10, .int .i64 (k : Int))], [], 2⟩) (fun k => k ≤ l.length ∧ leafGet (l.take k) nm = none) (fun k => l.length - k) 0 ⟨by omega, rfl⟩ ?_ ?_
  · (refine le_auto (by rfl) ?_ ?_) <;> repeat' (first | (exact eqA) | (refine And.intro ?_ ?_) | ((fail_if_success (with_reducible (show _ = _))); (show _ = _)))
  · rintro k ⟨hk, hp⟩
    repeat ((try conv => whnf); first | (refine stpQ ?_))
    ((try conv => whnf); first | (refine cb_d (fun h => ?_) (fun h => ?_)) | (refine cb_n (fun h => ?_) (fun h => ?_)) | (refine cb (fun h => ?_) (fun h => ?_)))
    · have hlt : k < l.length := by omega
      repeat ((try conv => whnf); first | (refine i_at (lv_get hlt) ?_) | (refine stpQ ?_))
      ((try conv => whnf); first | (refine cb_d (fun h => ?_) (fun h => ?_)) | (refine cb_n (fun h => ?_) (fun h => ?_)) | (refine cb (fun h => ?_) (fun h => ?_)))
      · have hg := get_here hlt hp h
        repeat ((try conv => whnf); first | (refine stpQ ?_))
        rw [hg]
        (refine ans_auto (by rfl) ?_ ?_ (by rfl)) <;> (repeat' (first | (exact eqA) | (refine And.intro ?_ ?_) | ((fail_if_success (with_reducible (show _ = _))); (show _ = _)))) <;> rfl
      · have hg := get_next hlt hp h
        repeat ((try conv => whnf); first | (refine stpQ ?_))
        refine ⟨k + 1, ⟨by omega, hg⟩, by omega, ?_⟩
        (refine le_auto (by rfl) ?_ ?_) <;> repeat' (first | (exact eqA) | (refine And.intro ?_ ?_) | ((fail_if_success (with_reducible (show _ = _))); (show _ = _)))
    · obtain rfl : k = l.length := by omega
      rw [List.take_length] at hp
      repeat ((try conv => whnf); first | (refine stpQ ?_))
      rw [hp]
      (refine ans_auto (by rfl) ?_ ?_ (by rfl)) <;> (repeat' (first | (exact eqA) | (refine And.intro ?_ ?_) | ((fail_if_success (with_reducible (show _ = _))); (show _ = _)))) <;> rfl
set_option maxRecDepth 100000 in
set_option maxHeartbeats 400000 in
theorem c_without (l : List Lf) (nm : Bs) (hl : (l.length : Int) ≤ 100000000) : CT Tryz.prog 266 [] [.sl 2 (lvE l), .str nm] (.ref 1) [.row 2 (lvE (without l nm))] := by
  have hlen := lv_len l
  refine ct_intro tt_ok 1 rfl Tryz.func266 rfl rfl rfl ?_
  repeat ((try conv => whnf); first | (refine stpQ ?_))
  refine loop_of Nat (fun k => ⟨[(0, .sl 2 (lvE l)), (1, .str nm), (5, .ref 1), (6, .int .i64 (k : Int))], [(1, some (.row 2 (lvE (without (l.take k) nm))))], 2⟩) (fun k => k ≤ l.length) (fun k => l.length - k) 0 (by omega) ?_ ?_
  · (refine le_auto (by rfl) ?_ ?_) <;> (repeat' (first | (exact eqA) | (refine And.intro ?_ ?_) | ((fail_if_success (with_reducible (show _ = _))); (show _ = _)))) <;> first | rfl | decide
  · intro k hk
    repeat ((try conv => whnf); first | (refine stpQ ?_))
    ((try conv => whnf); first | (refine cb_d (fun h => ?_) (fun h => ?_)) | (refine cb_n (fun h => ?_) (fun h => ?_)) | (refine cb (fun h => ?_) (fun h => ?_)))
    · have hk2 : k < l.length := by omega
      repeat ((try conv => whnf); first | (refine i_at (lv_get hk2) ?_) | (refine stpQ ?_))
      ((try conv => whnf); first | (refine cb_d (fun h => ?_) (fun h => ?_)) | (refine cb_n (fun h => ?_) (fun h => ?_)) | (refine cb (fun h => ?_) (fun h => ?_)))
      · have hw : (without (l.take k) nm).length ≤ k := Nat.le_trans (List.length_filter_le _ _) (by simp; omega)
        repeat ((try conv => whnf); first | (refine i_at (lv_get hk2) ?_) | (refine And.intro (by simp [lv_len]; omega) ?_) | (refine stpQ ?_))
        refine ⟨k + 1, by omega, by omega, ?_⟩
        (refine le_auto (by rfl) ?_ ?_) <;> repeat' (first | (exact eqA) | (refine And.intro ?_ ?_) | ((fail_if_success (with_reducible (show _ = _))); (show _ = _)))
        rw [without_next hk2, if_neg h, lvE_append]; rfl
      · repeat ((try conv => whnf); first | (refine stpQ ?_))
        refine ⟨k + 1, by omega, by omega, ?_⟩
        (refine le_auto (by rfl) ?_ ?_) <;> repeat' (first | (exact eqA) | (refine And.intro ?_ ?_) | ((fail_if_success (with_reducible (show _ = _))); (show _ = _)))
        rw [without_next hk2, if_pos h, List.append_nil]
    · obtain rfl : k = l.length := by omega
      repeat ((try conv => whnf); first | (refine stpQ ?_))
      (refine ans_auto (by rfl) ?_ ?_ (by rfl)) <;> repeat' (first | (exact eqA) | (refine And.intro ?_ ?_) | ((fail_if_success (with_reducible (show _ = _))); (show _ = _)))
      rw [List.take_length]
set_option maxRecDepth 100000 in
set_option maxHeartbeats 1000000 in
theorem c_LeafPut (l : List Lf) (nm vl : Bs) (hl : (l.length : Int) ≤ 100000000) (hf : Fit l) (hf2 : Fit (insL l nm vl)) : CT Tryz.prog 393 [] [.sl 2 (lvE l), .str nm, .str vl] (.tup [.ref 1, .bool (insR l nm vl).2]) [.row 2 (lvE (insR l nm vl).1)] := by
  have hlen := lv_len l
  have hil : (insL l nm vl).length ≤ 2 * l.length + 1 := by
    have := insF_len nm vl l l.length
    rw [List.take_length] at this
    unfold insL
    cases (insF l nm vl).2 <;> simp <;> omega
  refine ct_intro tt_ok 1 rfl Tryz.func393 rfl rfl rfl ?_
  repeat ((try conv => whnf); first | (refine ccA ([]) (c_LeavesOk l (by omega) hf) ?_) | (refine stpQ ?_))
  ((try conv => whnf); first | (refine cb_d (fun h => ?_) (fun h => ?_)) | (refine cb_n (fun h => ?_) (fun h => ?_)) | (refine cb (fun h => ?_) (fun h => ?_)))
  · have ho : leavesOk l = false := by simpa using h
    have hr : insR l nm vl = (l, false) := by simp [insR, ho]
    rw [hr]
    repeat ((try conv => whnf); first | (refine ccA ([]) (c_copyLeaves l (by omega)) ?_) | (refine stpQ ?_))
    (refine ans_auto (by rfl) ?_ ?_ (by rfl)) <;> repeat' (first | (exact eqA) | (refine And.intro ?_ ?_) | ((fail_if_success (with_reducible (show _ = _))); (show _ = _)))
  · have ho : leavesOk l = true := by simpa using h
    repeat ((try conv => whnf); first | (refine stpQ ?_))
    refine loop_of Nat (fun k => ⟨[(0, .sl 2 (lvE l)), (1, .str nm), (2, .str vl), (8, .ref 1), (9, .bool (insF (l.take k) nm vl).2), (17, .sl 2 (lvE l)), (18, .int .i64 ((lvE l).length : Int)), (19, .int .i64 (k : Int))], [(1, some (.row 2 (lvE (insF (l.take k) nm vl).1)))], 2⟩) (fun k => k ≤ l.length) (fun k => l.length - k) 0 (by omega) ?_ ?_
    · (refine le_auto (by rfl) ?_ ?_) <;> (repeat' (first | (exact eqA) | (refine And.intro ?_ ?_) | ((fail_if_success (with_reducible (show _ = _))); (show _ = _)))) <;> first | rfl | decide
    · intro k hk
      have hfl := insF_len nm vl l k
      repeat ((try conv => whnf); first | (refine stpQ ?_))
      ((try conv => whnf); first | (refine cb_d (fun h => ?_) (fun h => ?_)) | (refine cb_n (fun h => ?_) (fun h => ?_)) | (refine cb (fun h => ?_) (fun h => ?_)))
      · have hk2 : k < l.length := by omega
        have hnx := insF_next (n := nm) (v := vl) hk2
        generalize insF (l.take k) nm vl = st at hnx hfl ⊢
        obtain ⟨o, d⟩ := st
        simp only at hfl
        have hol := lv_len o
        repeat' (first | ((try conv => whnf); first | (refine i_at (lv_get hk2) ?_) | (refine And.intro (by simp [lv_len]; omega) ?_) | (refine stpQ ?_)) | ((try conv => whnf); first | (refine cb_d (fun h => ?_) (fun h => ?_)) | (refine cb_n (fun h => ?_) (fun h => ?_)) | (refine cb (fun h => ?_) (fun h => ?_))))
        all_goals
          refine ⟨k + 1, by omega, by omega, ?_⟩
          rw [hnx]
          (refine le_auto (by rfl) ?_ ?_) <;> repeat' (first | (exact eqA) | (refine And.intro ?_ ?_) | ((fail_if_success (with_reducible (show _ = _))); (show _ = _)))
        all_goals first
          | (simp_all [insS, ltB, lvE]; done)
      · obtain rfl : k = l.length := by omega
        rw [List.take_length] at hfl ⊢
        generalize hst : insF l nm vl = st at hfl ⊢
        obtain ⟨o, d⟩ := st
        simp only at hfl
        have hol := lv_len o
        have hil2 : insL l nm vl = bif d then o else o ++ [(nm, vl)] := by rw [insL, hst]
        cases d
        · have e1 : lvE o ++ [[.str nm, .str vl]] = lvE (insL l nm vl) := by rw [hil2]; simp [lvE]
          have hR : insR l nm vl = bif leavesOk (insL l nm vl) then (insL l nm vl, true) else (l, false) := by rw [insR, ho]; rfl
          repeat ((try conv => whnf); first | (refine And.intro (by simp [lv_len]; omega) ?_) | (refine stpQ ?_))
          ((try conv => whnf); refine c_call ([]) (c_LeavesOk (insL l nm vl) (by omega) hf2) ?_ (by ((repeat' (first | (exact trivial) | (exact rfl) | (refine And.intro ?_ ?_))); first | done | fail)) (by decide) (by rfl) (by first | exact .inl rfl | (refine .inr ⟨?_, ?_⟩ <;> simp [own2, own1, own0, ownE])) ?_)
          · exact ⟨⟨congrArg (fun e => some (Ent.row 2 e)) e1, rfl⟩, rfl⟩
          · repeat ((try conv => whnf); first | (refine stpQ ?_))
            ((try conv => whnf); first | (refine cb_d (fun h => ?_) (fun h => ?_)) | (refine cb_n (fun h => ?_) (fun h => ?_)) | (refine cb (fun h => ?_) (fun h => ?_)))
            · have ho2 : leavesOk (insL l nm vl) = false := by simpa using h
              rw [hR, ho2, cond_false]
              repeat ((try conv => whnf); first | (refine ccA ([]) (c_copyLeaves l (by omega)) ?_) | (refine stpQ ?_))
              (refine ans_auto (by rfl) ?_ ?_ (by rfl)) <;> repeat' (first | (exact eqA) | (refine And.intro ?_ ?_) | ((fail_if_success (with_reducible (show _ = _))); (show _ = _)))
            · have ho2 : leavesOk (insL l nm vl) = true := by simpa using h
              rw [hR, ho2, cond_true]
              repeat ((try conv => whnf); first | (refine stpQ ?_))
              (refine ans_auto (by rfl) ?_ ?_ (by rfl)) <;> repeat' (first | (exact eqA) | (refine And.intro ?_ ?_) | ((fail_if_success (with_reducible (show _ = _))); (show _ = _)))
              exact e1
        · have e1 : lvE o = lvE (insL l nm vl) := by rw [hil2]; rfl
          have hR : insR l nm vl = bif leavesOk (insL l nm vl) then (insL l nm vl, true) else (l, false) := by rw [insR, ho]; rfl
          repeat ((try conv => whnf); first | (refine stpQ ?_))
          ((try conv => whnf); refine c_call ([]) (c_LeavesOk (insL l nm vl) (by omega) hf2) ?_ (by ((repeat' (first | (exact trivial) | (exact rfl) | (refine And.intro ?_ ?_))); first | done | fail)) (by decide) (by rfl) (by first | exact .inl rfl | (refine .inr ⟨?_, ?_⟩ <;> simp [own2, own1, own0, ownE])) ?_)
          · exact ⟨⟨congrArg (fun e => some (Ent.row 2 e)) e1, rfl⟩, rfl⟩
          · repeat ((try conv => whnf); first | (refine stpQ ?_))
            ((try conv => whnf); first | (refine cb_d (fun h => ?_) (fun h => ?_)) | (refine cb_n (fun h => ?_) (fun h => ?_)) | (refine cb (fun h => ?_) (fun h => ?_)))
            · have ho2 : leavesOk (insL l nm vl) = false := by simpa using h
              rw [hR, ho2, cond_false]
              repeat ((try conv => whnf); first | (refine ccA ([]) (c_copyLeaves l (by omega)) ?_) | (refine stpQ ?_))
              (refine ans_auto (by rfl) ?_ ?_ (by rfl)) <;> repeat' (first | (exact eqA) | (refine And.intro ?_ ?_) | ((fail_if_success (with_reducible (show _ = _))); (show _ = _)))
            · have ho2 : leavesOk (insL l nm vl) = true := by simpa using h
              rw [hR, ho2, cond_true]
              repeat ((try conv => whnf); first | (refine stpQ ?_))
              (refine ans_auto (by rfl) ?_ ?_ (by rfl)) <;> repeat' (first | (exact eqA) | (refine And.intro ?_ ?_) | ((fail_if_success (with_reducible (show _ = _))); (show _ = _)))
              exact e1
end Go.Proofs.YtmmnkndmlkhmhaaGreatDoor
