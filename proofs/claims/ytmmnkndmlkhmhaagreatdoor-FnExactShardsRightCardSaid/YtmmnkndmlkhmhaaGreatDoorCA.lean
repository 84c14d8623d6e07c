/- Functions by content: changes: their tests, texts, readers, and how they are applied. -/
import Derived.Test.YtmmnkndmlkhmhaaGreatDoorFFJ
import Derived.Test.YtmmnkndmlkhmhaaGreatDoorChange
import Derived.Test.YtmmnkndmlkhmhaaGreatDoorFD
import Derived.Test.YtmmnkndmlkhmhaaGreatDoorPlainChange
import Derived.Test.YtmmnkndmlkhmhaaGreatDoorFHI
namespace Go.Proofs.YtmmnkndmlkhmhaaGreatDoor
open Go.RowKit Pl
set_option linter.unusedVariables false
set_option linter.unusedSimpArgs false
attribute [local irreducible] CondB CallP LoopW AnsP LeP

def chL (u : Ch) : List T := [.int .i64 u.1, .str u.2.1, .str u.2.2]
def chE (us : List Ch) : List (List T) := us.map chL
def ChFit (u : Ch) : Prop := (u.2.1.length : Int) ≤ 1000000000 ∧ (u.2.2.length : Int) ≤ 1000000000
theorem c_ChangeOk (u : Ch) (hf : ChFit u) : CT Tryz.prog 365 [] [.agg (chL u)] (.bool (changeOk u.1 u.2.1 u.2.2)) [] :=
  old_ct ⟨_, Tryz.func365, rfl, rfl⟩ rfl (fun X => mk_bool X _) fun w => by
    have h := changeOk_any u.1 (bs u.2.1) (bs u.2.2) w (by rw [bs_size]; exact hf.1) (by rw [bs_size]; exact hf.2)
    rwa [bs_data, bs_data] at h
theorem c_sChangeOk (u : Ch) (hf : ChFit u) : CT Tryz.prog 296 [] [.agg (chL u)] (.bool (changeOk u.1 u.2.1 u.2.2)) [] :=
  old_ct ⟨_, Tryz.func296, rfl, rfl⟩ rfl (fun X => mk_bool X _) fun w => by
    have h := sChangeOk_any u.1 (bs u.2.1) (bs u.2.2) w (by rw [bs_size]; exact hf.1) (by rw [bs_size]; exact hf.2)
    rwa [bs_data, bs_data] at h
theorem changeOk_nat {u : Ch} (h : changeOk u.1 u.2.1 u.2.2 = true) : ∃ n : Nat, u.1 = n := by
  unfold changeOk at h
  simp at h
  exact ⟨u.1.toNat, by omega⟩
def chText (u : Ch) : Bs := bif changeOk u.1 u.2.1 u.2.2 then changeText u.1 u.2.1 u.2.2 else []
theorem pair_rs (X : Cx) (s : Bs) (b : Bool) : RS X (.tup [.str s, .bool b]) (.tuple #[.string (bs s), .bool b]) :=
  ⟨_, rfl, _, _, rfl, mk_str X _, _, _, rfl, mk_bool X _, rfl⟩
theorem c_sChangeText (u : Ch) (hf : ChFit u) : CT Tryz.prog 297 [] [.agg (chL u)] (.tup [.str (chText u), .bool (changeOk u.1 u.2.1 u.2.2)]) [] := by
  unfold chText
  cases ho : changeOk u.1 u.2.1 u.2.2
  · refine old_ct ⟨_, Tryz.func297, rfl, rfl⟩ rfl (fun X => pair_rs X _ _) fun w => ?_
    exact sChangeText_no u.1 (bs u.2.1) (bs u.2.2) w (by rw [bs_size]; exact hf.1) (by rw [bs_size]; exact hf.2) (by rw [bs_data, bs_data]; exact ho)
  · obtain ⟨n, hn⟩ := changeOk_nat ho
    refine old_ct ⟨_, Tryz.func297, rfl, rfl⟩ rfl (fun X => pair_rs X _ _) fun w => ?_
    have h := sChangeText_yes n (bs u.2.1) (bs u.2.2) w (by rw [bs_size]; exact hf.1) (by rw [bs_size]; exact hf.2) (by rw [bs_data, bs_data, ← hn]; exact ho)
    rw [bs_data, bs_data, ← hn] at h
    exact h
def rcT : Option (Nat × Bs × Bs) → T
  | none => .tup [.agg (chL (0, [], [])), .bool false]
  | some (a, n, v) => .tup [.agg (chL ((a : Int), n, v)), .bool true]
theorem rc_rs (o : Option (Nat × Bs × Bs)) (X : Cx) : RS X (rcT o) (rcVal o) := by
  have key : ∀ (a : Int) (n v : Bs) (b : Bool), RS X (.tup [.agg (chL (a, n, v)), .bool b]) (.tuple #[.agg #[.int .i64 a, .string (bs n), .string (bs v)], .bool b]) := fun a n v b =>
    ⟨_, rfl, _, _, rfl, ⟨_, rfl, _, _, rfl, rfl, mk_int X _ _, _, _, rfl, rfl, mk_str X _, _, _, rfl, rfl, mk_str X _, rfl⟩, _, _, rfl, mk_bool X _, rfl⟩
  cases o with
  | none => exact key 0 [] [] false
  | some x => exact key _ _ _ true
theorem c_ReadChange (t : Bs) (ht : (t.length : Int) ≤ 1000000000) : CT Tryz.prog 290 [] [.str t] (rcT (readChangeI t)) [] :=
  old_ct ⟨_, Tryz.func290, rfl, rfl⟩ rfl (rc_rs _) fun w => by
    have h := readChange_any (bs t) w (by rw [bs_size]; exact ht)
    rwa [bs_data] at h
theorem c_sReadChange (t : Bs) (ht : (t.length : Int) ≤ 1000000000) : CT Tryz.prog 280 [] [.str t] (rcT (readChangeS t)) [] :=
  old_ct ⟨_, Tryz.func280, rfl, rfl⟩ rfl (rc_rs _) fun w => by
    have h := sReadChange_any (bs t) w (by rw [bs_size]; exact ht)
    rwa [bs_data] at h

theorem own_lvE {k : Nat} (l : List Lf) : ownE (.row k (lvE l)) := by
  intro e he c hc
  simp only [lvE, List.mem_map] at he
  obtain ⟨x, _, rfl⟩ := he
  simp only [List.mem_cons, List.not_mem_nil, or_false] at hc
  rcases hc with rfl | rfl <;> trivial
theorem own_chE {k : Nat} (l : List Ch) : ownE (.row k (chE l)) := by
  intro e he c hc
  simp only [chE, List.mem_map] at he
  obtain ⟨x, _, rfl⟩ := he
  simp only [chL, List.mem_cons, List.not_mem_nil, or_false] at hc
  rcases hc with rfl | rfl | rfl <;> trivial
/-! ### applied -/
theorem ok_small {l : List Lf} (h : leavesOk l = true) : (l.length : Int) ≤ 24 ∧ Fit l := by
  obtain ⟨h1, h2, _⟩ := ok_sorted h
  refine ⟨by omega, fun i => ?_⟩
  rcases Nat.lt_or_ge i l.length with hl | hl
  · have := h2 _ (List.getElem_mem hl)
    have a := nameOk_len this.1
    have b := valueOk_len this.2
    rw [lf_at hl]; omega
  · simp [lfAt, List.getD, List.getElem?_eq_none hl]
theorem put_fit {l : List Lf} {n v : Bs} (h : leavesOk l = true) (hn : (n.length : Int) ≤ 1000000000) (hv : (v.length : Int) ≤ 1000000000) : Fit (putL l n v) := fun i => by
  rcases Nat.lt_or_ge i (putL l n v).length with hl | hl
  · rw [lf_at hl]
    rcases put_mem.1 (List.getElem_mem hl) with e | e
    · rw [e]; exact ⟨hn, hv⟩
    · obtain ⟨_, h2, _⟩ := ok_sorted h
      have a := nameOk_len (h2 _ e.1).1
      have b := valueOk_len (h2 _ e.1).2
      omega
  · simp [lfAt, List.getD, List.getElem?_eq_none hl]
set_option maxRecDepth 100000 in
set_option maxHeartbeats 1000000 in
theorem c_ApplyChange (l : List Lf) (u : Ch) (h : leavesOk l = true) (hf : ChFit u) : CT Tryz.prog 352 [] [.sl 2 (lvE l), .agg (chL u)] (.ref 1) [.row 2 (lvE (applyI l u))] := by
  obtain ⟨hl, hfl⟩ := ok_small h
  obtain ⟨id, n, v⟩ := u
  have cD := c_LeafDrop l n (by omega) hfl
  have cP := c_LeafPut l n v (by omega) hfl (by rw [ins_put (ok_sorted h).2.2]; exact put_fit h hf.1 hf.2)
  refine ct_intro tt_ok 1 rfl Tryz.func352 rfl rfl rfl ?_
  cases v with
  | nil =>
    repeat ((try conv => whnf); first | (refine ccA ([]) (cD) ?_) | (refine cb_dt rfl ?_) | (refine stpQ ?_))
    (refine ans_auto (by rfl) ?_ ?_ (by rfl)) <;> (repeat' (first | (exact eqA) | (refine And.intro ?_ ?_) | ((fail_if_success (with_reducible (show _ = _))); (show _ = _)))) <;> first | rfl | decide
  | cons b v =>
    have hne : ¬ (b :: v = []) := by simp
    repeat ((try conv => whnf); first | (refine ccA ([]) (cP) ?_) | (refine cb_df hne ?_) | (refine stpQ ?_))
    (refine ans_auto (by rfl) ?_ ?_ (by rfl)) <;> (repeat' (first | (exact eqA) | (refine And.intro ?_ ?_) | ((fail_if_success (with_reducible (show _ = _))); (show _ = _)))) <;> first | rfl | decide
theorem ch_len (us : List Ch) : (chE us).length = us.length := by simp [chE]
def chAt (us : List Ch) (k : Nat) : Ch := us.getD k (0, [], [])
theorem ch_at {us : List Ch} {k : Nat} (h : k < us.length) : chAt us k = us[k] := by simp [chAt, List.getD, List.getElem?_eq_getElem h]
theorem ch_get {us : List Ch} {k : Nat} (h : k < us.length) : (chE us)[k]? = some [.int .i64 (chAt us k).1, .str (chAt us k).2.1, .str (chAt us k).2.2] := by
  rw [ch_at h]; simp [chE, chL, List.getElem?_eq_getElem h]
theorem ch_next (us : List Ch) (k : Nat) (h : k < us.length) : us.take (k + 1) = us.take k ++ [chAt us k] := by
  rw [List.take_add_one, List.getElem?_eq_getElem h, ch_at h]; rfl
theorem ch_fold {us : List Ch} {k : Nat} (f : List Lf → Ch → List Lf) (l : List Lf) (h : k < us.length) : (us.take (k + 1)).foldl f l = f ((us.take k).foldl f l) (chAt us k) := by
  rw [ch_next us k h, List.foldl_append]; rfl
set_option maxRecDepth 100000 in
set_option maxHeartbeats 1000000 in
theorem c_ApplyAll (l : List Lf) (us : List Ch) (h : leavesOk l = true) (hu : (us.length : Int) ≤ 1000000) (hf : ∀ k, ChFit (chAt us k)) : CT Tryz.prog 265 [] [.sl 2 (lvE l), .sl 3 (chE us)] (.ref 1) [.row 2 (lvE (us.foldl applyI l))] := by
  obtain ⟨hl, hfl⟩ := ok_small h
  have hlen := ch_len us
  refine ct_intro tt_ok 1 rfl Tryz.func265 rfl rfl rfl ?_
  repeat ((try conv => whnf); first | (refine ccA ([]) (c_copyLeaves l (by omega)) ?_) | (refine stpQ ?_))
  refine loop_of Nat (fun k => ⟨[(5, .ref 1), (10, .sl 3 (chE us)), (11, .int .i64 ((chE us).length : Int)), (12, .int .i64 (k : Int))], [(1, some (.row 2 (lvE ((us.take k).foldl applyI l))))], 2⟩) (fun k => k ≤ us.length) (fun k => us.length - k) 0 (by omega) ?_ ?_
  · (refine le_auto (by rfl) ?_ ?_) <;> (repeat' (first | (exact eqA) | (refine And.intro ?_ ?_) | ((fail_if_success (with_reducible (show _ = _))); (show _ = _)))) <;> first | rfl | decide
  · intro k hk
    have hok : leavesOk ((us.take k).foldl applyI l) = true := fold_ok h
    by_cases hlt : k < us.length
    · have hnx := ch_fold applyI l hlt
      have cA := c_ApplyChange ((us.take k).foldl applyI l) (chAt us k) hok (hf k)
      repeat ((try conv => whnf); first | (refine i_at (ch_get hlt) ?_) | (refine c_callG ([1]) ([]) (cA) (by ((repeat' (first | (exact trivial) | (exact rfl) | (decide) | (refine And.intro ?_ ?_))); first | done | fail)) (by ((repeat' (first | (exact trivial) | (exact rfl) | (decide) | (refine And.intro ?_ ?_))); first | done | fail)) (by decide) (by rfl) (by first | exact .inl rfl | (refine .inr ⟨?_, ?_⟩ <;> simp [own2, own1, own0, ownE])) ?_) | (refine stpQ ?_))
      refine ⟨k + 1, by omega, by omega, ?_⟩
      (refine le_auto (by rfl) ?_ ?_) <;> (repeat' (first | (exact eqA) | (refine And.intro ?_ ?_) | ((fail_if_success (with_reducible (show _ = _))); (show _ = _))))
      rw [hnx]
    · obtain rfl : k = us.length := by omega
      rw [List.take_length] at hok ⊢
      repeat ((try conv => whnf); first | (refine stpQ ?_))
      (refine ans_auto (by rfl) ?_ ?_ (by rfl)) <;> (repeat' (first | (exact eqA) | (refine And.intro ?_ ?_) | ((fail_if_success (with_reducible (show _ = _))); (show _ = _))))

/-! ### the reference's -/
set_option maxRecDepth 100000 in
set_option maxHeartbeats 1000000 in
theorem c_sApplyChange (l : List Lf) (u : Ch) (h : leavesOk l = true) (hf : ChFit u) : CT Tryz.prog 348 [] [.sl 2 (lvE l), .agg (chL u)] (.ref 1) [.row 2 (lvE (applyS l u))] := by
  obtain ⟨hl, hfl⟩ := ok_small h
  obtain ⟨id, n, v⟩ := u
  have cD := c_sLeafDrop l n (by omega) hfl
  have cP := c_sLeafPut l n v (by omega) hfl (put_fit h hf.1 hf.2)
  refine ct_intro tt_ok 1 rfl Tryz.func348 rfl rfl rfl ?_
  cases v with
  | nil =>
    repeat ((try conv => whnf); first | (refine ccA ([]) (cD) ?_) | (refine cb_dt rfl ?_) | (refine stpQ ?_))
    (refine ans_auto (by rfl) ?_ ?_ (by rfl)) <;> (repeat' (first | (exact eqA) | (refine And.intro ?_ ?_) | ((fail_if_success (with_reducible (show _ = _))); (show _ = _)))) <;> first | rfl | decide
  | cons b v =>
    have hne : ¬ (b :: v = []) := by simp
    repeat ((try conv => whnf); first | (refine ccA ([]) (cP) ?_) | (refine cb_df hne ?_) | (refine stpQ ?_))
    (refine ans_auto (by rfl) ?_ ?_ (by rfl)) <;> (repeat' (first | (exact eqA) | (refine And.intro ?_ ?_) | ((fail_if_success (with_reducible (show _ = _))); (show _ = _)))) <;> first | rfl | decide
theorem foldS_ok {us : List Ch} {l : List Lf} (h : leavesOk l = true) : leavesOk (us.foldl applyS l) = true := by rw [fold_eq h]; exact fold_ok h
set_option maxRecDepth 100000 in
set_option maxHeartbeats 1000000 in
theorem c_sApplyAll (l : List Lf) (us : List Ch) (h : leavesOk l = true) (hu : (us.length : Int) ≤ 1000000) (hf : ∀ k, ChFit (chAt us k)) : CT Tryz.prog 260 [] [.sl 2 (lvE l), .sl 3 (chE us)] (.ref 1) [.row 2 (lvE (us.foldl applyS l))] := by
  obtain ⟨hl, hfl⟩ := ok_small h
  have hlen := ch_len us
  have hll := lv_len l
  refine ct_intro tt_ok 1 rfl Tryz.func260 rfl rfl rfl ?_
  repeat ((try conv => whnf); first | (refine And.intro (by simp [lv_len]; omega) ?_) | (refine stpQ ?_))
  refine loop_of Nat (fun k => ⟨[(1, .sl 3 (chE us)), (5, .ref 1), (6, .int .i64 (k : Int))], [(1, some (.row 2 (lvE ((us.take k).foldl applyS l))))], 2⟩) (fun k => k ≤ us.length) (fun k => us.length - k) 0 (by omega) ?_ ?_
  · (refine le_auto (by rfl) ?_ ?_) <;> (repeat' (first | (exact eqA) | (refine And.intro ?_ ?_) | ((fail_if_success (with_reducible (show _ = _))); (show _ = _)))) <;> first | rfl | decide
  · intro k hk
    have hok : leavesOk ((us.take k).foldl applyS l) = true := foldS_ok h
    by_cases hlt : k < us.length
    · have hnx := ch_fold applyS l hlt
      have cA := c_sApplyChange ((us.take k).foldl applyS l) (chAt us k) hok (hf k)
      repeat ((try conv => whnf); first | (refine i_at (ch_get hlt) ?_) | (refine c_callG ([1]) ([]) (cA) (by ((repeat' (first | (exact trivial) | (exact rfl) | (decide) | (refine And.intro ?_ ?_))); first | done | fail)) (by ((repeat' (first | (exact trivial) | (exact rfl) | (decide) | (refine And.intro ?_ ?_))); first | done | fail)) (by decide) (by rfl) (by first | exact .inl rfl | (refine .inr ⟨?_, ?_⟩ <;> simp [own2, own1, own0, ownE])) ?_) | (refine stpQ ?_))
      refine ⟨k + 1, by omega, by omega, ?_⟩
      (refine le_auto (by rfl) ?_ ?_) <;> (repeat' (first | (exact eqA) | (refine And.intro ?_ ?_) | ((fail_if_success (with_reducible (show _ = _))); (show _ = _))))
      rw [hnx]
    · obtain rfl : k = us.length := by omega
      rw [List.take_length] at hok ⊢
      repeat ((try conv => whnf); first | (refine stpQ ?_))
      (refine ans_auto (by rfl) ?_ ?_ (by rfl)) <;> (repeat' (first | (exact eqA) | (refine And.intro ?_ ?_) | ((fail_if_success (with_reducible (show _ = _))); (show _ = _))))
end Go.Proofs.YtmmnkndmlkhmhaaGreatDoor
