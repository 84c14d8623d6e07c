/- Functions by content: the index of a name, and the entries of an index. -/
import Derived.Test.YtmmnkndmlkhmhaaGreatDoorShj
import Derived.Test.YtmmnkndmlkhmhaaGreatDoorFC
import Derived.Test.YtmmnkndmlkhmhaaGreatDoorFK
namespace Go.Proofs.YtmmnkndmlkhmhaaGreatDoor
open Go.RowKit Pl
set_option linter.unusedVariables false
set_option linter.unusedSimpArgs false
attribute [local irreducible] CondB CallP LoopW AnsP LeP

theorem i64_u8 (b : UInt8) : IntKind.i64.wrap ((b.toNat : Nat) : Int) = ((b.toNat : Nat) : Int) := by have := b.toNat_lt; rw [wrap_i64 (by omega) (by omega)]
set_option maxRecDepth 100000 in
set_option maxHeartbeats 1000000 in
theorem c_IndexOf (t : Bs) (ht : (t.length : Int) ≤ 100000000) : CT Tryz.prog 74 [] [.str t] (.int .i64 (ixB t : Int)) [] := by
  have c1 := c_iDigest t ht
  have hl := digestB_len t
  unfold ixB
  generalize digestB t = d at c1 hl ⊢
  have h1 := i64_u8 (d.getD 0 0)
  have h0 : 0 < d.length := by omega
  refine ct_intro tt_ok 1 rfl Tryz.func74 rfl rfl rfl ?_
  repeat ((try conv => whnf); first | (refine ccA ([]) (c1) ?_) | (refine Exists.intro 0 (And.intro rfl (And.intro h0 ?_))) | (refine Exists.intro _ (And.intro h1.symm ?_)) | (refine stpQ ?_))
  (refine ans_auto (by rfl) ?_ ?_ (by rfl)) <;> (repeat' (first | (exact eqA) | (refine And.intro ?_ ?_) | ((fail_if_success (with_reducible (show _ = _))); (show _ = _))))
set_option maxRecDepth 100000 in
set_option maxHeartbeats 1000000 in
theorem c_sIndexOf (t : Bs) (ht : (t.length : Int) ≤ 100000000) : CT Tryz.prog 34 [] [.str t] (.int .i64 (ixB t : Int)) [] := by
  have c1 := c_Digest t ht
  have hl := digestB_len t
  unfold ixB
  generalize digestB t = d at c1 hl ⊢
  have h1 := i64_u8 (d.getD 0 0)
  have h0 : 0 < d.length := by omega
  refine ct_intro tt_ok 1 rfl Tryz.func34 rfl rfl rfl ?_
  repeat ((try conv => whnf); first | (refine ccA ([]) (c1) ?_) | (refine Exists.intro 0 (And.intro rfl (And.intro h0 ?_))) | (refine Exists.intro _ (And.intro h1.symm ?_)) | (refine stpQ ?_))
  (refine ans_auto (by rfl) ?_ ?_ (by rfl)) <;> (repeat' (first | (exact eqA) | (refine And.intro ?_ ?_) | ((fail_if_success (with_reducible (show _ = _))); (show _ = _))))
def bucketL (l : List Lf) (ix : Int) : List Lf := l.filter fun x => decide ((ixB x.1 : Int) = ix)
theorem bucketL_next {l : List Lf} {k : Nat} {ix : Int} (h : k < l.length) : bucketL (l.take (k + 1)) ix = bucketL (l.take k) ix ++ (if ((ixB (lfAt l k).1 : Nat) : Int) = ix then [lfAt l k] else []) := by
  unfold bucketL
  rw [filter_next h]
  by_cases he : ((ixB (lfAt l k).1 : Nat) : Int) = ix <;> simp [he]
set_option maxRecDepth 100000 in
set_option maxHeartbeats 1000000 in
theorem c_BucketOf (l : List Lf) (ix : Int) (hl : (l.length : Int) ≤ 100000000) (hf : ∀ k, ((lfAt l k).1.length : Int) ≤ 100000000) : CT Tryz.prog 69 [] [.sl 2 (lvE l), .int .i64 ix] (.ref 1) [.row 2 (lvE (bucketL l ix))] := by
  have hlen := lv_len l
  refine ct_intro tt_ok 1 rfl Tryz.func69 rfl rfl rfl ?_
  repeat ((try conv => whnf); first | (refine stpQ ?_))
  refine loop_cut 0 ⟨[(5, .ref 1)], [(1, some (.row 2 (lvE (bucketL l ix))))], 2⟩ Nat (fun k => ⟨[(1, .int .i64 ix), (5, .ref 1), (8, .sl 2 (lvE l)), (9, .int .i64 ((lvE l).length : Int)), (10, .int .i64 (k : Int))], [(1, some (.row 2 (lvE (bucketL (l.take k) ix))))], 2⟩) (fun k => k ≤ l.length) (fun k => l.length - k) 0 (by omega) ?_ ?_ ?_
  · (refine le_auto (by rfl) ?_ ?_) <;> (repeat' (first | (exact eqA) | (refine And.intro ?_ ?_) | ((fail_if_success (with_reducible (show _ = _))); (show _ = _)))) <;> first | rfl | decide
  · intro k hk
    by_cases hk2 : k < l.length
    · have c1 := c_IndexOf (lfAt l k).1 (hf k)
      have hnx := bucketL_next (ix := ix) hk2
      have hw : (bucketL (l.take k) ix).length ≤ k := Nat.le_trans (List.length_filter_le _ _) (by simp; omega)
      generalize bucketL (l.take k) ix = o at hnx hw ⊢
      have hol := lv_len o
      repeat' (first | ((try conv => whnf); first | (refine i_at (lv_get hk2) ?_) | (refine ccA ([]) (c1) ?_) | (refine And.intro (by simp [lv_len]; omega) ?_) | (refine stpQ ?_)) | ((try conv => whnf); first | (refine cb_d (fun h => ?_) (fun h => ?_)) | (refine cb_n (fun h => ?_) (fun h => ?_)) | (refine cb (fun h => ?_) (fun h => ?_))))
      all_goals first
        | (exfalso; omega)
        | (refine ⟨k + 1, by omega, by omega, ?_⟩
           rw [hnx]
           (refine le_auto (by rfl) ?_ ?_) <;> (repeat' (first | (exact eqA) | (refine And.intro ?_ ?_) | ((fail_if_success (with_reducible (show _ = _))); (show _ = _))))
           all_goals first
             | (simp_all [lvE]; done)
             | rfl)
    · obtain rfl : k = l.length := by omega
      rw [List.take_length]
      repeat ((try conv => whnf); first | (refine stpQ ?_))
      (refine le_auto (by rfl) ?_ ?_) <;> (repeat' (first | (exact eqA) | (refine And.intro ?_ ?_) | ((fail_if_success (with_reducible (show _ = _))); (show _ = _))))
  · repeat ((try conv => whnf); first | (refine stpQ ?_))
    (refine ans_auto (by rfl) ?_ ?_ (by rfl)) <;> (repeat' (first | (exact eqA) | (refine And.intro ?_ ?_) | ((fail_if_success (with_reducible (show _ = _))); (show _ = _))))
/-- How many entries have an index below i. -/
def cntTo (l : List Lf) (i : Nat) : Nat := (l.filter fun x => decide (ixB x.1 < i)).length
theorem cntTo_zero (l : List Lf) : cntTo l 0 = 0 := by simp [cntTo]
theorem cntTo_le (l : List Lf) (i : Nat) : cntTo l i ≤ l.length := List.length_filter_le _ _
theorem cntTo_all (l : List Lf) : cntTo l 256 = l.length := by
  unfold cntTo
  rw [List.filter_eq_self.2 fun x _ => by simpa using ixB_lt x.1]
theorem cntTo_next (i : Nat) : ∀ l : List Lf, cntTo l (i + 1) = cntTo l i + (bucketL l (i : Int)).length
  | [] => rfl
  | x :: l => by
    have ih := cntTo_next i l
    simp only [cntTo, bucketL, List.filter_cons] at ih ⊢
    by_cases h1 : ixB x.1 < i
    · have h2 : ixB x.1 < i + 1 := by omega
      have h3 : ¬ ((ixB x.1 : Int) = (i : Int)) := by omega
      simp only [h1, h2, h3, decide_true, decide_false, if_true, Bool.false_eq_true, if_false, List.length_cons]
      omega
    · by_cases h4 : ixB x.1 = i
      · have h2 : ixB x.1 < i + 1 := by omega
        have h3 : ((ixB x.1 : Int) = (i : Int)) := by omega
        simp only [h1, h2, h3, decide_true, decide_false, if_true, Bool.false_eq_true, if_false, List.length_cons]
        omega
      · have h2 : ¬ (ixB x.1 < i + 1) := by omega
        have h3 : ¬ ((ixB x.1 : Int) = (i : Int)) := by omega
        simp only [h1, h2, h3, decide_false, Bool.false_eq_true, if_false]
        exact ih
end Go.Proofs.YtmmnkndmlkhmhaaGreatDoor
