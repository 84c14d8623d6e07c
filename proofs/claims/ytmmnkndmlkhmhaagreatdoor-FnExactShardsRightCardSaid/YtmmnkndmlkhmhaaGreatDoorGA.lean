/- Functions by content: what the reference reads: numbers, strings, entries. -/
import Derived.Test.YtmmnkndmlkhmhaaGreatDoorFFJ
import Derived.Test.YtmmnkndmlkhmhaaGreatDoorWa
import Derived.Test.YtmmnkndmlkhmhaaGreatDoorPlainA
namespace Go.Proofs.YtmmnkndmlkhmhaaGreatDoor
open Go.RowKit Pl
set_option linter.unusedVariables false
set_option linter.unusedSimpArgs false
attribute [local irreducible] CondB CallP LoopW AnsP LeP

theorem c_sVar (n : Nat) (hn : (n : Int) ≤ 2000000000) : CT Tryz.prog 303 [] [.int .i64 (n : Int)] (.str (varText n)) [] :=
  old_ct ⟨_, Tryz.func303, rfl, rfl⟩ rfl (fun X => mk_str X _) fun w => sVar_any n w hn
theorem c_sReadVar (t : Bs) (p : Nat) (ht : (t.length : Int) ≤ 1000000000) (hp : p ≤ t.length) : CT Tryz.prog 359 [] [.str t, .int .i64 (p : Int)] (rvT (readVar t p)) [] :=
  old_ct ⟨_, Tryz.func359, rfl, rfl⟩ rfl (rv_rs _) fun w => by
    have h := sReadVar_in (bs t) p w (by rw [bs_size]; exact ht) (by rw [bs_size]; exact hp)
    rwa [bs_data] at h
theorem c_sReadShort (t : Bs) (p : Nat) (ht : (t.length : Int) ≤ 1000000000) (hp : p ≤ t.length) : CT Tryz.prog 407 [] [.str t, .int .i64 (p : Int)] (rsT (readShort t p)) [] :=
  old_ct ⟨_, Tryz.func407, rfl, rfl⟩ rfl (rs_rs _) fun w => by
    have h := sReadShort_in (bs t) p w (by rw [bs_size]; exact ht) (by rw [bs_size]; exact hp)
    rwa [bs_data] at h
set_option maxRecDepth 100000 in
set_option maxHeartbeats 1000000 in
theorem c_sNum (t : Bs) (p : Nat) (b : Bool) (ht : (t.length : Int) ≤ 1000000000) (hp : p ≤ t.length) : CT Tryz.prog 282 [fldB t p b] [.ptr 1 0 0] (.int .i64 ((numS t p b).1 : Int)) [fldB t (numS t p b).2.1 (numS t p b).2.2] := by
  have c := c_sReadVar t p ht hp
  refine ct_intro tt_ok 2 rfl Tryz.func282 rfl rfl rfl ?_
  unfold numS numOf
  cases b <;> rcases hv : readVar t p with _ | ⟨n, q⟩
  all_goals
    rw [hv] at c
    repeat ((try conv => whnf); first | (refine ccA ([]) (c) ?_) | (refine stpQ ?_))
    (refine ans_auto (by rfl) ?_ ?_ (by rfl)) <;> (repeat' (first | (exact eqA) | (refine And.intro ?_ ?_) | ((fail_if_success (with_reducible (show _ = _))); (show _ = _)))) <;> rfl
set_option maxRecDepth 100000 in
set_option maxHeartbeats 1000000 in
theorem c_sShort (t : Bs) (p : Nat) (b : Bool) (ht : (t.length : Int) ≤ 1000000000) (hp : p ≤ t.length) : CT Tryz.prog 361 [fldB t p b] [.ptr 1 0 0] (.str (shortS t p b).1) [fldB t (shortS t p b).2.1 (shortS t p b).2.2] := by
  have c := c_sReadShort t p ht hp
  refine ct_intro tt_ok 2 rfl Tryz.func361 rfl rfl rfl ?_
  unfold shortS shortOf
  cases b <;> rcases hv : readShort t p with _ | ⟨n, q⟩
  all_goals
    rw [hv] at c
    repeat ((try conv => whnf); first | (refine ccA ([]) (c) ?_) | (refine stpQ ?_))
    (refine ans_auto (by rfl) ?_ ?_ (by rfl)) <;> (repeat' (first | (exact eqA) | (refine And.intro ?_ ?_) | ((fail_if_success (with_reducible (show _ = _))); (show _ = _)))) <;> rfl
theorem takeOf_bad (t : Bs) (p : Nat) (w : Int) : takeOf t p true w = ([], p, true) := by unfold takeOf; split <;> simp [bytesOf]
theorem cut_take (t : Bs) (p w : Nat) : (t.take (p + w)).drop (p + w - w) = (t.drop p).take w := by rw [Nat.add_sub_cancel, List.drop_take, Nat.add_sub_cancel_left]
set_option maxRecDepth 100000 in
set_option maxHeartbeats 1000000 in
theorem c_bytes (t : Bs) (p : Nat) (b : Bool) (n : Nat) (ht : (t.length : Int) ≤ 1000000000) (hp : p ≤ t.length) : CT Tryz.prog 83 [fldB t p b] [.ptr 1 0 0, .int .i64 (n : Int)] (.str (bytesOf t p b n).1) [fldB t (bytesOf t p b n).2.1 (bytesOf t p b n).2.2] := by
  refine ct_intro tt_ok 2 rfl Tryz.func83 rfl rfl rfl ?_
  cases b
  · by_cases hl : t.length - p < n
    · have e : bytesOf t p false n = ([], p, true) := by rw [bytesOf, if_pos (.inr hl)]
      rw [e]
      repeat ((try conv => whnf); first | (refine stpQ ?_))
      (refine ans_auto (by rfl) ?_ ?_ (by rfl)) <;> (repeat' (first | (exact eqA) | (refine And.intro ?_ ?_) | ((fail_if_success (with_reducible (show _ = _))); (show _ = _)))) <;> rfl
    · have e : bytesOf t p false n = ((t.drop p).take n, p + n, false) := by rw [bytesOf, if_neg (by simp; omega)]
      rw [e]
      repeat ((try conv => whnf); first | (refine stpQ ?_))
      (refine ans_auto (by rfl) ?_ ?_ (by rfl)) <;> (repeat' (first | (exact eqA) | (refine And.intro ?_ ?_) | ((fail_if_success (with_reducible (show _ = _))); (show _ = _))))
      exact cut_take t p n
  · rw [bytesOf_bad]
    repeat ((try conv => whnf); first | (refine stpQ ?_))
    (refine ans_auto (by rfl) ?_ ?_ (by rfl)) <;> (repeat' (first | (exact eqA) | (refine And.intro ?_ ?_) | ((fail_if_success (with_reducible (show _ = _))); (show _ = _)))) <;> rfl
theorem bytesOf_le {t : Bs} {p n : Nat} {b : Bool} (hp : p ≤ t.length) : (bytesOf t p b n).2.1 ≤ t.length := by
  unfold bytesOf
  split
  · exact hp
  · rename_i h; simp at h ⊢; omega
theorem takeOf_le {t : Bs} {p : Nat} {w : Int} {b : Bool} (hp : p ≤ t.length) : (takeOf t p b w).2.1 ≤ t.length := by
  unfold takeOf
  split
  · exact hp
  · exact bytesOf_le hp
end Go.Proofs.YtmmnkndmlkhmhaaGreatDoor
