/- Functions by content: fields of a message. -/
import Derived.Test.YtkdajahiaedoiaaFF
namespace Go.Proofs.Ytkdajahiaedoiaa
open Go.RowKit Pl
set_option linter.unusedVariables false
set_option linter.unusedSimpArgs false
attribute [local irreducible] CondB CallP LoopW AnsP LeP

def fldB (t : Bs) (p : Nat) (b : Bool) : Ent := .box [.str t, .int .i64 (p : Int), .bool b]
set_option maxRecDepth 100000 in
set_option maxHeartbeats 1000000 in
theorem c_num (t : Bs) (p : Nat) (b : Bool) (ht : (t.length : Int) ≤ 1000000000) (hp : p ≤ t.length) : CT Try.prog 54 [fldB t p b] [.ptr 1 0 0] (.int .i64 ((numOf t p b).1 : Int)) [fldB t (numOf t p b).2.1 (numOf t p b).2.2] := by
  have c := c_ReadVar t p ht hp
  refine ct_intro tt_ok 2 rfl Try.func54 rfl rfl rfl ?_
  unfold numOf
  rcases hv : readVar t p with _ | ⟨n, q⟩
  all_goals
    rw [hv] at c
    repeat ((try conv => whnf); first | (refine c_call ([]) (c) (by ((repeat' (first | (exact trivial) | (exact rfl) | (refine And.intro ?_ ?_))); first | done | fail)) (by ((repeat' (first | (exact trivial) | (exact rfl) | (refine And.intro ?_ ?_))); first | done | fail)) (by decide) (by rfl) (by first | exact .inl rfl | (refine .inr ⟨?_, ?_⟩ <;> simp [own2, own1, own0, ownE])) ?_) | (refine And.intro rfl ?_) | (refine w_addn (by omega) ?_) | (refine w_subn (by omega) ?_) | (refine w_add (by omega) ?_) | (refine w_sub (by omega) ?_) | (refine w_any (by omega) ?_) | (refine Exists.intro _ (And.intro rfl ?_)) | (with_reducible (refine cb_t rfl ?_)) | (with_reducible (refine cb_f rfl ?_)) | (refine cb_dt (by omega) ?_) | (refine cb_df (by omega) ?_) | (refine cb_nt (by omega) ?_) | (refine cb_nf (by omega) ?_) | (refine cb_t (by assumption) ?_) | (refine cb_f (by assumption) ?_) | (refine i_lt (by omega) ?_) | (refine i_le (by omega) ?_) | (refine i_cut (by omega) ?_) | (refine And.intro (by omega) ?_) | (refine And.intro trivial ?_) | (refine And.intro (by decide) ?_) | (refine And.intro (Nat.le_of_ble_eq_true rfl) ?_))
    (refine ans_auto (by rfl) ?_ ?_ (by rfl)) <;> (repeat' (first | (exact trivial) | (with_reducible rfl) | (exact (rfl : _ = true)) | (exact (rfl : _ = some _)) | (exact (rfl : _ = none)) | (refine And.intro ?_ ?_) | ((show (_ : Int) = _); omega) | ((fail_if_success (with_reducible (show _ = _))); (show _ = _)))) <;> rfl
set_option maxRecDepth 100000 in
set_option maxHeartbeats 1000000 in
theorem c_short (t : Bs) (p : Nat) (b : Bool) (ht : (t.length : Int) ≤ 1000000000) (hp : p ≤ t.length) : CT Try.prog 55 [fldB t p b] [.ptr 1 0 0] (.str (shortOf t p b).1) [fldB t (shortOf t p b).2.1 (shortOf t p b).2.2] := by
  have c := c_ReadShort t p ht hp
  refine ct_intro tt_ok 2 rfl Try.func55 rfl rfl rfl ?_
  unfold shortOf
  rcases hv : readShort t p with _ | ⟨n, q⟩
  all_goals
    rw [hv] at c
    repeat ((try conv => whnf); first | (refine c_call ([]) (c) (by ((repeat' (first | (exact trivial) | (exact rfl) | (refine And.intro ?_ ?_))); first | done | fail)) (by ((repeat' (first | (exact trivial) | (exact rfl) | (refine And.intro ?_ ?_))); first | done | fail)) (by decide) (by rfl) (by first | exact .inl rfl | (refine .inr ⟨?_, ?_⟩ <;> simp [own2, own1, own0, ownE])) ?_) | (refine And.intro rfl ?_) | (refine w_addn (by omega) ?_) | (refine w_subn (by omega) ?_) | (refine w_add (by omega) ?_) | (refine w_sub (by omega) ?_) | (refine w_any (by omega) ?_) | (refine Exists.intro _ (And.intro rfl ?_)) | (with_reducible (refine cb_t rfl ?_)) | (with_reducible (refine cb_f rfl ?_)) | (refine cb_dt (by omega) ?_) | (refine cb_df (by omega) ?_) | (refine cb_nt (by omega) ?_) | (refine cb_nf (by omega) ?_) | (refine cb_t (by assumption) ?_) | (refine cb_f (by assumption) ?_) | (refine i_lt (by omega) ?_) | (refine i_le (by omega) ?_) | (refine i_cut (by omega) ?_) | (refine And.intro (by omega) ?_) | (refine And.intro trivial ?_) | (refine And.intro (by decide) ?_) | (refine And.intro (Nat.le_of_ble_eq_true rfl) ?_))
    (refine ans_auto (by rfl) ?_ ?_ (by rfl)) <;> (repeat' (first | (exact trivial) | (with_reducible rfl) | (exact (rfl : _ = true)) | (exact (rfl : _ = some _)) | (exact (rfl : _ = none)) | (refine And.intro ?_ ?_) | ((show (_ : Int) = _); omega) | ((fail_if_success (with_reducible (show _ = _))); (show _ = _)))) <;> rfl
set_option maxRecDepth 100000 in
set_option maxHeartbeats 1000000 in
theorem c_done (t : Bs) (p : Nat) (b : Bool) : CT Try.prog 56 [fldB t p b] [.ptr 1 0 0] (.bool (doneB b p t.length)) [fldB t p b] := by
  refine ct_intro tt_ok 2 rfl Try.func56 rfl rfl rfl ?_
  cases b
  · repeat ((try conv => whnf); first | (refine And.intro rfl ?_) | (refine w_addn (by omega) ?_) | (refine w_subn (by omega) ?_) | (refine w_add (by omega) ?_) | (refine w_sub (by omega) ?_) | (refine w_any (by omega) ?_) | (refine Exists.intro _ (And.intro rfl ?_)) | (with_reducible (refine cb_t rfl ?_)) | (with_reducible (refine cb_f rfl ?_)) | (refine cb_dt (by omega) ?_) | (refine cb_df (by omega) ?_) | (refine cb_nt (by omega) ?_) | (refine cb_nf (by omega) ?_) | (refine cb_t (by assumption) ?_) | (refine cb_f (by assumption) ?_) | (refine i_lt (by omega) ?_) | (refine i_le (by omega) ?_) | (refine i_cut (by omega) ?_) | (refine And.intro (by omega) ?_) | (refine And.intro trivial ?_) | (refine And.intro (by decide) ?_) | (refine And.intro (Nat.le_of_ble_eq_true rfl) ?_))
    (refine ans_auto (by rfl) ?_ ?_ (by rfl)) <;> (repeat' (first | (exact trivial) | (with_reducible rfl) | (exact (rfl : _ = true)) | (exact (rfl : _ = some _)) | (exact (rfl : _ = none)) | (refine And.intro ?_ ?_) | ((show (_ : Int) = _); omega) | ((fail_if_success (with_reducible (show _ = _))); (show _ = _))))
    show decide ((p : Int) = (t.length : Int)) = (p == t.length)
    by_cases hd : p = t.length
    · rw [hd]; simp
    · have h2 : ¬ ((p : Int) = (t.length : Int)) := by omega
      rw [decide_eq_false h2]; exact (beq_false_of_ne hd).symm
  · repeat ((try conv => whnf); first | (refine And.intro rfl ?_) | (refine w_addn (by omega) ?_) | (refine w_subn (by omega) ?_) | (refine w_add (by omega) ?_) | (refine w_sub (by omega) ?_) | (refine w_any (by omega) ?_) | (refine Exists.intro _ (And.intro rfl ?_)) | (with_reducible (refine cb_t rfl ?_)) | (with_reducible (refine cb_f rfl ?_)) | (refine cb_dt (by omega) ?_) | (refine cb_df (by omega) ?_) | (refine cb_nt (by omega) ?_) | (refine cb_nf (by omega) ?_) | (refine cb_t (by assumption) ?_) | (refine cb_f (by assumption) ?_) | (refine i_lt (by omega) ?_) | (refine i_le (by omega) ?_) | (refine i_cut (by omega) ?_) | (refine And.intro (by omega) ?_) | (refine And.intro trivial ?_) | (refine And.intro (by decide) ?_) | (refine And.intro (Nat.le_of_ble_eq_true rfl) ?_))
    (refine ans_auto (by rfl) ?_ ?_ (by rfl)) <;> (repeat' (first | (exact trivial) | (with_reducible rfl) | (exact (rfl : _ = true)) | (exact (rfl : _ = some _)) | (exact (rfl : _ = none)) | (refine And.intro ?_ ?_) | ((show (_ : Int) = _); omega) | ((fail_if_success (with_reducible (show _ = _))); (show _ = _))))
    rfl
end Go.Proofs.Ytkdajahiaedoiaa
