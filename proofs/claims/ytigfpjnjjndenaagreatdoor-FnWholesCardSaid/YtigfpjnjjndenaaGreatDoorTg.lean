/- Functions by content: proofs of both sides, whatever they hold. -/
import Derived.Test.YtigfpjnjjndenaaGreatDoorTd
import Derived.Test.YtigfpjnjjndenaaGreatDoorTf
namespace Go.Proofs.YtigfpjnjjndenaaGreatDoor
open Go.RowKit Pl
set_option linter.unusedVariables false
set_option linter.unusedSimpArgs false
attribute [local irreducible] CondB CallP LoopW AnsP LeP

/-- Small proofs. -/
structure PfSz (nm : Bs) (l : List Lf) (s : List Bs) : Prop where
  nm : nm.length ≤ 20
  len : l.length ≤ 30
  lv : ∀ x ∈ l, x.1.length ≤ 20 ∧ x.2.length ≤ 20
  sl : s.length ≤ 30
  sw : ∀ x ∈ s, x.length ≤ 40
theorem PfSz.at {nm : Bs} {l : List Lf} {s : List Bs} (h : PfSz nm l s) (k : Nat) : (lfAt l k).1.length ≤ 20 ∧ (lfAt l k).2.length ≤ 20 := by
  unfold lfAt
  rcases Nat.lt_or_ge k l.length with hk | hk
  · simp only [List.getD, List.getElem?_eq_getElem hk, Option.getD_some]
    exact h.lv _ (List.getElem_mem hk)
  · simp [List.getD, List.getElem?_eq_none hk]
theorem PfSz.fit {nm : Bs} {l : List Lf} {s : List Bs} (h : PfSz nm l s) : Fit l := fun i => by have := h.at i; omega
/-! ### the reference's -/
set_option maxRecDepth 100000 in
set_option maxHeartbeats 1000000 in
theorem c_sBitOf (ix j : Nat) (hix : ix < 256) (hj : j < 8) : CT Tryz.prog 86 [] [.int .i64 (ix : Int), .int .i64 (7 - (j : Int))] (.int .i64 ((bitB ix j : Nat) : Int)) [] := by
  have c1 : CT Tryz.prog 110 [] [.int .i64 (7 - (j : Int)), .int .i64 0, .int .i64 7] (.bool true) [] := by
    have := c_l01In (7 - (j : Int)) 0 7
    rwa [inB_iff.2 (by omega)] at this
  have e1 : IntKind.i64.wrap (7 - (7 - (j : Int))) = ((j : Nat) : Int) := by rw [wrap_i64 (by omega) (by omega)]; omega
  have e1u := u64_small (show j ≤ 8 by omega)
  have e2 := shr_nat ix j
  have e3 := bit_and (ix / 2 ^ j) (sib_lt hix hj).2.2
  unfold bitB
  refine ct_intro tt_ok 1 rfl Tryz.func86 rfl rfl rfl ?_
  repeat ((try conv => whnf); first | (refine c_call ([]) (c1) (by ((repeat' (first | (exact trivial) | (exact rfl) | (refine And.intro ?_ ?_))); first | done | fail)) (by ((repeat' (first | (exact trivial) | (exact rfl) | (refine And.intro ?_ ?_))); first | done | fail)) (by decide) (by rfl) (by first | exact .inl rfl | (refine .inr ⟨?_, ?_⟩ <;> simp [own2, own1, own0, ownE])) ?_) | (refine Exists.intro _ (And.intro e1.symm ?_)) | (refine Exists.intro _ (And.intro e1u.symm ?_)) | (refine And.intro (show _ ≤ (64 : Int) from by omega) ?_) | (refine Exists.intro _ (And.intro e2.symm ?_)) | (refine Exists.intro _ (And.intro e3.symm ?_)) | (refine And.intro rfl ?_) | (refine w_addn (by omega) ?_) | (refine w_subn (by omega) ?_) | (refine w_add (by omega) ?_) | (refine w_sub (by omega) ?_) | (refine w_any (by omega) ?_) | (refine Exists.intro _ (And.intro rfl ?_)) | (with_reducible (refine cb_t rfl ?_)) | (with_reducible (refine cb_f rfl ?_)) | (refine cb_dt (by omega) ?_) | (refine cb_df (by omega) ?_) | (refine cb_nt (by omega) ?_) | (refine cb_nf (by omega) ?_) | (refine cb_t (by assumption) ?_) | (refine cb_f (by assumption) ?_) | (refine i_lt (by omega) ?_) | (refine i_le (by omega) ?_) | (refine i_cut (by omega) ?_) | (refine And.intro (by omega) ?_) | (refine And.intro trivial ?_) | (refine And.intro (by decide) ?_) | (refine And.intro (Nat.le_of_ble_eq_true rfl) ?_))
  (refine ans_auto (by rfl) ?_ ?_ (by rfl)) <;> (repeat' (first | (exact trivial) | (with_reducible rfl) | (exact (rfl : _ = true)) | (exact (rfl : _ = some _)) | (exact (rfl : _ = none)) | (refine And.intro ?_ ?_) | ((show (_ : Int) = _); omega) | ((fail_if_success (with_reducible (show _ = _))); (show _ = _))))
end Go.Proofs.YtigfpjnjjndenaaGreatDoor
