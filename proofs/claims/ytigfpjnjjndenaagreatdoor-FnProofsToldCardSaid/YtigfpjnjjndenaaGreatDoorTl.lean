/- Functions by content: the reference's texts and hash of whatever proof. -/
import Derived.Test.YtigfpjnjjndenaaGreatDoorTk
namespace Go.Proofs.YtigfpjnjjndenaaGreatDoor
open Go.RowKit Pl
set_option linter.unusedVariables false
set_option linter.unusedSimpArgs false
attribute [local irreducible] CondB CallP LoopW AnsP LeP

set_option maxRecDepth 100000 in
set_option maxHeartbeats 2000000 in
theorem c_sTextsG (nm : Bs) (l : List Lf) (s : List Bs) (w : Int) (h : PfSz nm l s) :
    CT Tryz.prog 23 [] [.str nm, .agg [.sl 2 (lvE l), .sl 1 (strE s)], .int .i64 w] (.ref 1) [.row 1 (strE (textsG nm l s w))] := by
  unfold textsG
  by_cases hg : pfGood nm l s w = true
  · rw [if_pos hg]
    obtain ⟨n, rfl⟩ : ∃ n : Nat, w = n := ⟨w.toNat, by have := (pf_wide hg).2.2.2.1; omega⟩
    exact c_sProofTexts nm l s n h hg
  · rw [if_neg hg]
    have c1 := c_sProofOk nm l s w h
    rw [show pfGood nm l s w = false by simpa using hg] at c1
    refine ct_intro tt_ok 1 rfl Tryz.func23 rfl rfl rfl ?_
    repeat ((try conv => whnf); first | (refine c_call ([]) (c1) (by ((repeat' (first | (exact trivial) | (exact rfl) | (refine And.intro ?_ ?_))); first | done | fail)) (by ((repeat' (first | (exact trivial) | (exact rfl) | (refine And.intro ?_ ?_))); first | done | fail)) (by decide) (by rfl) (by first | exact .inl rfl | (refine .inr ⟨?_, ?_⟩ <;> simp [own2, own1, own0, ownE])) ?_) | (refine And.intro rfl ?_) | (refine w_addn (by omega) ?_) | (refine w_subn (by omega) ?_) | (refine w_add (by omega) ?_) | (refine w_sub (by omega) ?_) | (refine w_any (by omega) ?_) | (refine Exists.intro _ (And.intro rfl ?_)) | (with_reducible (refine cb_t rfl ?_)) | (with_reducible (refine cb_f rfl ?_)) | (refine cb_dt (by omega) ?_) | (refine cb_df (by omega) ?_) | (refine cb_nt (by omega) ?_) | (refine cb_nf (by omega) ?_) | (refine cb_t (by assumption) ?_) | (refine cb_f (by assumption) ?_) | (refine i_lt (by omega) ?_) | (refine i_le (by omega) ?_) | (refine i_cut (by omega) ?_) | (refine And.intro (by omega) ?_) | (refine And.intro trivial ?_) | (refine And.intro (by decide) ?_) | (refine And.intro (Nat.le_of_ble_eq_true rfl) ?_))
    (refine ans_auto (by rfl) ?_ ?_ (by rfl)) <;> (repeat' (first | (exact trivial) | (with_reducible rfl) | (exact (rfl : _ = true)) | (exact (rfl : _ = some _)) | (exact (rfl : _ = none)) | (refine And.intro ?_ ?_) | ((show (_ : Int) = _); omega) | ((fail_if_success (with_reducible (show _ = _))); (show _ = _)))) <;> first | rfl | decide
set_option maxRecDepth 100000 in
set_option maxHeartbeats 2000000 in
theorem c_sHashG (nm : Bs) (l : List Lf) (s : List Bs) (w : Int) (hz : PfSz nm l s) :
    CT Tryz.prog 20 [] [.str nm, .agg [.sl 2 (lvE l), .sl 1 (strE s)], .int .i64 w] (.str (hashG nm l s w)) [] := by
  have c1 := c_sTextsG nm l s w hz
  unfold hashG
  unfold textsG at c1
  by_cases hg : pfGood nm l s w = true
  · rw [if_pos hg] at c1 ⊢
    obtain ⟨n, rfl⟩ : ∃ n : Nat, w = n := ⟨w.toNat, by have := (pf_wide hg).2.2.2.1; omega⟩
    rw [Int.toNat_natCast] at c1 ⊢
    obtain ⟨h1, h2, h3, h4, h5, h6⟩ := pf_wide hg
    have hl := textsB_len nm l s n
    have hla := textsB_last nm l s n
    have e : leadB nm l s n = cutB (pAt (textsB nm l s n) s.length) n := by rw [hla]; exact (fold_last _ _ _ _ _ _ rfl).symm
    have hsm : (pAt (textsB nm l s n) s.length).length ≤ 12301 := by
      have hm : pAt (textsB nm l s n) s.length ∈ textsB nm l s n := by
        simp only [pAt, List.getD, List.getElem?_eq_getElem (show s.length < (textsB nm l s n).length by omega), Option.getD_some]
        exact List.getElem_mem _
      rcases List.mem_cons.1 hm with hm | hm
      · rw [hm]; exact bucketB_len h2
      · exact tag_small (l := []) (by rw [cutB_len (by omega)]; omega) (by omega) (fun x hx => by have := h5 x hx; omega) _ hm
    have c2 := c_sCutD (pAt (textsB nm l s n) s.length) n (by omega) (by omega)
    rw [e]
    have hlt : s.length < (textsB nm l s n).length := by omega
    generalize textsB nm l s n = t at c1 c2 hl hlt ⊢
    have htl := strE_len t
    refine ct_intro tt_ok 1 rfl Tryz.func20 rfl rfl rfl ?_
    repeat ((try conv => whnf); first | (refine c_call ([]) (c1) (by ((repeat' (first | (exact trivial) | (exact rfl) | (refine And.intro ?_ ?_))); first | done | fail)) (by ((repeat' (first | (exact trivial) | (exact rfl) | (refine And.intro ?_ ?_))); first | done | fail)) (by decide) (by rfl) (by first | exact .inl rfl | (refine .inr ⟨by simp [own2, own1, own0], fun e he => ?_⟩; simp only [List.mem_cons, List.not_mem_nil, or_false] at he <;> first | exact he.elim | (subst he; (first | exact own_lvE _ | exact own_strE _)) | (rcases he with rfl | rfl <;> (first | exact own_lvE _ | exact own_strE _)))) ?_) | (refine Exists.intro (s.length + 1) (And.intro (by rw [htl, hl]) ?_)) | (refine i_lt (i := s.length) (by omega) ?_) | (refine Exists.intro _ (And.intro (strE_get hlt) ?_)) | (refine c_call ([]) (c2) (by ((repeat' (first | (exact trivial) | (exact rfl) | (refine And.intro ?_ ?_))); first | done | fail)) (by ((repeat' (first | (exact trivial) | (exact rfl) | (refine And.intro ?_ ?_))); first | done | fail)) (by decide) (by rfl) (by first | exact .inl rfl | (refine .inr ⟨?_, ?_⟩ <;> simp [own2, own1, own0, ownE])) ?_) | (refine And.intro rfl ?_) | (refine w_addn (by omega) ?_) | (refine w_subn (by omega) ?_) | (refine w_add (by omega) ?_) | (refine w_sub (by omega) ?_) | (refine w_any (by omega) ?_) | (refine Exists.intro _ (And.intro rfl ?_)) | (with_reducible (refine cb_t rfl ?_)) | (with_reducible (refine cb_f rfl ?_)) | (refine cb_dt (by omega) ?_) | (refine cb_df (by omega) ?_) | (refine cb_nt (by omega) ?_) | (refine cb_nf (by omega) ?_) | (refine cb_t (by assumption) ?_) | (refine cb_f (by assumption) ?_) | (refine i_lt (by omega) ?_) | (refine i_le (by omega) ?_) | (refine i_cut (by omega) ?_) | (refine And.intro (by omega) ?_) | (refine And.intro trivial ?_) | (refine And.intro (by decide) ?_) | (refine And.intro (Nat.le_of_ble_eq_true rfl) ?_))
    (refine ans_auto (by rfl) ?_ ?_ (by rfl)) <;> (repeat' (first | (exact trivial) | (with_reducible rfl) | (exact (rfl : _ = true)) | (exact (rfl : _ = some _)) | (exact (rfl : _ = none)) | (refine And.intro ?_ ?_) | ((show (_ : Int) = _); omega) | ((fail_if_success (with_reducible (show _ = _))); (show _ = _))))
  · rw [if_neg hg] at c1 ⊢
    refine ct_intro tt_ok 1 rfl Tryz.func20 rfl rfl rfl ?_
    repeat ((try conv => whnf); first | (refine c_call ([]) (c1) (by ((repeat' (first | (exact trivial) | (exact rfl) | (refine And.intro ?_ ?_))); first | done | fail)) (by ((repeat' (first | (exact trivial) | (exact rfl) | (refine And.intro ?_ ?_))); first | done | fail)) (by decide) (by rfl) (by first | exact .inl rfl | (refine .inr ⟨by simp [own2, own1, own0], fun e he => ?_⟩; simp only [List.mem_cons, List.not_mem_nil, or_false] at he <;> first | exact he.elim | (subst he; (first | exact own_lvE _ | exact own_strE _)) | (rcases he with rfl | rfl <;> (first | exact own_lvE _ | exact own_strE _)))) ?_) | (refine Exists.intro 0 (And.intro rfl ?_)) | (refine And.intro rfl ?_) | (refine w_addn (by omega) ?_) | (refine w_subn (by omega) ?_) | (refine w_add (by omega) ?_) | (refine w_sub (by omega) ?_) | (refine w_any (by omega) ?_) | (refine Exists.intro _ (And.intro rfl ?_)) | (with_reducible (refine cb_t rfl ?_)) | (with_reducible (refine cb_f rfl ?_)) | (refine cb_dt (by omega) ?_) | (refine cb_df (by omega) ?_) | (refine cb_nt (by omega) ?_) | (refine cb_nf (by omega) ?_) | (refine cb_t (by assumption) ?_) | (refine cb_f (by assumption) ?_) | (refine i_lt (by omega) ?_) | (refine i_le (by omega) ?_) | (refine i_cut (by omega) ?_) | (refine And.intro (by omega) ?_) | (refine And.intro trivial ?_) | (refine And.intro (by decide) ?_) | (refine And.intro (Nat.le_of_ble_eq_true rfl) ?_))
    (refine ans_auto (by rfl) ?_ ?_ (by rfl)) <;> (repeat' (first | (exact trivial) | (with_reducible rfl) | (exact (rfl : _ = true)) | (exact (rfl : _ = some _)) | (exact (rfl : _ = none)) | (refine And.intro ?_ ?_) | ((show (_ : Int) = _); omega) | ((fail_if_success (with_reducible (show _ = _))); (show _ = _)))) <;> rfl
set_option maxRecDepth 100000 in
set_option maxHeartbeats 1000000 in
theorem c_sProofSays (l : List Lf) (s : List Bs) (nm : Bs) (hl : (l.length : Int) ≤ 1000000000) : CT Tryz.prog 72 [] [.str nm, .agg [.sl 2 (lvE l), .sl 1 (strE s)]] (.tup [.str ((leafGet l nm).getD []), .bool (leafGet l nm).isSome]) [] := by
  have c1 := c_sLeafGet l nm hl
  generalize (leafGet l nm).getD [] = a at c1 ⊢
  generalize (leafGet l nm).isSome = b at c1 ⊢
  refine ct_intro tt_ok 1 rfl Tryz.func72 rfl rfl rfl ?_
  repeat ((try conv => whnf); first | (refine c_call ([]) (c1) (by ((repeat' (first | (exact trivial) | (exact rfl) | (refine And.intro ?_ ?_))); first | done | fail)) (by ((repeat' (first | (exact trivial) | (exact rfl) | (refine And.intro ?_ ?_))); first | done | fail)) (by decide) (by rfl) (by first | exact .inl rfl | (refine .inr ⟨?_, ?_⟩ <;> simp [own2, own1, own0, ownE])) ?_) | (refine And.intro (by kernel_rfl) ?_) | (refine And.intro rfl ?_) | (refine w_addn (by omega) ?_) | (refine w_subn (by omega) ?_) | (refine w_add (by omega) ?_) | (refine w_sub (by omega) ?_) | (refine w_any (by omega) ?_) | (refine Exists.intro _ (And.intro rfl ?_)) | (with_reducible (refine cb_t rfl ?_)) | (with_reducible (refine cb_f rfl ?_)) | (refine cb_dt (by omega) ?_) | (refine cb_df (by omega) ?_) | (refine cb_nt (by omega) ?_) | (refine cb_nf (by omega) ?_) | (refine cb_t (by assumption) ?_) | (refine cb_f (by assumption) ?_) | (refine i_lt (by omega) ?_) | (refine i_le (by omega) ?_) | (refine i_cut (by omega) ?_) | (refine And.intro (by omega) ?_) | (refine And.intro trivial ?_) | (refine And.intro (by decide) ?_) | (refine And.intro (Nat.le_of_ble_eq_true rfl) ?_))
  (refine ans_auto (by rfl) ?_ ?_ (by rfl)) <;> (repeat' (first | (exact trivial) | (with_reducible rfl) | (exact (rfl : _ = true)) | (exact (rfl : _ = some _)) | (exact (rfl : _ = none)) | (refine And.intro ?_ ?_) | ((show (_ : Int) = _); omega) | ((fail_if_success (with_reducible (show _ = _))); (show _ = _))))
end Go.Proofs.YtigfpjnjjndenaaGreatDoor
