/- Functions by content: the reference's texts of a proof. -/
import Derived.Test.YtigfpjnjjndenaaGreatDoorTg
namespace Go.Proofs.YtigfpjnjjndenaaGreatDoor
open Go.RowKit Pl
set_option linter.unusedVariables false
set_option linter.unusedSimpArgs false
attribute [local irreducible] CondB CallP LoopW AnsP LeP

set_option maxRecDepth 100000 in
set_option maxHeartbeats 8000000 in
theorem c_sProofTexts (nm : Bs) (l : List Lf) (s : List Bs) (w : Nat) (hz : PfSz nm l s) (h : pfGood nm l s (w : Int) = true) :
    CT Tryz.prog 23 [] [.str nm, .agg [.sl 2 (lvE l), .sl 1 (strE s)], .int .i64 (w : Int)] (.ref 1) [.row 1 (strE (textsB nm l s w))] := by
  obtain ⟨h1, h2, h3, h4, h5, h6⟩ := pf_wide h
  have hnl := nameOk_len h1
  have h24 := (ok_sorted h2).1
  have hw : 1 ≤ w ∧ w ≤ 32 := by omega
  have c1 := c_sProofOk nm l s (w : Int) hz
  rw [h] at c1
  have c2 := c_sBucketText l h2
  have hbl := bucketB_len h2
  have c4 := c_sIndexOf nm (by omega)
  have hix := ixB_lt nm
  have hslen := strE_len s
  have hR0 : FdAt (textsB nm l s w, leadB nm l s w) (ixB nm) w [bucketB l] 0 (cutB (bucketB l) w) (s.drop 0) := rfl
  have hR1 : (textsB nm l s w).length = s.length + 1 := textsB_len nm l s w
  generalize textsB nm l s w = RT at hR0 hR1 ⊢
  generalize leadB nm l s w = RL at hR0
  generalize bucketB l = t0 at c2 hbl hR0
  generalize ixB nm = ix at c4 hix hR0
  refine ct_intro tt_ok 1 rfl Tryz.func23 rfl rfl rfl ?_
  repeat ((try conv => whnf); first | (refine c_call ([]) (c1) (by ((repeat' (first | (exact trivial) | (exact rfl) | (refine And.intro ?_ ?_))); first | done | fail)) (by ((repeat' (first | (exact trivial) | (exact rfl) | (refine And.intro ?_ ?_))); first | done | fail)) (by decide) (by rfl) (by first | exact .inl rfl | (refine .inr ⟨?_, ?_⟩ <;> simp [own2, own1, own0, ownE])) ?_) | (refine c_call ([]) (c2) (by ((repeat' (first | (exact trivial) | (exact rfl) | (refine And.intro ?_ ?_))); first | done | fail)) (by ((repeat' (first | (exact trivial) | (exact rfl) | (refine And.intro ?_ ?_))); first | done | fail)) (by decide) (by rfl) (by first | exact .inl rfl | (refine .inr ⟨?_, ?_⟩ <;> simp [own2, own1, own0, ownE])) ?_) | (refine c_call ([]) (c4) (by ((repeat' (first | (exact trivial) | (exact rfl) | (refine And.intro ?_ ?_))); first | done | fail)) (by ((repeat' (first | (exact trivial) | (exact rfl) | (refine And.intro ?_ ?_))); first | done | fail)) (by decide) (by rfl) (by first | exact .inl rfl | (refine .inr ⟨?_, ?_⟩ <;> simp [own2, own1, own0, ownE])) ?_) | (refine And.intro rfl ?_) | (refine w_addn (by omega) ?_) | (refine w_subn (by omega) ?_) | (refine w_add (by omega) ?_) | (refine w_sub (by omega) ?_) | (refine w_any (by omega) ?_) | (refine Exists.intro _ (And.intro rfl ?_)) | (with_reducible (refine cb_t rfl ?_)) | (with_reducible (refine cb_f rfl ?_)) | (refine cb_dt (by omega) ?_) | (refine cb_df (by omega) ?_) | (refine cb_nt (by omega) ?_) | (refine cb_nf (by omega) ?_) | (refine cb_t (by assumption) ?_) | (refine cb_f (by assumption) ?_) | (refine i_lt (by omega) ?_) | (refine i_le (by omega) ?_) | (refine i_cut (by omega) ?_) | (refine And.intro (by omega) ?_) | (refine And.intro trivial ?_) | (refine And.intro (by decide) ?_) | (refine And.intro (Nat.le_of_ble_eq_true rfl) ?_))
  refine loop_cut 0 ⟨[(10, .ref 1)], [(1, some (.row 1 (strE RT)))], 2⟩ (Nat × List Bs) (fun ⟨k, A⟩ => ⟨[(2, .int .i64 (w : Int)), (4, .ptr 1 0 0), (7, .int .i64 (ix : Int)), (10, .ref 2), (11, .int .i64 (k : Int))], [(1, some (.box [.sl 2 (lvE l), .sl 1 (strE s)])), (2, some (.row 1 (strE A)))], 3⟩) (fun ⟨k, A⟩ => k ≤ s.length ∧ A.length = k + 1 ∧ (∀ t ∈ A, t.length ≤ 12301) ∧ FdAt (RT, RL) ix w A k (cutB (pAt A k) w) (s.drop k)) (fun ⟨k, A⟩ => s.length - k) (0, [t0]) ⟨by simp, rfl, (by intro t ht; rw [List.mem_singleton.1 ht]; exact hbl), hR0⟩ ?_ ?_ ?_
  · (refine le_auto (by rfl) ?_ ?_) <;> (repeat' (first | (exact trivial) | (with_reducible rfl) | (exact (rfl : _ = true)) | (exact (rfl : _ = some _)) | (exact (rfl : _ = none)) | (refine And.intro ?_ ?_) | ((show (_ : Int) = _); omega) | ((fail_if_success (with_reducible (show _ = _))); (show _ = _)))) <;> first | rfl | decide
  · intro x hx
    obtain ⟨k, T⟩ := x
    have hk : k ≤ s.length := hx.1
    have hT : T.length = k + 1 := hx.2.1
    have hsm : ∀ t ∈ T, t.length ≤ 12301 := hx.2.2.1
    have hat : FdAt (RT, RL) ix w T k (cutB (pAt T k) w) (s.drop k) := hx.2.2.2
    clear hx
    have hTl := strE_len T
    by_cases hlt : k < s.length
    · have hkT : k < T.length := by omega
      rw [drop_pAt hlt] at hat
      have hst := hat.step
      have hpT : (pAt T k).length ≤ 12301 := by
        simp only [pAt, List.getD, List.getElem?_eq_getElem hkT, Option.getD_some]; exact hsm _ (List.getElem_mem hkT)
      have hpl : (pAt s k).length ≤ 200 := by
        have : pAt s k ∈ s := by simp only [pAt, List.getD, List.getElem?_eq_getElem hlt, Option.getD_some]; exact List.getElem_mem hlt
        have := h5 _ this; omega
      have c5 := c_sCutD (pAt T k) w (by omega) hw
      have hcl := cutB_len (t := pAt T k) hw.2
      generalize cutB (pAt T k) w = h0 at hst c5 hcl
      have hpo := pair_ok (ix := ix) (j := k) (show h0.length ≤ 200 by omega) hpl
      have c6 := c_sBitOf ix k hix (by omega)
      have c7 := c_sTagText 3 (pairB ix k h0 (pAt s k)) (by omega) hpo
      have htl := tagB_len (k := 3) hpo
      have e1 : IntKind.i64.wrap (7 - (k : Int)) = 7 - (k : Int) := wrap_i64 (by omega) (by omega)
      by_cases hb : bitB ix k = 1
      · have hb2 : ((bitB ix k : Nat) : Int) = 1 := by omega
        have hpr : pairB ix k h0 (pAt s k) = [pAt s k, h0] := by unfold pairB; rw [if_pos hb]
        rw [hpr] at c7 hst htl
        generalize tagB 3 [pAt s k, h0] = tg at c7 hst htl
        repeat ((try conv => whnf); first | (refine Exists.intro s.length (And.intro hslen ?_)) | (refine i_lt (by omega) ?_) | (refine Exists.intro _ (And.intro (strE_get hkT) ?_)) | (refine i_at (strE_get hlt) ?_) | (refine c_call ([]) (c5) (by ((repeat' (first | (exact trivial) | (exact rfl) | (refine And.intro ?_ ?_))); first | done | fail)) (by ((repeat' (first | (exact trivial) | (exact rfl) | (refine And.intro ?_ ?_))); first | done | fail)) (by decide) (by rfl) (by first | exact .inl rfl | (refine .inr ⟨?_, ?_⟩ <;> simp [own2, own1, own0, ownE])) ?_) | (refine Exists.intro _ (And.intro e1.symm ?_)) | (refine c_call ([]) (c6) (by ((repeat' (first | (exact trivial) | (exact rfl) | (refine And.intro ?_ ?_))); first | done | fail)) (by ((repeat' (first | (exact trivial) | (exact rfl) | (refine And.intro ?_ ?_))); first | done | fail)) (by decide) (by rfl) (by first | exact .inl rfl | (refine .inr ⟨?_, ?_⟩ <;> simp [own2, own1, own0, ownE])) ?_) | (refine cb_dt hb2 ?_) | (refine c_call ([]) (c7) (by ((repeat' (first | (exact trivial) | (exact rfl) | (refine And.intro ?_ ?_))); first | done | fail)) (by ((repeat' (first | (exact trivial) | (exact rfl) | (refine And.intro ?_ ?_))); first | done | fail)) (by decide) (by rfl) (by first | exact .inl rfl | (refine .inr ⟨?_, ?_⟩ <;> simp [own2, own1, own0, ownE])) ?_) | (refine And.intro (by rw [List.length_append]; simp; omega) ?_) | (refine And.intro rfl ?_) | (refine w_addn (by omega) ?_) | (refine w_subn (by omega) ?_) | (refine w_add (by omega) ?_) | (refine w_sub (by omega) ?_) | (refine w_any (by omega) ?_) | (refine Exists.intro _ (And.intro rfl ?_)) | (with_reducible (refine cb_t rfl ?_)) | (with_reducible (refine cb_f rfl ?_)) | (refine cb_dt (by omega) ?_) | (refine cb_df (by omega) ?_) | (refine cb_nt (by omega) ?_) | (refine cb_nf (by omega) ?_) | (refine cb_t (by assumption) ?_) | (refine cb_f (by assumption) ?_) | (refine i_lt (by omega) ?_) | (refine i_le (by omega) ?_) | (refine i_cut (by omega) ?_) | (refine And.intro (by omega) ?_) | (refine And.intro trivial ?_) | (refine And.intro (by decide) ?_) | (refine And.intro (Nat.le_of_ble_eq_true rfl) ?_))
        have hlast : pAt (T ++ [tg]) (k + 1) = tg := by rw [pAt, List.getD, ← hT, List.getElem?_concat_length]; rfl
        refine ⟨(k + 1, T ++ [tg]), ⟨by show k + 1 ≤ _; omega, by simp [hT], (by
          intro t ht
          rcases List.mem_append.1 ht with ht | ht
          · exact hsm t ht
          · rw [List.mem_singleton.1 ht]; exact htl), by show FdAt _ _ _ (T ++ [tg]) (k + 1) (cutB (pAt (T ++ [tg]) (k + 1)) w) _; rw [hlast]; exact hst⟩, (by show s.length - (k + 1) < s.length - k; omega), ?_⟩
        (refine le_auto (by rfl) ?_ ?_) <;> (repeat' (first | (exact trivial) | (with_reducible rfl) | (exact (rfl : _ = true)) | (exact (rfl : _ = some _)) | (exact (rfl : _ = none)) | (refine And.intro ?_ ?_) | ((show (_ : Int) = _); omega) | ((fail_if_success (with_reducible (show _ = _))); (show _ = _))))
        rw [strE_app]; rfl
      · have hb2 : ¬ ((bitB ix k : Nat) : Int) = 1 := by omega
        have hpr : pairB ix k h0 (pAt s k) = [h0, pAt s k] := by unfold pairB; rw [if_neg hb]
        rw [hpr] at c7 hst htl
        generalize tagB 3 [h0, pAt s k] = tg at c7 hst htl
        repeat ((try conv => whnf); first | (refine Exists.intro s.length (And.intro hslen ?_)) | (refine i_lt (by omega) ?_) | (refine Exists.intro _ (And.intro (strE_get hkT) ?_)) | (refine i_at (strE_get hlt) ?_) | (refine c_call ([]) (c5) (by ((repeat' (first | (exact trivial) | (exact rfl) | (refine And.intro ?_ ?_))); first | done | fail)) (by ((repeat' (first | (exact trivial) | (exact rfl) | (refine And.intro ?_ ?_))); first | done | fail)) (by decide) (by rfl) (by first | exact .inl rfl | (refine .inr ⟨?_, ?_⟩ <;> simp [own2, own1, own0, ownE])) ?_) | (refine Exists.intro _ (And.intro e1.symm ?_)) | (refine c_call ([]) (c6) (by ((repeat' (first | (exact trivial) | (exact rfl) | (refine And.intro ?_ ?_))); first | done | fail)) (by ((repeat' (first | (exact trivial) | (exact rfl) | (refine And.intro ?_ ?_))); first | done | fail)) (by decide) (by rfl) (by first | exact .inl rfl | (refine .inr ⟨?_, ?_⟩ <;> simp [own2, own1, own0, ownE])) ?_) | (refine cb_df hb2 ?_) | (refine c_call ([]) (c7) (by ((repeat' (first | (exact trivial) | (exact rfl) | (refine And.intro ?_ ?_))); first | done | fail)) (by ((repeat' (first | (exact trivial) | (exact rfl) | (refine And.intro ?_ ?_))); first | done | fail)) (by decide) (by rfl) (by first | exact .inl rfl | (refine .inr ⟨?_, ?_⟩ <;> simp [own2, own1, own0, ownE])) ?_) | (refine And.intro (by rw [List.length_append]; simp; omega) ?_) | (refine And.intro rfl ?_) | (refine w_addn (by omega) ?_) | (refine w_subn (by omega) ?_) | (refine w_add (by omega) ?_) | (refine w_sub (by omega) ?_) | (refine w_any (by omega) ?_) | (refine Exists.intro _ (And.intro rfl ?_)) | (with_reducible (refine cb_t rfl ?_)) | (with_reducible (refine cb_f rfl ?_)) | (refine cb_dt (by omega) ?_) | (refine cb_df (by omega) ?_) | (refine cb_nt (by omega) ?_) | (refine cb_nf (by omega) ?_) | (refine cb_t (by assumption) ?_) | (refine cb_f (by assumption) ?_) | (refine i_lt (by omega) ?_) | (refine i_le (by omega) ?_) | (refine i_cut (by omega) ?_) | (refine And.intro (by omega) ?_) | (refine And.intro trivial ?_) | (refine And.intro (by decide) ?_) | (refine And.intro (Nat.le_of_ble_eq_true rfl) ?_))
        have hlast : pAt (T ++ [tg]) (k + 1) = tg := by rw [pAt, List.getD, ← hT, List.getElem?_concat_length]; rfl
        refine ⟨(k + 1, T ++ [tg]), ⟨by show k + 1 ≤ _; omega, by simp [hT], (by
          intro t ht
          rcases List.mem_append.1 ht with ht | ht
          · exact hsm t ht
          · rw [List.mem_singleton.1 ht]; exact htl), by show FdAt _ _ _ (T ++ [tg]) (k + 1) (cutB (pAt (T ++ [tg]) (k + 1)) w) _; rw [hlast]; exact hst⟩, (by show s.length - (k + 1) < s.length - k; omega), ?_⟩
        (refine le_auto (by rfl) ?_ ?_) <;> (repeat' (first | (exact trivial) | (with_reducible rfl) | (exact (rfl : _ = true)) | (exact (rfl : _ = some _)) | (exact (rfl : _ = none)) | (refine And.intro ?_ ?_) | ((show (_ : Int) = _); omega) | ((fail_if_success (with_reducible (show _ = _))); (show _ = _))))
        rw [strE_app]; rfl
    · have hke : k = s.length := by omega
      rw [hke, List.drop_length] at hat
      have hd := hat.done
      have hRT : RT = T := (Prod.mk.inj hd).1
      rw [hRT, hke]
      repeat ((try conv => whnf); first | (refine Exists.intro s.length (And.intro hslen ?_)) | (refine And.intro rfl ?_) | (refine w_addn (by omega) ?_) | (refine w_subn (by omega) ?_) | (refine w_add (by omega) ?_) | (refine w_sub (by omega) ?_) | (refine w_any (by omega) ?_) | (refine Exists.intro _ (And.intro rfl ?_)) | (with_reducible (refine cb_t rfl ?_)) | (with_reducible (refine cb_f rfl ?_)) | (refine cb_dt (by omega) ?_) | (refine cb_df (by omega) ?_) | (refine cb_nt (by omega) ?_) | (refine cb_nf (by omega) ?_) | (refine cb_t (by assumption) ?_) | (refine cb_f (by assumption) ?_) | (refine i_lt (by omega) ?_) | (refine i_le (by omega) ?_) | (refine i_cut (by omega) ?_) | (refine And.intro (by omega) ?_) | (refine And.intro trivial ?_) | (refine And.intro (by decide) ?_) | (refine And.intro (Nat.le_of_ble_eq_true rfl) ?_))
      (refine le_auto (by rfl) ?_ ?_) <;> (repeat' (first | (exact trivial) | (with_reducible rfl) | (exact (rfl : _ = true)) | (exact (rfl : _ = some _)) | (exact (rfl : _ = none)) | (refine And.intro ?_ ?_) | ((show (_ : Int) = _); omega) | ((fail_if_success (with_reducible (show _ = _))); (show _ = _))))
  · repeat ((try conv => whnf); first | (refine And.intro rfl ?_) | (refine w_addn (by omega) ?_) | (refine w_subn (by omega) ?_) | (refine w_add (by omega) ?_) | (refine w_sub (by omega) ?_) | (refine w_any (by omega) ?_) | (refine Exists.intro _ (And.intro rfl ?_)) | (with_reducible (refine cb_t rfl ?_)) | (with_reducible (refine cb_f rfl ?_)) | (refine cb_dt (by omega) ?_) | (refine cb_df (by omega) ?_) | (refine cb_nt (by omega) ?_) | (refine cb_nf (by omega) ?_) | (refine cb_t (by assumption) ?_) | (refine cb_f (by assumption) ?_) | (refine i_lt (by omega) ?_) | (refine i_le (by omega) ?_) | (refine i_cut (by omega) ?_) | (refine And.intro (by omega) ?_) | (refine And.intro trivial ?_) | (refine And.intro (by decide) ?_) | (refine And.intro (Nat.le_of_ble_eq_true rfl) ?_))
    (refine ans_auto (by rfl) ?_ ?_ (by rfl)) <;> (repeat' (first | (exact trivial) | (with_reducible rfl) | (exact (rfl : _ = true)) | (exact (rfl : _ = some _)) | (exact (rfl : _ = none)) | (refine And.intro ?_ ?_) | ((show (_ : Int) = _); omega) | ((fail_if_success (with_reducible (show _ = _))); (show _ = _))))
end Go.Proofs.YtigfpjnjjndenaaGreatDoor
