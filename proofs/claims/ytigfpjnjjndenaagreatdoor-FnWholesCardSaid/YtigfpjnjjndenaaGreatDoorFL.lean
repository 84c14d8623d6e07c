/- Functions by content: more of what is drawn: any bound, texts, spoilt texts. -/
import Derived.Test.YtigfpjnjjndenaaGreatDoorFHI
namespace Go.Proofs.YtigfpjnjjndenaaGreatDoor
open Go.RowKit Pl
set_option linter.unusedVariables false
set_option linter.unusedSimpArgs false
attribute [local irreducible] CondB CallP LoopW AnsP LeP

/-- How a text is drawn. -/
inductive TR (c : Bs) : Nat → Nat → Int → Bs → Bs → Nat → Int → Prop
  | stop {i h out} : TR c 0 i h out out i h
  | step {n i h out x i1 h1 out' i' h'} : x ≤ 255 → i1 ≤ c.length → CT Tryz.prog 97 [curE c i h] [.ptr 1 0 0] (.int .i64 ((x : Nat) : Int)) [curE c i1 h1] → TR c n i1 h1 (out ++ [UInt8.ofNat x]) out' i' h' → TR c (n + 1) i h out out' i' h'
theorem tr_all (c : Bs) (hc : (c.length : Int) ≤ 1048576) : ∀ (n i : Nat) (h : Int) (out : Bs), i ≤ c.length → ∃ out' i' h', TR c n i h out out' i' h' ∧ out'.length = out.length + n ∧ i' ≤ c.length
  | 0, i, h, out, hi => ⟨out, i, h, .stop, rfl, hi⟩
  | n + 1, i, h, out, hi => by
    obtain ⟨x, i1, h1, hx, hi1, k1⟩ := c_l01Byte c i h hc hi
    obtain ⟨out', i', h', ht, hl, hi'⟩ := tr_all c hc n i1 h1 (out ++ [UInt8.ofNat x]) hi1
    exact ⟨out', i', h', .step hx hi1 k1 ht, by rw [hl]; simp; omega, hi'⟩
set_option maxRecDepth 100000 in
set_option maxHeartbeats 1000000 in
theorem c_text (c : Bs) (i : Nat) (h : Int) (n : Nat) (hc : (c.length : Int) ≤ 1048576) (hi : i ≤ c.length) (hn : n ≤ 5000) : ∃ (s : Bs) (i' : Nat) (h' : Int), s.length = n ∧ i' ≤ c.length ∧ CT Tryz.prog 168 [curE c i h] [.ptr 1 0 0, .int .i64 (n : Int)] (.str s) [curE c i' h'] := by
  obtain ⟨s, i', h', ht, hl, hi'⟩ := tr_all c hc n i h [] hi
  refine ⟨s, i', h', by simpa using hl, hi', ct_intro tt_ok 2 rfl Tryz.func168 rfl rfl rfl ?_⟩
  repeat ((try conv => whnf); first | (refine And.intro rfl ?_) | (refine w_addn (by omega) ?_) | (refine w_subn (by omega) ?_) | (refine w_add (by omega) ?_) | (refine w_sub (by omega) ?_) | (refine w_any (by omega) ?_) | (refine Exists.intro _ (And.intro rfl ?_)) | (with_reducible (refine cb_t rfl ?_)) | (with_reducible (refine cb_f rfl ?_)) | (refine cb_dt (by omega) ?_) | (refine cb_df (by omega) ?_) | (refine cb_nt (by omega) ?_) | (refine cb_nf (by omega) ?_) | (refine cb_t (by assumption) ?_) | (refine cb_f (by assumption) ?_) | (refine i_lt (by omega) ?_) | (refine i_le (by omega) ?_) | (refine i_cut (by omega) ?_) | (refine And.intro (by omega) ?_) | (refine And.intro trivial ?_) | (refine And.intro (by decide) ?_) | (refine And.intro (Nat.le_of_ble_eq_true rfl) ?_))
  refine loop_of (Nat × Nat × Int × Bs) (fun ⟨k, i, h, out⟩ => ⟨[(0, .ptr 1 0 0), (1, .int .i64 (n : Int)), (5, .ref 2), (6, .int .i64 (k : Int))], [(1, some (curE c i h)), (2, some (.row 1 (bytesE out)))], 3⟩) (fun ⟨k, i, h, out⟩ => TR c (n - k) i h out s i' h' ∧ k ≤ n ∧ out.length = k) (fun ⟨k, i, h, out⟩ => n - k) (0, i, h, []) ⟨ht, by omega, rfl⟩ ?_ ?_
  · (refine le_auto (by rfl) ?_ ?_) <;> (repeat' (first | (exact trivial) | (with_reducible rfl) | (exact (rfl : _ = true)) | (exact (rfl : _ = some _)) | (exact (rfl : _ = none)) | (refine And.intro ?_ ?_) | ((show (_ : Int) = _); omega) | ((fail_if_success (with_reducible (show _ = _))); (show _ = _)))) <;> first | rfl | decide
  · rintro ⟨k, i, h, out⟩ ⟨hd, hk, hlo⟩
    have hbl := bytesE_len out
    by_cases hlt : k < n
    · obtain ⟨m, hm⟩ : ∃ m, n - k = m + 1 := ⟨n - k - 1, by omega⟩
      rw [hm] at hd
      cases hd with
      | @step _ _ _ _ x i1 h1 _ _ _ hx hi1 k1 hd' =>
        repeat ((try conv => whnf); first | (refine c_call ([1]) (k1) (by ((repeat' (first | (exact trivial) | (exact rfl) | (decide) | (refine And.intro ?_ ?_))); first | done | fail)) (by ((repeat' (first | (exact trivial) | (exact rfl) | (decide) | (refine And.intro ?_ ?_))); first | done | fail)) (by decide) (by rfl) (by first | exact .inl rfl | (refine .inr ⟨?_, ?_⟩ <;> simp [own2, own1, own0, ownE])) ?_) | (refine w_u8 ?_) | (refine And.intro (by simp [bytesE_len]; omega) ?_) | (refine And.intro rfl ?_) | (refine w_addn (by omega) ?_) | (refine w_subn (by omega) ?_) | (refine w_add (by omega) ?_) | (refine w_sub (by omega) ?_) | (refine w_any (by omega) ?_) | (refine Exists.intro _ (And.intro rfl ?_)) | (with_reducible (refine cb_t rfl ?_)) | (with_reducible (refine cb_f rfl ?_)) | (refine cb_dt (by omega) ?_) | (refine cb_df (by omega) ?_) | (refine cb_nt (by omega) ?_) | (refine cb_nf (by omega) ?_) | (refine cb_t (by assumption) ?_) | (refine cb_f (by assumption) ?_) | (refine i_lt (by omega) ?_) | (refine i_le (by omega) ?_) | (refine i_cut (by omega) ?_) | (refine And.intro (by omega) ?_) | (refine And.intro trivial ?_) | (refine And.intro (by decide) ?_) | (refine And.intro (Nat.le_of_ble_eq_true rfl) ?_))
        refine ⟨(k + 1, i1, h1, out ++ [UInt8.ofNat x]), ⟨by rw [show n - (k + 1) = m by omega]; exact hd', by omega, by simp; omega⟩, (by show n - (k + 1) < n - k; omega), ?_⟩
        (refine le_auto (by rfl) ?_ ?_) <;> (repeat' (first | (exact trivial) | (with_reducible rfl) | (exact (rfl : _ = true)) | (exact (rfl : _ = some _)) | (exact (rfl : _ = none)) | (refine And.intro ?_ ?_) | ((show (_ : Int) = _); omega) | ((fail_if_success (with_reducible (show _ = _))); (show _ = _))))
        simp [bytesE, byteE]
    · have hz : n - k = 0 := by omega
      rw [hz] at hd
      cases hd with
      | stop =>
        repeat ((try conv => whnf); first | (refine Exists.intro s (And.intro rfl ?_)) | (refine And.intro rfl ?_) | (refine w_addn (by omega) ?_) | (refine w_subn (by omega) ?_) | (refine w_add (by omega) ?_) | (refine w_sub (by omega) ?_) | (refine w_any (by omega) ?_) | (refine Exists.intro _ (And.intro rfl ?_)) | (with_reducible (refine cb_t rfl ?_)) | (with_reducible (refine cb_f rfl ?_)) | (refine cb_dt (by omega) ?_) | (refine cb_df (by omega) ?_) | (refine cb_nt (by omega) ?_) | (refine cb_nf (by omega) ?_) | (refine cb_t (by assumption) ?_) | (refine cb_f (by assumption) ?_) | (refine i_lt (by omega) ?_) | (refine i_le (by omega) ?_) | (refine i_cut (by omega) ?_) | (refine And.intro (by omega) ?_) | (refine And.intro trivial ?_) | (refine And.intro (by decide) ?_) | (refine And.intro (Nat.le_of_ble_eq_true rfl) ?_))
        (refine ans_auto (by rfl) ?_ ?_ (by rfl)) <;> (repeat' (first | (exact trivial) | (with_reducible rfl) | (exact (rfl : _ = true)) | (exact (rfl : _ = some _)) | (exact (rfl : _ = none)) | (refine And.intro ?_ ?_) | ((show (_ : Int) = _); omega) | ((fail_if_success (with_reducible (show _ = _))); (show _ = _))))
end Go.Proofs.YtigfpjnjjndenaaGreatDoor
