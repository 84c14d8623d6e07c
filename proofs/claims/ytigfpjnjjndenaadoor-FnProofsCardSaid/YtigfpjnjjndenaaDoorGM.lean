/- Functions by content: what the exact laws compare, mark and hold: entries and strings. -/
import Derived.Test.YtigfpjnjjndenaaDoorFHI
namespace Go.Proofs.YtigfpjnjjndenaaDoor
open Go.RowKit Pl
set_option linter.unusedVariables false
set_option linter.unusedSimpArgs false
attribute [local irreducible] CondB CallP LoopW AnsP LeP

theorem own_lvE {k : Nat} (l : List Lf) : ownE (.row k (lvE l)) := by
  intro e he c hc
  simp only [lvE, List.mem_map] at he
  obtain ⟨x, _, rfl⟩ := he
  simp only [List.mem_cons, List.not_mem_nil, or_false] at hc
  rcases hc with rfl | rfl <;> trivial
theorem own_strE {k : Nat} (l : List Bs) : ownE (.row k (strE l)) := by
  intro e he c hc
  simp only [strE, List.mem_map] at he
  obtain ⟨x, _, rfl⟩ := he
  simp only [List.mem_cons, List.not_mem_nil, or_false] at hc
  subst hc; trivial
set_option maxRecDepth 100000 in
set_option maxHeartbeats 400000 in
theorem c_eqLeaf (x y : Lf) : CT Tryd.prog 210 [] [.agg [.str x.1, .str x.2], .agg [.str y.1, .str y.2]] (.bool (decide (x = y))) [] := by
  refine ct_intro tt_ok 1 rfl Tryd.func210 rfl rfl rfl ?_
  obtain ⟨a, b⟩ := x
  obtain ⟨a', b'⟩ := y
  by_cases h1 : a = a'
  · by_cases h2 : b = b'
    · repeat ((try conv => whnf); first | (refine cb_nf h1 ?_) | (refine cb_nf h2 ?_) | (refine And.intro rfl ?_) | (refine w_addn (by omega) ?_) | (refine w_subn (by omega) ?_) | (refine w_add (by omega) ?_) | (refine w_sub (by omega) ?_) | (refine w_any (by omega) ?_) | (refine Exists.intro _ (And.intro rfl ?_)) | (with_reducible (refine cb_t rfl ?_)) | (with_reducible (refine cb_f rfl ?_)) | (refine cb_dt (by omega) ?_) | (refine cb_df (by omega) ?_) | (refine cb_nt (by omega) ?_) | (refine cb_nf (by omega) ?_) | (refine cb_t (by assumption) ?_) | (refine cb_f (by assumption) ?_) | (refine i_lt (by omega) ?_) | (refine i_le (by omega) ?_) | (refine i_cut (by omega) ?_) | (refine And.intro (by omega) ?_) | (refine And.intro trivial ?_) | (refine And.intro (by decide) ?_) | (refine And.intro (Nat.le_of_ble_eq_true rfl) ?_))
      (refine ans_auto (by rfl) ?_ ?_ (by rfl)) <;> (repeat' (first | (exact trivial) | (with_reducible rfl) | (exact (rfl : _ = true)) | (exact (rfl : _ = some _)) | (exact (rfl : _ = none)) | (refine And.intro ?_ ?_) | ((show (_ : Int) = _); omega) | ((fail_if_success (with_reducible (show _ = _))); (show _ = _))))
      simp [h1, h2]
    · repeat ((try conv => whnf); first | (refine cb_nf h1 ?_) | (refine cb_nt h2 ?_) | (refine And.intro rfl ?_) | (refine w_addn (by omega) ?_) | (refine w_subn (by omega) ?_) | (refine w_add (by omega) ?_) | (refine w_sub (by omega) ?_) | (refine w_any (by omega) ?_) | (refine Exists.intro _ (And.intro rfl ?_)) | (with_reducible (refine cb_t rfl ?_)) | (with_reducible (refine cb_f rfl ?_)) | (refine cb_dt (by omega) ?_) | (refine cb_df (by omega) ?_) | (refine cb_nt (by omega) ?_) | (refine cb_nf (by omega) ?_) | (refine cb_t (by assumption) ?_) | (refine cb_f (by assumption) ?_) | (refine i_lt (by omega) ?_) | (refine i_le (by omega) ?_) | (refine i_cut (by omega) ?_) | (refine And.intro (by omega) ?_) | (refine And.intro trivial ?_) | (refine And.intro (by decide) ?_) | (refine And.intro (Nat.le_of_ble_eq_true rfl) ?_))
      (refine ans_auto (by rfl) ?_ ?_ (by rfl)) <;> (repeat' (first | (exact trivial) | (with_reducible rfl) | (exact (rfl : _ = true)) | (exact (rfl : _ = some _)) | (exact (rfl : _ = none)) | (refine And.intro ?_ ?_) | ((show (_ : Int) = _); omega) | ((fail_if_success (with_reducible (show _ = _))); (show _ = _))))
      simp [h2]
  · repeat ((try conv => whnf); first | (refine cb_nt h1 ?_) | (refine And.intro rfl ?_) | (refine w_addn (by omega) ?_) | (refine w_subn (by omega) ?_) | (refine w_add (by omega) ?_) | (refine w_sub (by omega) ?_) | (refine w_any (by omega) ?_) | (refine Exists.intro _ (And.intro rfl ?_)) | (with_reducible (refine cb_t rfl ?_)) | (with_reducible (refine cb_f rfl ?_)) | (refine cb_dt (by omega) ?_) | (refine cb_df (by omega) ?_) | (refine cb_nt (by omega) ?_) | (refine cb_nf (by omega) ?_) | (refine cb_t (by assumption) ?_) | (refine cb_f (by assumption) ?_) | (refine i_lt (by omega) ?_) | (refine i_le (by omega) ?_) | (refine i_cut (by omega) ?_) | (refine And.intro (by omega) ?_) | (refine And.intro trivial ?_) | (refine And.intro (by decide) ?_) | (refine And.intro (Nat.le_of_ble_eq_true rfl) ?_))
    (refine ans_auto (by rfl) ?_ ?_ (by rfl)) <;> (repeat' (first | (exact trivial) | (with_reducible rfl) | (exact (rfl : _ = true)) | (exact (rfl : _ = some _)) | (exact (rfl : _ = none)) | (refine And.intro ?_ ?_) | ((show (_ : Int) = _); omega) | ((fail_if_success (with_reducible (show _ = _))); (show _ = _))))
    simp [h1]
set_option maxRecDepth 100000 in
set_option maxHeartbeats 400000 in
theorem c_eqLeafS (l m : List Lf) (hl : (l.length : Int) ≤ 100000000) (hm : (m.length : Int) ≤ 100000000) : CT Tryd.prog 190 [] [.sl 2 (lvE l), .sl 2 (lvE m)] (.bool (decide (l = m))) [] := by
  have h1 := lv_len l
  have h2 := lv_len m
  refine ct_intro tt_ok 1 rfl Tryd.func190 rfl rfl rfl ?_
  repeat ((try conv => whnf); first | (refine And.intro rfl ?_) | (refine w_addn (by omega) ?_) | (refine w_subn (by omega) ?_) | (refine w_add (by omega) ?_) | (refine w_sub (by omega) ?_) | (refine w_any (by omega) ?_) | (refine Exists.intro _ (And.intro rfl ?_)) | (with_reducible (refine cb_t rfl ?_)) | (with_reducible (refine cb_f rfl ?_)) | (refine cb_dt (by omega) ?_) | (refine cb_df (by omega) ?_) | (refine cb_nt (by omega) ?_) | (refine cb_nf (by omega) ?_) | (refine cb_t (by assumption) ?_) | (refine cb_f (by assumption) ?_) | (refine i_lt (by omega) ?_) | (refine i_le (by omega) ?_) | (refine i_cut (by omega) ?_) | (refine And.intro (by omega) ?_) | (refine And.intro trivial ?_) | (refine And.intro (by decide) ?_) | (refine And.intro (Nat.le_of_ble_eq_true rfl) ?_))
  ((try conv => whnf); first | (refine cb_d (fun h => ?_) (fun h => ?_)) | (refine cb_n (fun h => ?_) (fun h => ?_)) | (refine cb (fun h => ?_) (fun h => ?_)))
  · repeat ((try conv => whnf); first | (refine And.intro rfl ?_) | (refine w_addn (by omega) ?_) | (refine w_subn (by omega) ?_) | (refine w_add (by omega) ?_) | (refine w_sub (by omega) ?_) | (refine w_any (by omega) ?_) | (refine Exists.intro _ (And.intro rfl ?_)) | (with_reducible (refine cb_t rfl ?_)) | (with_reducible (refine cb_f rfl ?_)) | (refine cb_dt (by omega) ?_) | (refine cb_df (by omega) ?_) | (refine cb_nt (by omega) ?_) | (refine cb_nf (by omega) ?_) | (refine cb_t (by assumption) ?_) | (refine cb_f (by assumption) ?_) | (refine i_lt (by omega) ?_) | (refine i_le (by omega) ?_) | (refine i_cut (by omega) ?_) | (refine And.intro (by omega) ?_) | (refine And.intro trivial ?_) | (refine And.intro (by decide) ?_) | (refine And.intro (Nat.le_of_ble_eq_true rfl) ?_))
    (refine ans_auto (by rfl) ?_ ?_ (by rfl)) <;> repeat' (first | (exact trivial) | (with_reducible rfl) | (exact (rfl : _ = true)) | (exact (rfl : _ = some _)) | (exact (rfl : _ = none)) | (refine And.intro ?_ ?_) | ((show (_ : Int) = _); omega) | ((fail_if_success (with_reducible (show _ = _))); (show _ = _)))
    have : l ≠ m := fun e => by subst e; exact h rfl
    simp [this]
  · repeat ((try conv => whnf); first | (refine And.intro rfl ?_) | (refine w_addn (by omega) ?_) | (refine w_subn (by omega) ?_) | (refine w_add (by omega) ?_) | (refine w_sub (by omega) ?_) | (refine w_any (by omega) ?_) | (refine Exists.intro _ (And.intro rfl ?_)) | (with_reducible (refine cb_t rfl ?_)) | (with_reducible (refine cb_f rfl ?_)) | (refine cb_dt (by omega) ?_) | (refine cb_df (by omega) ?_) | (refine cb_nt (by omega) ?_) | (refine cb_nf (by omega) ?_) | (refine cb_t (by assumption) ?_) | (refine cb_f (by assumption) ?_) | (refine i_lt (by omega) ?_) | (refine i_le (by omega) ?_) | (refine i_cut (by omega) ?_) | (refine And.intro (by omega) ?_) | (refine And.intro trivial ?_) | (refine And.intro (by decide) ?_) | (refine And.intro (Nat.le_of_ble_eq_true rfl) ?_))
    have he : l.length = m.length := by omega
    refine loop_of Nat (fun k => ⟨[(0, .sl 2 (lvE l)), (1, .sl 2 (lvE m)), (5, .int .i64 (k : Int))], [], 2⟩) (fun k => k ≤ l.length ∧ l.take k = m.take k) (fun k => l.length - k) 0 ⟨by omega, rfl⟩ ?_ ?_
    · (refine le_auto (by rfl) ?_ ?_) <;> repeat' (first | (exact trivial) | (with_reducible rfl) | (exact (rfl : _ = true)) | (exact (rfl : _ = some _)) | (exact (rfl : _ = none)) | (refine And.intro ?_ ?_) | ((show (_ : Int) = _); omega) | ((fail_if_success (with_reducible (show _ = _))); (show _ = _)))
    · rintro k ⟨hk, hp⟩
      by_cases hlt : k < l.length
      · have hk2 : k < m.length := by omega
        have c := c_eqLeaf (lfAt l k) (lfAt m k)
        repeat ((try conv => whnf); first | (refine i_at (lv_get hlt) ?_) | (refine i_at (lv_get hk2) ?_) | (refine c_call ([]) (c) (by ((repeat' (first | (exact trivial) | (exact rfl) | (refine And.intro ?_ ?_))); first | done | fail)) (by ((repeat' (first | (exact trivial) | (exact rfl) | (refine And.intro ?_ ?_))); first | done | fail)) (by decide) (by rfl) (by first | exact .inl rfl | (refine .inr ⟨?_, ?_⟩ <;> simp [own2, own1, own0, ownE])) ?_) | (refine And.intro rfl ?_) | (refine w_addn (by omega) ?_) | (refine w_subn (by omega) ?_) | (refine w_add (by omega) ?_) | (refine w_sub (by omega) ?_) | (refine w_any (by omega) ?_) | (refine Exists.intro _ (And.intro rfl ?_)) | (with_reducible (refine cb_t rfl ?_)) | (with_reducible (refine cb_f rfl ?_)) | (refine cb_dt (by omega) ?_) | (refine cb_df (by omega) ?_) | (refine cb_nt (by omega) ?_) | (refine cb_nf (by omega) ?_) | (refine cb_t (by assumption) ?_) | (refine cb_f (by assumption) ?_) | (refine i_lt (by omega) ?_) | (refine i_le (by omega) ?_) | (refine i_cut (by omega) ?_) | (refine And.intro (by omega) ?_) | (refine And.intro trivial ?_) | (refine And.intro (by decide) ?_) | (refine And.intro (Nat.le_of_ble_eq_true rfl) ?_))
        ((try conv => whnf); first | (refine cb_d (fun h => ?_) (fun h => ?_)) | (refine cb_n (fun h => ?_) (fun h => ?_)) | (refine cb (fun h => ?_) (fun h => ?_)))
        · have hne : lfAt l k ≠ lfAt m k := by simpa using h
          repeat ((try conv => whnf); first | (refine And.intro rfl ?_) | (refine w_addn (by omega) ?_) | (refine w_subn (by omega) ?_) | (refine w_add (by omega) ?_) | (refine w_sub (by omega) ?_) | (refine w_any (by omega) ?_) | (refine Exists.intro _ (And.intro rfl ?_)) | (with_reducible (refine cb_t rfl ?_)) | (with_reducible (refine cb_f rfl ?_)) | (refine cb_dt (by omega) ?_) | (refine cb_df (by omega) ?_) | (refine cb_nt (by omega) ?_) | (refine cb_nf (by omega) ?_) | (refine cb_t (by assumption) ?_) | (refine cb_f (by assumption) ?_) | (refine i_lt (by omega) ?_) | (refine i_le (by omega) ?_) | (refine i_cut (by omega) ?_) | (refine And.intro (by omega) ?_) | (refine And.intro trivial ?_) | (refine And.intro (by decide) ?_) | (refine And.intro (Nat.le_of_ble_eq_true rfl) ?_))
          (refine ans_auto (by rfl) ?_ ?_ (by rfl)) <;> repeat' (first | (exact trivial) | (with_reducible rfl) | (exact (rfl : _ = true)) | (exact (rfl : _ = some _)) | (exact (rfl : _ = none)) | (refine And.intro ?_ ?_) | ((show (_ : Int) = _); omega) | ((fail_if_success (with_reducible (show _ = _))); (show _ = _)))
          have : l ≠ m := fun e => by subst e; exact hne rfl
          simp [this]
        · have heq : lfAt l k = lfAt m k := by simpa using h
          repeat ((try conv => whnf); first | (refine And.intro rfl ?_) | (refine w_addn (by omega) ?_) | (refine w_subn (by omega) ?_) | (refine w_add (by omega) ?_) | (refine w_sub (by omega) ?_) | (refine w_any (by omega) ?_) | (refine Exists.intro _ (And.intro rfl ?_)) | (with_reducible (refine cb_t rfl ?_)) | (with_reducible (refine cb_f rfl ?_)) | (refine cb_dt (by omega) ?_) | (refine cb_df (by omega) ?_) | (refine cb_nt (by omega) ?_) | (refine cb_nf (by omega) ?_) | (refine cb_t (by assumption) ?_) | (refine cb_f (by assumption) ?_) | (refine i_lt (by omega) ?_) | (refine i_le (by omega) ?_) | (refine i_cut (by omega) ?_) | (refine And.intro (by omega) ?_) | (refine And.intro trivial ?_) | (refine And.intro (by decide) ?_) | (refine And.intro (Nat.le_of_ble_eq_true rfl) ?_))
          refine ⟨k + 1, ⟨by omega, ?_⟩, by omega, ?_⟩
          · rw [take_next l k hlt, take_next m k hk2, hp, heq]
          · (refine le_auto (by rfl) ?_ ?_) <;> repeat' (first | (exact trivial) | (with_reducible rfl) | (exact (rfl : _ = true)) | (exact (rfl : _ = some _)) | (exact (rfl : _ = none)) | (refine And.intro ?_ ?_) | ((show (_ : Int) = _); omega) | ((fail_if_success (with_reducible (show _ = _))); (show _ = _)))
      · obtain rfl : k = l.length := by omega
        have hlm : l = m := by
          rw [List.take_length] at hp
          rw [hp, he, List.take_length]
        repeat ((try conv => whnf); first | (refine And.intro rfl ?_) | (refine w_addn (by omega) ?_) | (refine w_subn (by omega) ?_) | (refine w_add (by omega) ?_) | (refine w_sub (by omega) ?_) | (refine w_any (by omega) ?_) | (refine Exists.intro _ (And.intro rfl ?_)) | (with_reducible (refine cb_t rfl ?_)) | (with_reducible (refine cb_f rfl ?_)) | (refine cb_dt (by omega) ?_) | (refine cb_df (by omega) ?_) | (refine cb_nt (by omega) ?_) | (refine cb_nf (by omega) ?_) | (refine cb_t (by assumption) ?_) | (refine cb_f (by assumption) ?_) | (refine i_lt (by omega) ?_) | (refine i_le (by omega) ?_) | (refine i_cut (by omega) ?_) | (refine And.intro (by omega) ?_) | (refine And.intro trivial ?_) | (refine And.intro (by decide) ?_) | (refine And.intro (Nat.le_of_ble_eq_true rfl) ?_))
        (refine ans_auto (by rfl) ?_ ?_ (by rfl)) <;> repeat' (first | (exact trivial) | (with_reducible rfl) | (exact (rfl : _ = true)) | (exact (rfl : _ = some _)) | (exact (rfl : _ = none)) | (refine And.intro ?_ ?_) | ((show (_ : Int) = _); omega) | ((fail_if_success (with_reducible (show _ = _))); (show _ = _)))
        simp [hlm]
def sAt (l : List Bs) (k : Nat) : Bs := l.getD k []
theorem s_at {l : List Bs} {k : Nat} (h : k < l.length) : sAt l k = l[k] := by simp [sAt, List.getD, List.getElem?_eq_getElem h]
theorem s_get {l : List Bs} {k : Nat} (h : k < l.length) : (strE l)[k]? = some [.str (sAt l k)] := strE_at h
theorem s_next (l : List Bs) (k : Nat) (h : k < l.length) : l.take (k + 1) = l.take k ++ [sAt l k] := by
  rw [List.take_add_one, List.getElem?_eq_getElem h, s_at h]; rfl
set_option maxRecDepth 100000 in
set_option maxHeartbeats 400000 in
theorem c_eqStringS (l m : List Bs) (hl : (l.length : Int) ≤ 100000000) (hm : (m.length : Int) ≤ 100000000) : CT Tryd.prog 91 [] [.sl 1 (strE l), .sl 1 (strE m)] (.bool (decide (l = m))) [] := by
  have h1 := strE_len l
  have h2 := strE_len m
  refine ct_intro tt_ok 1 rfl Tryd.func91 rfl rfl rfl ?_
  repeat ((try conv => whnf); first | (refine And.intro rfl ?_) | (refine w_addn (by omega) ?_) | (refine w_subn (by omega) ?_) | (refine w_add (by omega) ?_) | (refine w_sub (by omega) ?_) | (refine w_any (by omega) ?_) | (refine Exists.intro _ (And.intro rfl ?_)) | (with_reducible (refine cb_t rfl ?_)) | (with_reducible (refine cb_f rfl ?_)) | (refine cb_dt (by omega) ?_) | (refine cb_df (by omega) ?_) | (refine cb_nt (by omega) ?_) | (refine cb_nf (by omega) ?_) | (refine cb_t (by assumption) ?_) | (refine cb_f (by assumption) ?_) | (refine i_lt (by omega) ?_) | (refine i_le (by omega) ?_) | (refine i_cut (by omega) ?_) | (refine And.intro (by omega) ?_) | (refine And.intro trivial ?_) | (refine And.intro (by decide) ?_) | (refine And.intro (Nat.le_of_ble_eq_true rfl) ?_))
  ((try conv => whnf); first | (refine cb_d (fun h => ?_) (fun h => ?_)) | (refine cb_n (fun h => ?_) (fun h => ?_)) | (refine cb (fun h => ?_) (fun h => ?_)))
  · repeat ((try conv => whnf); first | (refine And.intro rfl ?_) | (refine w_addn (by omega) ?_) | (refine w_subn (by omega) ?_) | (refine w_add (by omega) ?_) | (refine w_sub (by omega) ?_) | (refine w_any (by omega) ?_) | (refine Exists.intro _ (And.intro rfl ?_)) | (with_reducible (refine cb_t rfl ?_)) | (with_reducible (refine cb_f rfl ?_)) | (refine cb_dt (by omega) ?_) | (refine cb_df (by omega) ?_) | (refine cb_nt (by omega) ?_) | (refine cb_nf (by omega) ?_) | (refine cb_t (by assumption) ?_) | (refine cb_f (by assumption) ?_) | (refine i_lt (by omega) ?_) | (refine i_le (by omega) ?_) | (refine i_cut (by omega) ?_) | (refine And.intro (by omega) ?_) | (refine And.intro trivial ?_) | (refine And.intro (by decide) ?_) | (refine And.intro (Nat.le_of_ble_eq_true rfl) ?_))
    (refine ans_auto (by rfl) ?_ ?_ (by rfl)) <;> repeat' (first | (exact trivial) | (with_reducible rfl) | (exact (rfl : _ = true)) | (exact (rfl : _ = some _)) | (exact (rfl : _ = none)) | (refine And.intro ?_ ?_) | ((show (_ : Int) = _); omega) | ((fail_if_success (with_reducible (show _ = _))); (show _ = _)))
    have : l ≠ m := fun e => by subst e; exact h rfl
    simp [this]
  · repeat ((try conv => whnf); first | (refine And.intro rfl ?_) | (refine w_addn (by omega) ?_) | (refine w_subn (by omega) ?_) | (refine w_add (by omega) ?_) | (refine w_sub (by omega) ?_) | (refine w_any (by omega) ?_) | (refine Exists.intro _ (And.intro rfl ?_)) | (with_reducible (refine cb_t rfl ?_)) | (with_reducible (refine cb_f rfl ?_)) | (refine cb_dt (by omega) ?_) | (refine cb_df (by omega) ?_) | (refine cb_nt (by omega) ?_) | (refine cb_nf (by omega) ?_) | (refine cb_t (by assumption) ?_) | (refine cb_f (by assumption) ?_) | (refine i_lt (by omega) ?_) | (refine i_le (by omega) ?_) | (refine i_cut (by omega) ?_) | (refine And.intro (by omega) ?_) | (refine And.intro trivial ?_) | (refine And.intro (by decide) ?_) | (refine And.intro (Nat.le_of_ble_eq_true rfl) ?_))
    have he : l.length = m.length := by omega
    refine loop_of Nat (fun k => ⟨[(0, .sl 1 (strE l)), (1, .sl 1 (strE m)), (5, .int .i64 (k : Int))], [], 2⟩) (fun k => k ≤ l.length ∧ l.take k = m.take k) (fun k => l.length - k) 0 ⟨by omega, rfl⟩ ?_ ?_
    · (refine le_auto (by rfl) ?_ ?_) <;> repeat' (first | (exact trivial) | (with_reducible rfl) | (exact (rfl : _ = true)) | (exact (rfl : _ = some _)) | (exact (rfl : _ = none)) | (refine And.intro ?_ ?_) | ((show (_ : Int) = _); omega) | ((fail_if_success (with_reducible (show _ = _))); (show _ = _)))
    · rintro k ⟨hk, hp⟩
      by_cases hlt : k < l.length
      · have hk2 : k < m.length := by omega
        repeat ((try conv => whnf); first | (refine i_at (s_get hlt) ?_) | (refine i_at (s_get hk2) ?_) | (refine And.intro rfl ?_) | (refine w_addn (by omega) ?_) | (refine w_subn (by omega) ?_) | (refine w_add (by omega) ?_) | (refine w_sub (by omega) ?_) | (refine w_any (by omega) ?_) | (refine Exists.intro _ (And.intro rfl ?_)) | (with_reducible (refine cb_t rfl ?_)) | (with_reducible (refine cb_f rfl ?_)) | (refine cb_dt (by omega) ?_) | (refine cb_df (by omega) ?_) | (refine cb_nt (by omega) ?_) | (refine cb_nf (by omega) ?_) | (refine cb_t (by assumption) ?_) | (refine cb_f (by assumption) ?_) | (refine i_lt (by omega) ?_) | (refine i_le (by omega) ?_) | (refine i_cut (by omega) ?_) | (refine And.intro (by omega) ?_) | (refine And.intro trivial ?_) | (refine And.intro (by decide) ?_) | (refine And.intro (Nat.le_of_ble_eq_true rfl) ?_))
        ((try conv => whnf); first | (refine cb_d (fun h => ?_) (fun h => ?_)) | (refine cb_n (fun h => ?_) (fun h => ?_)) | (refine cb (fun h => ?_) (fun h => ?_)))
        · have hne : sAt l k ≠ sAt m k := h
          repeat ((try conv => whnf); first | (refine And.intro rfl ?_) | (refine w_addn (by omega) ?_) | (refine w_subn (by omega) ?_) | (refine w_add (by omega) ?_) | (refine w_sub (by omega) ?_) | (refine w_any (by omega) ?_) | (refine Exists.intro _ (And.intro rfl ?_)) | (with_reducible (refine cb_t rfl ?_)) | (with_reducible (refine cb_f rfl ?_)) | (refine cb_dt (by omega) ?_) | (refine cb_df (by omega) ?_) | (refine cb_nt (by omega) ?_) | (refine cb_nf (by omega) ?_) | (refine cb_t (by assumption) ?_) | (refine cb_f (by assumption) ?_) | (refine i_lt (by omega) ?_) | (refine i_le (by omega) ?_) | (refine i_cut (by omega) ?_) | (refine And.intro (by omega) ?_) | (refine And.intro trivial ?_) | (refine And.intro (by decide) ?_) | (refine And.intro (Nat.le_of_ble_eq_true rfl) ?_))
          (refine ans_auto (by rfl) ?_ ?_ (by rfl)) <;> repeat' (first | (exact trivial) | (with_reducible rfl) | (exact (rfl : _ = true)) | (exact (rfl : _ = some _)) | (exact (rfl : _ = none)) | (refine And.intro ?_ ?_) | ((show (_ : Int) = _); omega) | ((fail_if_success (with_reducible (show _ = _))); (show _ = _)))
          have : l ≠ m := fun e => by subst e; exact hne rfl
          simp [this]
        · have heq : sAt l k = sAt m k := h
          repeat ((try conv => whnf); first | (refine And.intro rfl ?_) | (refine w_addn (by omega) ?_) | (refine w_subn (by omega) ?_) | (refine w_add (by omega) ?_) | (refine w_sub (by omega) ?_) | (refine w_any (by omega) ?_) | (refine Exists.intro _ (And.intro rfl ?_)) | (with_reducible (refine cb_t rfl ?_)) | (with_reducible (refine cb_f rfl ?_)) | (refine cb_dt (by omega) ?_) | (refine cb_df (by omega) ?_) | (refine cb_nt (by omega) ?_) | (refine cb_nf (by omega) ?_) | (refine cb_t (by assumption) ?_) | (refine cb_f (by assumption) ?_) | (refine i_lt (by omega) ?_) | (refine i_le (by omega) ?_) | (refine i_cut (by omega) ?_) | (refine And.intro (by omega) ?_) | (refine And.intro trivial ?_) | (refine And.intro (by decide) ?_) | (refine And.intro (Nat.le_of_ble_eq_true rfl) ?_))
          refine ⟨k + 1, ⟨by omega, ?_⟩, by omega, ?_⟩
          · rw [s_next l k hlt, s_next m k hk2, hp, heq]
          · (refine le_auto (by rfl) ?_ ?_) <;> repeat' (first | (exact trivial) | (with_reducible rfl) | (exact (rfl : _ = true)) | (exact (rfl : _ = some _)) | (exact (rfl : _ = none)) | (refine And.intro ?_ ?_) | ((show (_ : Int) = _); omega) | ((fail_if_success (with_reducible (show _ = _))); (show _ = _)))
      · obtain rfl : k = l.length := by omega
        have hlm : l = m := by
          rw [List.take_length] at hp
          rw [hp, he, List.take_length]
        repeat ((try conv => whnf); first | (refine And.intro rfl ?_) | (refine w_addn (by omega) ?_) | (refine w_subn (by omega) ?_) | (refine w_add (by omega) ?_) | (refine w_sub (by omega) ?_) | (refine w_any (by omega) ?_) | (refine Exists.intro _ (And.intro rfl ?_)) | (with_reducible (refine cb_t rfl ?_)) | (with_reducible (refine cb_f rfl ?_)) | (refine cb_dt (by omega) ?_) | (refine cb_df (by omega) ?_) | (refine cb_nt (by omega) ?_) | (refine cb_nf (by omega) ?_) | (refine cb_t (by assumption) ?_) | (refine cb_f (by assumption) ?_) | (refine i_lt (by omega) ?_) | (refine i_le (by omega) ?_) | (refine i_cut (by omega) ?_) | (refine And.intro (by omega) ?_) | (refine And.intro trivial ?_) | (refine And.intro (by decide) ?_) | (refine And.intro (Nat.le_of_ble_eq_true rfl) ?_))
        (refine ans_auto (by rfl) ?_ ?_ (by rfl)) <;> repeat' (first | (exact trivial) | (with_reducible rfl) | (exact (rfl : _ = true)) | (exact (rfl : _ = some _)) | (exact (rfl : _ = none)) | (refine And.intro ?_ ?_) | ((show (_ : Int) = _); omega) | ((fail_if_success (with_reducible (show _ = _))); (show _ = _)))
        simp [hlm]

/-! ### marks -/
def mLv (k n : Nat) : List Lf := (List.range n).map fun i => (markText (k + 2 * i), markText (k + 2 * i + 1))
def mStr (k n : Nat) : List Bs := (List.range n).map fun i => markText (k + i)
theorem mLv_len (k n : Nat) : (mLv k n).length = n := by simp [mLv]
theorem mStr_len (k n : Nat) : (mStr k n).length = n := by simp [mStr]
theorem mLv_succ (k n : Nat) : mLv k (n + 1) = mLv k n ++ [(markText (k + 2 * n), markText (k + 2 * n + 1))] := by simp [mLv, List.range_succ]
theorem mStr_succ (k n : Nat) : mStr k (n + 1) = mStr k n ++ [markText (k + n)] := by simp [mStr, List.range_succ]
theorem mLv_at {k n i : Nat} (h : i < n) : lfAt (mLv k n) i = (markText (k + 2 * i), markText (k + 2 * i + 1)) := by
  rw [lf_at (by rw [mLv_len]; exact h)]; simp [mLv]
theorem mStr_at {k n i : Nat} (h : i < n) : sAt (mStr k n) i = markText (k + i) := by
  rw [s_at (by rw [mStr_len]; exact h)]; simp [mStr]
theorem set_mid {α : Type} {a : List α} {x y : α} {b : List α} {i : Nat} (h : a.length = i) : (a ++ x :: b).set i y = a ++ y :: b := by
  subst h; simp
end Go.Proofs.YtigfpjnjjndenaaDoor
