/- Functions by content: disks, framed records, the texts of a log. Functions by content: the records of a file, the texts of a log. -/
import Derived.Test.YtmmnkndmlkhmhaaGreatDoorExT
import Derived.Test.YtmmnkndmlkhmhaaGreatDoorPlog
import Derived.Test.YtmmnkndmlkhmhaaGreatDoorSums
import Derived.Test.YtmmnkndmlkhmhaaGreatDoorFFJ
import Derived.Test.YtmmnkndmlkhmhaaGreatDoorGA
import Derived.Test.YtmmnkndmlkhmhaaGreatDoorV22
namespace Go.Proofs.YtmmnkndmlkhmhaaGreatDoor
open Go.RowKit Pl
set_option linter.unusedVariables false
set_option linter.unusedSimpArgs false
attribute [local irreducible] CondB CallP LoopW AnsP LeP

def flE (l : List Fl) : List (List T) := l.map fun f => [.str f.1, .str f.2.1, .int .i64 f.2.2]
theorem fl_len (l : List Fl) : (flE l).length = l.length := by simp [flE]
theorem fl_get {l : List Fl} {k : Nat} (h : k < l.length) : (flE l)[k]? = some [.str (flAt l k).1, .str (flAt l k).2.1, .int .i64 (flAt l k).2.2] := by
  rw [fl_at h]; simp [flE, List.getElem?_eq_getElem h]
def FlFit (l : List Fl) : Prop := (l.length : Int) ≤ 100000000 ∧ ∀ k, ((flAt l k).1.length : Int) ≤ 100000000 ∧ ((flAt l k).2.1.length : Int) ≤ 100000000
theorem c_isFileName (s : Bs) (h : (s.length : Int) ≤ 1000000000) : CT Tryz.prog 363 [] [.str s] (.bool (inB (s.length : Int) 1 8)) [] := by
  have c1 := c_in (s.length : Int) 1 8
  generalize inB (s.length : Int) 1 8 = b at c1 ⊢
  refine ct_intro ttE_ok 1 rfl Tryz.func363 rfl rfl rfl ?_
  repeat ((try conv => whnf); first | (refine ccA ([]) (c1) ?_) | (refine stpQ ?_))
  (refine ans_auto (by rfl) ?_ ?_ (by rfl)) <;> (repeat' (first | (exact eqA) | (refine And.intro ?_ ?_) | ((fail_if_success (with_reducible (show _ = _))); (show _ = _))))
theorem c_l06Name (s : Bs) (h : (s.length : Int) ≤ 1000000000) : CT Tryz.prog 357 [] [.str s] (.bool (inB (s.length : Int) 1 8)) [] := by
  have c1 := c_l01In (s.length : Int) 1 8
  generalize inB (s.length : Int) 1 8 = b at c1 ⊢
  refine ct_intro ttE_ok 1 rfl Tryz.func357 rfl rfl rfl ?_
  repeat ((try conv => whnf); first | (refine ccA ([]) (c1) ?_) | (refine stpQ ?_))
  (refine ans_auto (by rfl) ?_ ?_ (by rfl)) <;> (repeat' (first | (exact eqA) | (refine And.intro ?_ ?_) | ((fail_if_success (with_reducible (show _ = _))); (show _ = _))))
theorem pos_dec2 (k : Nat) : (k == 0) = !decide ((k : Int) > 0) := by cases k <;> simp <;> omega
set_option maxRecDepth 100000 in
set_option maxHeartbeats 2000000 in
theorem c_DiskOk (l : List Fl) (hf : FlFit l) : CT Tryz.prog 288 [] [.agg [.sl 3 (flE l)]] (.bool (diskOk l)) [] := by
  have hlen := fl_len l
  have hl := hf.1
  refine ct_intro ttE_ok 1 rfl Tryz.func288 rfl rfl rfl ?_
  repeat ((try conv => whnf); first | (refine stpQ ?_))
  refine loop_of Nat (fun k => ⟨[(1, .ptr 1 0 0), (6, .sl 3 (flE l)), (7, .int .i64 ((flE l).length : Int)), (8, .int .i64 (k : Int))], [(1, some (.box [.sl 3 (flE l)]))], 2⟩) (fun k => k ≤ l.length ∧ ∀ j, j < k → stepF l j = true) (fun k => l.length - k) 0 ⟨by omega, fun j hj => by omega⟩ ?_ ?_
  · (refine le_auto (by rfl) ?_ ?_) <;> repeat' (first | (exact eqA) | (refine And.intro ?_ ?_) | ((fail_if_success (with_reducible (show _ = _))); (show _ = _)))
  · intro k hx
    have hk : k ≤ l.length := hx.1
    have hp : ∀ j, j < k → stepF l j = true := hx.2
    clear hx
    have hz := pos_dec2 k
    have hfk := hf.2 k
    have c1 := c_isFileName (flAt l k).1 (by omega)
    have c2 := c_in (flAt l k).2.2 0 ((flAt l k).2.1.length : Int)
    repeat ((try conv => whnf); first | (refine stpQ ?_))
    ((try conv => whnf); first | (refine cb_d (fun h => ?_) (fun h => ?_)) | (refine cb_n (fun h => ?_) (fun h => ?_)) | (refine cb (fun h => ?_) (fun h => ?_)))
    · have hlt : k < l.length := by omega
      have next : stepF l k = true → ∀ j, j < k + 1 → stepF l j = true := fun hx j hj => by
        by_cases hjk : j = k
        · subst hjk; exact hx
        · exact hp j (by omega)
      repeat' (first | ((try conv => whnf); first | (refine i_at (fl_get hlt) ?_) | (refine i_at (fl_get (show k - 1 < l.length by omega)) ?_) | (refine ccA ([]) (c1) ?_) | (refine ccA ([]) (c2) ?_) | (refine stpQ ?_)) | ((try conv => whnf); first | (refine cb_d (fun h => ?_) (fun h => ?_)) | (refine cb_n (fun h => ?_) (fun h => ?_)) | (refine cb (fun h => ?_) (fun h => ?_))))
      all_goals first
        | (refine ⟨k + 1, ⟨by omega, next (by (simp_all [stepF, ltB]); first | done | omega | fail)⟩, by omega, ?_⟩
           (refine le_auto (by rfl) ?_ ?_) <;> repeat' (first | (exact eqA) | (refine And.intro ?_ ?_) | ((fail_if_success (with_reducible (show _ = _))); (show _ = _))))
        | (rw [diskOk_bad hlt (by (simp_all [stepF, ltB]); first | done | omega | fail)]
           (refine ans_auto (by rfl) ?_ ?_ (by rfl)) <;> repeat' (first | (exact eqA) | (refine And.intro ?_ ?_) | ((fail_if_success (with_reducible (show _ = _))); (show _ = _))))
        | (rw [diskOk_bad hlt (by (simp_all [stepF, ltB]); first | done | omega | fail)]
           (refine ans_auto (by rfl) ?_ ?_ (by rfl)) <;> repeat' (first | (exact eqA) | (refine And.intro ?_ ?_) | ((fail_if_success (with_reducible (show _ = _))); (show _ = _))))
    · have hke : k = l.length := by omega
      repeat ((try conv => whnf); first | (refine stpQ ?_))
      by_cases h30 : l.length ≤ 30
      · rw [diskOk_good h30 (fun j hj => hp j (by omega))]
        (refine ans_auto (by rfl) ?_ ?_ (by rfl)) <;> repeat' (first | (exact eqA) | (refine And.intro ?_ ?_) | ((fail_if_success (with_reducible (show _ = _))); (show _ = _)))
        simp; omega
      · rw [diskOk_long (by omega)]
        (refine ans_auto (by rfl) ?_ ?_ (by rfl)) <;> repeat' (first | (exact eqA) | (refine And.intro ?_ ?_) | ((fail_if_success (with_reducible (show _ = _))); (show _ = _)))
        simp; omega
set_option maxRecDepth 100000 in
set_option maxHeartbeats 2000000 in
theorem c_sDiskOk (l : List Fl) (hf : FlFit l) : CT Tryz.prog 276 [] [.agg [.sl 3 (flE l)]] (.bool (diskOk l)) [] := by
  have hlen := fl_len l
  have hl := hf.1
  refine ct_intro ttE_ok 1 rfl Tryz.func276 rfl rfl rfl ?_
  repeat ((try conv => whnf); first | (refine stpQ ?_))
  ((try conv => whnf); first | (refine cb_d (fun h => ?_) (fun h => ?_)) | (refine cb_n (fun h => ?_) (fun h => ?_)) | (refine cb (fun h => ?_) (fun h => ?_)))
  · have h30 : 30 < l.length := by omega
    repeat ((try conv => whnf); first | (refine stpQ ?_))
    rw [diskOk_long h30]
    (refine ans_auto (by rfl) ?_ ?_ (by rfl)) <;> repeat' (first | (exact eqA) | (refine And.intro ?_ ?_) | ((fail_if_success (with_reducible (show _ = _))); (show _ = _)))
  have h30 : l.length ≤ 30 := by omega
  repeat ((try conv => whnf); first | (refine stpQ ?_))
  refine loop_of Nat (fun k => ⟨[(1, .ptr 1 0 0), (3, .int .i64 (k : Int))], [(1, some (.box [.sl 3 (flE l)]))], 2⟩) (fun k => k ≤ l.length ∧ ∀ j, j < k → stepF l j = true) (fun k => l.length - k) 0 ⟨by omega, fun j hj => by omega⟩ ?_ ?_
  · (refine le_auto (by rfl) ?_ ?_) <;> repeat' (first | (exact eqA) | (refine And.intro ?_ ?_) | ((fail_if_success (with_reducible (show _ = _))); (show _ = _)))
  · intro k hx
    have hk : k ≤ l.length := hx.1
    have hp : ∀ j, j < k → stepF l j = true := hx.2
    clear hx
    have hz := pos_dec2 k
    have hfk := hf.2 k
    have c1 := c_l06Name (flAt l k).1 (by omega)
    have c2 := c_l01In (flAt l k).2.2 0 ((flAt l k).2.1.length : Int)
    repeat ((try conv => whnf); first | (refine stpQ ?_))
    ((try conv => whnf); first | (refine cb_d (fun h => ?_) (fun h => ?_)) | (refine cb_n (fun h => ?_) (fun h => ?_)) | (refine cb (fun h => ?_) (fun h => ?_)))
    · have hlt : k < l.length := by omega
      have next : stepF l k = true → ∀ j, j < k + 1 → stepF l j = true := fun hx j hj => by
        by_cases hjk : j = k
        · subst hjk; exact hx
        · exact hp j (by omega)
      repeat' (first | ((try conv => whnf); first | (refine i_at (fl_get hlt) ?_) | (refine i_at (fl_get (show k - 1 < l.length by omega)) ?_) | (refine ccA ([]) (c1) ?_) | (refine ccA ([]) (c2) ?_) | (refine stpQ ?_)) | ((try conv => whnf); first | (refine cb_d (fun h => ?_) (fun h => ?_)) | (refine cb_n (fun h => ?_) (fun h => ?_)) | (refine cb (fun h => ?_) (fun h => ?_))))
      all_goals first
        | (refine ⟨k + 1, ⟨by omega, next (by (simp_all [stepF, ltB]); first | done | omega | fail)⟩, by omega, ?_⟩
           (refine le_auto (by rfl) ?_ ?_) <;> repeat' (first | (exact eqA) | (refine And.intro ?_ ?_) | ((fail_if_success (with_reducible (show _ = _))); (show _ = _))))
        | (rw [diskOk_bad hlt (by (simp_all [stepF, ltB]); first | done | omega | fail)]
           (refine ans_auto (by rfl) ?_ ?_ (by rfl)) <;> repeat' (first | (exact eqA) | (refine And.intro ?_ ?_) | ((fail_if_success (with_reducible (show _ = _))); (show _ = _))))
        | (rw [diskOk_bad hlt (by (simp_all [stepF, ltB]); first | done | omega | fail)]
           (refine ans_auto (by rfl) ?_ ?_ (by rfl)) <;> repeat' (first | (exact eqA) | (refine And.intro ?_ ?_) | ((fail_if_success (with_reducible (show _ = _))); (show _ = _))))
    · have hke : k = l.length := by omega
      repeat ((try conv => whnf); first | (refine stpQ ?_))
      rw [diskOk_good h30 (fun j hj => hp j (by omega))]
      (refine ans_auto (by rfl) ?_ ?_ (by rfl)) <;> repeat' (first | (exact eqA) | (refine And.intro ?_ ?_) | ((fail_if_success (with_reducible (show _ = _))); (show _ = _)))
set_option maxRecDepth 100000 in
set_option maxHeartbeats 1000000 in
theorem c_fileAt (l : List Fl) (n : Bs) (hl : (l.length : Int) ≤ 100000000) : CT Tryz.prog 362 [] [.agg [.sl 3 (flE l)], .str n] (.int .i64 (ixI (fileIx l n))) [] := by
  have hlen := fl_len l
  refine ct_intro ttE_ok 1 rfl Tryz.func362 rfl rfl rfl ?_
  repeat ((try conv => whnf); first | (refine stpQ ?_))
  refine loop_of Nat (fun k => ⟨[(1, .str n), (8, .sl 3 (flE l)), (9, .int .i64 ((flE l).length : Int)), (10, .int .i64 (k : Int))], [], 1⟩) (fun k => k ≤ l.length ∧ ∀ j, j < k → (flAt l j).1 ≠ n) (fun k => l.length - k) 0 ⟨by omega, fun j hj => by omega⟩ ?_ ?_
  · (refine le_auto (by rfl) ?_ ?_) <;> repeat' (first | (exact eqA) | (refine And.intro ?_ ?_) | ((fail_if_success (with_reducible (show _ = _))); (show _ = _)))
  · intro k hx
    have hk : k ≤ l.length := hx.1
    have hp : ∀ j, j < k → (flAt l j).1 ≠ n := hx.2
    clear hx
    by_cases hlt : k < l.length
    · have hlt2 : (k : Int) < ((flE l).length : Int) := by omega
      by_cases he : (flAt l k).1 = n
      · rw [ix_some hlt hp he]
        repeat ((try conv => whnf); first | (refine i_at (fl_get hlt) ?_) | (refine cb_dt he ?_) | (refine stpQ ?_))
        (refine ans_auto (by rfl) ?_ ?_ (by rfl)) <;> (repeat' (first | (exact eqA) | (refine And.intro ?_ ?_) | ((fail_if_success (with_reducible (show _ = _))); (show _ = _)))) <;> rfl
      · repeat ((try conv => whnf); first | (refine i_at (fl_get hlt) ?_) | (refine cb_df he ?_) | (refine stpQ ?_))
        refine ⟨k + 1, ⟨by omega, fun j hj => ?_⟩, by omega, ?_⟩
        · by_cases hjk : j = k
          · subst hjk; exact he
          · exact hp j (by omega)
        · (refine le_auto (by rfl) ?_ ?_) <;> repeat' (first | (exact eqA) | (refine And.intro ?_ ?_) | ((fail_if_success (with_reducible (show _ = _))); (show _ = _)))
    · rw [ix_none (fun j hj => hp j (by omega))]
      repeat ((try conv => whnf); first | (refine stpQ ?_))
      (refine ans_auto (by rfl) ?_ ?_ (by rfl)) <;> (repeat' (first | (exact eqA) | (refine And.intro ?_ ?_) | ((fail_if_success (with_reducible (show _ = _))); (show _ = _)))) <;> rfl
set_option maxRecDepth 100000 in
set_option maxHeartbeats 1000000 in
theorem c_l06At (l : List Fl) (n : Bs) (hl : (l.length : Int) ≤ 100000000) : CT Tryz.prog 358 [] [.agg [.sl 3 (flE l)], .str n] (.int .i64 (ixI (fileIx l n))) [] := by
  have hlen := fl_len l
  refine ct_intro ttE_ok 1 rfl Tryz.func358 rfl rfl rfl ?_
  repeat ((try conv => whnf); first | (refine stpQ ?_))
  refine loop_of Nat (fun k => ⟨[(1, .str n), (2, .ptr 1 0 0), (5, .int .i64 (k : Int))], [(1, some (.box [.sl 3 (flE l)]))], 2⟩) (fun k => k ≤ l.length ∧ ∀ j, j < k → (flAt l j).1 ≠ n) (fun k => l.length - k) 0 ⟨by omega, fun j hj => by omega⟩ ?_ ?_
  · (refine le_auto (by rfl) ?_ ?_) <;> repeat' (first | (exact eqA) | (refine And.intro ?_ ?_) | ((fail_if_success (with_reducible (show _ = _))); (show _ = _)))
  · intro k hx
    have hk : k ≤ l.length := hx.1
    have hp : ∀ j, j < k → (flAt l j).1 ≠ n := hx.2
    clear hx
    by_cases hlt : k < l.length
    · have hlt2 : (k : Int) < ((flE l).length : Int) := by omega
      by_cases he : (flAt l k).1 = n
      · rw [ix_some hlt hp he]
        repeat ((try conv => whnf); first | (refine i_at (fl_get hlt) ?_) | (refine cb_dt he ?_) | (refine stpQ ?_))
        (refine ans_auto (by rfl) ?_ ?_ (by rfl)) <;> (repeat' (first | (exact eqA) | (refine And.intro ?_ ?_) | ((fail_if_success (with_reducible (show _ = _))); (show _ = _)))) <;> rfl
      · repeat ((try conv => whnf); first | (refine i_at (fl_get hlt) ?_) | (refine cb_df he ?_) | (refine stpQ ?_))
        refine ⟨k + 1, ⟨by omega, fun j hj => ?_⟩, by omega, ?_⟩
        · by_cases hjk : j = k
          · subst hjk; exact he
          · exact hp j (by omega)
        · (refine le_auto (by rfl) ?_ ?_) <;> repeat' (first | (exact eqA) | (refine And.intro ?_ ?_) | ((fail_if_success (with_reducible (show _ = _))); (show _ = _)))
    · rw [ix_none (fun j hj => hp j (by omega))]
      repeat ((try conv => whnf); first | (refine stpQ ?_))
      (refine ans_auto (by rfl) ?_ ?_ (by rfl)) <;> (repeat' (first | (exact eqA) | (refine And.intro ?_ ?_) | ((fail_if_success (with_reducible (show _ = _))); (show _ = _)))) <;> rfl
def fgT : Option Bs → T
  | some t => .tup [.str t, .bool true]
  | none => .tup [.str [], .bool false]
set_option maxRecDepth 100000 in
set_option maxHeartbeats 1000000 in
theorem c_FileAt (l : List Fl) (n : Bs) (hl : (l.length : Int) ≤ 100000000) : CT Tryz.prog 287 [] [.agg [.sl 3 (flE l)], .str n] (fgT (fileGet l n)) [] := by
  have c1 := c_fileAt l n hl
  unfold fileGet
  have hlt := @ix_lt l n
  generalize fileIx l n = o at c1 hlt ⊢
  cases o with
  | none =>
    show CT _ _ _ _ (.tup [.str [], .bool false]) []
    have c1 : CT Tryz.prog 362 [] [.agg [.sl 3 (flE l)], .str n] (.int .i64 (-1)) [] := c1
    refine ct_intro ttE_ok 1 rfl Tryz.func287 rfl rfl rfl ?_
    repeat ((try conv => whnf); first | (refine ccA ([]) (c1) ?_) | (refine stpQ ?_))
    (refine ans_auto (by rfl) ?_ ?_ (by rfl)) <;> repeat' (first | (exact eqA) | (refine And.intro ?_ ?_) | ((fail_if_success (with_reducible (show _ = _))); (show _ = _)))
  | some k =>
    have h := hlt rfl
    show CT _ _ _ _ (.tup [.str (flAt l k).2.1, .bool true]) []
    have c1 : CT Tryz.prog 362 [] [.agg [.sl 3 (flE l)], .str n] (.int .i64 (k : Int)) [] := c1
    refine ct_intro ttE_ok 1 rfl Tryz.func287 rfl rfl rfl ?_
    repeat ((try conv => whnf); first | (refine ccA ([]) (c1) ?_) | (refine i_at (fl_get h) ?_) | (refine stpQ ?_))
    (refine ans_auto (by rfl) ?_ ?_ (by rfl)) <;> repeat' (first | (exact eqA) | (refine And.intro ?_ ?_) | ((fail_if_success (with_reducible (show _ = _))); (show _ = _)))
set_option maxRecDepth 100000 in
set_option maxHeartbeats 1000000 in
theorem c_sFileAt (l : List Fl) (n : Bs) (hl : (l.length : Int) ≤ 100000000) : CT Tryz.prog 277 [] [.agg [.sl 3 (flE l)], .str n] (fgT (fileGet l n)) [] := by
  have c1 := c_l06At l n hl
  unfold fileGet
  have hlt := @ix_lt l n
  generalize fileIx l n = o at c1 hlt ⊢
  cases o with
  | none =>
    show CT _ _ _ _ (.tup [.str [], .bool false]) []
    have c1 : CT Tryz.prog 358 [] [.agg [.sl 3 (flE l)], .str n] (.int .i64 (-1)) [] := c1
    refine ct_intro ttE_ok 1 rfl Tryz.func277 rfl rfl rfl ?_
    repeat ((try conv => whnf); first | (refine ccA ([]) (c1) ?_) | (refine stpQ ?_))
    (refine ans_auto (by rfl) ?_ ?_ (by rfl)) <;> repeat' (first | (exact eqA) | (refine And.intro ?_ ?_) | ((fail_if_success (with_reducible (show _ = _))); (show _ = _)))
  | some k =>
    have h := hlt rfl
    show CT _ _ _ _ (.tup [.str (flAt l k).2.1, .bool true]) []
    have c1 : CT Tryz.prog 358 [] [.agg [.sl 3 (flE l)], .str n] (.int .i64 (k : Int)) [] := c1
    refine ct_intro ttE_ok 1 rfl Tryz.func277 rfl rfl rfl ?_
    repeat ((try conv => whnf); first | (refine ccA ([]) (c1) ?_) | (refine i_at (fl_get h) ?_) | (refine stpQ ?_))
    (refine ans_auto (by rfl) ?_ ?_ (by rfl)) <;> repeat' (first | (exact eqA) | (refine And.intro ?_ ?_) | ((fail_if_success (with_reducible (show _ = _))); (show _ = _)))

/-! ### framed records -/
theorem c_iSum (s : Bs) (hs : (s.length : Int) ≤ 1000000000) : CT Tryz.prog 364 [] [.str s] (.int .u32 ((sumOf s : Nat) : Int)) [] :=
  old_ct ⟨_, Tryz.func364, rfl, rfl⟩ rfl (fun X => mk_int X _ _) fun w => by
    have h := sumOf_any (bs s) w (by rw [bs_size]; exact hs)
    rw [bs_data] at h
    exact h.mono fun e w' ⟨h1, h2⟩ => ⟨h1, h2 ▸ Below.refl _ _⟩
theorem c_sSum (s : Bs) (hs : (s.length : Int) ≤ 1000000000) : CT Tryz.prog 406 [] [.str s] (.int .u32 ((sumOf s : Nat) : Int)) [] :=
  old_ct ⟨_, Tryz.func406, rfl, rfl⟩ rfl (fun X => mk_int X _ _) fun w => by
    have h := sSumOf_any (bs s) w (by rw [bs_size]; exact hs)
    rw [bs_data] at h
    exact h.mono fun e w' ⟨h1, h2⟩ => ⟨h1, h2 ▸ Below.refl _ _⟩
theorem c_iFour (x : Nat) (hx : (x : Int) ≤ 4294967295) : CT Tryz.prog 271 [] [.int .u32 (x : Int)] (.str (fourB x)) [] :=
  old_ct ⟨_, Tryz.func271, rfl, rfl⟩ rfl (fun X => mk_str X _) fun w => sfourBytes_any x w hx
theorem c_sFour (x : Nat) (hx : (x : Int) ≤ 4294967295) : CT Tryz.prog 405 [] [.int .u32 (x : Int)] (.str (fourB x)) [] :=
  old_ct ⟨_, Tryz.func405, rfl, rfl⟩ rfl (fun X => mk_str X _) fun w => sSfourBytes_any x w hx

set_option maxRecDepth 100000 in
set_option maxHeartbeats 1000000 in
theorem c_sFrame (t : Bs) (ht : (t.length : Int) ≤ 100000000) : CT Tryz.prog 360 [] [.str t] (.tup [.str (if 1 ≤ t.length ∧ t.length ≤ 9000 then frameB t else []), .bool (decide (1 ≤ t.length ∧ t.length ≤ 9000))]) [] := by
  have c0 := c_l01In (t.length : Int) 1 9000
  by_cases h : 1 ≤ t.length ∧ t.length ≤ 9000
  · rw [inB_iff.2 ⟨by omega, by omega⟩] at c0
    rw [if_pos h, decide_eq_true h]
    have c1 := c_sVar t.length (by omega)
    have c2 := c_sSum t (by omega)
    have hsl := sumOf_lt t
    have c3 := c_sFour (sumOf t) (by omega)
    have hv := varText_len (n := t.length) (by omega)
    have hfl := fourB_len (sumOf t)
    unfold frameB
    generalize varText t.length = v at c1 hv ⊢
    generalize sumOf t = s at c2 c3 hfl hsl ⊢
    generalize fourB s = f at c3 hfl ⊢
    refine ct_intro ttE_ok 1 rfl Tryz.func360 rfl rfl rfl ?_
    repeat ((try conv => whnf); first | (refine ccA ([]) (c0) ?_) | (refine ccA ([]) (c1) ?_) | (refine ccA ([]) (c2) ?_) | (refine ccA ([]) (c3) ?_) | (refine And.intro (by simp only [List.length_append]; omega) ?_) | (refine stpQ ?_))
    (refine ans_auto (by rfl) ?_ ?_ (by rfl)) <;> repeat' (first | (exact eqA) | (refine And.intro ?_ ?_) | ((fail_if_success (with_reducible (show _ = _))); (show _ = _)))
  · have hn : inB (t.length : Int) 1 9000 = false := by
      cases hb : inB (t.length : Int) 1 9000
      · rfl
      · rw [inB_iff] at hb; omega
    rw [hn] at c0
    rw [if_neg h, decide_eq_false h]
    refine ct_intro ttE_ok 1 rfl Tryz.func360 rfl rfl rfl ?_
    repeat ((try conv => whnf); first | (refine ccA ([]) (c0) ?_) | (refine stpQ ?_))
    (refine ans_auto (by rfl) ?_ ?_ (by rfl)) <;> repeat' (first | (exact eqA) | (refine And.intro ?_ ?_) | ((fail_if_success (with_reducible (show _ = _))); (show _ = _)))
end Go.Proofs.YtmmnkndmlkhmhaaGreatDoor
namespace Go.Proofs.YtmmnkndmlkhmhaaGreatDoor
open Go.RowKit Pl
set_option linter.unusedVariables false
set_option linter.unusedSimpArgs false
attribute [local irreducible] CondB CallP LoopW AnsP LeP

theorem inB_no2 {n lo hi : Int} (h : ¬ (lo ≤ n ∧ n ≤ hi)) : inB n lo hi = false := by
  cases hb : inB n lo hi
  · rfl
  · exact absurd (inB_iff.1 hb) h
theorem inB_yes2 {n lo hi : Int} (h : lo ≤ n ∧ n ≤ hi) : inB n lo hi = true := inB_iff.2 h
theorem strE_app2 (a b : List Bs) : strE (a ++ b) = strE a ++ strE b := by simp [strE]
theorem cut2 (f : Bs) (q : Nat) : (f.take (q + 4)).drop q = (f.drop q).take 4 := by rw [List.drop_take]; congr 1; omega
theorem cut3 (f : Bs) (q n : Nat) : (f.take (q + 4 + n)).drop (q + 4) = (f.drop (q + 4)).take n := by rw [List.drop_take]; congr 1; omega
theorem cut4 (f : Bs) (p e : Nat) : (f.take e).drop p = (f.drop p).take (e - p) := by rw [List.drop_take]
set_option maxRecDepth 100000 in
set_option maxHeartbeats 4000000 in
theorem c_Unframe (f : Bs) (hf : (f.length : Int) ≤ 100000000) : CT Tryz.prog 289 [] [.str f] (.tup [.sl 1 (strE (unframe f).1), .int .i64 ((unframe f).2 : Int)]) [] := by
  by_cases hlong : 20000 < f.length
  · have e : unframe f = ([], 0) := by rw [unframe, if_pos hlong]
    rw [e]
    refine ct_intro ttE_ok 1 rfl Tryz.func289 rfl rfl rfl ?_
    repeat ((try conv => whnf); first | (refine stpQ ?_))
    (refine ans_auto (by rfl) ?_ ?_ (by rfl)) <;> (repeat' (first | (exact eqA) | (refine And.intro ?_ ?_) | ((fail_if_success (with_reducible (show _ = _))); (show _ = _)))) <;> rfl
  have hR0 : UfAt (unframe f) f (f.length + 1) [] 0 := by
    unfold UfAt
    rw [unframe, if_neg hlong]; simp
  generalize unframe f = R at hR0 ⊢
  have hn0 : ¬ (f.length : Int) > 20000 := by omega
  refine ct_intro ttE_ok 1 rfl Tryz.func289 rfl rfl rfl ?_
  repeat ((try conv => whnf); first | (refine stpQ ?_))
  refine loop_op (Nat × Nat × List Bs) (fun x => ⟨[(0, .str f), (4, .ref 1), (5, .int .i64 (x.2.1 : Int))], [(1, some (.row 1 (strE x.2.2)))], 2⟩) (fun x => x.2.1 ≤ f.length ∧ f.length < x.2.1 + x.1 ∧ x.2.2.length ≤ x.2.1 ∧ UfAt R f x.1 x.2.2 x.2.1) (fun x => f.length - x.2.1) (f.length + 1, 0, []) ⟨by simp, by simp, by simp, hR0⟩ ?_ ?_
  · (refine le_auto (by rfl) ?_ ?_) <;> (repeat' (first | (exact eqA) | (refine And.intro ?_ ?_) | ((fail_if_success (with_reducible (show _ = _))); (show _ = _)))) <;> first | rfl | decide
  · intro Q1 hQ1 x hx
    obtain ⟨k, p, o⟩ := x
    have hp : p ≤ f.length := hx.1
    have hk : f.length < p + k := hx.2.1
    have ho : o.length ≤ p := hx.2.2.1
    have hat : UfAt R f k o p := hx.2.2.2
    clear hx hR0
    have hol := strE_len o
    obtain ⟨k, rfl⟩ : ∃ m, k = m + 1 := ⟨k - 1, by omega⟩
    have c1 := c_ReadVar f p (by omega) hp
    cases hr : readVar f p with
    | none =>
      rw [hr] at c1
      have hst := hat.stop hr
      repeat ((try conv => whnf); first | (refine ccA ([]) (c1) ?_) | (refine stpQ ?_))
      refine hQ1 _ _ ?_
      (try conv => whnf)
      rw [hst]
      (refine ans_auto (by rfl) ?_ ?_ (by rfl)) <;> (repeat' (first | (exact eqA) | (refine And.intro ?_ ?_) | ((fail_if_success (with_reducible (show _ = _))); (show _ = _))))
    | some y =>
      obtain ⟨n, q⟩ := y
      rw [hr] at c1
      have hb := readVar_bounds hr
      have c2 := c_in (n : Int) 1 9000
      have e1 : IntKind.i64.wrap ((n : Int) + 4) = ((n + 4 : Nat) : Int) := by rw [wrap_i64 (by omega) (by omega)]; omega
      have e2 : IntKind.i64.wrap ((f.length : Int) - (q : Int)) = ((f.length - q : Nat) : Int) := by rw [wrap_i64 (by omega) (by omega)]; omega
      by_cases hin : 1 ≤ n ∧ n ≤ 9000
      · rw [inB_yes2 (by omega)] at c2
        by_cases hfit : n + 4 ≤ f.length - q
        · have hfit2 : ¬ ((n + 4 : Nat) : Int) > ((f.length - q : Nat) : Int) := by omega
          have c3 := c_iSum ((f.drop (q + 4)).take n) (by rw [List.length_take]; omega)
          have hsl := sumOf_lt ((f.drop (q + 4)).take n)
          have c4 := c_iFour (sumOf ((f.drop (q + 4)).take n)) hsl
          have h2 := cut2 f q
          have h3 := cut3 f q n
          by_cases hs : (f.drop q).take 4 = fourB (sumOf ((f.drop (q + 4)).take n))
          · have hnx := hat.step hr ⟨hin.1, hin.2, hfit, hs⟩
            rw [← h2] at hs
            rw [← h3] at hs c3 c4 hnx
            generalize sumOf ((f.take (q + 4 + n)).drop (q + 4)) = sm at c3 c4 hs
            repeat ((try conv => whnf); first | (refine ccA ([]) (c1) ?_) | (refine Exists.intro _ (And.intro e1.symm ?_)) | (refine Exists.intro _ (And.intro e2.symm ?_)) | (refine ccA ([]) (c2) ?_) | (refine ccA ([]) (c3) ?_) | (refine ccA ([]) (c4) ?_) | (refine cb_nf hs ?_) | (refine And.intro (by simp only [List.length_append, List.length_cons, List.length_nil, List.length_set, List.length_replicate]; omega) ?_) | (refine stpQ ?_))
            refine ⟨(k, q + 4 + n, o ++ [(f.take (q + 4 + n)).drop (q + 4)]), ⟨by show q + 4 + n ≤ f.length; omega, by show f.length < q + 4 + n + k; omega, by show (o ++ [_]).length ≤ q + 4 + n; simp; omega, hnx⟩, by show f.length - (q + 4 + n) < f.length - p; omega, ?_⟩
            (refine le_auto (by rfl) ?_ ?_) <;> (repeat' (first | (exact eqA) | (refine And.intro ?_ ?_) | ((fail_if_success (with_reducible (show _ = _))); (show _ = _))))
            all_goals first
              | exact (strE_app2 o [_]).symm
              | rfl
          · have hst := hat.bad hr (fun c => hs c.2.2.2)
            rw [← h2] at hs
            rw [← h3] at hs c3 c4
            generalize sumOf ((f.take (q + 4 + n)).drop (q + 4)) = sm at c3 c4 hs
            repeat ((try conv => whnf); first | (refine ccA ([]) (c1) ?_) | (refine Exists.intro _ (And.intro e1.symm ?_)) | (refine Exists.intro _ (And.intro e2.symm ?_)) | (refine ccA ([]) (c2) ?_) | (refine ccA ([]) (c3) ?_) | (refine ccA ([]) (c4) ?_) | (refine cb_nt hs ?_) | (refine stpQ ?_))
            refine hQ1 _ _ ?_
            (try conv => whnf)
            rw [hst]
            (refine ans_auto (by rfl) ?_ ?_ (by rfl)) <;> (repeat' (first | (exact eqA) | (refine And.intro ?_ ?_) | ((fail_if_success (with_reducible (show _ = _))); (show _ = _))))
        · have hfit2 : ((n + 4 : Nat) : Int) > ((f.length - q : Nat) : Int) := by omega
          have hst := hat.bad hr (fun c => hfit c.2.2.1)
          repeat ((try conv => whnf); first | (refine ccA ([]) (c1) ?_) | (refine Exists.intro _ (And.intro e1.symm ?_)) | (refine Exists.intro _ (And.intro e2.symm ?_)) | (refine ccA ([]) (c2) ?_) | (refine stpQ ?_))
          refine hQ1 _ _ ?_
          (try conv => whnf)
          rw [hst]
          (refine ans_auto (by rfl) ?_ ?_ (by rfl)) <;> (repeat' (first | (exact eqA) | (refine And.intro ?_ ?_) | ((fail_if_success (with_reducible (show _ = _))); (show _ = _))))
      · rw [inB_no2 (by omega)] at c2
        have hst := hat.bad hr (fun c => hin ⟨c.1, c.2.1⟩)
        repeat ((try conv => whnf); first | (refine ccA ([]) (c1) ?_) | (refine ccA ([]) (c2) ?_) | (refine stpQ ?_))
        refine hQ1 _ _ ?_
        (try conv => whnf)
        rw [hst]
        (refine ans_auto (by rfl) ?_ ?_ (by rfl)) <;> (repeat' (first | (exact eqA) | (refine And.intro ?_ ?_) | ((fail_if_success (with_reducible (show _ = _))); (show _ = _))))
set_option maxRecDepth 100000 in
set_option maxHeartbeats 4000000 in
theorem c_sUnframe (f : Bs) (hf : (f.length : Int) ≤ 100000000) : CT Tryz.prog 278 [] [.str f] (.tup [.sl 1 (strE (unframe f).1), .int .i64 ((unframe f).2 : Int)]) [] := by
  by_cases hlong : 20000 < f.length
  · have e : unframe f = ([], 0) := by rw [unframe, if_pos hlong]
    rw [e]
    refine ct_intro ttE_ok 1 rfl Tryz.func278 rfl rfl rfl ?_
    repeat ((try conv => whnf); first | (refine stpQ ?_))
    (refine ans_auto (by rfl) ?_ ?_ (by rfl)) <;> (repeat' (first | (exact eqA) | (refine And.intro ?_ ?_) | ((fail_if_success (with_reducible (show _ = _))); (show _ = _)))) <;> rfl
  have hR0 : UfAt (unframe f) f (f.length + 1) [] 0 := by
    unfold UfAt
    rw [unframe, if_neg hlong]; simp
  generalize unframe f = R at hR0 ⊢
  have hn0 : ¬ (f.length : Int) > 20000 := by omega
  refine ct_intro ttE_ok 1 rfl Tryz.func278 rfl rfl rfl ?_
  repeat ((try conv => whnf); first | (refine stpQ ?_))
  refine loop_op (Nat × Nat × List Bs) (fun x => ⟨[(0, .str f), (4, .ref 1), (5, .int .i64 (x.2.1 : Int))], [(1, some (.row 1 (strE x.2.2)))], 2⟩) (fun x => x.2.1 ≤ f.length ∧ f.length < x.2.1 + x.1 ∧ x.2.2.length ≤ x.2.1 ∧ UfAt R f x.1 x.2.2 x.2.1) (fun x => f.length - x.2.1) (f.length + 1, 0, []) ⟨by simp, by simp, by simp, hR0⟩ ?_ ?_
  · (refine le_auto (by rfl) ?_ ?_) <;> (repeat' (first | (exact eqA) | (refine And.intro ?_ ?_) | ((fail_if_success (with_reducible (show _ = _))); (show _ = _)))) <;> first | rfl | decide
  · intro Q1 hQ1 x hx
    obtain ⟨k, p, o⟩ := x
    have hp : p ≤ f.length := hx.1
    have hk : f.length < p + k := hx.2.1
    have ho : o.length ≤ p := hx.2.2.1
    have hat : UfAt R f k o p := hx.2.2.2
    clear hx hR0
    have hol := strE_len o
    obtain ⟨k, rfl⟩ : ∃ m, k = m + 1 := ⟨k - 1, by omega⟩
    by_cases hpl : p < f.length
    · have hpl2 : (p : Int) < (f.length : Int) := by omega
      have c1 := c_sReadVar f p (by omega) hp
      cases hr : readVar f p with
      | none =>
        rw [hr] at c1
        have hst := hat.stop hr
        repeat ((try conv => whnf); first | (refine ccA ([]) (c1) ?_) | (refine stpQ ?_))
        refine hQ1 _ _ ?_
        (try conv => whnf)
        rw [hst]
        (refine ans_auto (by rfl) ?_ ?_ (by rfl)) <;> (repeat' (first | (exact eqA) | (refine And.intro ?_ ?_) | ((fail_if_success (with_reducible (show _ = _))); (show _ = _))))
      | some y =>
        obtain ⟨n, q⟩ := y
        rw [hr] at c1
        have hb := readVar_bounds hr
        have e2 : IntKind.i64.wrap ((f.length : Int) - (q : Int)) = ((f.length - q : Nat) : Int) := by rw [wrap_i64 (by omega) (by omega)]; omega
        have e3 : IntKind.i64.wrap (((f.length - q : Nat) : Int) - 4) = ((f.length - q : Nat) : Int) - 4 := by rw [wrap_i64 (by omega) (by omega)]
        by_cases hfit : n + 4 ≤ f.length - q
        · have hfit2 : ¬ (n : Int) > ((f.length - q : Nat) : Int) - 4 := by omega
          have h3 := cut3 f q n
          have h4 := cut4 f p (q + 4 + n)
          have hiff := frame_iff hr hfit
          have hlen : ((f.drop (q + 4)).take n).length = n := by rw [List.length_take, List.length_drop]; omega
          have c2 := c_sFrame ((f.drop (q + 4)).take n) (by omega)
          by_cases hin : 1 ≤ n ∧ n ≤ 9000
          · rw [if_pos (by omega), decide_eq_true (by omega)] at c2
            by_cases hs : (f.drop q).take 4 = fourB (sumOf ((f.drop (q + 4)).take n))
            · have hnx := hat.step hr ⟨hin.1, hin.2, hfit, hs⟩
              have hs2 := hiff.2 hs
              rw [← h4, ← h3] at hs2
              rw [← h3] at c2 hnx
              generalize frameB ((f.take (q + 4 + n)).drop (q + 4)) = fr at c2 hs2
              repeat ((try conv => whnf); first | (refine ccA ([]) (c1) ?_) | (refine Exists.intro p (Exists.intro (q + 4 + n) (And.intro rfl (And.intro rfl (And.intro (show p ≤ q + 4 + n by omega) (And.intro (show q + 4 + n ≤ f.length by omega) ?_)))))) | (refine Exists.intro _ (And.intro e2.symm ?_)) | (refine Exists.intro _ (And.intro e3.symm ?_)) | (refine ccA ([]) (c2) ?_) | (refine cb_nf hs2 ?_) | (refine And.intro (by simp only [List.length_append, List.length_cons, List.length_nil, List.length_set, List.length_replicate]; omega) ?_) | (refine stpQ ?_))
              refine ⟨(k, q + 4 + n, o ++ [(f.take (q + 4 + n)).drop (q + 4)]), ⟨by show q + 4 + n ≤ f.length; omega, by show f.length < q + 4 + n + k; omega, by show (o ++ [_]).length ≤ q + 4 + n; simp; omega, hnx⟩, by show f.length - (q + 4 + n) < f.length - p; omega, ?_⟩
              (refine le_auto (by rfl) ?_ ?_) <;> (repeat' (first | (exact eqA) | (refine And.intro ?_ ?_) | ((fail_if_success (with_reducible (show _ = _))); (show _ = _))))
              all_goals first
                | exact (strE_app2 o [_]).symm
                | rfl
            · have hst := hat.bad hr (fun c => hs c.2.2.2)
              have hs2 : ¬ frameB ((f.drop (q + 4)).take n) = (f.drop p).take (q + 4 + n - p) := fun c => hs (hiff.1 c)
              rw [← h4, ← h3] at hs2
              rw [← h3] at c2
              generalize frameB ((f.take (q + 4 + n)).drop (q + 4)) = fr at c2 hs2
              repeat ((try conv => whnf); first | (refine ccA ([]) (c1) ?_) | (refine Exists.intro p (Exists.intro (q + 4 + n) (And.intro rfl (And.intro rfl (And.intro (show p ≤ q + 4 + n by omega) (And.intro (show q + 4 + n ≤ f.length by omega) ?_)))))) | (refine Exists.intro _ (And.intro e2.symm ?_)) | (refine Exists.intro _ (And.intro e3.symm ?_)) | (refine ccA ([]) (c2) ?_) | (refine cb_nt hs2 ?_) | (refine stpQ ?_))
              refine hQ1 _ _ ?_
              (try conv => whnf)
              rw [hst]
              (refine ans_auto (by rfl) ?_ ?_ (by rfl)) <;> (repeat' (first | (exact eqA) | (refine And.intro ?_ ?_) | ((fail_if_success (with_reducible (show _ = _))); (show _ = _))))
          · rw [if_neg (by omega), decide_eq_false (by omega)] at c2
            have hst := hat.bad hr (fun c => hin ⟨c.1, c.2.1⟩)
            rw [← h3] at c2
            repeat ((try conv => whnf); first | (refine ccA ([]) (c1) ?_) | (refine Exists.intro p (Exists.intro (q + 4 + n) (And.intro rfl (And.intro rfl (And.intro (show p ≤ q + 4 + n by omega) (And.intro (show q + 4 + n ≤ f.length by omega) ?_)))))) | (refine Exists.intro _ (And.intro e2.symm ?_)) | (refine Exists.intro _ (And.intro e3.symm ?_)) | (refine ccA ([]) (c2) ?_) | (refine stpQ ?_))
            refine hQ1 _ _ ?_
            (try conv => whnf)
            rw [hst]
            (refine ans_auto (by rfl) ?_ ?_ (by rfl)) <;> (repeat' (first | (exact eqA) | (refine And.intro ?_ ?_) | ((fail_if_success (with_reducible (show _ = _))); (show _ = _))))
        · have hfit2 : (n : Int) > ((f.length - q : Nat) : Int) - 4 := by omega
          have hst := hat.bad hr (fun c => hfit c.2.2.1)
          repeat ((try conv => whnf); first | (refine ccA ([]) (c1) ?_) | (refine Exists.intro _ (And.intro e2.symm ?_)) | (refine Exists.intro _ (And.intro e3.symm ?_)) | (refine stpQ ?_))
          refine hQ1 _ _ ?_
          (try conv => whnf)
          rw [hst]
          (refine ans_auto (by rfl) ?_ ?_ (by rfl)) <;> (repeat' (first | (exact eqA) | (refine And.intro ?_ ?_) | ((fail_if_success (with_reducible (show _ = _))); (show _ = _))))
    · have hpe : p = f.length := by omega
      have hr : readVar f p = none := by
        cases h : readVar f p with
        | none => rfl
        | some y => have := readVar_bounds (n := y.1) (q := y.2) h; omega
      have hst := hat.stop hr
      have hnl : ¬ (p : Int) < (f.length : Int) := by omega
      repeat ((try conv => whnf); first | (refine cb_df hnl ?_) | (refine stpQ ?_))
      refine hQ1 _ _ ?_
      repeat ((try conv => whnf); first | (refine stpQ ?_))
      rw [hst]
      (refine ans_auto (by rfl) ?_ ?_ (by rfl)) <;> (repeat' (first | (exact eqA) | (refine And.intro ?_ ?_) | ((fail_if_success (with_reducible (show _ = _))); (show _ = _))))

/-! ### the texts of a log -/
theorem fg_text {l : List Fl} {n : Bs} (hd : diskOk l = true) : ((fileGet l n).getD []).length ≤ 20000 := by
  cases h : fileGet l n with
  | none => simp
  | some t => exact fileGet_len hd h
set_option maxRecDepth 100000 in
set_option maxHeartbeats 1000000 in
theorem c_LogTexts (l : List Fl) (n : Bs) (hf : FlFit l) : CT Tryz.prog 194 [] [.agg [.sl 3 (flE l)], .str n] (.sl 1 (strE (logTexts l n))) [] := by
  have c1 := c_FileAt l n hf.1
  have c2 := c_DiskOk l hf
  unfold logTexts
  have hd0 := @fg_text l n
  cases hd : diskOk l with
  | false =>
    rw [hd] at c2
    rw [if_neg (by simp)]
    generalize fileGet l n = o at c1
    cases o with
    | none =>
      refine ct_intro ttE_ok 1 rfl Tryz.func194 rfl rfl rfl ?_
      repeat ((try conv => whnf); first | (refine ccA ([]) (c1) ?_) | (refine ccA ([]) (c2) ?_) | (refine stpQ ?_))
      (refine ans_auto (by rfl) ?_ ?_ (by rfl)) <;> (repeat' (first | (exact eqA) | (refine And.intro ?_ ?_) | ((fail_if_success (with_reducible (show _ = _))); (show _ = _)))) <;> rfl
    | some t =>
      refine ct_intro ttE_ok 1 rfl Tryz.func194 rfl rfl rfl ?_
      repeat ((try conv => whnf); first | (refine ccA ([]) (c1) ?_) | (refine ccA ([]) (c2) ?_) | (refine stpQ ?_))
      (refine ans_auto (by rfl) ?_ ?_ (by rfl)) <;> (repeat' (first | (exact eqA) | (refine And.intro ?_ ?_) | ((fail_if_success (with_reducible (show _ = _))); (show _ = _)))) <;> rfl
  | true =>
    rw [hd] at c2
    rw [if_pos rfl]
    have hlt := hd0 hd
    generalize fileGet l n = o at c1 hlt ⊢
    cases o with
    | none =>
      have e : (unframe ((none : Option Bs).getD [])).1 = [] := by decide
      rw [e]
      refine ct_intro ttE_ok 1 rfl Tryz.func194 rfl rfl rfl ?_
      repeat ((try conv => whnf); first | (refine ccA ([]) (c1) ?_) | (refine ccA ([]) (c2) ?_) | (refine stpQ ?_))
      (refine ans_auto (by rfl) ?_ ?_ (by rfl)) <;> (repeat' (first | (exact eqA) | (refine And.intro ?_ ?_) | ((fail_if_success (with_reducible (show _ = _))); (show _ = _)))) <;> rfl
    | some t =>
      have hlt2 : t.length ≤ 20000 := hlt
      have c3 := c_Unframe t (by omega)
      show CT _ _ _ _ (.sl 1 (strE (unframe t).1)) []
      generalize unframe t = R at c3 ⊢
      obtain ⟨Ra, Rb⟩ := R
      refine ct_intro ttE_ok 1 rfl Tryz.func194 rfl rfl rfl ?_
      repeat ((try conv => whnf); first | (refine ccA ([]) (c1) ?_) | (refine ccA ([]) (c2) ?_) | (refine ccA ([]) (c3) ?_) | (refine stpQ ?_))
      (refine ans_auto (by rfl) ?_ ?_ (by rfl)) <;> (repeat' (first | (exact eqA) | (refine And.intro ?_ ?_) | ((fail_if_success (with_reducible (show _ = _))); (show _ = _))))
set_option maxRecDepth 100000 in
set_option maxHeartbeats 1000000 in
theorem c_sLogTexts (l : List Fl) (n : Bs) (hf : FlFit l) : CT Tryz.prog 188 [] [.agg [.sl 3 (flE l)], .str n] (.sl 1 (strE (logTexts l n))) [] := by
  have c1 := c_sFileAt l n hf.1
  have c2 := c_sDiskOk l hf
  have hff := (logTexts_facts l n).2
  unfold logTexts at hff ⊢
  have hd0 := @fg_text l n
  cases hd : diskOk l with
  | false =>
    rw [hd] at c2
    rw [if_neg (by simp)]
    refine ct_intro ttE_ok 1 rfl Tryz.func188 rfl rfl rfl ?_
    repeat ((try conv => whnf); first | (refine ccA ([]) (c2) ?_) | (refine stpQ ?_))
    (refine ans_auto (by rfl) ?_ ?_ (by rfl)) <;> (repeat' (first | (exact eqA) | (refine And.intro ?_ ?_) | ((fail_if_success (with_reducible (show _ = _))); (show _ = _)))) <;> rfl
  | true =>
    rw [hd] at c2
    rw [hd, if_pos rfl] at hff
    rw [if_pos rfl]
    have hlt := hd0 hd
    generalize fileGet l n = o at c1 hlt hff ⊢
    cases o with
    | none =>
      have c3 := c_sUnframe [] (by simp)
      have hff2 : (unframe []).1.length ≤ 20001 := hff
      show CT _ _ _ _ (.sl 1 (strE (unframe []).1)) []
      generalize unframe [] = R at c3 hff2 ⊢
      obtain ⟨Ra, Rb⟩ := R
      have hra := strE_len Ra
      have hff3 : Ra.length ≤ 20001 := hff2
      change CT _ _ _ _ (.tup [.sl 1 (strE Ra), .int .i64 (Rb : Int)]) _ at c3
      refine ct_intro ttE_ok 1 rfl Tryz.func188 rfl rfl rfl ?_
      repeat ((try conv => whnf); first | (refine ccA ([]) (c1) ?_) | (refine ccA ([]) (c2) ?_) | (refine ccA ([]) (c3) ?_) | (refine And.intro (by simp only [List.length_append, List.length_cons, List.length_nil, List.nil_append, List.length_replicate]; omega) ?_) | (refine stpQ ?_))
      (refine ans_auto (by rfl) ?_ ?_ (by rfl)) <;> (repeat' (first | (exact eqA) | (refine And.intro ?_ ?_) | ((fail_if_success (with_reducible (show _ = _))); (show _ = _))))
    | some t =>
      have hlt2 : t.length ≤ 20000 := hlt
      have c3 := c_sUnframe t (by omega)
      have hff2 : (unframe t).1.length ≤ 20001 := hff
      show CT _ _ _ _ (.sl 1 (strE (unframe t).1)) []
      generalize unframe t = R at c3 hff2 ⊢
      obtain ⟨Ra, Rb⟩ := R
      have hra := strE_len Ra
      have hff3 : Ra.length ≤ 20001 := hff2
      change CT _ _ _ _ (.tup [.sl 1 (strE Ra), .int .i64 (Rb : Int)]) _ at c3
      refine ct_intro ttE_ok 1 rfl Tryz.func188 rfl rfl rfl ?_
      repeat ((try conv => whnf); first | (refine ccA ([]) (c1) ?_) | (refine ccA ([]) (c2) ?_) | (refine ccA ([]) (c3) ?_) | (refine And.intro (by simp only [List.length_append, List.length_cons, List.length_nil, List.nil_append, List.length_replicate]; omega) ?_) | (refine stpQ ?_))
      (refine ans_auto (by rfl) ?_ ?_ (by rfl)) <;> (repeat' (first | (exact eqA) | (refine And.intro ?_ ?_) | ((fail_if_success (with_reducible (show _ = _))); (show _ = _))))
end Go.Proofs.YtmmnkndmlkhmhaaGreatDoor
