/- Functions by content: proofs are read, by the program and by the reference. -/
import Derived.Test.YtigfpjnjjndenaaGreatDoorGA
import Derived.Test.YtigfpjnjjndenaaGreatDoorGS
namespace Go.Proofs.YtigfpjnjjndenaaGreatDoor
open Go.RowKit Pl
set_option linter.unusedVariables false
set_option linter.unusedSimpArgs false
attribute [local irreducible] CondB CallP LoopW AnsP LeP

/-! ### sizes of what is read -/
/-! ### the program -/
def proofI (t : Bs) (p : Nat) (b : Bool) (w : Nat) : (List Lf × List Bs) × Nat × Bool :=
  let A := leavesI t p b
  let B := numOf t A.2.1 A.2.2
  if 8 < B.1 then (([], []), B.2.1, true) else
    let C := hashL t w B.1 B.2.1 B.2.2
    ((A.1, C.1), C.2.1, C.2.2)
theorem readPfI_eq (t : Bs) (w : Nat) : readPfI t w = if doneB (proofI t 0 false w).2.2 (proofI t 0 false w).2.1 t.length = true then some (proofI t 0 false w).1 else none := by
  simp only [readPfI, proofI]
  split
  · simp [doneB]
  · rfl
def HsAt (t : Bs) (w : Nat) (R : List Bs × Nat × Bool) (n : Nat) (s : List Bs) (q : Nat) (b : Bool) : Prop := R = (s ++ (hashL t w n q b).1, (hashL t w n q b).2)
theorem HsAt.step {t : Bs} {w : Nat} {R : List Bs × Nat × Bool} {n : Nat} {s : List Bs} {q : Nat} {b : Bool} (h : HsAt t w R (n + 1) s q b) : HsAt t w R n (s ++ [(bytesOf t q b w).1]) (bytesOf t q b w).2.1 (bytesOf t q b w).2.2 := by
  unfold HsAt at h ⊢; rw [h, hashL]; simp
set_option maxRecDepth 100000 in
set_option maxHeartbeats 1000000 in
theorem c_hashes (t : Bs) (p : Nat) (b : Bool) (n w : Nat) (ht : (t.length : Int) ≤ 1000000000) (hp : p ≤ t.length) (hn : (n : Int) ≤ 1000000) : CT Tryz.prog 100 [fldB t p b] [.ptr 1 0 0, .int .i64 (n : Int), .int .i64 (w : Int)] (.ref 2) [fldB t (hashL t w n p b).2.1 (hashL t w n p b).2.2, .row 1 (strE (hashL t w n p b).1)] := by
  generalize hR : hashL t w n p b = R
  refine ct_intro tt_ok 2 rfl Tryz.func100 rfl rfl rfl ?_
  repeat ((try conv => whnf); first | (refine And.intro rfl ?_) | (refine w_addn (by omega) ?_) | (refine w_subn (by omega) ?_) | (refine w_add (by omega) ?_) | (refine w_sub (by omega) ?_) | (refine w_any (by omega) ?_) | (refine Exists.intro _ (And.intro rfl ?_)) | (with_reducible (refine cb_t rfl ?_)) | (with_reducible (refine cb_f rfl ?_)) | (refine cb_dt (by omega) ?_) | (refine cb_df (by omega) ?_) | (refine cb_nt (by omega) ?_) | (refine cb_nf (by omega) ?_) | (refine cb_t (by assumption) ?_) | (refine cb_f (by assumption) ?_) | (refine i_lt (by omega) ?_) | (refine i_le (by omega) ?_) | (refine i_cut (by omega) ?_) | (refine And.intro (by omega) ?_) | (refine And.intro trivial ?_) | (refine And.intro (by decide) ?_) | (refine And.intro (Nat.le_of_ble_eq_true rfl) ?_))
  refine loop_of (Nat × Nat × List Bs × Bool) (fun ⟨k, q, s, bd⟩ => ⟨[(0, .ptr 1 0 0), (2, .int .i64 (w : Int)), (7, .ref 2), (8, .int .i64 (n : Int)), (9, .int .i64 (k : Int))], [(1, some (fldB t q bd)), (2, some (.row 1 (strE s)))], 3⟩) (fun ⟨k, q, s, bd⟩ => k ≤ n ∧ s.length = k ∧ HsAt t w R (n - k) s q bd ∧ q ≤ t.length) (fun ⟨k, q, s, bd⟩ => n - k) (0, p, [], b) ⟨by omega, rfl, by rw [← hR]; rfl, hp⟩ ?_ ?_
  · (refine le_auto (by rfl) ?_ ?_) <;> (repeat' (first | (exact trivial) | (with_reducible rfl) | (exact (rfl : _ = true)) | (exact (rfl : _ = some _)) | (exact (rfl : _ = none)) | (refine And.intro ?_ ?_) | ((show (_ : Int) = _); omega) | ((fail_if_success (with_reducible (show _ = _))); (show _ = _)))) <;> first | rfl | decide
  · rintro ⟨k, q, s, bd⟩ ⟨hk, hl, hat, hq⟩
    have hll := strE_len s
    by_cases hlt : k < n
    · obtain ⟨m, hm⟩ : ∃ m, n - k = m + 1 := ⟨n - k - 1, by omega⟩
      rw [hm] at hat
      have c1 := c_bytes t q bd w ht hq
      have hst := hat.step
      have hle := bytesOf_le (n := w) (b := bd) hq
      repeat ((try conv => whnf); first | (refine c_call ([1]) (c1) (by ((repeat' (first | (exact trivial) | (exact rfl) | (decide) | (refine And.intro ?_ ?_))); first | done | fail)) (by ((repeat' (first | (exact trivial) | (exact rfl) | (decide) | (refine And.intro ?_ ?_))); first | done | fail)) (by decide) (by rfl) (by first | exact .inl rfl | (refine .inr ⟨?_, ?_⟩ <;> simp [own2, own1, own0, ownE])) ?_) | (refine And.intro (by simp [strE_len]; omega) ?_) | (refine And.intro rfl ?_) | (refine w_addn (by omega) ?_) | (refine w_subn (by omega) ?_) | (refine w_add (by omega) ?_) | (refine w_sub (by omega) ?_) | (refine w_any (by omega) ?_) | (refine Exists.intro _ (And.intro rfl ?_)) | (with_reducible (refine cb_t rfl ?_)) | (with_reducible (refine cb_f rfl ?_)) | (refine cb_dt (by omega) ?_) | (refine cb_df (by omega) ?_) | (refine cb_nt (by omega) ?_) | (refine cb_nf (by omega) ?_) | (refine cb_t (by assumption) ?_) | (refine cb_f (by assumption) ?_) | (refine i_lt (by omega) ?_) | (refine i_le (by omega) ?_) | (refine i_cut (by omega) ?_) | (refine And.intro (by omega) ?_) | (refine And.intro trivial ?_) | (refine And.intro (by decide) ?_) | (refine And.intro (Nat.le_of_ble_eq_true rfl) ?_))
      refine ⟨(k + 1, (bytesOf t q bd w).2.1, s ++ [(bytesOf t q bd w).1], (bytesOf t q bd w).2.2), ⟨by omega, by simp [hl], by rw [show n - (k + 1) = m by omega]; exact hst, hle⟩, (by show n - (k + 1) < n - k; omega), ?_⟩
      (refine le_auto (by rfl) ?_ ?_) <;> (repeat' (first | (exact trivial) | (with_reducible rfl) | (exact (rfl : _ = true)) | (exact (rfl : _ = some _)) | (exact (rfl : _ = none)) | (refine And.intro ?_ ?_) | ((show (_ : Int) = _); omega) | ((fail_if_success (with_reducible (show _ = _))); (show _ = _))))
      all_goals (simp [strE]; done)
    · have hkn : n - k = 0 := by omega
      rw [hkn] at hat
      have e : R = (s, q, bd) := by rw [hat]; simp [hashL]
      rw [e]
      repeat ((try conv => whnf); first | (refine And.intro rfl ?_) | (refine w_addn (by omega) ?_) | (refine w_subn (by omega) ?_) | (refine w_add (by omega) ?_) | (refine w_sub (by omega) ?_) | (refine w_any (by omega) ?_) | (refine Exists.intro _ (And.intro rfl ?_)) | (with_reducible (refine cb_t rfl ?_)) | (with_reducible (refine cb_f rfl ?_)) | (refine cb_dt (by omega) ?_) | (refine cb_df (by omega) ?_) | (refine cb_nt (by omega) ?_) | (refine cb_nf (by omega) ?_) | (refine cb_t (by assumption) ?_) | (refine cb_f (by assumption) ?_) | (refine i_lt (by omega) ?_) | (refine i_le (by omega) ?_) | (refine i_cut (by omega) ?_) | (refine And.intro (by omega) ?_) | (refine And.intro trivial ?_) | (refine And.intro (by decide) ?_) | (refine And.intro (Nat.le_of_ble_eq_true rfl) ?_))
      (refine ans_auto (by rfl) ?_ ?_ (by rfl)) <;> (repeat' (first | (exact trivial) | (with_reducible rfl) | (exact (rfl : _ = true)) | (exact (rfl : _ = some _)) | (exact (rfl : _ = none)) | (refine And.intro ?_ ?_) | ((show (_ : Int) = _); omega) | ((fail_if_success (with_reducible (show _ = _))); (show _ = _))))
set_option maxRecDepth 100000 in
set_option maxHeartbeats 1000000 in
theorem c_proof (t : Bs) (p : Nat) (b : Bool) (w : Nat) (ht : (t.length : Int) ≤ 1000000000) (hp : p ≤ t.length) : CT Tryz.prog 65 [fldB t p b] [.ptr 1 0 0, .int .i64 (w : Int)] (.agg [.ref 2, .ref 3]) [fldB t (proofI t p b w).2.1 (proofI t p b w).2.2, .row 2 (lvE (proofI t p b w).1.1), .row 1 (strE (proofI t p b w).1.2)] := by
  have cA := c_leaves t p b ht hp
  have hle := leavesI_le (b := b) hp
  unfold proofI
  rcases hA : leavesI t p b with ⟨l, p1, b1⟩
  rw [hA] at cA hle
  simp only at cA hle ⊢
  have cB := c_num t p1 b1 ht hle
  have hle2 := numOf_le (bad := b1) hle
  rcases hB : numOf t p1 b1 with ⟨n, p2, b2⟩
  rw [hB] at cB hle2
  simp only at cB hle2 ⊢
  refine ct_intro tt_ok 2 rfl Tryz.func65 rfl rfl rfl ?_
  by_cases h8 : 8 < n
  · rw [if_pos h8]
    repeat ((try conv => whnf); first | (refine c_call ([1]) (cA) (by ((repeat' (first | (exact trivial) | (exact rfl) | (decide) | (refine And.intro ?_ ?_))); first | done | fail)) (by ((repeat' (first | (exact trivial) | (exact rfl) | (decide) | (refine And.intro ?_ ?_))); first | done | fail)) (by decide) (by rfl) (by first | exact .inl rfl | (refine .inr ⟨?_, ?_⟩ <;> simp [own2, own1, own0, ownE])) ?_) | (refine c_call ([1]) (cB) (by ((repeat' (first | (exact trivial) | (exact rfl) | (decide) | (refine And.intro ?_ ?_))); first | done | fail)) (by ((repeat' (first | (exact trivial) | (exact rfl) | (decide) | (refine And.intro ?_ ?_))); first | done | fail)) (by decide) (by rfl) (by first | exact .inl rfl | (refine .inr ⟨?_, ?_⟩ <;> simp [own2, own1, own0, ownE])) ?_) | (refine And.intro rfl ?_) | (refine w_addn (by omega) ?_) | (refine w_subn (by omega) ?_) | (refine w_add (by omega) ?_) | (refine w_sub (by omega) ?_) | (refine w_any (by omega) ?_) | (refine Exists.intro _ (And.intro rfl ?_)) | (with_reducible (refine cb_t rfl ?_)) | (with_reducible (refine cb_f rfl ?_)) | (refine cb_dt (by omega) ?_) | (refine cb_df (by omega) ?_) | (refine cb_nt (by omega) ?_) | (refine cb_nf (by omega) ?_) | (refine cb_t (by assumption) ?_) | (refine cb_f (by assumption) ?_) | (refine i_lt (by omega) ?_) | (refine i_le (by omega) ?_) | (refine i_cut (by omega) ?_) | (refine And.intro (by omega) ?_) | (refine And.intro trivial ?_) | (refine And.intro (by decide) ?_) | (refine And.intro (Nat.le_of_ble_eq_true rfl) ?_))
    (refine ans_auto (by rfl) ?_ ?_ (by rfl)) <;> (repeat' (first | (exact trivial) | (with_reducible rfl) | (exact (rfl : _ = true)) | (exact (rfl : _ = some _)) | (exact (rfl : _ = none)) | (refine And.intro ?_ ?_) | ((show (_ : Int) = _); omega) | ((fail_if_success (with_reducible (show _ = _))); (show _ = _)))) <;> first | rfl | decide
  · rw [if_neg h8]
    have cC := c_hashes t p2 b2 n w ht hle2.1 (by omega)
    repeat ((try conv => whnf); first | (refine c_call ([1]) (cA) (by ((repeat' (first | (exact trivial) | (exact rfl) | (decide) | (refine And.intro ?_ ?_))); first | done | fail)) (by ((repeat' (first | (exact trivial) | (exact rfl) | (decide) | (refine And.intro ?_ ?_))); first | done | fail)) (by decide) (by rfl) (by first | exact .inl rfl | (refine .inr ⟨?_, ?_⟩ <;> simp [own2, own1, own0, ownE])) ?_) | (refine c_call ([1]) (cB) (by ((repeat' (first | (exact trivial) | (exact rfl) | (decide) | (refine And.intro ?_ ?_))); first | done | fail)) (by ((repeat' (first | (exact trivial) | (exact rfl) | (decide) | (refine And.intro ?_ ?_))); first | done | fail)) (by decide) (by rfl) (by first | exact .inl rfl | (refine .inr ⟨?_, ?_⟩ <;> simp [own2, own1, own0, ownE])) ?_) | (refine c_call ([1]) (cC) (by ((repeat' (first | (exact trivial) | (exact rfl) | (decide) | (refine And.intro ?_ ?_))); first | done | fail)) (by ((repeat' (first | (exact trivial) | (exact rfl) | (decide) | (refine And.intro ?_ ?_))); first | done | fail)) (by decide) (by rfl) (by first | exact .inl rfl | (refine .inr ⟨?_, ?_⟩ <;> simp [own2, own1, own0, ownE])) ?_) | (refine And.intro rfl ?_) | (refine w_addn (by omega) ?_) | (refine w_subn (by omega) ?_) | (refine w_add (by omega) ?_) | (refine w_sub (by omega) ?_) | (refine w_any (by omega) ?_) | (refine Exists.intro _ (And.intro rfl ?_)) | (with_reducible (refine cb_t rfl ?_)) | (with_reducible (refine cb_f rfl ?_)) | (refine cb_dt (by omega) ?_) | (refine cb_df (by omega) ?_) | (refine cb_nt (by omega) ?_) | (refine cb_nf (by omega) ?_) | (refine cb_t (by assumption) ?_) | (refine cb_f (by assumption) ?_) | (refine i_lt (by omega) ?_) | (refine i_le (by omega) ?_) | (refine i_cut (by omega) ?_) | (refine And.intro (by omega) ?_) | (refine And.intro trivial ?_) | (refine And.intro (by decide) ?_) | (refine And.intro (Nat.le_of_ble_eq_true rfl) ?_))
    (refine ans_auto (by rfl) ?_ ?_ (by rfl)) <;> (repeat' (first | (exact trivial) | (with_reducible rfl) | (exact (rfl : _ = true)) | (exact (rfl : _ = some _)) | (exact (rfl : _ = none)) | (refine And.intro ?_ ?_) | ((show (_ : Int) = _); omega) | ((fail_if_success (with_reducible (show _ = _))); (show _ = _)))) <;> first | rfl | decide
set_option maxRecDepth 100000 in
set_option maxHeartbeats 400000 in
theorem c_isWide (w : Int) : CT Tryz.prog 64 [] [.int .i64 w] (.bool (inB w 1 32)) [] := by
  refine ct_intro tt_ok 1 rfl Tryz.func64 rfl rfl rfl ?_
  repeat ((try conv => whnf); first | (refine c_call ([]) (c_in _ _ _) (by ((repeat' (first | (exact trivial) | (exact rfl) | (refine And.intro ?_ ?_))); first | done | fail)) (by ((repeat' (first | (exact trivial) | (exact rfl) | (refine And.intro ?_ ?_))); first | done | fail)) (by decide) (by rfl) (by first | exact .inl rfl | (refine .inr ⟨?_, ?_⟩ <;> simp [own2, own1, own0, ownE])) ?_) | (refine And.intro rfl ?_) | (refine w_addn (by omega) ?_) | (refine w_subn (by omega) ?_) | (refine w_add (by omega) ?_) | (refine w_sub (by omega) ?_) | (refine w_any (by omega) ?_) | (refine Exists.intro _ (And.intro rfl ?_)) | (with_reducible (refine cb_t rfl ?_)) | (with_reducible (refine cb_f rfl ?_)) | (refine cb_dt (by omega) ?_) | (refine cb_df (by omega) ?_) | (refine cb_nt (by omega) ?_) | (refine cb_nf (by omega) ?_) | (refine cb_t (by assumption) ?_) | (refine cb_f (by assumption) ?_) | (refine i_lt (by omega) ?_) | (refine i_le (by omega) ?_) | (refine i_cut (by omega) ?_) | (refine And.intro (by omega) ?_) | (refine And.intro trivial ?_) | (refine And.intro (by decide) ?_) | (refine And.intro (Nat.le_of_ble_eq_true rfl) ?_))
  (refine ans_auto (by rfl) ?_ ?_ (by rfl)) <;> repeat' (first | (exact trivial) | (with_reducible rfl) | (exact (rfl : _ = true)) | (exact (rfl : _ = some _)) | (exact (rfl : _ = none)) | (refine And.intro ?_ ?_) | ((show (_ : Int) = _); omega) | ((fail_if_success (with_reducible (show _ = _))); (show _ = _)))
def pfGet (o : Option (List Lf × List Bs)) : List Lf × List Bs := o.getD ([], [])
def readPf (t : Bs) (w : Int) : Option (List Lf × List Bs) := bif inB w 1 32 then readPfI t w.toNat else none
set_option maxRecDepth 100000 in
set_option maxHeartbeats 1000000 in
theorem c_ReadProof (t : Bs) (w : Int) (ht : (t.length : Int) ≤ 1000000000) : CT Tryz.prog 12 [] [.str t, .int .i64 w] (.tup [.agg [.ref 1, .ref 2], .bool (readPf t w).isSome]) [.row 2 (lvE (pfGet (readPf t w)).1), .row 1 (strE (pfGet (readPf t w)).2)] := by
  refine ct_intro tt_ok 1 rfl Tryz.func12 rfl rfl rfl ?_
  have cW := c_isWide w
  cases hw : inB w 1 32
  · rw [hw] at cW
    have e : readPf t w = none := by rw [readPf, hw]; rfl
    rw [e]
    repeat ((try conv => whnf); first | (refine c_call ([]) (cW) (by ((repeat' (first | (exact trivial) | (exact rfl) | (refine And.intro ?_ ?_))); first | done | fail)) (by ((repeat' (first | (exact trivial) | (exact rfl) | (refine And.intro ?_ ?_))); first | done | fail)) (by decide) (by rfl) (by first | exact .inl rfl | (refine .inr ⟨?_, ?_⟩ <;> simp [own2, own1, own0, ownE])) ?_) | (refine And.intro rfl ?_) | (refine w_addn (by omega) ?_) | (refine w_subn (by omega) ?_) | (refine w_add (by omega) ?_) | (refine w_sub (by omega) ?_) | (refine w_any (by omega) ?_) | (refine Exists.intro _ (And.intro rfl ?_)) | (with_reducible (refine cb_t rfl ?_)) | (with_reducible (refine cb_f rfl ?_)) | (refine cb_dt (by omega) ?_) | (refine cb_df (by omega) ?_) | (refine cb_nt (by omega) ?_) | (refine cb_nf (by omega) ?_) | (refine cb_t (by assumption) ?_) | (refine cb_f (by assumption) ?_) | (refine i_lt (by omega) ?_) | (refine i_le (by omega) ?_) | (refine i_cut (by omega) ?_) | (refine And.intro (by omega) ?_) | (refine And.intro trivial ?_) | (refine And.intro (by decide) ?_) | (refine And.intro (Nat.le_of_ble_eq_true rfl) ?_))
    (refine ans_auto (by rfl) ?_ ?_ (by rfl)) <;> (repeat' (first | (exact trivial) | (with_reducible rfl) | (exact (rfl : _ = true)) | (exact (rfl : _ = some _)) | (exact (rfl : _ = none)) | (refine And.intro ?_ ?_) | ((show (_ : Int) = _); omega) | ((fail_if_success (with_reducible (show _ = _))); (show _ = _)))) <;> first | rfl | decide
  · rw [hw] at cW
    have hw2 := inB_iff.1 hw
    obtain ⟨n, rfl⟩ : ∃ n : Nat, w = n := ⟨w.toNat, by omega⟩
    have cP := c_proof t 0 false n ht (by omega)
    have e : readPf t (n : Int) = if doneB (proofI t 0 false n).2.2 (proofI t 0 false n).2.1 t.length = true then some (proofI t 0 false n).1 else none := by
      rw [readPf, hw, Int.toNat_natCast]; exact readPfI_eq t n
    rw [e]
    generalize proofI t 0 false n = R at cP ⊢
    obtain ⟨⟨l, s⟩, q, bd⟩ := R
    simp only at cP ⊢
    have cD := c_done t q bd
    cases hd : doneB bd q t.length
    · rw [hd] at cD
      repeat ((try conv => whnf); first | (refine c_call ([]) (cW) (by ((repeat' (first | (exact trivial) | (exact rfl) | (refine And.intro ?_ ?_))); first | done | fail)) (by ((repeat' (first | (exact trivial) | (exact rfl) | (refine And.intro ?_ ?_))); first | done | fail)) (by decide) (by rfl) (by first | exact .inl rfl | (refine .inr ⟨?_, ?_⟩ <;> simp [own2, own1, own0, ownE])) ?_) | (refine c_call ([_]) (cP) (by ((repeat' (first | (exact trivial) | (exact rfl) | (decide) | (refine And.intro ?_ ?_))); first | done | fail)) (by ((repeat' (first | (exact trivial) | (exact rfl) | (decide) | (refine And.intro ?_ ?_))); first | done | fail)) (by decide) (by rfl) (by first | exact .inl rfl | (refine .inr ⟨?_, ?_⟩ <;> simp [own2, own1, own0, ownE])) ?_) | (refine c_call ([_]) (cD) (by ((repeat' (first | (exact trivial) | (exact rfl) | (decide) | (refine And.intro ?_ ?_))); first | done | fail)) (by ((repeat' (first | (exact trivial) | (exact rfl) | (decide) | (refine And.intro ?_ ?_))); first | done | fail)) (by decide) (by rfl) (by first | exact .inl rfl | (refine .inr ⟨?_, ?_⟩ <;> simp [own2, own1, own0, ownE])) ?_) | (refine And.intro rfl ?_) | (refine w_addn (by omega) ?_) | (refine w_subn (by omega) ?_) | (refine w_add (by omega) ?_) | (refine w_sub (by omega) ?_) | (refine w_any (by omega) ?_) | (refine Exists.intro _ (And.intro rfl ?_)) | (with_reducible (refine cb_t rfl ?_)) | (with_reducible (refine cb_f rfl ?_)) | (refine cb_dt (by omega) ?_) | (refine cb_df (by omega) ?_) | (refine cb_nt (by omega) ?_) | (refine cb_nf (by omega) ?_) | (refine cb_t (by assumption) ?_) | (refine cb_f (by assumption) ?_) | (refine i_lt (by omega) ?_) | (refine i_le (by omega) ?_) | (refine i_cut (by omega) ?_) | (refine And.intro (by omega) ?_) | (refine And.intro trivial ?_) | (refine And.intro (by decide) ?_) | (refine And.intro (Nat.le_of_ble_eq_true rfl) ?_))
      (refine ans_auto (by rfl) ?_ ?_ (by rfl)) <;> (repeat' (first | (exact trivial) | (with_reducible rfl) | (exact (rfl : _ = true)) | (exact (rfl : _ = some _)) | (exact (rfl : _ = none)) | (refine And.intro ?_ ?_) | ((show (_ : Int) = _); omega) | ((fail_if_success (with_reducible (show _ = _))); (show _ = _)))) <;> first | rfl | decide
    · rw [hd] at cD
      repeat ((try conv => whnf); first | (refine c_call ([]) (cW) (by ((repeat' (first | (exact trivial) | (exact rfl) | (refine And.intro ?_ ?_))); first | done | fail)) (by ((repeat' (first | (exact trivial) | (exact rfl) | (refine And.intro ?_ ?_))); first | done | fail)) (by decide) (by rfl) (by first | exact .inl rfl | (refine .inr ⟨?_, ?_⟩ <;> simp [own2, own1, own0, ownE])) ?_) | (refine c_call ([_]) (cP) (by ((repeat' (first | (exact trivial) | (exact rfl) | (decide) | (refine And.intro ?_ ?_))); first | done | fail)) (by ((repeat' (first | (exact trivial) | (exact rfl) | (decide) | (refine And.intro ?_ ?_))); first | done | fail)) (by decide) (by rfl) (by first | exact .inl rfl | (refine .inr ⟨?_, ?_⟩ <;> simp [own2, own1, own0, ownE])) ?_) | (refine c_call ([_]) (cD) (by ((repeat' (first | (exact trivial) | (exact rfl) | (decide) | (refine And.intro ?_ ?_))); first | done | fail)) (by ((repeat' (first | (exact trivial) | (exact rfl) | (decide) | (refine And.intro ?_ ?_))); first | done | fail)) (by decide) (by rfl) (by first | exact .inl rfl | (refine .inr ⟨?_, ?_⟩ <;> simp [own2, own1, own0, ownE])) ?_) | (refine And.intro rfl ?_) | (refine w_addn (by omega) ?_) | (refine w_subn (by omega) ?_) | (refine w_add (by omega) ?_) | (refine w_sub (by omega) ?_) | (refine w_any (by omega) ?_) | (refine Exists.intro _ (And.intro rfl ?_)) | (with_reducible (refine cb_t rfl ?_)) | (with_reducible (refine cb_f rfl ?_)) | (refine cb_dt (by omega) ?_) | (refine cb_df (by omega) ?_) | (refine cb_nt (by omega) ?_) | (refine cb_nf (by omega) ?_) | (refine cb_t (by assumption) ?_) | (refine cb_f (by assumption) ?_) | (refine i_lt (by omega) ?_) | (refine i_le (by omega) ?_) | (refine i_cut (by omega) ?_) | (refine And.intro (by omega) ?_) | (refine And.intro trivial ?_) | (refine And.intro (by decide) ?_) | (refine And.intro (Nat.le_of_ble_eq_true rfl) ?_))
      (refine ans_auto (by rfl) ?_ ?_ (by rfl)) <;> (repeat' (first | (exact trivial) | (with_reducible rfl) | (exact (rfl : _ = true)) | (exact (rfl : _ = some _)) | (exact (rfl : _ = none)) | (refine And.intro ?_ ?_) | ((show (_ : Int) = _); omega) | ((fail_if_success (with_reducible (show _ = _))); (show _ = _)))) <;> first | rfl | decide

/-! ### the reference -/
end Go.Proofs.YtigfpjnjjndenaaGreatDoor
