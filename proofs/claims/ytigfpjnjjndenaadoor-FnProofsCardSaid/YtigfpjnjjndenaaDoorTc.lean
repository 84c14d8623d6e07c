/- Functions by content: the program's proofs. -/
import Derived.Test.YtigfpjnjjndenaaDoorTb
namespace Go.Proofs.YtigfpjnjjndenaaDoor
open Go.RowKit Pl
set_option linter.unusedVariables false
set_option linter.unusedSimpArgs false
attribute [local irreducible] CondB CallP LoopW AnsP LeP

theorem sib_bits : ∀ a < 256, bits .xor .i64 ((a : Nat) : Int) 1 = ((sib a : Nat) : Int) := by decide +kernel
theorem sib_lt {ix j : Nat} (h : ix < 256) (hj : j < 8) : ix / 2 ^ j < 2 ^ (8 - j) ∧ sib (ix / 2 ^ j) < 2 ^ (8 - j) ∧ ix / 2 ^ j < 256 := by
  have key : ∀ ix < 256, ∀ j < 8, ix / 2 ^ j < 2 ^ (8 - j) ∧ sib (ix / 2 ^ j) < 2 ^ (8 - j) ∧ ix / 2 ^ j < 256 := by decide +kernel
  exact key ix h j hj
set_option maxRecDepth 100000 in
set_option maxHeartbeats 2000000 in
theorem c_sides (l : List Lf) (w ix n : Nat) (h : leavesOk l = true) (hw : 1 ≤ w ∧ w ≤ 32) (hix : ix < 256) (hn : n ≤ 8) : CT Tryd.prog 66 [] [.agg [.sl 2 (lvE l), .sl 1 (ixE l), .int .i64 (w : Int)], .int .i64 (ix : Int), .int .i64 (8 - (n : Int))] (.ref 1) [.row 1 (strE (sidesB l w ix n))] := by
  refine ct_intro tt3_ok 1 rfl Tryd.func66 rfl rfl rfl ?_
  repeat ((try conv => whnf); first | (refine And.intro rfl ?_) | (refine w_addn (by omega) ?_) | (refine w_subn (by omega) ?_) | (refine w_add (by omega) ?_) | (refine w_sub (by omega) ?_) | (refine w_any (by omega) ?_) | (refine Exists.intro _ (And.intro rfl ?_)) | (with_reducible (refine cb_t rfl ?_)) | (with_reducible (refine cb_f rfl ?_)) | (refine cb_dt (by omega) ?_) | (refine cb_df (by omega) ?_) | (refine cb_nt (by omega) ?_) | (refine cb_nf (by omega) ?_) | (refine cb_t (by assumption) ?_) | (refine cb_f (by assumption) ?_) | (refine i_lt (by omega) ?_) | (refine i_le (by omega) ?_) | (refine i_cut (by omega) ?_) | (refine And.intro (by omega) ?_) | (refine And.intro trivial ?_) | (refine And.intro (by decide) ?_) | (refine And.intro (Nat.le_of_ble_eq_true rfl) ?_))
  refine loop_cut 0 ⟨[(7, .ref 1)], [(1, some (.row 1 (strE (sidesB l w ix n))))], 2⟩ Nat (fun j => ⟨[(1, .int .i64 (ix : Int)), (2, .int .i64 (8 - (n : Int))), (3, .ptr 1 0 0), (7, .ref 2), (8, .int .i64 (8 - (j : Int)))], [(1, some (.box [.sl 2 (lvE l), .sl 1 (ixE l), .int .i64 (w : Int)])), (2, some (.row 1 (strE (sidesB l w ix j))))], 3⟩) (fun j => j ≤ n) (fun j => n - j) 0 (by omega) ?_ ?_ ?_
  · (refine le_auto (by rfl) ?_ ?_) <;> (repeat' (first | (exact trivial) | (with_reducible rfl) | (exact (rfl : _ = true)) | (exact (rfl : _ = some _)) | (exact (rfl : _ = none)) | (refine And.intro ?_ ?_) | ((show (_ : Int) = _); omega) | ((fail_if_success (with_reducible (show _ = _))); (show _ = _)))) <;> first | rfl | decide
  · intro j hj
    by_cases hlt : j < n
    · have hnx := sidesB_next l w ix j
      have hsl := sidesB_len l w ix j
      have e1 : IntKind.i64.wrap (8 - (8 - (j : Int))) = ((j : Nat) : Int) := by rw [wrap_i64 (by omega) (by omega)]; omega
      have e2 := shr_nat ix j
      obtain ⟨b1, b2, b3⟩ := sib_lt hix (show j < 8 by omega)
      have e3 := sib_bits (ix / 2 ^ j) b3
      have e4 : IntKind.i64.wrap (8 - (j : Int) - 1) = 8 - ((j + 1 : Nat) : Int) := by rw [wrap_i64 (by omega) (by omega)]; omega
      have c1 := c_node l w h hw j (sib (ix / 2 ^ j)) (by omega) b2
      generalize sidesB l w ix j = o at hnx hsl ⊢
      have hol := strE_len o
      repeat ((try conv => whnf); first | (refine Exists.intro _ (And.intro e1.symm ?_)) | (refine And.intro (show _ ≤ (64 : Int) from by omega) ?_) | (refine Exists.intro _ (And.intro e2.symm ?_)) | (refine Exists.intro _ (And.intro e3.symm ?_)) | (refine c_call ([]) (c1) (by ((repeat' (first | (exact trivial) | (exact rfl) | (refine And.intro ?_ ?_))); first | done | fail)) (by ((repeat' (first | (exact trivial) | (exact rfl) | (refine And.intro ?_ ?_))); first | done | fail)) (by decide) (by rfl) (by first | exact .inl rfl | (refine .inr ⟨?_, ?_⟩ <;> simp [own2, own1, own0, ownE])) ?_) | (refine And.intro (by simp [strE_len]; omega) ?_) | (refine Exists.intro _ (And.intro e4.symm ?_)) | (refine And.intro (by kernel_rfl) ?_) | (refine And.intro rfl ?_) | (refine w_addn (by omega) ?_) | (refine w_subn (by omega) ?_) | (refine w_add (by omega) ?_) | (refine w_sub (by omega) ?_) | (refine w_any (by omega) ?_) | (refine Exists.intro _ (And.intro rfl ?_)) | (with_reducible (refine cb_t rfl ?_)) | (with_reducible (refine cb_f rfl ?_)) | (refine cb_dt (by omega) ?_) | (refine cb_df (by omega) ?_) | (refine cb_nt (by omega) ?_) | (refine cb_nf (by omega) ?_) | (refine cb_t (by assumption) ?_) | (refine cb_f (by assumption) ?_) | (refine i_lt (by omega) ?_) | (refine i_le (by omega) ?_) | (refine i_cut (by omega) ?_) | (refine And.intro (by omega) ?_) | (refine And.intro trivial ?_) | (refine And.intro (by decide) ?_) | (refine And.intro (Nat.le_of_ble_eq_true rfl) ?_))
      refine ⟨j + 1, by omega, by omega, ?_⟩
      rw [hnx]
      (refine le_auto (by rfl) ?_ ?_) <;> (repeat' (first | (exact trivial) | (with_reducible rfl) | (exact (rfl : _ = true)) | (exact (rfl : _ = some _)) | (exact (rfl : _ = none)) | (refine And.intro ?_ ?_) | ((show (_ : Int) = _); omega) | ((fail_if_success (with_reducible (show _ = _))); (show _ = _))))
      rw [strE_app]; rfl
    · have hje : j = n := by omega
      rw [hje]
      repeat ((try conv => whnf); first | (refine And.intro rfl ?_) | (refine w_addn (by omega) ?_) | (refine w_subn (by omega) ?_) | (refine w_add (by omega) ?_) | (refine w_sub (by omega) ?_) | (refine w_any (by omega) ?_) | (refine Exists.intro _ (And.intro rfl ?_)) | (with_reducible (refine cb_t rfl ?_)) | (with_reducible (refine cb_f rfl ?_)) | (refine cb_dt (by omega) ?_) | (refine cb_df (by omega) ?_) | (refine cb_nt (by omega) ?_) | (refine cb_nf (by omega) ?_) | (refine cb_t (by assumption) ?_) | (refine cb_f (by assumption) ?_) | (refine i_lt (by omega) ?_) | (refine i_le (by omega) ?_) | (refine i_cut (by omega) ?_) | (refine And.intro (by omega) ?_) | (refine And.intro trivial ?_) | (refine And.intro (by decide) ?_) | (refine And.intro (Nat.le_of_ble_eq_true rfl) ?_))
      (refine le_auto (by rfl) ?_ ?_) <;> (repeat' (first | (exact trivial) | (with_reducible rfl) | (exact (rfl : _ = true)) | (exact (rfl : _ = some _)) | (exact (rfl : _ = none)) | (refine And.intro ?_ ?_) | ((show (_ : Int) = _); omega) | ((fail_if_success (with_reducible (show _ = _))); (show _ = _))))
  · repeat ((try conv => whnf); first | (refine And.intro rfl ?_) | (refine w_addn (by omega) ?_) | (refine w_subn (by omega) ?_) | (refine w_add (by omega) ?_) | (refine w_sub (by omega) ?_) | (refine w_any (by omega) ?_) | (refine Exists.intro _ (And.intro rfl ?_)) | (with_reducible (refine cb_t rfl ?_)) | (with_reducible (refine cb_f rfl ?_)) | (refine cb_dt (by omega) ?_) | (refine cb_df (by omega) ?_) | (refine cb_nt (by omega) ?_) | (refine cb_nf (by omega) ?_) | (refine cb_t (by assumption) ?_) | (refine cb_f (by assumption) ?_) | (refine i_lt (by omega) ?_) | (refine i_le (by omega) ?_) | (refine i_cut (by omega) ?_) | (refine And.intro (by omega) ?_) | (refine And.intro trivial ?_) | (refine And.intro (by decide) ?_) | (refine And.intro (Nat.le_of_ble_eq_true rfl) ?_))
    (refine ans_auto (by rfl) ?_ ?_ (by rfl)) <;> (repeat' (first | (exact trivial) | (with_reducible rfl) | (exact (rfl : _ = true)) | (exact (rfl : _ = some _)) | (exact (rfl : _ = none)) | (refine And.intro ?_ ?_) | ((show (_ : Int) = _); omega) | ((fail_if_success (with_reducible (show _ = _))); (show _ = _))))
theorem c_isW (w : Nat) (hw : 1 ≤ w ∧ w ≤ 32) : CT Tryd.prog 64 [] [.int .i64 (w : Int)] (.bool true) [] := by
  have := c_isWide (w : Int)
  rwa [inB_iff.2 (by omega)] at this
set_option maxRecDepth 100000 in
set_option maxHeartbeats 2000000 in
theorem c_ProveLeaf (l : List Lf) (nm : Bs) (w n : Nat) (h : leavesOk l = true) (hnm : nameOk nm = true) (hw : 1 ≤ w ∧ w ≤ 32) (hn : n ≤ 8) : CT Tryd.prog 22 [] [.sl 2 (lvE l), .str nm, .int .i64 (8 - (n : Int)), .int .i64 (w : Int)] (.tup [.agg [.ref 1, .ref 2], .bool true]) [.row 2 (lvE (bucketL l (ixB nm))), .row 1 (strE (sidesB l w (ixB nm) n))] := by
  have hnl := nameOk_len hnm
  have h24 := (ok_sorted h).1
  have c1 := c_LeavesOk l (by omega) (fun i => by
    have h1 := name_le h i
    obtain ⟨_, h2, _⟩ := ok_sorted h
    unfold lfAt at h1 ⊢
    rcases Nat.lt_or_ge i l.length with hk | hk
    · simp only [List.getD, List.getElem?_eq_getElem hk, Option.getD_some] at h1 ⊢
      have := valueOk_len (h2 _ (List.getElem_mem hk)).2
      omega
    · simp [List.getD, List.getElem?_eq_none hk])
  rw [h] at c1
  have c2 := c_NameOk nm (by omega)
  rw [hnm] at c2
  have c3 : CT Tryd.prog 63 [] [.int .i64 (8 - (n : Int)), .int .i64 0, .int .i64 8] (.bool true) [] := by
    have := c_in (8 - (n : Int)) 0 8
    rwa [inB_iff.2 (by omega)] at this
  have c4 := c_isW w hw
  have c5 := c_IndexOf nm (by omega)
  have hix := ixB_lt nm
  have c6 := c_BucketOf l (ixB nm : Int) (by omega) (name_le h)
  have c7 := c_newGrove l w h
  have c8 := c_sides l w (ixB nm) n h hw hix hn
  generalize bucketL l (ixB nm : Int) = B at c6 ⊢
  generalize sidesB l w (ixB nm) n = S at c8 ⊢
  refine ct_intro tt3_ok 1 rfl Tryd.func22 rfl rfl rfl ?_
  repeat ((try conv => whnf); first | (refine c_call ([]) (c1) (by ((repeat' (first | (exact trivial) | (exact rfl) | (refine And.intro ?_ ?_))); first | done | fail)) (by ((repeat' (first | (exact trivial) | (exact rfl) | (refine And.intro ?_ ?_))); first | done | fail)) (by decide) (by rfl) (by first | exact .inl rfl | (refine .inr ⟨?_, ?_⟩ <;> simp [own2, own1, own0, ownE])) ?_) | (refine c_call ([]) (c2) (by ((repeat' (first | (exact trivial) | (exact rfl) | (refine And.intro ?_ ?_))); first | done | fail)) (by ((repeat' (first | (exact trivial) | (exact rfl) | (refine And.intro ?_ ?_))); first | done | fail)) (by decide) (by rfl) (by first | exact .inl rfl | (refine .inr ⟨?_, ?_⟩ <;> simp [own2, own1, own0, ownE])) ?_) | (refine c_call ([]) (c3) (by ((repeat' (first | (exact trivial) | (exact rfl) | (refine And.intro ?_ ?_))); first | done | fail)) (by ((repeat' (first | (exact trivial) | (exact rfl) | (refine And.intro ?_ ?_))); first | done | fail)) (by decide) (by rfl) (by first | exact .inl rfl | (refine .inr ⟨?_, ?_⟩ <;> simp [own2, own1, own0, ownE])) ?_) | (refine c_call ([]) (c4) (by ((repeat' (first | (exact trivial) | (exact rfl) | (refine And.intro ?_ ?_))); first | done | fail)) (by ((repeat' (first | (exact trivial) | (exact rfl) | (refine And.intro ?_ ?_))); first | done | fail)) (by decide) (by rfl) (by first | exact .inl rfl | (refine .inr ⟨?_, ?_⟩ <;> simp [own2, own1, own0, ownE])) ?_) | (refine c_call ([]) (c5) (by ((repeat' (first | (exact trivial) | (exact rfl) | (refine And.intro ?_ ?_))); first | done | fail)) (by ((repeat' (first | (exact trivial) | (exact rfl) | (refine And.intro ?_ ?_))); first | done | fail)) (by decide) (by rfl) (by first | exact .inl rfl | (refine .inr ⟨?_, ?_⟩ <;> simp [own2, own1, own0, ownE])) ?_) | (refine c_call ([]) (c6) (by ((repeat' (first | (exact trivial) | (exact rfl) | (refine And.intro ?_ ?_))); first | done | fail)) (by ((repeat' (first | (exact trivial) | (exact rfl) | (refine And.intro ?_ ?_))); first | done | fail)) (by decide) (by rfl) (by first | exact .inl rfl | (refine .inr ⟨?_, ?_⟩ <;> simp [own2, own1, own0, ownE])) ?_) | (refine c_call ([]) (c7) (by ((repeat' (first | (exact trivial) | (exact rfl) | (refine And.intro ?_ ?_))); first | done | fail)) (by ((repeat' (first | (exact trivial) | (exact rfl) | (refine And.intro ?_ ?_))); first | done | fail)) (by decide) (by rfl) (by first | exact .inl rfl | (refine .inr ⟨?_, ?_⟩ <;> simp [own2, own1, own0, ownE])) ?_) | (refine c_call ([]) (c8) (by ((repeat' (first | (exact trivial) | (exact rfl) | (refine And.intro ?_ ?_))); first | done | fail)) (by ((repeat' (first | (exact trivial) | (exact rfl) | (refine And.intro ?_ ?_))); first | done | fail)) (by decide) (by rfl) (by first | exact .inl rfl | (refine .inr ⟨by simp [own2, own1, own0], fun e he => ?_⟩; simp only [List.mem_cons, List.not_mem_nil, or_false] at he <;> first | exact he.elim | (subst he; (first | exact own_lvE _ | exact own_strE _)) | (rcases he with rfl | rfl <;> (first | exact own_lvE _ | exact own_strE _)))) ?_) | (refine And.intro (by kernel_rfl) ?_) | (refine And.intro rfl ?_) | (refine w_addn (by omega) ?_) | (refine w_subn (by omega) ?_) | (refine w_add (by omega) ?_) | (refine w_sub (by omega) ?_) | (refine w_any (by omega) ?_) | (refine Exists.intro _ (And.intro rfl ?_)) | (with_reducible (refine cb_t rfl ?_)) | (with_reducible (refine cb_f rfl ?_)) | (refine cb_dt (by omega) ?_) | (refine cb_df (by omega) ?_) | (refine cb_nt (by omega) ?_) | (refine cb_nf (by omega) ?_) | (refine cb_t (by assumption) ?_) | (refine cb_f (by assumption) ?_) | (refine i_lt (by omega) ?_) | (refine i_le (by omega) ?_) | (refine i_cut (by omega) ?_) | (refine And.intro (by omega) ?_) | (refine And.intro trivial ?_) | (refine And.intro (by decide) ?_) | (refine And.intro (Nat.le_of_ble_eq_true rfl) ?_))
  (refine ans_auto (by rfl) ?_ ?_ (by rfl)) <;> (repeat' (first | (exact trivial) | (with_reducible rfl) | (exact (rfl : _ = true)) | (exact (rfl : _ = some _)) | (exact (rfl : _ = none)) | (refine And.intro ?_ ?_) | ((show (_ : Int) = _); omega) | ((fail_if_success (with_reducible (show _ = _))); (show _ = _))))
set_option maxRecDepth 100000 in
set_option maxHeartbeats 1000000 in
theorem c_ProofSays (l : List Lf) (s : List Bs) (nm : Bs) (hl : (l.length : Int) ≤ 1000000000) : CT Tryd.prog 23 [] [.str nm, .agg [.sl 2 (lvE l), .sl 1 (strE s)]] (.tup [.str ((leafGet l nm).getD []), .bool (leafGet l nm).isSome]) [] := by
  have c1 := c_LeafGet l nm hl
  generalize (leafGet l nm).getD [] = a at c1 ⊢
  generalize (leafGet l nm).isSome = b at c1 ⊢
  refine ct_intro tt_ok 1 rfl Tryd.func23 rfl rfl rfl ?_
  repeat ((try conv => whnf); first | (refine c_call ([]) (c1) (by ((repeat' (first | (exact trivial) | (exact rfl) | (refine And.intro ?_ ?_))); first | done | fail)) (by ((repeat' (first | (exact trivial) | (exact rfl) | (refine And.intro ?_ ?_))); first | done | fail)) (by decide) (by rfl) (by first | exact .inl rfl | (refine .inr ⟨?_, ?_⟩ <;> simp [own2, own1, own0, ownE])) ?_) | (refine And.intro (by kernel_rfl) ?_) | (refine And.intro rfl ?_) | (refine w_addn (by omega) ?_) | (refine w_subn (by omega) ?_) | (refine w_add (by omega) ?_) | (refine w_sub (by omega) ?_) | (refine w_any (by omega) ?_) | (refine Exists.intro _ (And.intro rfl ?_)) | (with_reducible (refine cb_t rfl ?_)) | (with_reducible (refine cb_f rfl ?_)) | (refine cb_dt (by omega) ?_) | (refine cb_df (by omega) ?_) | (refine cb_nt (by omega) ?_) | (refine cb_nf (by omega) ?_) | (refine cb_t (by assumption) ?_) | (refine cb_f (by assumption) ?_) | (refine i_lt (by omega) ?_) | (refine i_le (by omega) ?_) | (refine i_cut (by omega) ?_) | (refine And.intro (by omega) ?_) | (refine And.intro trivial ?_) | (refine And.intro (by decide) ?_) | (refine And.intro (Nat.le_of_ble_eq_true rfl) ?_))
  (refine ans_auto (by rfl) ?_ ?_ (by rfl)) <;> (repeat' (first | (exact trivial) | (with_reducible rfl) | (exact (rfl : _ = true)) | (exact (rfl : _ = some _)) | (exact (rfl : _ = none)) | (refine And.intro ?_ ?_) | ((show (_ : Int) = _); omega) | ((fail_if_success (with_reducible (show _ = _))); (show _ = _))))
def wideTo (s : List Bs) (w : Int) (k : Nat) : Bool := (s.take k).all fun x => decide ((x.length : Int) = w)
theorem wideTo_next {s : List Bs} {w : Int} {k : Nat} (h : k < s.length) : wideTo s w (k + 1) = (wideTo s w k && decide (((pAt s k).length : Int) = w)) := by
  have : s.take (k + 1) = s.take k ++ [pAt s k] := by
    rw [List.take_add_one, List.getElem?_eq_getElem h]; simp [pAt, List.getD, List.getElem?_eq_getElem h]
  simp [wideTo, this]
theorem wideTo_bad {s : List Bs} {w : Int} {k : Nat} (h : k < s.length) (hne : ¬ ((pAt s k).length : Int) = w) : (s.all fun x => decide ((x.length : Int) = w)) = false := by
  rw [List.all_eq_false]
  refine ⟨pAt s k, ?_, by simpa using hne⟩
  simp [pAt, List.getD, List.getElem?_eq_getElem h]
set_option maxRecDepth 100000 in
set_option maxHeartbeats 1000000 in
theorem c_haveWidth (s : List Bs) (n w : Int) (hs : (s.length : Int) ≤ 1000000) : CT Tryd.prog 67 [] [.sl 1 (strE s), .int .i64 n, .int .i64 w] (.bool ((s.all fun x => decide ((x.length : Int) = w)) && decide ((s.length : Int) = n))) [] := by
  have hlen := strE_len s
  refine ct_intro tt_ok 1 rfl Tryd.func67 rfl rfl rfl ?_
  repeat ((try conv => whnf); first | (refine Exists.intro s.length (And.intro hlen ?_)) | (refine And.intro rfl ?_) | (refine w_addn (by omega) ?_) | (refine w_subn (by omega) ?_) | (refine w_add (by omega) ?_) | (refine w_sub (by omega) ?_) | (refine w_any (by omega) ?_) | (refine Exists.intro _ (And.intro rfl ?_)) | (with_reducible (refine cb_t rfl ?_)) | (with_reducible (refine cb_f rfl ?_)) | (refine cb_dt (by omega) ?_) | (refine cb_df (by omega) ?_) | (refine cb_nt (by omega) ?_) | (refine cb_nf (by omega) ?_) | (refine cb_t (by assumption) ?_) | (refine cb_f (by assumption) ?_) | (refine i_lt (by omega) ?_) | (refine i_le (by omega) ?_) | (refine i_cut (by omega) ?_) | (refine And.intro (by omega) ?_) | (refine And.intro trivial ?_) | (refine And.intro (by decide) ?_) | (refine And.intro (Nat.le_of_ble_eq_true rfl) ?_))
  refine loop_of Nat (fun k => ⟨[(0, .sl 1 (strE s)), (1, .int .i64 n), (2, .int .i64 w), (9, .sl 1 (strE s)), (10, .int .i64 (s.length : Int)), (11, .int .i64 (k : Int))], [], 2⟩) (fun k => k ≤ s.length ∧ wideTo s w k = true) (fun k => s.length - k) 0 ⟨by omega, rfl⟩ ?_ ?_
  · (refine le_auto (by rfl) ?_ ?_) <;> repeat' (first | (exact trivial) | (with_reducible rfl) | (exact (rfl : _ = true)) | (exact (rfl : _ = some _)) | (exact (rfl : _ = none)) | (refine And.intro ?_ ?_) | ((show (_ : Int) = _); omega) | ((fail_if_success (with_reducible (show _ = _))); (show _ = _)))
  · intro k hkk
    have hk := hkk.1
    have hp := hkk.2
    by_cases hlt : k < s.length
    · by_cases hq : ((pAt s k).length : Int) = w
      · have hnx := wideTo_next (w := w) hlt
        rw [hp, decide_eq_true hq] at hnx
        repeat ((try conv => whnf); first | (refine i_at (strE_get hlt) ?_) | (refine cb_nf hq ?_) | (refine And.intro rfl ?_) | (refine w_addn (by omega) ?_) | (refine w_subn (by omega) ?_) | (refine w_add (by omega) ?_) | (refine w_sub (by omega) ?_) | (refine w_any (by omega) ?_) | (refine Exists.intro _ (And.intro rfl ?_)) | (with_reducible (refine cb_t rfl ?_)) | (with_reducible (refine cb_f rfl ?_)) | (refine cb_dt (by omega) ?_) | (refine cb_df (by omega) ?_) | (refine cb_nt (by omega) ?_) | (refine cb_nf (by omega) ?_) | (refine cb_t (by assumption) ?_) | (refine cb_f (by assumption) ?_) | (refine i_lt (by omega) ?_) | (refine i_le (by omega) ?_) | (refine i_cut (by omega) ?_) | (refine And.intro (by omega) ?_) | (refine And.intro trivial ?_) | (refine And.intro (by decide) ?_) | (refine And.intro (Nat.le_of_ble_eq_true rfl) ?_))
        refine ⟨k + 1, ⟨by omega, hnx⟩, by omega, ?_⟩
        (refine le_auto (by rfl) ?_ ?_) <;> repeat' (first | (exact trivial) | (with_reducible rfl) | (exact (rfl : _ = true)) | (exact (rfl : _ = some _)) | (exact (rfl : _ = none)) | (refine And.intro ?_ ?_) | ((show (_ : Int) = _); omega) | ((fail_if_success (with_reducible (show _ = _))); (show _ = _)))
      · rw [wideTo_bad hlt hq]
        repeat ((try conv => whnf); first | (refine i_at (strE_get hlt) ?_) | (refine cb_nt hq ?_) | (refine And.intro rfl ?_) | (refine w_addn (by omega) ?_) | (refine w_subn (by omega) ?_) | (refine w_add (by omega) ?_) | (refine w_sub (by omega) ?_) | (refine w_any (by omega) ?_) | (refine Exists.intro _ (And.intro rfl ?_)) | (with_reducible (refine cb_t rfl ?_)) | (with_reducible (refine cb_f rfl ?_)) | (refine cb_dt (by omega) ?_) | (refine cb_df (by omega) ?_) | (refine cb_nt (by omega) ?_) | (refine cb_nf (by omega) ?_) | (refine cb_t (by assumption) ?_) | (refine cb_f (by assumption) ?_) | (refine i_lt (by omega) ?_) | (refine i_le (by omega) ?_) | (refine i_cut (by omega) ?_) | (refine And.intro (by omega) ?_) | (refine And.intro trivial ?_) | (refine And.intro (by decide) ?_) | (refine And.intro (Nat.le_of_ble_eq_true rfl) ?_))
        (refine ans_auto (by rfl) ?_ ?_ (by rfl)) <;> (repeat' (first | (exact trivial) | (with_reducible rfl) | (exact (rfl : _ = true)) | (exact (rfl : _ = some _)) | (exact (rfl : _ = none)) | (refine And.intro ?_ ?_) | ((show (_ : Int) = _); omega) | ((fail_if_success (with_reducible (show _ = _))); (show _ = _)))) <;> rfl
    · have hke : k = s.length := by omega
      have hall : (s.all fun x => decide ((x.length : Int) = w)) = true := by rw [hke, wideTo, List.take_length] at hp; exact hp
      rw [hall]
      repeat ((try conv => whnf); first | (refine Exists.intro s.length (And.intro hlen ?_)) | (refine And.intro rfl ?_) | (refine w_addn (by omega) ?_) | (refine w_subn (by omega) ?_) | (refine w_add (by omega) ?_) | (refine w_sub (by omega) ?_) | (refine w_any (by omega) ?_) | (refine Exists.intro _ (And.intro rfl ?_)) | (with_reducible (refine cb_t rfl ?_)) | (with_reducible (refine cb_f rfl ?_)) | (refine cb_dt (by omega) ?_) | (refine cb_df (by omega) ?_) | (refine cb_nt (by omega) ?_) | (refine cb_nf (by omega) ?_) | (refine cb_t (by assumption) ?_) | (refine cb_f (by assumption) ?_) | (refine i_lt (by omega) ?_) | (refine i_le (by omega) ?_) | (refine i_cut (by omega) ?_) | (refine And.intro (by omega) ?_) | (refine And.intro trivial ?_) | (refine And.intro (by decide) ?_) | (refine And.intro (Nat.le_of_ble_eq_true rfl) ?_))
      (refine ans_auto (by rfl) ?_ ?_ (by rfl)) <;> (repeat' (first | (exact trivial) | (with_reducible rfl) | (exact (rfl : _ = true)) | (exact (rfl : _ = some _)) | (exact (rfl : _ = none)) | (refine And.intro ?_ ?_) | ((show (_ : Int) = _); omega) | ((fail_if_success (with_reducible (show _ = _))); (show _ = _)))) <;> (rw [Bool.true_and])
def joinTo (s : List Bs) (k : Nat) : Bs := (s.take k).flatten
theorem joinTo_next {s : List Bs} {k : Nat} (h : k < s.length) : joinTo s (k + 1) = joinTo s k ++ pAt s k := by
  have : s.take (k + 1) = s.take k ++ [pAt s k] := by
    rw [List.take_add_one, List.getElem?_eq_getElem h]; simp [pAt, List.getD, List.getElem?_eq_getElem h]
  simp [joinTo, this]
theorem joinTo_len {s : List Bs} (h : ∀ x ∈ s, x.length ≤ 200) : ∀ k, (joinTo s k).length ≤ 200 * k
  | 0 => by simp [joinTo]
  | k + 1 => by
    have ih := joinTo_len h k
    rcases Nat.lt_or_ge k s.length with hk | hk
    · rw [joinTo_next hk, List.length_append]
      have : (pAt s k).length ≤ 200 := by simp only [pAt, List.getD, List.getElem?_eq_getElem hk, Option.getD_some]; exact h _ (List.getElem_mem hk)
      omega
    · have : joinTo s (k + 1) = joinTo s k := by unfold joinTo; rw [List.take_of_length_le (by omega), List.take_of_length_le hk]
      rw [this]; omega
set_option maxRecDepth 100000 in
set_option maxHeartbeats 1000000 in
theorem c_joined (s : List Bs) (hs : (s.length : Int) ≤ 1000000) (h : ∀ x ∈ s, x.length ≤ 200) : CT Tryd.prog 70 [] [.sl 1 (strE s)] (.str s.flatten) [] := by
  have hlen := strE_len s
  refine ct_intro tt_ok 1 rfl Tryd.func70 rfl rfl rfl ?_
  repeat ((try conv => whnf); first | (refine Exists.intro s.length (And.intro hlen ?_)) | (refine And.intro rfl ?_) | (refine w_addn (by omega) ?_) | (refine w_subn (by omega) ?_) | (refine w_add (by omega) ?_) | (refine w_sub (by omega) ?_) | (refine w_any (by omega) ?_) | (refine Exists.intro _ (And.intro rfl ?_)) | (with_reducible (refine cb_t rfl ?_)) | (with_reducible (refine cb_f rfl ?_)) | (refine cb_dt (by omega) ?_) | (refine cb_df (by omega) ?_) | (refine cb_nt (by omega) ?_) | (refine cb_nf (by omega) ?_) | (refine cb_t (by assumption) ?_) | (refine cb_f (by assumption) ?_) | (refine i_lt (by omega) ?_) | (refine i_le (by omega) ?_) | (refine i_cut (by omega) ?_) | (refine And.intro (by omega) ?_) | (refine And.intro trivial ?_) | (refine And.intro (by decide) ?_) | (refine And.intro (Nat.le_of_ble_eq_true rfl) ?_))
  refine loop_cut 0 ⟨[(3, .str s.flatten)], [], 2⟩ Nat (fun k => ⟨[(3, .str (joinTo s k)), (6, .sl 1 (strE s)), (7, .int .i64 (s.length : Int)), (8, .int .i64 (k : Int))], [], 2⟩) (fun k => k ≤ s.length) (fun k => s.length - k) 0 (by omega) ?_ ?_ ?_
  · (refine le_auto (by rfl) ?_ ?_) <;> (repeat' (first | (exact trivial) | (with_reducible rfl) | (exact (rfl : _ = true)) | (exact (rfl : _ = some _)) | (exact (rfl : _ = none)) | (refine And.intro ?_ ?_) | ((show (_ : Int) = _); omega) | ((fail_if_success (with_reducible (show _ = _))); (show _ = _)))) <;> rfl
  · intro k hk
    by_cases hlt : k < s.length
    · have hnx := joinTo_next hlt
      have hj := joinTo_len h k
      have hp : (pAt s k).length ≤ 200 := by simp only [pAt, List.getD, List.getElem?_eq_getElem hlt, Option.getD_some]; exact h _ (List.getElem_mem hlt)
      generalize joinTo s k = o at hnx hj ⊢
      repeat ((try conv => whnf); first | (refine i_at (strE_get hlt) ?_) | (refine And.intro rfl ?_) | (refine w_addn (by omega) ?_) | (refine w_subn (by omega) ?_) | (refine w_add (by omega) ?_) | (refine w_sub (by omega) ?_) | (refine w_any (by omega) ?_) | (refine Exists.intro _ (And.intro rfl ?_)) | (with_reducible (refine cb_t rfl ?_)) | (with_reducible (refine cb_f rfl ?_)) | (refine cb_dt (by omega) ?_) | (refine cb_df (by omega) ?_) | (refine cb_nt (by omega) ?_) | (refine cb_nf (by omega) ?_) | (refine cb_t (by assumption) ?_) | (refine cb_f (by assumption) ?_) | (refine i_lt (by omega) ?_) | (refine i_le (by omega) ?_) | (refine i_cut (by omega) ?_) | (refine And.intro (by omega) ?_) | (refine And.intro trivial ?_) | (refine And.intro (by decide) ?_) | (refine And.intro (Nat.le_of_ble_eq_true rfl) ?_))
      refine ⟨k + 1, by omega, by omega, ?_⟩
      rw [hnx]
      (refine le_auto (by rfl) ?_ ?_) <;> (repeat' (first | (exact trivial) | (with_reducible rfl) | (exact (rfl : _ = true)) | (exact (rfl : _ = some _)) | (exact (rfl : _ = none)) | (refine And.intro ?_ ?_) | ((show (_ : Int) = _); omega) | ((fail_if_success (with_reducible (show _ = _))); (show _ = _))))
    · have hke : k = s.length := by omega
      rw [hke, joinTo, List.take_length]
      repeat ((try conv => whnf); first | (refine And.intro rfl ?_) | (refine w_addn (by omega) ?_) | (refine w_subn (by omega) ?_) | (refine w_add (by omega) ?_) | (refine w_sub (by omega) ?_) | (refine w_any (by omega) ?_) | (refine Exists.intro _ (And.intro rfl ?_)) | (with_reducible (refine cb_t rfl ?_)) | (with_reducible (refine cb_f rfl ?_)) | (refine cb_dt (by omega) ?_) | (refine cb_df (by omega) ?_) | (refine cb_nt (by omega) ?_) | (refine cb_nf (by omega) ?_) | (refine cb_t (by assumption) ?_) | (refine cb_f (by assumption) ?_) | (refine i_lt (by omega) ?_) | (refine i_le (by omega) ?_) | (refine i_cut (by omega) ?_) | (refine And.intro (by omega) ?_) | (refine And.intro trivial ?_) | (refine And.intro (by decide) ?_) | (refine And.intro (Nat.le_of_ble_eq_true rfl) ?_))
      (refine le_auto (by rfl) ?_ ?_) <;> (repeat' (first | (exact trivial) | (with_reducible rfl) | (exact (rfl : _ = true)) | (exact (rfl : _ = some _)) | (exact (rfl : _ = none)) | (refine And.intro ?_ ?_) | ((show (_ : Int) = _); omega) | ((fail_if_success (with_reducible (show _ = _))); (show _ = _))))
  · repeat ((try conv => whnf); first | (refine And.intro rfl ?_) | (refine w_addn (by omega) ?_) | (refine w_subn (by omega) ?_) | (refine w_add (by omega) ?_) | (refine w_sub (by omega) ?_) | (refine w_any (by omega) ?_) | (refine Exists.intro _ (And.intro rfl ?_)) | (with_reducible (refine cb_t rfl ?_)) | (with_reducible (refine cb_f rfl ?_)) | (refine cb_dt (by omega) ?_) | (refine cb_df (by omega) ?_) | (refine cb_nt (by omega) ?_) | (refine cb_nf (by omega) ?_) | (refine cb_t (by assumption) ?_) | (refine cb_f (by assumption) ?_) | (refine i_lt (by omega) ?_) | (refine i_le (by omega) ?_) | (refine i_cut (by omega) ?_) | (refine And.intro (by omega) ?_) | (refine And.intro trivial ?_) | (refine And.intro (by decide) ?_) | (refine And.intro (Nat.le_of_ble_eq_true rfl) ?_))
    (refine ans_auto (by rfl) ?_ ?_ (by rfl)) <;> (repeat' (first | (exact trivial) | (with_reducible rfl) | (exact (rfl : _ = true)) | (exact (rfl : _ = some _)) | (exact (rfl : _ = none)) | (refine And.intro ?_ ?_) | ((show (_ : Int) = _); omega) | ((fail_if_success (with_reducible (show _ = _))); (show _ = _))))
end Go.Proofs.YtigfpjnjjndenaaDoor
