/- For every code, the functions on entries have the results of the reference, and all buckets together are all entries. Condition: the two tables of words hold what the program's text lays in them (the card ties this to the text). -/
import Derived.Test.YtigfpjnjjndenaaDoorAn
import Derived.Test.YtigfpjnjjndenaaDoorIx
import Derived.Test.YtigfpjnjjndenaaDoorFFJ
import Derived.Test.YtigfpjnjjndenaaDoorPlainA
import Derived.Test.YtigfpjnjjndenaaDoorShell
import Derived.Test.YtigfpjnjjndenaaDoorRows
import Derived.Test.YtigfpjnjjndenaaDoorCards
import Derived.Test.YtigfpjnjjndenaaDoorTie
import Derived.ProofKit
import Derived.OpenShut
import Derived.OpenVars
import Derived.ShutString
import Derived.ChangeOld
import Derived.ChangeSlices
import Derived.ChangeVars
import Derived.Below
import Derived.Lib.LaidTab
import Derived.LaidMore
import Derived.Stop.LaidErr
import Derived.MakeChecks
import Derived.SevenTiedAt
namespace Go.Proofs.YtigfpjnjjndenaaDoor.fnLeavesTold
open Go.ChangeShapes Go.WideShapes Go.ChangeAt Go.RowKit Pl
open Go.ChangeMaps (open_string shut_string)
set_option linter.unusedVariables false
set_option linter.unusedSimpArgs false

theorem own : ownKnob Tryd.prog.godebug = none := by kernel_rfl
theorem laidOut : laidOutB Tryd.prog = true := by kernel_rfl
theorem ins_put_all (L : List Lf) (n v : Bs) : insR L n v = putR L n v := by
  unfold insR putR
  cases h : leavesOk L
  · rfl
  · rw [ins_put (ok_sorted h).2.2]
theorem ins_mem {P : Lf → Prop} {n v : Bs} (hp : P (n, v)) : ∀ {l : List Lf} {s : List Lf × Bool}, (∀ x ∈ l, P x) → (∀ x ∈ s.1, P x) → ∀ x ∈ (l.foldl (insS n v) s).1, P x
  | [], s, _, hs => hs
  | y :: l, s, hl, hs => by
    refine ins_mem hp (l := l) (s := insS n v s y) (fun x hx => hl x (List.mem_cons_of_mem _ hx)) ?_
    intro x hx
    simp only [insS, List.mem_append] at hx
    rcases hx with hx | hx
    · cases hb : (!s.2 && !ltB y.1 n) with
      | true =>
        rw [hb] at hx
        rcases List.mem_append.1 hx with hx | hx
        · exact hs x hx
        · rw [List.mem_singleton.1 hx]; exact hp
      | false => rw [hb] at hx; exact hs x hx
    · split at hx
      · cases hx
      · rw [List.mem_singleton.1 hx]; exact hl y (by simp)
theorem insL_small {l : List Lf} {n v : Bs} (h : Small9 l) (hn : n.length ≤ 9) (hv : v.length ≤ 9) : Small9 (insL l n v) := by
  have hm := ins_mem (P := fun x : Lf => (x.1.length : Int) ≤ 9 ∧ (x.2.length : Int) ≤ 9) (n := n) (v := v) ⟨by show (n.length : Int) ≤ 9; omega, by show (v.length : Int) ≤ 9; omega⟩ (s := ([], false)) h (fun x hx => by cases hx)
  unfold insL insF
  cases (l.foldl (insS n v) ([], false)).2
  · exact small_app hm (by omega) (by omega)
  · exact hm
theorem readLv_len {t : Bs} : ((readLvI t).getD []).length ≤ 24 := by
  unfold readLvI
  simp only
  split
  · rename_i h
    have hl : leavesOk (leavesI t 0 false).1 = true := by
      have h0 : (leavesI t 0 false).2.2 = false := by
        simp only [doneB, Bool.and_eq_true] at h
        cases hb : (leavesI t 0 false).2.2
        · rfl
        · rw [hb] at h; simp at h
      rcases hR : leavesI t 0 false with ⟨l, q, b⟩
      rw [hR] at h0
      simp only at h0
      subst h0
      exact (leavesI_enc hR (by omega)).2.1
    exact (ok_sorted hl).1
  · simp
theorem dropR_len (l : List Lf) (n : Bs) : (dropR l n).1.length ≤ l.length := by
  unfold dropR
  cases (leafGet l n).isSome && leavesOk l
  · exact Nat.le_refl _
  · exact List.length_filter_le _ _
section
attribute [local irreducible] CondB CallP LoopW AnsP LeP
set_option maxRecDepth 100000 in
set_option maxHeartbeats 8000000 in
theorem c_law (c : Bs) : CT Tryd.prog 3 [] [.sl 1 (bytesE c)] (.bool true) [] := by
  have cb := c_big c
  by_cases hc : (c.length : Int) ≤ 1048576
  · obtain ⟨L, n, v, ⟨hs, hl25, hn, hv⟩, cD⟩ := c_DrawLeafPut c hc
    obtain ⟨t, ht, cT⟩ := c_DrawReadLeaves c hc
    obtain ⟨X, ⟨hX, hXs, hX9⟩, cX⟩ := c_DrawLeaves c hc
    have fL := hs.fit
    have sP : Small9 (putL L n v) := hs.put (by omega) (by omega)
    have cA := c_LeafPut L n v (by omega) fL (insL_small hs hn hv).fit
    rw [ins_put_all] at cA
    have cB := c_sLeafPut L n v (by omega) fL sP.fit
    have hpl := putR_len (l := L) (n := n) (v := v)
    have cC := c_LeafDrop L n (by omega) fL
    have cE := c_sLeafDrop L n (by omega) fL
    have hdl := dropR_len L n
    have cF := c_ReadLeaves t (by omega)
    have cG := c_sReadLeaves t (by omega)
    have hrl := readLv_len (t := t)
    have cO := c_LeavesOk L (by omega) fL
    have cP := c_sLeavesOk L (by omega) fL
    generalize (readLvI t).isSome = r2 at cF cG
    generalize (readLvI t).getD [] = R at cF cG hrl
    rcases hput : putR L n v with ⟨A, a2⟩
    rcases hdrop : dropR L n with ⟨D, d2⟩
    rw [hput] at cA cB hpl
    rw [hdrop] at cC cE hdl
    simp only at cA cB cC cE hpl hdl
    have s1 := c_sameLeaves A A (by omega) (by omega)
    have s2 := c_sameLeaves D D (by omega) (by omega)
    have s3 := c_sameLeaves R R (by omega) (by omega)
    generalize leavesOk L = o2 at cO cP
    have lX := lv_len X
    have hXf : ∀ k, ((lfAt X k).1.length : Int) ≤ 100000000 := fun k => by
      unfold lfAt
      rcases Nat.lt_or_ge k X.length with hk | hk
      · have := hXs X[k] (List.getElem_mem hk)
        simp only [List.getD, List.getElem?_eq_getElem hk, Option.getD_some]
        omega
      · simp [List.getD, List.getElem?_eq_none hk]
    refine ct_intro tt_ok 1 rfl Tryd.func3 rfl rfl rfl ?_
    repeat ((try conv => whnf); first | (refine c_call ([]) (cb) (by ((repeat' (first | (exact trivial) | (exact rfl) | (refine And.intro ?_ ?_))); first | done | fail)) (by ((repeat' (first | (exact trivial) | (exact rfl) | (refine And.intro ?_ ?_))); first | done | fail)) (by decide) (by rfl) (by first | exact .inl rfl | (refine .inr ⟨?_, ?_⟩ <;> simp [own2, own1, own0, ownE])) ?_) | (refine c_call ([]) (cD) (by ((repeat' (first | (exact trivial) | (exact rfl) | (refine And.intro ?_ ?_))); first | done | fail)) (by ((repeat' (first | (exact trivial) | (exact rfl) | (refine And.intro ?_ ?_))); first | done | fail)) (by decide) (by rfl) (by first | exact .inl rfl | (refine .inr ⟨?_, ?_⟩ <;> simp [own2, own1, own0, ownE])) ?_) | (refine c_call ([]) (cA) (by ((repeat' (first | (exact trivial) | (exact rfl) | (refine And.intro ?_ ?_))); first | done | fail)) (by ((repeat' (first | (exact trivial) | (exact rfl) | (refine And.intro ?_ ?_))); first | done | fail)) (by decide) (by rfl) (by first | exact .inl rfl | (refine .inr ⟨by simp [own2, own1, own0], fun e he => ?_⟩; simp only [List.mem_cons, List.not_mem_nil, or_false] at he <;> first | exact he.elim | (subst he; exact own_lvE _) | (rcases he with rfl | rfl <;> exact own_lvE _))) ?_) | (refine c_call ([]) (cB) (by ((repeat' (first | (exact trivial) | (exact rfl) | (refine And.intro ?_ ?_))); first | done | fail)) (by ((repeat' (first | (exact trivial) | (exact rfl) | (refine And.intro ?_ ?_))); first | done | fail)) (by decide) (by rfl) (by first | exact .inl rfl | (refine .inr ⟨by simp [own2, own1, own0], fun e he => ?_⟩; simp only [List.mem_cons, List.not_mem_nil, or_false] at he <;> first | exact he.elim | (subst he; exact own_lvE _) | (rcases he with rfl | rfl <;> exact own_lvE _))) ?_) | (refine c_call ([]) (cC) (by ((repeat' (first | (exact trivial) | (exact rfl) | (refine And.intro ?_ ?_))); first | done | fail)) (by ((repeat' (first | (exact trivial) | (exact rfl) | (refine And.intro ?_ ?_))); first | done | fail)) (by decide) (by rfl) (by first | exact .inl rfl | (refine .inr ⟨by simp [own2, own1, own0], fun e he => ?_⟩; simp only [List.mem_cons, List.not_mem_nil, or_false] at he <;> first | exact he.elim | (subst he; exact own_lvE _) | (rcases he with rfl | rfl <;> exact own_lvE _))) ?_) | (refine c_call ([]) (cE) (by ((repeat' (first | (exact trivial) | (exact rfl) | (refine And.intro ?_ ?_))); first | done | fail)) (by ((repeat' (first | (exact trivial) | (exact rfl) | (refine And.intro ?_ ?_))); first | done | fail)) (by decide) (by rfl) (by first | exact .inl rfl | (refine .inr ⟨by simp [own2, own1, own0], fun e he => ?_⟩; simp only [List.mem_cons, List.not_mem_nil, or_false] at he <;> first | exact he.elim | (subst he; exact own_lvE _) | (rcases he with rfl | rfl <;> exact own_lvE _))) ?_) | (refine c_call ([]) (cT) (by ((repeat' (first | (exact trivial) | (exact rfl) | (refine And.intro ?_ ?_))); first | done | fail)) (by ((repeat' (first | (exact trivial) | (exact rfl) | (refine And.intro ?_ ?_))); first | done | fail)) (by decide) (by rfl) (by first | exact .inl rfl | (refine .inr ⟨?_, ?_⟩ <;> simp [own2, own1, own0, ownE])) ?_) | (refine c_call ([]) (cF) (by ((repeat' (first | (exact trivial) | (exact rfl) | (refine And.intro ?_ ?_))); first | done | fail)) (by ((repeat' (first | (exact trivial) | (exact rfl) | (refine And.intro ?_ ?_))); first | done | fail)) (by decide) (by rfl) (by first | exact .inl rfl | (refine .inr ⟨by simp [own2, own1, own0], fun e he => ?_⟩; simp only [List.mem_cons, List.not_mem_nil, or_false] at he <;> first | exact he.elim | (subst he; exact own_lvE _) | (rcases he with rfl | rfl <;> exact own_lvE _))) ?_) | (refine c_call ([]) (cG) (by ((repeat' (first | (exact trivial) | (exact rfl) | (refine And.intro ?_ ?_))); first | done | fail)) (by ((repeat' (first | (exact trivial) | (exact rfl) | (refine And.intro ?_ ?_))); first | done | fail)) (by decide) (by rfl) (by first | exact .inl rfl | (refine .inr ⟨by simp [own2, own1, own0], fun e he => ?_⟩; simp only [List.mem_cons, List.not_mem_nil, or_false] at he <;> first | exact he.elim | (subst he; exact own_lvE _) | (rcases he with rfl | rfl <;> exact own_lvE _))) ?_) | (refine c_call ([]) (cX) (by ((repeat' (first | (exact trivial) | (exact rfl) | (refine And.intro ?_ ?_))); first | done | fail)) (by ((repeat' (first | (exact trivial) | (exact rfl) | (refine And.intro ?_ ?_))); first | done | fail)) (by decide) (by rfl) (by first | exact .inl rfl | (refine .inr ⟨?_, ?_⟩ <;> simp [own2, own1, own0, ownE])) ?_) | (refine And.intro rfl ?_) | (refine w_addn (by omega) ?_) | (refine w_subn (by omega) ?_) | (refine w_add (by omega) ?_) | (refine w_sub (by omega) ?_) | (refine w_any (by omega) ?_) | (refine Exists.intro _ (And.intro rfl ?_)) | (with_reducible (refine cb_t rfl ?_)) | (with_reducible (refine cb_f rfl ?_)) | (refine cb_dt (by omega) ?_) | (refine cb_df (by omega) ?_) | (refine cb_nt (by omega) ?_) | (refine cb_nf (by omega) ?_) | (refine cb_t (by assumption) ?_) | (refine cb_f (by assumption) ?_) | (refine i_lt (by omega) ?_) | (refine i_le (by omega) ?_) | (refine i_cut (by omega) ?_) | (refine And.intro (by omega) ?_) | (refine And.intro trivial ?_) | (refine And.intro (by decide) ?_) | (refine And.intro (Nat.le_of_ble_eq_true rfl) ?_))
    refine loop_cut 0 ⟨[(3, .ref 1), (6, .ref 2), (7, .bool a2), (8, .ref 3), (9, .bool a2), (10, .ref 4), (11, .bool d2), (12, .ref 5), (13, .bool d2), (15, .ref 6), (16, .bool r2), (17, .ref 7), (18, .bool r2), (19, .ref 8), (20, .int .i64 (X.length : Int))], [(1, some (.row 2 (lvE L))), (2, some (.row 2 (lvE A))), (3, some (.row 2 (lvE A))), (4, some (.row 2 (lvE D))), (5, some (.row 2 (lvE D))), (6, some (.row 2 (lvE R))), (7, some (.row 2 (lvE R))), (8, some (.row 2 (lvE X)))], 9⟩ Nat (fun i => ⟨[(3, .ref 1), (6, .ref 2), (7, .bool a2), (8, .ref 3), (9, .bool a2), (10, .ref 4), (11, .bool d2), (12, .ref 5), (13, .bool d2), (15, .ref 6), (16, .bool r2), (17, .ref 7), (18, .bool r2), (19, .ref 8), (20, .int .i64 ((cntTo X i : Nat) : Int)), (21, .int .i64 (i : Int))], [(1, some (.row 2 (lvE L))), (2, some (.row 2 (lvE A))), (3, some (.row 2 (lvE A))), (4, some (.row 2 (lvE D))), (5, some (.row 2 (lvE D))), (6, some (.row 2 (lvE R))), (7, some (.row 2 (lvE R))), (8, some (.row 2 (lvE X)))], 9⟩) (fun i => i ≤ 256) (fun i => 256 - i) 0 (by omega) ?_ ?_ ?_
    · (refine le_auto (by rfl) ?_ ?_) <;> (repeat' (first | (exact trivial) | (with_reducible rfl) | (exact (rfl : _ = true)) | (exact (rfl : _ = some _)) | (exact (rfl : _ = none)) | (refine And.intro ?_ ?_) | ((show (_ : Int) = _); omega) | ((fail_if_success (with_reducible (show _ = _))); (show _ = _)))) <;> first | rfl | (rw [cntTo_zero]; rfl) | decide
    · intro i hi
      by_cases hlt : i < 256
      · have cK := c_BucketOf X (i : Int) (by omega) hXf
        have hnx := cntTo_next i X
        have hle := cntTo_le X (i + 1)
        have lB := lv_len (bucketL X (i : Int))
        generalize bucketL X (i : Int) = B at cK hnx lB
        repeat ((try conv => whnf); first | (refine c_call ([]) (cK) (by ((repeat' (first | (exact trivial) | (exact rfl) | (refine And.intro ?_ ?_))); first | done | fail)) (by ((repeat' (first | (exact trivial) | (exact rfl) | (refine And.intro ?_ ?_))); first | done | fail)) (by decide) (by rfl) (by first | exact .inl rfl | (refine .inr ⟨by simp [own2, own1, own0], fun e he => ?_⟩; simp only [List.mem_cons, List.not_mem_nil, or_false] at he <;> first | exact he.elim | (subst he; exact own_lvE _) | (rcases he with rfl | rfl <;> exact own_lvE _))) ?_) | (refine Exists.intro B.length (And.intro lB ?_)) | (refine And.intro rfl ?_) | (refine w_addn (by omega) ?_) | (refine w_subn (by omega) ?_) | (refine w_add (by omega) ?_) | (refine w_sub (by omega) ?_) | (refine w_any (by omega) ?_) | (refine Exists.intro _ (And.intro rfl ?_)) | (with_reducible (refine cb_t rfl ?_)) | (with_reducible (refine cb_f rfl ?_)) | (refine cb_dt (by omega) ?_) | (refine cb_df (by omega) ?_) | (refine cb_nt (by omega) ?_) | (refine cb_nf (by omega) ?_) | (refine cb_t (by assumption) ?_) | (refine cb_f (by assumption) ?_) | (refine i_lt (by omega) ?_) | (refine i_le (by omega) ?_) | (refine i_cut (by omega) ?_) | (refine And.intro (by omega) ?_) | (refine And.intro trivial ?_) | (refine And.intro (by decide) ?_) | (refine And.intro (Nat.le_of_ble_eq_true rfl) ?_))
        refine ⟨i + 1, by omega, by omega, ?_⟩
        rw [hnx]
        (refine le_auto (by rfl) ?_ ?_) <;> (repeat' (first | (exact trivial) | (with_reducible rfl) | (exact (rfl : _ = true)) | (exact (rfl : _ = some _)) | (exact (rfl : _ = none)) | (refine And.intro ?_ ?_) | ((show (_ : Int) = _); omega) | ((fail_if_success (with_reducible (show _ = _))); (show _ = _))))
      · have hi6 : i = 256 := by omega
        rw [hi6, cntTo_all]
        repeat ((try conv => whnf); first | (refine And.intro rfl ?_) | (refine w_addn (by omega) ?_) | (refine w_subn (by omega) ?_) | (refine w_add (by omega) ?_) | (refine w_sub (by omega) ?_) | (refine w_any (by omega) ?_) | (refine Exists.intro _ (And.intro rfl ?_)) | (with_reducible (refine cb_t rfl ?_)) | (with_reducible (refine cb_f rfl ?_)) | (refine cb_dt (by omega) ?_) | (refine cb_df (by omega) ?_) | (refine cb_nt (by omega) ?_) | (refine cb_nf (by omega) ?_) | (refine cb_t (by assumption) ?_) | (refine cb_f (by assumption) ?_) | (refine i_lt (by omega) ?_) | (refine i_le (by omega) ?_) | (refine i_cut (by omega) ?_) | (refine And.intro (by omega) ?_) | (refine And.intro trivial ?_) | (refine And.intro (by decide) ?_) | (refine And.intro (Nat.le_of_ble_eq_true rfl) ?_))
        (refine le_auto (by rfl) ?_ ?_) <;> (repeat' (first | (exact trivial) | (with_reducible rfl) | (exact (rfl : _ = true)) | (exact (rfl : _ = some _)) | (exact (rfl : _ = none)) | (refine And.intro ?_ ?_) | ((show (_ : Int) = _); omega) | ((fail_if_success (with_reducible (show _ = _))); (show _ = _))))
    · repeat ((try conv => whnf); first | (refine c_call ([]) (s1) (by ((repeat' (first | (exact trivial) | (exact rfl) | (refine And.intro ?_ ?_))); first | done | fail)) (by ((repeat' (first | (exact trivial) | (exact rfl) | (refine And.intro ?_ ?_))); first | done | fail)) (by decide) (by rfl) (by first | exact .inl rfl | (refine .inr ⟨by simp [own2, own1, own0], fun e he => ?_⟩; simp only [List.mem_cons, List.not_mem_nil, or_false] at he <;> first | exact he.elim | (subst he; exact own_lvE _) | (rcases he with rfl | rfl <;> exact own_lvE _))) ?_) | (refine c_call ([]) (s2) (by ((repeat' (first | (exact trivial) | (exact rfl) | (refine And.intro ?_ ?_))); first | done | fail)) (by ((repeat' (first | (exact trivial) | (exact rfl) | (refine And.intro ?_ ?_))); first | done | fail)) (by decide) (by rfl) (by first | exact .inl rfl | (refine .inr ⟨by simp [own2, own1, own0], fun e he => ?_⟩; simp only [List.mem_cons, List.not_mem_nil, or_false] at he <;> first | exact he.elim | (subst he; exact own_lvE _) | (rcases he with rfl | rfl <;> exact own_lvE _))) ?_) | (refine c_call ([]) (s3) (by ((repeat' (first | (exact trivial) | (exact rfl) | (refine And.intro ?_ ?_))); first | done | fail)) (by ((repeat' (first | (exact trivial) | (exact rfl) | (refine And.intro ?_ ?_))); first | done | fail)) (by decide) (by rfl) (by first | exact .inl rfl | (refine .inr ⟨by simp [own2, own1, own0], fun e he => ?_⟩; simp only [List.mem_cons, List.not_mem_nil, or_false] at he <;> first | exact he.elim | (subst he; exact own_lvE _) | (rcases he with rfl | rfl <;> exact own_lvE _))) ?_) | (refine c_call ([]) (cO) (by ((repeat' (first | (exact trivial) | (exact rfl) | (refine And.intro ?_ ?_))); first | done | fail)) (by ((repeat' (first | (exact trivial) | (exact rfl) | (refine And.intro ?_ ?_))); first | done | fail)) (by decide) (by rfl) (by first | exact .inl rfl | (refine .inr ⟨by simp [own2, own1, own0], fun e he => ?_⟩; simp only [List.mem_cons, List.not_mem_nil, or_false] at he <;> first | exact he.elim | (subst he; exact own_lvE _) | (rcases he with rfl | rfl <;> exact own_lvE _))) ?_) | (refine c_call ([]) (cP) (by ((repeat' (first | (exact trivial) | (exact rfl) | (refine And.intro ?_ ?_))); first | done | fail)) (by ((repeat' (first | (exact trivial) | (exact rfl) | (refine And.intro ?_ ?_))); first | done | fail)) (by decide) (by rfl) (by first | exact .inl rfl | (refine .inr ⟨by simp [own2, own1, own0], fun e he => ?_⟩; simp only [List.mem_cons, List.not_mem_nil, or_false] at he <;> first | exact he.elim | (subst he; exact own_lvE _) | (rcases he with rfl | rfl <;> exact own_lvE _))) ?_) | (refine Exists.intro X.length (And.intro lX ?_)) | (refine cb_t (decide_eq_true rfl) ?_) | (refine And.intro rfl ?_) | (refine w_addn (by omega) ?_) | (refine w_subn (by omega) ?_) | (refine w_add (by omega) ?_) | (refine w_sub (by omega) ?_) | (refine w_any (by omega) ?_) | (refine Exists.intro _ (And.intro rfl ?_)) | (with_reducible (refine cb_t rfl ?_)) | (with_reducible (refine cb_f rfl ?_)) | (refine cb_dt (by omega) ?_) | (refine cb_df (by omega) ?_) | (refine cb_nt (by omega) ?_) | (refine cb_nf (by omega) ?_) | (refine cb_t (by assumption) ?_) | (refine cb_f (by assumption) ?_) | (refine i_lt (by omega) ?_) | (refine i_le (by omega) ?_) | (refine i_cut (by omega) ?_) | (refine And.intro (by omega) ?_) | (refine And.intro trivial ?_) | (refine And.intro (by decide) ?_) | (refine And.intro (Nat.le_of_ble_eq_true rfl) ?_))
      (refine ans_auto (by rfl) ?_ ?_ (by rfl)) <;> (repeat' (first | (exact trivial) | (with_reducible rfl) | (exact (rfl : _ = true)) | (exact (rfl : _ = some _)) | (exact (rfl : _ = none)) | (refine And.intro ?_ ?_) | ((show (_ : Int) = _); omega) | ((fail_if_success (with_reducible (show _ = _))); (show _ = _))))
      exact decide_eq_true rfl
  · refine ct_intro tt_ok 1 rfl Tryd.func3 rfl rfl rfl ?_
    repeat ((try conv => whnf); first | (refine c_call ([]) (cb) (by ((repeat' (first | (exact trivial) | (exact rfl) | (refine And.intro ?_ ?_))); first | done | fail)) (by ((repeat' (first | (exact trivial) | (exact rfl) | (refine And.intro ?_ ?_))); first | done | fail)) (by decide) (by rfl) (by first | exact .inl rfl | (refine .inr ⟨?_, ?_⟩ <;> simp [own2, own1, own0, ownE])) ?_) | (refine And.intro rfl ?_) | (refine w_addn (by omega) ?_) | (refine w_subn (by omega) ?_) | (refine w_add (by omega) ?_) | (refine w_sub (by omega) ?_) | (refine w_any (by omega) ?_) | (refine Exists.intro _ (And.intro rfl ?_)) | (with_reducible (refine cb_t rfl ?_)) | (with_reducible (refine cb_f rfl ?_)) | (refine cb_dt (by omega) ?_) | (refine cb_df (by omega) ?_) | (refine cb_nt (by omega) ?_) | (refine cb_nf (by omega) ?_) | (refine cb_t (by assumption) ?_) | (refine cb_f (by assumption) ?_) | (refine i_lt (by omega) ?_) | (refine i_le (by omega) ?_) | (refine i_cut (by omega) ?_) | (refine And.intro (by omega) ?_) | (refine And.intro trivial ?_) | (refine And.intro (by decide) ?_) | (refine And.intro (Nat.le_of_ble_eq_true rfl) ?_))
    (refine ans_auto (by rfl) ?_ ?_ (by rfl)) <;> (repeat' (first | (exact trivial) | (with_reducible rfl) | (exact (rfl : _ = true)) | (exact (rfl : _ = some _)) | (exact (rfl : _ = none)) | (refine And.intro ?_ ?_) | ((show (_ : Int) = _); omega) | ((fail_if_success (with_reducible (show _ = _))); (show _ = _))))
end
/-- The walk. -/
theorem walk (a : Option Addr) (len cap : Nat) (zs : List Int) (w : World) (hg : Gl (cx0 w)) (h : IsRow .u8 w a len cap zs) :
    Calls Tryd.prog 3 #[.slice a len cap] w fun e w' => e = .returned (.bool true) ∧ Below w.heap.size w w' := by
  obtain ⟨c, _, hr⟩ := isRow_rv h
  exact ct_walk (c_law c) w hg (vs := [.slice a len cap]) ⟨_, [], rfl, hr, rfl⟩

/-! ### the row's step -/
theorem gS : Tryd.prog.globalNamed "loop.example/g00284/impl.startWords" = some 0 := by kernel_rfl
theorem gR : Tryd.prog.globalNamed "loop.example/g00284/impl.roundWords" = some 1 := by kernel_rfl
theorem tS : (Tryd.prog.globals[0]?).map (·.type) = some 218 := by kernel_rfl
theorem tR : (Tryd.prog.globals[1]?).map (·.type) = some 245 := by kernel_rfl
theorem uS : Tryd.prog.underlying 218 = some (.array 8 217) := by kernel_rfl
theorem uR : Tryd.prog.underlying 245 = some (.array 64 217) := by kernel_rfl
theorem uU : Tryd.prog.underlying 217 = some (.int .u32) := by kernel_rfl
theorem cU : Tryd.prog.cellsOf 217 = 1 := by kernel_rfl
theorem cS : Tryd.prog.cellsOf 218 = 8 := by kernel_rfl
theorem cR : Tryd.prog.cellsOf 245 = 64 := by kernel_rfl
theorem tab_heap {W : World} {name : String} {zs : List Int} {g : Nat} (h : Lib.TabIs Tryd.prog W name .u32 zs) (hg : Tryd.prog.globalNamed name = some g) : ∃ C t fr, W.heap[g]? = some (.cells C t fr) ∧ C.toList = zs.map fun z => Value.int .u32 z := by
  unfold Lib.TabIs World.var? at h
  rw [hg] at h
  simp only [Option.bind_some] at h
  cases hh : W.heap[g]? with
  | none => rw [hh] at h; cases h
  | some o =>
    rw [hh] at h
    cases o with
    | cells C t fr => exact ⟨C, t, fr, rfl, by have := Option.some.inj h; rw [this]⟩
    | _ => cases h
theorem glob_rl (ow : Own) (w : World) : ∀ zs : List Int, RL ow w (globT zs) (zs.map fun z => Value.int .u32 z)
  | [] => by simp [globT, RL]
  | z :: zs => by
    have ih := glob_rl ow w zs
    simp only [globT, List.map_cons, RL] at ih ⊢
    exact ⟨_, _, rfl, by simp [RV], ih⟩
theorem gl_of {W : World} (hL : laidMet Tryd.prog [("loop.example/g00284/impl.roundWords", Lib.tabData .u32 roundZ), ("loop.example/g00284/impl.startWords", Lib.tabData .u32 startZ)] W) : Gl (cx0 W) := by
  have hR := Lib.tabIs_of_head gR tR uR uU cU cR hL
  have hS := Lib.tabIs_of_head gS tS uS uU cU cS (laidMet.tail hL)
  obtain ⟨CR, tr, fr, hr, er⟩ := tab_heap hR gR
  obtain ⟨CS, ts, fs, hs, es⟩ := tab_heap hS gS
  intro g cs hg
  unfold glob at hg
  cases h1 : Nat.beq g 0 with
  | true =>
    rw [h1] at hg
    have e := Nat.eq_of_beq_eq_true h1
    subst e
    injection hg with hg; subst hg
    exact ⟨rfl, CS, ts, fs, hs, by rw [es]; exact glob_rl _ _ _⟩
  | false =>
    rw [h1] at hg
    cases h2 : Nat.beq g 1 with
    | true =>
      rw [h2] at hg
      have e := Nat.eq_of_beq_eq_true h2
      subst e
      injection hg with hg; subst hg
      exact ⟨rfl, CR, tr, fr, hr, by rw [er]; exact glob_rl _ _ _⟩
    | false => rw [h2] at hg; cases hg
/-- The door's own heap meets the condition. -/
theorem door_met (os : Os) (args : Array Value) : laidMetH Tryd.prog Rows.fnLeavesToldRow.laid ((World.doorLaid Tryd.prog 400 os).forCall (fun _ _ => 0) ⟨#[], args, []⟩).memory :=
  laidMetH_of_parts3 (fuel := 8) (laidMet_of_run' 8 (by kernel_rfl) (by kernel_rfl)) (by kernel_rfl) (by kernel_rfl)
set_option maxRecDepth 100000 in
theorem lifted (os : Os) (started : os.Started) (H : Type) (enc : TypeId × Value → H) :
    ReturnsInHanded {} Tryd.checked os 3 .any (fun w args => (Rows.fnLeavesToldSpec.pre enc Tryd.prog Tryd.f3 [] false w args ∧ laidMetH Tryd.prog Rows.fnLeavesToldRow.laid w) ∧ sizedMet enc Tryd.prog Tryd.f3 (OpenSpec.ofChange Rows.fnLeavesToldSpec) false w args) (Rows.fnLeavesToldSpec.post enc Tryd.prog Tryd.f3 false true false false) := by
  refine returnsInHanded_of_change_and (C := Tryd.checked) (X := fun w _ => laidMetH Tryd.prog Rows.fnLeavesToldRow.laid w) (fun _ _ _ hh h => h.of_heap hh) own started (by kernel_rfl) Tryd.func3
    (ChangeSpec.witness_shaped (enc := enc) (C := Tryd.checked) (os := os) (X := fun w _ => laidMetH Tryd.prog Rows.fnLeavesToldRow.laid w) false (World.doorLaid Tryd.prog 400 os) #[.slice none 0 0] 8 rfl (World.shaped_of_RefB (by kernel_rfl) (by kernel_rfl)) (by kernel_rfl) (by kernel_rfl) (by kernel_rfl) (door_met os _)) ?_
  intro W base args ds gs before hval0 hW _ _ hL0 _
  have hL1 : laidMet Tryd.prog Rows.fnLeavesToldRow.laid W := by rwa [MakeChecks.laidMetH_plain _ _ _ (by kernel_rfl)] at hL0
  have hgl := gl_of (show laidMet Tryd.prog [("loop.example/g00284/impl.roundWords", Lib.tabData .u32 roundZ), ("loop.example/g00284/impl.startWords", Lib.tabData .u32 startZ)] W from hL1)
  have hval : ∀ (j : Nat) t v, Tryd.f3.params[j]? = some t → args[j]? = some v → Value.okWide Tryd.prog W .any base t v := hval0
  have hW' := hW
  obtain ⟨p, q, hA0, hV, rfl, hfz, hnd⟩ := hW
  have hA : DataW.TrodAll enc Tryd.prog W 0 (fun _ => true) true Tryd.f3.params.toList args.toList ds p := hA0
  rw [Tryd.params3] at hA hval
  obtain ⟨v0, vs0, d0, ds0, p0, q0, hargs, rfl, rfl, h0, r0⟩ := trodAll_cons hA
  obtain ⟨rfl, rfl, rfl⟩ := trodAll_nil r0
  obtain rfl : args = #[v0] := by cases args; simp_all
  have hV0 : DataW.TrodVars enc Tryd.prog W (fun _ => true) Rows.fnLeavesToldSpec.vars gs q := hV
  obtain ⟨gA, tA, csA, fA, dA, pA, gB, tB, csB, fB, dB, pB, rfl, _, _, _, _, _, _, _, _, _⟩ := trodVars_two hV0
  obtain ⟨a0, len0, cap0, rfl⟩ := okWide_slice Tryd.underlying22 (hval 0 22 v0 rfl rfl)
  have k0 := h0
  have lt0 : ∀ x ∈ p0, x.block < W.heap.size := by obtain ⟨m, hm⟩ := k0; exact DataW.trod_lt m _ _ _ hm
  obtain ⟨z0, w0⟩ : ∃ zs, IsRow .u8 W a0 len0 cap0 zs := by
    obtain ⟨fuel, hf⟩ := h0
    rcases open_ints Tryd.underlying22 Tryd.underlying5 (by kernel_rfl) hf with ⟨hcs, _⟩ | ⟨x, l, c, zs, hcs, hlt, hl, hm, hz, _, hcell, hwz⟩
    · simp [Value.cells] at hcs
      obtain ⟨rfl, rfl, rfl⟩ := hcs
      exact ⟨[], .inl ⟨rfl, rfl, rfl, rfl⟩⟩
    · simp [Value.cells] at hcs
      obtain ⟨rfl, rfl, rfl⟩ := hcs
      exact ⟨zs, .inr ⟨_, rfl, hl, hm, by simpa using hz, hcell, hwz⟩⟩
  clear hA0 hval0 hV
  refine (walk a0 len0 cap0 z0 W hgl w0).mono fun e W' ⟨he, bel⟩ => ?_
  subst he
  exact ⟨_, rfl, _, _, _, [], _, q, hW', trodAll_mk1 (shut_bool Tryd.underlying4 _), (trodAll_cons_mk (Below.trod laidOut (by kernel_rfl) (of_decide_eq_true (by kernel_rfl)) k0 bel lt0) trodAll_mk0), Below.trodVars laidOut bel (by kernel_rfl) hV0, bel.frame _, fun h => by cases h⟩

theorem over : Rows.fnLeavesToldRow.holds Tryd.pinned (OpenSpec.ofChange Rows.fnLeavesToldSpec) :=
  OpenClaim.holds_of_wide 3 Tryd.f3 rfl rfl rfl rfl rfl rfl rfl ⟨rfl, rfl, rfl, rfl, rfl⟩ rfl rfl rfl rfl rfl (by kernel_rfl) Tryd.func3 (by kernel_rfl)
    (of_decide_eq_true (by kernel_rfl)) (by unfold Func.isWrapper; first | (rw [if_pos (by decide +kernel)]; kernel_rfl) | (rw [if_neg (by decide +kernel)]; exact ⟨rfl, rfl⟩))
    (fun os started H enc _ => lifted os started H enc)

/-- The statement: the row's card, tied to the program's text. -/
theorem proved : Rows.FnLeavesToldCardSaid :=
  Claim7.holds_tied_plain_at .later [] [.data, .data] true Rows.fnLeavesToldCard.stood.harness false
    over (fun _ h => by cases h) (by kernel_rfl) (fun _ h => by cases h) fnLeavesTold_row_tie rfl ⟨rfl, rfl⟩ (by kernel_rfl) rfl
    (fun f fn hf hfn => by
      obtain rfl : f = 3 := Option.some.inj ((show Tryd.prog.funcNamed "loop.example/g00284/laws.FnLeavesTold" = some 3 by kernel_rfl).symm.trans hf) |>.symm
      obtain rfl : fn = Tryd.f3 := (Option.some.inj (Tryd.func3.symm.trans hfn)).symm
      exact ⟨by kernel_rfl, fun j t ht => by
        rw [Tryd.params3] at ht
        have hm := Array.mem_of_getElem? ht
        have hall : (Tryd.f3.params.all fun u => !Tryd.prog.wantsStandIn u) = true := by kernel_rfl
        rw [Tryd.params3] at hall
        have := Array.all_eq_true_iff_forall_mem.1 hall t hm
        exact (show Tryd.prog.wantsStandIn t = false by simpa using this)⟩)
    (by kernel_rfl)
#print axioms proved
end Go.Proofs.YtigfpjnjjndenaaDoor.fnLeavesTold
