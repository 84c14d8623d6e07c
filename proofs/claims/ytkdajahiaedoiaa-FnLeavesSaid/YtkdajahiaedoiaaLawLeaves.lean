/- For every code, an entry that is put is contained, a removed one is not, all others are unchanged, and lists are read from what is written of them. No condition. -/
import Derived.Test.YtkdajahiaedoiaaFK
import Derived.Test.YtkdajahiaedoiaaFJ
import Derived.Test.YtkdajahiaedoiaaPlainPut
import Derived.Test.YtkdajahiaedoiaaShell
import Derived.Test.YtkdajahiaedoiaaRows
import Derived.ProofKit
import Derived.OpenShut
import Derived.ShutString
import Derived.ChangeOld
import Derived.ChangeSlices
import Derived.Below
namespace Go.Proofs.Ytkdajahiaedoiaa.fnLeaves
open Go.ChangeShapes Go.WideShapes Go.ChangeAt Go.RowKit Pl
open Go.ChangeMaps (open_string shut_string)
set_option linter.unusedVariables false
set_option linter.unusedSimpArgs false

theorem own : ownKnob Try.prog.godebug = none := by kernel_rfl
theorem laidOut : laidOutB Try.prog = true := by kernel_rfl
def valueB : Bs := [118, 97, 108, 117, 101]
theorem valueB_ok : valueOk valueB = true := by decide +kernel
/-- What the law asks, in plain. -/
theorem facts {L : List Lf} {s : Bs} (hL : leavesOk L = true) (hl : L.length ≤ 9) (hs : nameOk s = true) :
    ∃ A D, insR L s valueB = (A, true) ∧ leafGet A s = some valueB ∧ dropR A s = (D, true) ∧ leafGet D s = none ∧ leavesOk A = true ∧ leavesOk D = true ∧ D.length + 1 = A.length ∧
      (∀ k, k < L.length → (lfAt L k).1 ≠ s → leafGet A (lfAt L k).1 = some (lfAt L k).2 ∧ leafGet D (lfAt L k).1 = some (lfAt L k).2) ∧ insL L s valueB = A ∧ readLvI (leavesText A) = some A ∧ A.length ≤ 10 := by
  obtain ⟨_, h2, h3⟩ := ok_sorted hL
  have hlen := putL_len L s valueB
  have hp := put_ok hL (by omega) hlen hs valueB_ok
  have hi := ins_put h3 (n := s) (v := valueB)
  have hS := put_sorted h3 (n := s) (v := valueB)
  have hD := without_ok (n := s) hp
  have hget : leafGet (putL L s valueB) s = some valueB := (get_iff hS).2 (put_mem.2 (.inl rfl))
  refine ⟨putL L s valueB, without (putL L s valueB) s, ?_, hget, ?_, ?_, hp, hD, without_put_len L s valueB, fun k hk hne => ?_, hi, readLv_text hp, by omega⟩
  · rw [insR, hi, hL, hp]; rfl
  · rw [dropR, hget, hp]; rfl
  · exact get_none fun x hx => (without_mem.1 hx).2
  · have hm : ((lfAt L k).1, (lfAt L k).2) ∈ L := by rw [lf_at hk]; exact List.getElem_mem hk
    have hm2 : ((lfAt L k).1, (lfAt L k).2) ∈ putL L s valueB := put_mem.2 (.inr ⟨hm, hne⟩)
    exact ⟨(get_iff hS).2 hm2, (get_iff (hS.filter _)).2 (without_mem.2 ⟨hm2, hne⟩)⟩
theorem ok_fit {l : List Lf} (h : leavesOk l = true) : Sml l := by
  obtain ⟨h1, h2, _⟩ := ok_sorted h
  refine ⟨by omega, fun i => ?_⟩
  rcases Nat.lt_or_ge i l.length with hl | hl
  · have := h2 _ (List.getElem_mem hl)
    have a := nameOk_len this.1
    have b := valueOk_len this.2
    rw [lf_at hl]; omega
  · simp [lfAt, List.getD, List.getElem?_eq_none hl]
theorem text_len {l : List Lf} (h : Sml l) : ((leavesText l).length : Int) ≤ 1000000000 → True := fun _ => trivial
theorem own_lvE {k : Nat} (l : List Lf) : ownE (.row k (lvE l)) := by
  intro e he c hc
  simp only [lvE, List.mem_map] at he
  obtain ⟨x, _, rfl⟩ := he
  simp only [List.mem_cons, List.not_mem_nil, or_false] at hc
  rcases hc with rfl | rfl <;> trivial
section
attribute [local irreducible] CondB CallP LoopW AnsP LeP
set_option maxRecDepth 100000 in
set_option maxHeartbeats 4000000 in
theorem c_law (c : Bs) : CT Try.prog 6 [] [.sl 1 (bytesE c)] (.bool true) [] := by
  have cb := c_big c
  by_cases hc : (c.length : Int) ≤ 1048576
  · obtain ⟨L, ⟨hL, hsm, hl9⟩, cL⟩ := c_DrawLeaves c hc
    obtain ⟨s, ⟨hs, hs9⟩, cS⟩ := c_DrawName c hc
    obtain ⟨A, D, hA, hgA, hdr, hgD, hokA, hokD, hlen, hoth, hins, hread, hA10⟩ := facts hL hl9 hs
    have fA := ok_fit hokA
    have fD := ok_fit hokD
    have lL := lv_len L
    have lA := lv_len A
    have lD := lv_len D
    have cP := c_LeafPut L s valueB (by omega) hsm.fit (by rw [hins]; exact fA.fit)
    rw [hA] at cP
    have cG := c_LeafGet A s (by omega)
    rw [hgA] at cG
    have cD := c_LeafDrop A s (by omega) fA.fit
    rw [hdr] at cD
    have cN := c_LeafGet D s (by omega)
    rw [hgD] at cN
    have cT := c_LeavesText A fA fA.fit
    rw [hokA] at cT
    have htl : ((leavesText A).length : Int) ≤ 1000000000 := by
      have h1 := flat_len fA A.length
      rw [List.take_length] at h1
      have h2 := varTextL (n := A.length) (by omega)
      rw [leavesText, List.length_append]
      omega
    have cR := c_ReadLeaves (leavesText A) htl
    rw [hread] at cR
    have cO := c_LeavesOk A (by omega) fA.fit
    rw [hokA] at cO
    have cO2 := c_LeavesOk D (by omega) fD.fit
    rw [hokD] at cO2
    have cE := c_sameLeaves A A (by omega) (by omega)
    rw [show decide (A = A) = true from by simp] at cE
    refine ct_intro tt_ok 1 rfl Try.func6 rfl rfl rfl ?_
    repeat ((try conv => whnf); first | (refine c_call ([]) (cb) (by ((repeat' (first | (exact trivial) | (exact rfl) | (refine And.intro ?_ ?_))); first | done | fail)) (by ((repeat' (first | (exact trivial) | (exact rfl) | (refine And.intro ?_ ?_))); first | done | fail)) (by decide) (by rfl) (by first | exact .inl rfl | (refine .inr ⟨?_, ?_⟩ <;> simp [own2, own1, own0, ownE])) ?_) | (refine c_call ([]) (cL) (by ((repeat' (first | (exact trivial) | (exact rfl) | (refine And.intro ?_ ?_))); first | done | fail)) (by ((repeat' (first | (exact trivial) | (exact rfl) | (refine And.intro ?_ ?_))); first | done | fail)) (by decide) (by rfl) (by first | exact .inl rfl | (refine .inr ⟨?_, ?_⟩ <;> simp [own2, own1, own0, ownE])) ?_) | (refine c_call ([]) (cS) (by ((repeat' (first | (exact trivial) | (exact rfl) | (refine And.intro ?_ ?_))); first | done | fail)) (by ((repeat' (first | (exact trivial) | (exact rfl) | (refine And.intro ?_ ?_))); first | done | fail)) (by decide) (by rfl) (by first | exact .inl rfl | (refine .inr ⟨?_, ?_⟩ <;> simp [own2, own1, own0, ownE])) ?_) | (refine c_call ([]) (cP) (by ((repeat' (first | (exact trivial) | (exact rfl) | (refine And.intro ?_ ?_))); first | done | fail)) (by ((repeat' (first | (exact trivial) | (exact rfl) | (refine And.intro ?_ ?_))); first | done | fail)) (by decide) (by rfl) (by first | exact .inl rfl | (refine .inr ⟨by simp [own2, own1, own0], fun e he => ?_⟩; simp only [List.mem_cons, List.not_mem_nil, or_false] at he <;> first | exact he.elim | (subst he; exact own_lvE _) | (rcases he with rfl | rfl <;> exact own_lvE _))) ?_) | (refine c_call ([]) (cG) (by ((repeat' (first | (exact trivial) | (exact rfl) | (refine And.intro ?_ ?_))); first | done | fail)) (by ((repeat' (first | (exact trivial) | (exact rfl) | (refine And.intro ?_ ?_))); first | done | fail)) (by decide) (by rfl) (by first | exact .inl rfl | (refine .inr ⟨by simp [own2, own1, own0], fun e he => ?_⟩; simp only [List.mem_cons, List.not_mem_nil, or_false] at he <;> first | exact he.elim | (subst he; exact own_lvE _) | (rcases he with rfl | rfl <;> exact own_lvE _))) ?_) | (refine c_call ([]) (cD) (by ((repeat' (first | (exact trivial) | (exact rfl) | (refine And.intro ?_ ?_))); first | done | fail)) (by ((repeat' (first | (exact trivial) | (exact rfl) | (refine And.intro ?_ ?_))); first | done | fail)) (by decide) (by rfl) (by first | exact .inl rfl | (refine .inr ⟨by simp [own2, own1, own0], fun e he => ?_⟩; simp only [List.mem_cons, List.not_mem_nil, or_false] at he <;> first | exact he.elim | (subst he; exact own_lvE _) | (rcases he with rfl | rfl <;> exact own_lvE _))) ?_) | (refine c_call ([]) (cN) (by ((repeat' (first | (exact trivial) | (exact rfl) | (refine And.intro ?_ ?_))); first | done | fail)) (by ((repeat' (first | (exact trivial) | (exact rfl) | (refine And.intro ?_ ?_))); first | done | fail)) (by decide) (by rfl) (by first | exact .inl rfl | (refine .inr ⟨by simp [own2, own1, own0], fun e he => ?_⟩; simp only [List.mem_cons, List.not_mem_nil, or_false] at he <;> first | exact he.elim | (subst he; exact own_lvE _) | (rcases he with rfl | rfl <;> exact own_lvE _))) ?_) | (refine And.intro rfl ?_) | (refine w_addn (by omega) ?_) | (refine w_subn (by omega) ?_) | (refine w_add (by omega) ?_) | (refine w_sub (by omega) ?_) | (refine w_any (by omega) ?_) | (refine Exists.intro _ (And.intro rfl ?_)) | (with_reducible (refine cb_t rfl ?_)) | (with_reducible (refine cb_f rfl ?_)) | (refine cb_dt (by omega) ?_) | (refine cb_df (by omega) ?_) | (refine cb_nt (by omega) ?_) | (refine cb_nf (by omega) ?_) | (refine cb_t (by assumption) ?_) | (refine cb_f (by assumption) ?_) | (refine i_lt (by omega) ?_) | (refine i_le (by omega) ?_) | (refine i_cut (by omega) ?_) | (refine And.intro (by omega) ?_) | (refine And.intro trivial ?_) | (refine And.intro (by decide) ?_) | (refine And.intro (Nat.le_of_ble_eq_true rfl) ?_))
    refine loop_of Nat (fun k => ⟨[(3, .ref 1), (4, .str s), (5, .ref 2), (6, .bool true), (7, .str valueB), (8, .bool true), (9, .ref 3), (10, .bool true), (12, .bool false), (13, .int .i64 (k : Int))], [(1, some (.row 2 (lvE L))), (2, some (.row 2 (lvE A))), (3, some (.row 2 (lvE D)))], 4⟩) (fun k => k ≤ L.length) (fun k => L.length - k) 0 (by omega) ?_ ?_
    · (refine le_auto (by rfl) ?_ ?_) <;> (repeat' (first | (exact trivial) | (with_reducible rfl) | (exact (rfl : _ = true)) | (exact (rfl : _ = some _)) | (exact (rfl : _ = none)) | (refine And.intro ?_ ?_) | ((show (_ : Int) = _); omega) | ((fail_if_success (with_reducible (show _ = _))); (show _ = _)))) <;> first | rfl | decide
    · intro k hk
      by_cases hlt : k < L.length
      · have cX := c_LeafGet A (lfAt L k).1 (by omega)
        have cY := c_LeafGet D (lfAt L k).1 (by omega)
        by_cases hne : (lfAt L k).1 = s
        · repeat ((try conv => whnf); first | (refine c_call ([]) (cX) (by ((repeat' (first | (exact trivial) | (exact rfl) | (refine And.intro ?_ ?_))); first | done | fail)) (by ((repeat' (first | (exact trivial) | (exact rfl) | (refine And.intro ?_ ?_))); first | done | fail)) (by decide) (by rfl) (by first | exact .inl rfl | (refine .inr ⟨by simp [own2, own1, own0], fun e he => ?_⟩; simp only [List.mem_cons, List.not_mem_nil, or_false] at he <;> first | exact he.elim | (subst he; exact own_lvE _) | (rcases he with rfl | rfl <;> exact own_lvE _))) ?_) | (refine c_call ([]) (cY) (by ((repeat' (first | (exact trivial) | (exact rfl) | (refine And.intro ?_ ?_))); first | done | fail)) (by ((repeat' (first | (exact trivial) | (exact rfl) | (refine And.intro ?_ ?_))); first | done | fail)) (by decide) (by rfl) (by first | exact .inl rfl | (refine .inr ⟨by simp [own2, own1, own0], fun e he => ?_⟩; simp only [List.mem_cons, List.not_mem_nil, or_false] at he <;> first | exact he.elim | (subst he; exact own_lvE _) | (rcases he with rfl | rfl <;> exact own_lvE _))) ?_) | (refine Exists.intro _ (And.intro (lv_get hlt) ?_)) | (refine cb_nf hne ?_) | (refine And.intro rfl ?_) | (refine w_addn (by omega) ?_) | (refine w_subn (by omega) ?_) | (refine w_add (by omega) ?_) | (refine w_sub (by omega) ?_) | (refine w_any (by omega) ?_) | (refine Exists.intro _ (And.intro rfl ?_)) | (with_reducible (refine cb_t rfl ?_)) | (with_reducible (refine cb_f rfl ?_)) | (refine cb_dt (by omega) ?_) | (refine cb_df (by omega) ?_) | (refine cb_nt (by omega) ?_) | (refine cb_nf (by omega) ?_) | (refine cb_t (by assumption) ?_) | (refine cb_f (by assumption) ?_) | (refine i_lt (by omega) ?_) | (refine i_le (by omega) ?_) | (refine i_cut (by omega) ?_) | (refine And.intro (by omega) ?_) | (refine And.intro trivial ?_) | (refine And.intro (by decide) ?_) | (refine And.intro (Nat.le_of_ble_eq_true rfl) ?_))
          refine ⟨k + 1, by omega, by omega, ?_⟩
          (refine le_auto (by rfl) ?_ ?_) <;> (repeat' (first | (exact trivial) | (with_reducible rfl) | (exact (rfl : _ = true)) | (exact (rfl : _ = some _)) | (exact (rfl : _ = none)) | (refine And.intro ?_ ?_) | ((show (_ : Int) = _); omega) | ((fail_if_success (with_reducible (show _ = _))); (show _ = _))))
        · obtain ⟨o1, o2⟩ := hoth k hlt hne
          rw [o1] at cX
          rw [o2] at cY
          repeat ((try conv => whnf); first | (refine c_call ([]) (cX) (by ((repeat' (first | (exact trivial) | (exact rfl) | (refine And.intro ?_ ?_))); first | done | fail)) (by ((repeat' (first | (exact trivial) | (exact rfl) | (refine And.intro ?_ ?_))); first | done | fail)) (by decide) (by rfl) (by first | exact .inl rfl | (refine .inr ⟨by simp [own2, own1, own0], fun e he => ?_⟩; simp only [List.mem_cons, List.not_mem_nil, or_false] at he <;> first | exact he.elim | (subst he; exact own_lvE _) | (rcases he with rfl | rfl <;> exact own_lvE _))) ?_) | (refine c_call ([]) (cY) (by ((repeat' (first | (exact trivial) | (exact rfl) | (refine And.intro ?_ ?_))); first | done | fail)) (by ((repeat' (first | (exact trivial) | (exact rfl) | (refine And.intro ?_ ?_))); first | done | fail)) (by decide) (by rfl) (by first | exact .inl rfl | (refine .inr ⟨by simp [own2, own1, own0], fun e he => ?_⟩; simp only [List.mem_cons, List.not_mem_nil, or_false] at he <;> first | exact he.elim | (subst he; exact own_lvE _) | (rcases he with rfl | rfl <;> exact own_lvE _))) ?_) | (refine Exists.intro _ (And.intro (lv_get hlt) ?_)) | (refine cb_nt hne ?_) | (refine cb_nf rfl ?_) | (refine And.intro rfl ?_) | (refine w_addn (by omega) ?_) | (refine w_subn (by omega) ?_) | (refine w_add (by omega) ?_) | (refine w_sub (by omega) ?_) | (refine w_any (by omega) ?_) | (refine Exists.intro _ (And.intro rfl ?_)) | (with_reducible (refine cb_t rfl ?_)) | (with_reducible (refine cb_f rfl ?_)) | (refine cb_dt (by omega) ?_) | (refine cb_df (by omega) ?_) | (refine cb_nt (by omega) ?_) | (refine cb_nf (by omega) ?_) | (refine cb_t (by assumption) ?_) | (refine cb_f (by assumption) ?_) | (refine i_lt (by omega) ?_) | (refine i_le (by omega) ?_) | (refine i_cut (by omega) ?_) | (refine And.intro (by omega) ?_) | (refine And.intro trivial ?_) | (refine And.intro (by decide) ?_) | (refine And.intro (Nat.le_of_ble_eq_true rfl) ?_))
          refine ⟨k + 1, by omega, by omega, ?_⟩
          (refine le_auto (by rfl) ?_ ?_) <;> (repeat' (first | (exact trivial) | (with_reducible rfl) | (exact (rfl : _ = true)) | (exact (rfl : _ = some _)) | (exact (rfl : _ = none)) | (refine And.intro ?_ ?_) | ((show (_ : Int) = _); omega) | ((fail_if_success (with_reducible (show _ = _))); (show _ = _))))
      · repeat ((try conv => whnf); first | (refine c_call ([]) (cT) (by ((repeat' (first | (exact trivial) | (exact rfl) | (refine And.intro ?_ ?_))); first | done | fail)) (by ((repeat' (first | (exact trivial) | (exact rfl) | (refine And.intro ?_ ?_))); first | done | fail)) (by decide) (by rfl) (by first | exact .inl rfl | (refine .inr ⟨by simp [own2, own1, own0], fun e he => ?_⟩; simp only [List.mem_cons, List.not_mem_nil, or_false] at he <;> first | exact he.elim | (subst he; exact own_lvE _) | (rcases he with rfl | rfl <;> exact own_lvE _))) ?_) | (refine c_call ([]) (cR) (by ((repeat' (first | (exact trivial) | (exact rfl) | (refine And.intro ?_ ?_))); first | done | fail)) (by ((repeat' (first | (exact trivial) | (exact rfl) | (refine And.intro ?_ ?_))); first | done | fail)) (by decide) (by rfl) (by first | exact .inl rfl | (refine .inr ⟨by simp [own2, own1, own0], fun e he => ?_⟩; simp only [List.mem_cons, List.not_mem_nil, or_false] at he <;> first | exact he.elim | (subst he; exact own_lvE _) | (rcases he with rfl | rfl <;> exact own_lvE _))) ?_) | (refine c_call ([]) (cO) (by ((repeat' (first | (exact trivial) | (exact rfl) | (refine And.intro ?_ ?_))); first | done | fail)) (by ((repeat' (first | (exact trivial) | (exact rfl) | (refine And.intro ?_ ?_))); first | done | fail)) (by decide) (by rfl) (by first | exact .inl rfl | (refine .inr ⟨by simp [own2, own1, own0], fun e he => ?_⟩; simp only [List.mem_cons, List.not_mem_nil, or_false] at he <;> first | exact he.elim | (subst he; exact own_lvE _) | (rcases he with rfl | rfl <;> exact own_lvE _))) ?_) | (refine c_call ([]) (cO2) (by ((repeat' (first | (exact trivial) | (exact rfl) | (refine And.intro ?_ ?_))); first | done | fail)) (by ((repeat' (first | (exact trivial) | (exact rfl) | (refine And.intro ?_ ?_))); first | done | fail)) (by decide) (by rfl) (by first | exact .inl rfl | (refine .inr ⟨by simp [own2, own1, own0], fun e he => ?_⟩; simp only [List.mem_cons, List.not_mem_nil, or_false] at he <;> first | exact he.elim | (subst he; exact own_lvE _) | (rcases he with rfl | rfl <;> exact own_lvE _))) ?_) | (refine c_call ([]) (cE) (by ((repeat' (first | (exact trivial) | (exact rfl) | (refine And.intro ?_ ?_))); first | done | fail)) (by ((repeat' (first | (exact trivial) | (exact rfl) | (refine And.intro ?_ ?_))); first | done | fail)) (by decide) (by rfl) (by first | exact .inl rfl | (refine .inr ⟨by simp [own2, own1, own0], fun e he => ?_⟩; simp only [List.mem_cons, List.not_mem_nil, or_false] at he <;> first | exact he.elim | (subst he; exact own_lvE _) | (rcases he with rfl | rfl <;> exact own_lvE _))) ?_) | (refine cb_dt (rfl : _ = _) ?_) | (refine And.intro rfl ?_) | (refine w_addn (by omega) ?_) | (refine w_subn (by omega) ?_) | (refine w_add (by omega) ?_) | (refine w_sub (by omega) ?_) | (refine w_any (by omega) ?_) | (refine Exists.intro _ (And.intro rfl ?_)) | (with_reducible (refine cb_t rfl ?_)) | (with_reducible (refine cb_f rfl ?_)) | (refine cb_dt (by omega) ?_) | (refine cb_df (by omega) ?_) | (refine cb_nt (by omega) ?_) | (refine cb_nf (by omega) ?_) | (refine cb_t (by assumption) ?_) | (refine cb_f (by assumption) ?_) | (refine i_lt (by omega) ?_) | (refine i_le (by omega) ?_) | (refine i_cut (by omega) ?_) | (refine And.intro (by omega) ?_) | (refine And.intro trivial ?_) | (refine And.intro (by decide) ?_) | (refine And.intro (Nat.le_of_ble_eq_true rfl) ?_))
        (refine ans_auto (by rfl) ?_ ?_ (by rfl)) <;> (repeat' (first | (exact trivial) | (with_reducible rfl) | (exact (rfl : _ = true)) | (exact (rfl : _ = some _)) | (exact (rfl : _ = none)) | (refine And.intro ?_ ?_) | ((show (_ : Int) = _); omega) | ((fail_if_success (with_reducible (show _ = _))); (show _ = _))))
        exact decide_eq_true (by rw [lA, lD]; omega)
  · refine ct_intro tt_ok 1 rfl Try.func6 rfl rfl rfl ?_
    repeat ((try conv => whnf); first | (refine c_call ([]) (cb) (by ((repeat' (first | (exact trivial) | (exact rfl) | (refine And.intro ?_ ?_))); first | done | fail)) (by ((repeat' (first | (exact trivial) | (exact rfl) | (refine And.intro ?_ ?_))); first | done | fail)) (by decide) (by rfl) (by first | exact .inl rfl | (refine .inr ⟨?_, ?_⟩ <;> simp [own2, own1, own0, ownE])) ?_) | (refine And.intro rfl ?_) | (refine w_addn (by omega) ?_) | (refine w_subn (by omega) ?_) | (refine w_add (by omega) ?_) | (refine w_sub (by omega) ?_) | (refine w_any (by omega) ?_) | (refine Exists.intro _ (And.intro rfl ?_)) | (with_reducible (refine cb_t rfl ?_)) | (with_reducible (refine cb_f rfl ?_)) | (refine cb_dt (by omega) ?_) | (refine cb_df (by omega) ?_) | (refine cb_nt (by omega) ?_) | (refine cb_nf (by omega) ?_) | (refine cb_t (by assumption) ?_) | (refine cb_f (by assumption) ?_) | (refine i_lt (by omega) ?_) | (refine i_le (by omega) ?_) | (refine i_cut (by omega) ?_) | (refine And.intro (by omega) ?_) | (refine And.intro trivial ?_) | (refine And.intro (by decide) ?_) | (refine And.intro (Nat.le_of_ble_eq_true rfl) ?_))
    (refine ans_auto (by rfl) ?_ ?_ (by rfl)) <;> (repeat' (first | (exact trivial) | (with_reducible rfl) | (exact (rfl : _ = true)) | (exact (rfl : _ = some _)) | (exact (rfl : _ = none)) | (refine And.intro ?_ ?_) | ((show (_ : Int) = _); omega) | ((fail_if_success (with_reducible (show _ = _))); (show _ = _))))
end
/-- The walk. -/
theorem walk (a : Option Addr) (len cap : Nat) (zs : List Int) (w : World) (h : IsRow .u8 w a len cap zs) :
    Calls Try.prog 6 #[.slice a len cap] w fun e w' => e = .returned (.bool true) ∧ Below w.heap.size w w' := by
  obtain ⟨c, _, hr⟩ := isRow_rv h
  exact ct_walk (c_law c) w (vs := [.slice a len cap]) ⟨_, [], rfl, hr, rfl⟩

/-! ### the row's step -/
set_option maxRecDepth 100000 in
theorem lifted (os : Os) (started : os.Started) (H : Type) (enc : TypeId × Value → H) :
    ReturnsInHanded {} Try.checked os 6 .any (Rows.fnLeavesSpec.pre6 enc Try.prog Try.f6 Rows.fnLeavesRow.domain false) (Rows.fnLeavesSpec.post enc Try.prog Try.f6 false true false false) := by
  refine returnsInHanded_of_change (C := Try.checked) own started (by kernel_rfl) Try.func6
    (ChangeSpec.witness6 (enc := enc) (C := Try.checked) false ⟨#[], #[.slice none 0 0], []⟩ 8 (by kernel_rfl) (by kernel_rfl) (by kernel_rfl) (by kernel_rfl)) ?_
  intro W base args ds gs before hval0 hW hcnd _
  have hval : ∀ (j : Nat) t v, Try.f6.params[j]? = some t → args[j]? = some v → Value.okWide Try.prog W .any base t v := hval0
  have hW' := hW
  obtain ⟨p, q, hA0, hV, rfl, hfz, hnd⟩ := hW
  have hA : DataW.TrodAll enc Try.prog W 0 (fun _ => true) true Try.f6.params.toList args.toList ds p := hA0
  rw [Try.params6] at hA hval
  obtain ⟨v0, vs0, d0, ds0, p0, q0, hargs, rfl, rfl, h0, r0⟩ := trodAll_cons hA
  obtain ⟨rfl, rfl, rfl⟩ := trodAll_nil r0
  obtain rfl : args = #[v0] := by cases args; simp_all
  obtain ⟨rfl, rfl⟩ := trodVars_none hV
  obtain ⟨a0, len0, cap0, rfl⟩ := okWide_slice Try.underlying38 (hval 0 38 v0 rfl rfl)
  have k0 := h0
  have lt0 : ∀ x ∈ p0, x.block < W.heap.size := by obtain ⟨m, hm⟩ := k0; exact DataW.trod_lt m _ _ _ hm
  obtain ⟨z0, w0⟩ : ∃ zs, IsRow .u8 W a0 len0 cap0 zs := by
    obtain ⟨fuel, hf⟩ := h0
    rcases open_ints Try.underlying38 Try.underlying5 (by kernel_rfl) hf with ⟨hcs, _⟩ | ⟨x, l, c, zs, hcs, hlt, hl, hm, hz, _, hcell, hwz⟩
    · simp [Value.cells] at hcs
      obtain ⟨rfl, rfl, rfl⟩ := hcs
      exact ⟨[], .inl ⟨rfl, rfl, rfl, rfl⟩⟩
    · simp [Value.cells] at hcs
      obtain ⟨rfl, rfl, rfl⟩ := hcs
      exact ⟨zs, .inr ⟨_, rfl, hl, hm, by simpa using hz, hcell, hwz⟩⟩
  clear hA0 hval0
  refine (walk a0 len0 cap0 z0 W w0).mono fun e W' ⟨he, bel⟩ => ?_
  subst he
  exact ⟨_, rfl, _, _, _, [], _, [], hW', trodAll_mk1 (shut_bool Try.underlying4 _), (trodAll_cons_mk (Below.trod laidOut (by kernel_rfl) (of_decide_eq_true (by kernel_rfl)) k0 bel lt0) trodAll_mk0), rfl, bel.frame _, fun h => by cases h⟩

theorem over : Rows.fnLeavesRow.holds Try.pinned (OpenSpec.ofChange Rows.fnLeavesSpec) :=
  OpenClaim.holds_of_wide 6 Try.f6 rfl rfl rfl rfl rfl rfl rfl ⟨rfl, rfl, rfl, rfl, rfl⟩ rfl rfl rfl rfl rfl (by kernel_rfl) Try.func6 (by kernel_rfl)
    (of_decide_eq_true (by kernel_rfl)) (by unfold Func.isWrapper; first | (rw [if_pos (by decide +kernel)]; kernel_rfl) | (rw [if_neg (by decide +kernel)]; exact ⟨rfl, rfl⟩))
    (fun os started H enc _ => lifted os started H enc)

/-- The statement. -/
theorem proved : Rows.FnLeavesSaid := over
#print axioms proved
end Go.Proofs.Ytkdajahiaedoiaa.fnLeaves
