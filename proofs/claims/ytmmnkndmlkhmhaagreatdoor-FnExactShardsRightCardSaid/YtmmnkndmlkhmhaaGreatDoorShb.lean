/- Functions by content: the reference's block. -/
import Derived.Test.YtmmnkndmlkhmhaaGreatDoorSha
namespace Go.Proofs.YtmmnkndmlkhmhaaGreatDoor
open Go.RowKit Pl
set_option linter.unusedVariables false
set_option linter.unusedSimpArgs false
attribute [local irreducible] CondB CallP LoopW AnsP LeP bits turnN shlN shrN

theorem v_at {f : Nat → UInt32} {n i : Nat} {K : T → Prop} (h : i < n) (hk : K (.int .u32 ((f i).toNat : Int))) : ∃ c, (vE f n)[0 + i * 1]? = some c ∧ K c := ⟨_, by rw [Nat.zero_add, Nat.mul_one]; exact vE_at h, hk⟩
theorem v_st (f : Nat → UInt32) (n i : Nat) (x : UInt32) : ovl (vE f n) (0 + i * 1) [.int .u32 (x.toNat : Int)] = vE (upd f i x) n := by
  rw [Nat.zero_add, Nat.mul_one]; exact vE_set x
theorem v_in {f : Nat → UInt32} {n i : Nat} (h : i < n) : 0 + i * 1 + 1 ≤ (vE f n).length := by rw [vE_len]; omega
theorem le_box {base : Nat} {sl : List (Nat × T)} {hp : List (Nat × Option Ent)} {nx : Nat} {S' : St} {r : Nat} {cs cs' : List T} (h : cs = cs') (hl : LeP base ⟨sl, (r, some (.box cs')) :: hp, nx⟩ S') : LeP base ⟨sl, (r, some (.box cs)) :: hp, nx⟩ S' := h ▸ hl
set_option maxRecDepth 100000 in
set_option maxHeartbeats 16000000 in
theorem c_block (h : W8) (b : Bs) (ks : Nat → UInt32) (hb : b.length = 64) : CT Tryz.prog 211 [] [.agg (wE h.list), .str b, .agg (vE ks 64)] (.agg (wE (blockF h b ks).list)) [] := by
  refine ct_intro tt2_ok 1 rfl Tryz.func211 rfl rfl rfl ?_
  unfold blockF
  repeat ((try conv => whnf); first | (refine And.intro (by kernel_rfl) ?_) | (refine stpQ ?_))
  refine loop_cut 0 ⟨[(3, .ptr 1 0 0), (5, .ptr 2 0 0), (6, .ptr 3 0 0), (7, .ptr 4 0 0)], [(1, some (.box (wE h.list))), (2, some (.box (vE ks 64))), (3, some (.box (List.replicate 8 (.int .u32 0)))), (4, some (.box (vE (sched0 b 16) 64)))], 5⟩ Nat (fun i => ⟨[(1, .str b), (3, .ptr 1 0 0), (5, .ptr 2 0 0), (6, .ptr 3 0 0), (7, .ptr 4 0 0), (8, .int .i64 (i : Int))], [(1, some (.box (wE h.list))), (2, some (.box (vE ks 64))), (3, some (.box (List.replicate 8 (.int .u32 0)))), (4, some (.box (vE (sched0 b i) 64)))], 5⟩) (fun i => i ≤ 16) (fun i => 16 - i) 0 (by omega) ?_ ?_ ?_
  · (refine le_auto (by rfl) ?_ ?_) <;> ((repeat' (first | (exact trivial) | (exact ml_vE _ _ _ _) | (with_reducible rfl) | (exact (rfl : _ = true)) | (exact (rfl : _ = some _)) | (exact (rfl : _ = none)) | (refine And.intro ?_ ?_) | ((show (_ : Int) = _); omega) | ((fail_if_success (with_reducible (show _ = _))); (show _ = _))))) <;> first | rfl | decide
  · intro i hi
    by_cases hlt : i < 16
    · have hst := v_st (sched0 b i) 64 i (wordB b i)
      rw [← sched0_next] at hst
      repeat ((try conv => whnf); first | (refine w_mull (by omega) ?_) | (refine u_of8 ?_) | (refine And.intro (le32 (by omega)) ?_) | (refine u_shl (n := 24) rfl ?_) | (refine u_shl (n := 16) rfl ?_) | (refine u_shl (n := 8) rfl ?_) | (refine u_or ?_) | (refine And.intro (v_in (by omega)) ?_) | (refine And.intro (by kernel_rfl) ?_) | (refine stpQ ?_))
      refine ⟨i + 1, by omega, by omega, le_box hst ?_⟩
      (refine le_auto (by rfl) ?_ ?_) <;> ((repeat' (first | (exact trivial) | (exact ml_vE _ _ _ _) | (with_reducible rfl) | (exact (rfl : _ = true)) | (exact (rfl : _ = some _)) | (exact (rfl : _ = none)) | (refine And.intro ?_ ?_) | ((show (_ : Int) = _); omega) | ((fail_if_success (with_reducible (show _ = _))); (show _ = _))))) <;> try rfl
    · have hi16 : i = 16 := by omega
      rw [hi16]
      repeat ((try conv => whnf); first | (refine And.intro (by kernel_rfl) ?_) | (refine stpQ ?_))
      (refine le_auto (by rfl) ?_ ?_) <;> ((repeat' (first | (exact trivial) | (exact ml_vE _ _ _ _) | (with_reducible rfl) | (exact (rfl : _ = true)) | (exact (rfl : _ = some _)) | (exact (rfl : _ = none)) | (refine And.intro ?_ ?_) | ((show (_ : Int) = _); omega) | ((fail_if_success (with_reducible (show _ = _))); (show _ = _))))) <;> try rfl
  · generalize sched0 b 16 = w0
    repeat ((try conv => whnf); first | (refine And.intro (by kernel_rfl) ?_) | (refine stpQ ?_))
    refine loop_cut 2 ⟨[(3, .ptr 1 0 0), (5, .ptr 2 0 0), (6, .ptr 3 0 0), (7, .ptr 4 0 0)], [(1, some (.box (wE h.list))), (2, some (.box (vE ks 64))), (3, some (.box (List.replicate 8 (.int .u32 0)))), (4, some (.box (vE (sched1 w0 64) 64)))], 5⟩ Nat (fun i => ⟨[(3, .ptr 1 0 0), (5, .ptr 2 0 0), (6, .ptr 3 0 0), (7, .ptr 4 0 0), (9, .int .i64 (i : Int))], [(1, some (.box (wE h.list))), (2, some (.box (vE ks 64))), (3, some (.box (List.replicate 8 (.int .u32 0)))), (4, some (.box (vE (sched1 w0 i) 64)))], 5⟩) (fun i => 16 ≤ i ∧ i ≤ 64) (fun i => 64 - i) 16 ⟨by omega, by omega⟩ ?_ ?_ ?_
    · (refine le_auto (by rfl) ?_ ?_) <;> ((repeat' (first | (exact trivial) | (exact ml_vE _ _ _ _) | (with_reducible rfl) | (exact (rfl : _ = true)) | (exact (rfl : _ = some _)) | (exact (rfl : _ = none)) | (refine And.intro ?_ ?_) | ((show (_ : Int) = _); omega) | ((fail_if_success (with_reducible (show _ = _))); (show _ = _))))) <;> first | rfl | decide
    · intro i hii
      have hi : 16 ≤ i := hii.1
      have hi2 : i ≤ 64 := hii.2
      by_cases hlt : i < 64
      · have hnx := sched1_next (ws := w0) hi
        generalize sched1 w0 i = f at hnx ⊢
        have hst := v_st f 64 i (f (i - 16) + (turnN (f (i - 15)) 7 ^^^ turnN (f (i - 15)) 18 ^^^ shrN (f (i - 15)) 3) + f (i - 7) + (turnN (f (i - 2)) 17 ^^^ turnN (f (i - 2)) 19 ^^^ shrN (f (i - 2)) 10))
        rw [show upd f i _ = schedStep f i from rfl, ← hnx] at hst
        repeat ((try conv => whnf); first | (refine v_at (by omega) ?_) | (refine ccA ([]) (c_turn (f (i - 15)) 7 (by decide)) ?_) | (refine ccA ([]) (c_turn (f (i - 15)) 18 (by decide)) ?_) | (refine ccA ([]) (c_turn (f (i - 2)) 17 (by decide)) ?_) | (refine ccA ([]) (c_turn (f (i - 2)) 19 (by decide)) ?_) | (refine And.intro (le32 (by omega)) ?_) | (refine u_shr (n := 3) rfl ?_) | (refine u_shr (n := 10) rfl ?_) | (refine u_xor ?_) | (refine u_add ?_) | (refine And.intro (v_in (by omega)) ?_) | (refine And.intro (by kernel_rfl) ?_) | (refine stpQ ?_))
        refine ⟨i + 1, ⟨by omega, by omega⟩, by omega, le_box hst ?_⟩
        (refine le_auto (by rfl) ?_ ?_) <;> ((repeat' (first | (exact trivial) | (exact ml_vE _ _ _ _) | (with_reducible rfl) | (exact (rfl : _ = true)) | (exact (rfl : _ = some _)) | (exact (rfl : _ = none)) | (refine And.intro ?_ ?_) | ((show (_ : Int) = _); omega) | ((fail_if_success (with_reducible (show _ = _))); (show _ = _))))) <;> try rfl
      · have hi64 : i = 64 := by omega
        rw [hi64]
        repeat ((try conv => whnf); first | (refine And.intro (by kernel_rfl) ?_) | (refine stpQ ?_))
        (refine le_auto (by rfl) ?_ ?_) <;> ((repeat' (first | (exact trivial) | (exact ml_vE _ _ _ _) | (with_reducible rfl) | (exact (rfl : _ = true)) | (exact (rfl : _ = some _)) | (exact (rfl : _ = none)) | (refine And.intro ?_ ?_) | ((show (_ : Int) = _); omega) | ((fail_if_success (with_reducible (show _ = _))); (show _ = _))))) <;> try rfl
    · generalize sched1 w0 64 = w
      repeat ((try conv => whnf); first | (refine And.intro (by kernel_rfl) ?_) | (refine stpQ ?_))
      refine loop_cut 4 ⟨[(3, .ptr 1 0 0), (6, .ptr 3 0 0), (12, .ptr 5 0 0)], [(1, some (.box (wE h.list))), (3, some (.box (List.replicate 8 (.int .u32 0)))), (5, some (.box (wE (rnds h ks w 64).list)))], 6⟩ Nat (fun i => ⟨[(3, .ptr 1 0 0), (5, .ptr 2 0 0), (6, .ptr 3 0 0), (7, .ptr 4 0 0), (12, .ptr 5 0 0), (13, .int .i64 (i : Int))], [(1, some (.box (wE h.list))), (2, some (.box (vE ks 64))), (3, some (.box (List.replicate 8 (.int .u32 0)))), (4, some (.box (vE w 64))), (5, some (.box (wE (rnds h ks w i).list)))], 6⟩) (fun i => i ≤ 64) (fun i => 64 - i) 0 (by omega) ?_ ?_ ?_
      · (refine le_auto (by rfl) ?_ ?_) <;> ((repeat' (first | (exact trivial) | (exact ml_vE _ _ _ _) | (with_reducible rfl) | (exact (rfl : _ = true)) | (exact (rfl : _ = some _)) | (exact (rfl : _ = none)) | (refine And.intro ?_ ?_) | ((show (_ : Int) = _); omega) | ((fail_if_success (with_reducible (show _ = _))); (show _ = _))))) <;> first | rfl | decide
      · intro i hi
        by_cases hlt : i < 64
        · have hnx := rnds_next h ks w i
          generalize rnds h ks w i = s at hnx ⊢
          repeat ((try conv => whnf); first | (refine v_at (by omega) ?_) | (refine ccA ([]) (c_turn s.e 6 (by decide)) ?_) | (refine ccA ([]) (c_turn s.e 11 (by decide)) ?_) | (refine ccA ([]) (c_turn s.e 25 (by decide)) ?_) | (refine ccA ([]) (c_turn s.a 2 (by decide)) ?_) | (refine ccA ([]) (c_turn s.a 13 (by decide)) ?_) | (refine ccA ([]) (c_turn s.a 22 (by decide)) ?_) | (refine u_and ?_) | (refine u_xorF ?_) | (refine u_xor ?_) | (refine u_add ?_) | (refine And.intro (by kernel_rfl) ?_) | (refine stpQ ?_))
          refine ⟨i + 1, by omega, by omega, ?_⟩
          rw [hnx]
          (refine le_auto (by rfl) ?_ ?_) <;> ((repeat' (first | (exact trivial) | (exact ml_vE _ _ _ _) | (with_reducible rfl) | (exact (rfl : _ = true)) | (exact (rfl : _ = some _)) | (exact (rfl : _ = none)) | (refine And.intro ?_ ?_) | ((show (_ : Int) = _); omega) | ((fail_if_success (with_reducible (show _ = _))); (show _ = _))))) <;> first | rfl | decide
        · have hi64 : i = 64 := by omega
          rw [hi64]
          repeat ((try conv => whnf); first | (refine And.intro (by kernel_rfl) ?_) | (refine stpQ ?_))
          (refine le_auto (by rfl) ?_ ?_) <;> ((repeat' (first | (exact trivial) | (exact ml_vE _ _ _ _) | (with_reducible rfl) | (exact (rfl : _ = true)) | (exact (rfl : _ = some _)) | (exact (rfl : _ = none)) | (refine And.intro ?_ ?_) | ((show (_ : Int) = _); omega) | ((fail_if_success (with_reducible (show _ = _))); (show _ = _))))) <;> first | rfl | decide
      · generalize rnds h ks w 64 = s
        repeat ((try conv => whnf); first | (refine And.intro (by kernel_rfl) ?_) | (refine stpQ ?_))
        refine loop_cut 6 ⟨[(3, .ptr 1 0 0), (6, .ptr 3 0 0)], [(1, some (.box (vE (addW h.fn s.fn 8) 8))), (3, some (.box (List.replicate 8 (.int .u32 0))))], 6⟩ Nat (fun i => ⟨[(3, .ptr 1 0 0), (6, .ptr 3 0 0), (12, .ptr 5 0 0), (20, .int .i64 (i : Int))], [(1, some (.box (vE (addW h.fn s.fn i) 8))), (3, some (.box (List.replicate 8 (.int .u32 0)))), (5, some (.box (vE s.fn 8)))], 6⟩) (fun i => i ≤ 8) (fun i => 8 - i) 0 (by omega) ?_ ?_ ?_
        · (refine le_auto (by rfl) ?_ ?_) <;> ((repeat' (first | (exact trivial) | (exact ml_vE _ _ _ _) | (with_reducible rfl) | (exact (rfl : _ = true)) | (exact (rfl : _ = some _)) | (exact (rfl : _ = none)) | (refine And.intro ?_ ?_) | ((show (_ : Int) = _); omega) | ((fail_if_success (with_reducible (show _ = _))); (show _ = _))))) <;> first | rfl | decide
        · intro i hi
          by_cases hlt : i < 8
          · have hnx := addW_next h.fn s.fn i
            generalize addW h.fn s.fn i = f at hnx ⊢
            have hst := v_st f 8 i (f i + s.fn i)
            rw [← hnx] at hst
            repeat ((try conv => whnf); first | (refine v_at (by omega) ?_) | (refine u_add ?_) | (refine And.intro (v_in (by omega)) ?_) | (refine And.intro (by kernel_rfl) ?_) | (refine stpQ ?_))
            refine ⟨i + 1, by omega, by omega, le_box hst ?_⟩
            (refine le_auto (by rfl) ?_ ?_) <;> ((repeat' (first | (exact trivial) | (exact ml_vE _ _ _ _) | (with_reducible rfl) | (exact (rfl : _ = true)) | (exact (rfl : _ = some _)) | (exact (rfl : _ = none)) | (refine And.intro ?_ ?_) | ((show (_ : Int) = _); omega) | ((fail_if_success (with_reducible (show _ = _))); (show _ = _))))) <;> try rfl
          · have hi8 : i = 8 := by omega
            rw [hi8]
            repeat ((try conv => whnf); first | (refine And.intro (by kernel_rfl) ?_) | (refine stpQ ?_))
            (refine le_auto (by rfl) ?_ ?_) <;> ((repeat' (first | (exact trivial) | (exact ml_vE _ _ _ _) | (with_reducible rfl) | (exact (rfl : _ = true)) | (exact (rfl : _ = some _)) | (exact (rfl : _ = none)) | (refine And.intro ?_ ?_) | ((show (_ : Int) = _); omega) | ((fail_if_success (with_reducible (show _ = _))); (show _ = _))))) <;> try rfl
        · have hf : ∀ j, j < 8 → addW h.fn s.fn 8 j = h.fn j + s.fn j := fun j hj => by rw [addW_at, if_pos hj]
          generalize addW h.fn s.fn 8 = f at hf ⊢
          repeat ((try conv => whnf); first | (refine And.intro (by kernel_rfl) ?_) | (refine stpQ ?_))
          (refine ans_auto (by rfl) ?_ ?_ (by rfl)) <;> ((repeat' (first | (exact trivial) | (exact ml_vE _ _ _ _) | (with_reducible rfl) | (exact (rfl : _ = true)) | (exact (rfl : _ = some _)) | (exact (rfl : _ = none)) | (refine And.intro ?_ ?_) | ((show (_ : Int) = _); omega) | ((fail_if_success (with_reducible (show _ = _))); (show _ = _)))))
          all_goals first
            | (rw [hf _ (by decide)]; rfl)
            | rfl
end Go.Proofs.YtmmnkndmlkhmhaaGreatDoor
