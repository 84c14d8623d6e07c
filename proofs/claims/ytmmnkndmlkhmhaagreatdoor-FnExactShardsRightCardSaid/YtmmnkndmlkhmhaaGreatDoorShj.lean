/- Functions by content: the program's digest, whole. -/
import Derived.Test.YtmmnkndmlkhmhaaGreatDoorShi
namespace Go.Proofs.YtmmnkndmlkhmhaaGreatDoor
open Go.RowKit Pl
set_option linter.unusedVariables false
set_option linter.unusedSimpArgs false
attribute [local irreducible] CondB CallP LoopW AnsP LeP bits turnN shlN shrN

theorem w_ix {l : List UInt32} {i : Nat} {K : T → Prop} (h : i < l.length) (hk : K (.int .u32 ((l.getD i 0).toNat : Int))) : ∃ c, (wE l)[i]? = some c ∧ K c := ⟨_, wE_at h, hk⟩
set_option maxRecDepth 100000 in
set_option maxHeartbeats 8000000 in
theorem c_iDigest (t : Bs) (ht : (t.length : Int) ≤ 100000000) : CT Tryz.prog 177 [] [.str t] (.str (digestB t)) [] := by
  have hp := padB_len t
  have cp := c_iPad t ht
  rw [padI_eq] at cp
  refine ct_intro tt2_ok 1 rfl Tryz.func177 rfl rfl rfl ?_
  unfold digestB
  rw [← outI_eq]
  generalize padB t = p at hp cp ⊢
  obtain ⟨m, hm⟩ : ∃ m, p.length = 64 * m := ⟨p.length / 64, by omega⟩
  have hm2 : p.length / 64 = m := by omega
  rw [hm2]
  repeat ((try conv => whnf); first | (refine ccA ([]) (cp) ?_) | (refine And.intro (by kernel_rfl) ?_) | (refine stpQ ?_))
  refine loop_cut 0 ⟨[(3, .ptr 1 0 0)], [(1, some (.box (wE (blocksF first8 p kF m).list)))], 2⟩ Nat (fun k => ⟨[(3, .ptr 1 0 0), (4, .str (p.drop (64 * k)))], [(1, some (.box (wE (blocksF first8 p kF k).list)))], 2⟩) (fun k => k ≤ m) (fun k => m - k) 0 (by omega) ?_ ?_ ?_
  · (refine le_auto (by rfl) ?_ ?_) <;> ((repeat' (first | (exact trivial) | (exact ml_vE _ _ _ _) | (with_reducible rfl) | (exact (rfl : _ = true)) | (exact (rfl : _ = some _)) | (exact (rfl : _ = none)) | (refine And.intro ?_ ?_) | ((show (_ : Int) = _); omega) | ((fail_if_success (with_reducible (show _ = _))); (show _ = _))))) <;> first | rfl | decide
  · intro k hk
    have hdl : (p.drop (64 * k)).length = p.length - 64 * k := List.length_drop
    by_cases hlt : k < m
    · have hnx := blocksF_next first8 p kF k
      have hd2 : (p.drop (64 * k)).drop 64 = p.drop (64 * (k + 1)) := by rw [List.drop_drop]; congr 1
      have hbl : ((p.drop (64 * k)).take 64).length = 64 := by rw [List.length_take]; omega
      generalize blocksF first8 p kF k = h at hnx ⊢
      have cb := c_compress h ((p.drop (64 * k)).take 64) hbl
      generalize p.drop (64 * k) = q at hdl hbl cb hd2 hnx ⊢
      have hne : q ≠ [] := fun h0 => by rw [h0] at hdl; simp at hdl; omega
      have h64 : 64 ≤ q.length := by omega
      repeat ((try conv => whnf); first | (refine cb_nt hne ?_) | (refine Exists.intro 64 (And.intro rfl (And.intro h64 ?_))) | (refine ccA ([]) (cb) ?_) | (refine And.intro (by kernel_rfl) ?_) | (refine stpQ ?_))
      refine ⟨k + 1, by omega, by omega, ?_⟩
      rw [hnx]
      (refine le_auto (by rfl) ?_ ?_) <;> ((repeat' (first | (exact trivial) | (exact ml_vE _ _ _ _) | (with_reducible rfl) | (exact (rfl : _ = true)) | (exact (rfl : _ = some _)) | (exact (rfl : _ = none)) | (refine And.intro ?_ ?_) | ((show (_ : Int) = _); omega) | ((fail_if_success (with_reducible (show _ = _))); (show _ = _))))) <;> first | exact hd2 | rfl | decide | omega
    · have hkm : k = m := by omega
      rw [hkm]
      have hne : p.drop (64 * m) = [] := List.drop_eq_nil_of_le (by omega)
      rw [hne]
      repeat ((try conv => whnf); first | (refine And.intro (by kernel_rfl) ?_) | (refine stpQ ?_))
      (refine le_auto (by rfl) ?_ ?_) <;> ((repeat' (first | (exact trivial) | (exact ml_vE _ _ _ _) | (with_reducible rfl) | (exact (rfl : _ = true)) | (exact (rfl : _ = some _)) | (exact (rfl : _ = none)) | (refine And.intro ?_ ?_) | ((show (_ : Int) = _); omega) | ((fail_if_success (with_reducible (show _ = _))); (show _ = _))))) <;> first | rfl | decide
  · generalize blocksF first8 p kF m = h
    repeat ((try conv => whnf); first | (refine And.intro (by kernel_rfl) ?_) | (refine stpQ ?_))
    refine loop_cut 2 ⟨[(5, .str (outI h.fn 8))], [], 2⟩ Nat (fun i => ⟨[(5, .str (outI h.fn i)), (19, .agg (wE h.list)), (20, .int .i64 (i : Int))], [], 2⟩) (fun i => i ≤ 8) (fun i => 8 - i) 0 (by omega) ?_ ?_ ?_
    · (refine le_auto (by rfl) ?_ ?_) <;> ((repeat' (first | (exact trivial) | (exact ml_vE _ _ _ _) | (with_reducible rfl) | (exact (rfl : _ = true)) | (exact (rfl : _ = some _)) | (exact (rfl : _ = none)) | (refine And.intro ?_ ?_) | ((show (_ : Int) = _); omega) | ((fail_if_success (with_reducible (show _ = _))); (show _ = _))))) <;> first | rfl | decide
    · intro i hi
      by_cases hlt : i < 8
      · have hnx := outI_next h.fn i
        have hol := outI_len h.fn i
        have c4 := c_four (h.fn i)
        have h4 : (four (h.fn i)).length = 4 := rfl
        generalize outI h.fn i = o at hnx hol ⊢
        repeat ((try conv => whnf); first | (refine w_ix (show i < h.list.length from hlt) ?_) | (refine ccA ([]) (c4) ?_) | (refine And.intro (by rw [hol, h4]; omega) ?_) | (refine And.intro (by kernel_rfl) ?_) | (refine stpQ ?_))
        refine ⟨i + 1, by omega, by omega, ?_⟩
        rw [hnx]
        (refine le_auto (by rfl) ?_ ?_) <;> ((repeat' (first | (exact trivial) | (exact ml_vE _ _ _ _) | (with_reducible rfl) | (exact (rfl : _ = true)) | (exact (rfl : _ = some _)) | (exact (rfl : _ = none)) | (refine And.intro ?_ ?_) | ((show (_ : Int) = _); omega) | ((fail_if_success (with_reducible (show _ = _))); (show _ = _))))) <;> try rfl
      · have hi8 : i = 8 := by omega
        rw [hi8]
        repeat ((try conv => whnf); first | (refine And.intro (by kernel_rfl) ?_) | (refine stpQ ?_))
        (refine le_auto (by rfl) ?_ ?_) <;> ((repeat' (first | (exact trivial) | (exact ml_vE _ _ _ _) | (with_reducible rfl) | (exact (rfl : _ = true)) | (exact (rfl : _ = some _)) | (exact (rfl : _ = none)) | (refine And.intro ?_ ?_) | ((show (_ : Int) = _); omega) | ((fail_if_success (with_reducible (show _ = _))); (show _ = _))))) <;> first | rfl | decide
    · generalize outI h.fn 8 = o
      repeat ((try conv => whnf); first | (refine And.intro (by kernel_rfl) ?_) | (refine stpQ ?_))
      (refine ans_auto (by rfl) ?_ ?_ (by rfl)) <;> ((repeat' (first | (exact trivial) | (exact ml_vE _ _ _ _) | (with_reducible rfl) | (exact (rfl : _ = true)) | (exact (rfl : _ = some _)) | (exact (rfl : _ = none)) | (refine And.intro ?_ ?_) | ((show (_ : Int) = _); omega) | ((fail_if_success (with_reducible (show _ = _))); (show _ = _)))))
end Go.Proofs.YtmmnkndmlkhmhaaGreatDoor
