/- Functions by content: the reference's digest. -/
import Derived.Test.YtmmnkndmlkhmhaaGreatDoorShb
namespace Go.Proofs.YtmmnkndmlkhmhaaGreatDoor
open Go.RowKit Pl
set_option linter.unusedVariables false
set_option linter.unusedSimpArgs false
attribute [local irreducible] CondB CallP LoopW AnsP LeP

theorem bset (l : Bs) (i : Nat) (b : UInt8) : (bytesE l).set i [.int .u8 (b.toNat : Int)] = bytesE (l.set i b) := by simp [bytesE, byteE, List.map_set]
theorem bget {c : Bs} {i : Nat} (h : i < c.length) : (bytesE c)[i]? = some [.int .u8 ((c.getD i 0).toNat : Int)] := by
  simp [bytesE, byteE, List.getD, List.getElem?_eq_getElem h]
theorem lenB_next (n i : Nat) : lenB n (i + 1) = lenB n i ++ [UInt8.ofNat (n / 2 ^ (8 * (7 - i)))] := by simp [lenB, List.range_succ]
theorem lenB_len (n i : Nat) : (lenB n i).length = i := by simp [lenB]
set_option maxRecDepth 100000 in
set_option maxHeartbeats 4000000 in
theorem c_pad (t : Bs) (ht : (t.length : Int) ≤ 100000000) : CT Tryz.prog 210 [] [.str t] (.str (padB t)) [] := by
  refine ct_intro tt_ok 1 rfl Tryz.func210 rfl rfl rfl ?_
  have hz := zeros_mod 64 (t ++ [128]) (by omega)
  simp only [List.length_append, List.length_singleton] at hz
  unfold padB
  repeat ((try conv => whnf); first | (refine And.intro (by simp [bytesE_len]; omega) ?_) | (refine And.intro (by kernel_rfl) ?_) | (refine stpQ ?_))
  refine loop_cut 0 ⟨[(0, .str t), (3, .ref 1)], [(1, some (.row 1 (bytesE (zerosTo56 64 (t ++ [128])))))], 2⟩ Nat (fun j => ⟨[(0, .str t), (3, .ref 1)], [(1, some (.row 1 (bytesE (t ++ [128] ++ List.replicate j 0))))], 2⟩) (fun j => j ≤ 64 ∧ zerosTo56 (64 - j) (t ++ [128] ++ List.replicate j 0) = zerosTo56 64 (t ++ [128])) (fun j => 64 - j) 0 ⟨by omega, by simp⟩ ?_ ?_ ?_
  · (refine le_auto (by rfl) ?_ ?_) <;> ((repeat' (first | (exact trivial) | (exact ml_vE _ _ _ _) | (with_reducible rfl) | (exact (rfl : _ = true)) | (exact (rfl : _ = some _)) | (exact (rfl : _ = none)) | (refine And.intro ?_ ?_) | ((show (_ : Int) = _); omega) | ((fail_if_success (with_reducible (show _ = _))); (show _ = _))))) <;> try rfl
    simp [bytesE, byteE]
  · intro j hjj
    have hj : j ≤ 64 := hjj.1
    have hzj := hjj.2
    generalize ho : t ++ [128] ++ List.replicate j 0 = out at hzj ⊢
    have hol : out.length = t.length + 1 + j := by rw [← ho]; simp; omega
    have hbl := bytesE_len out
    by_cases h56 : out.length % 64 = 56
    · have e : zerosTo56 64 (t ++ [128]) = out := by
        rw [← hzj]
        cases hf : 64 - j with
        | zero => rfl
        | succ f => rw [zerosTo56, if_pos h56]
      rw [e]
      repeat ((try conv => whnf); first | (refine Exists.intro out.length (And.intro hbl ?_)) | (refine r_remn ?_) | (refine And.intro (by kernel_rfl) ?_) | (refine stpQ ?_))
      (refine le_auto (by rfl) ?_ ?_) <;> ((repeat' (first | (exact trivial) | (exact ml_vE _ _ _ _) | (with_reducible rfl) | (exact (rfl : _ = true)) | (exact (rfl : _ = some _)) | (exact (rfl : _ = none)) | (refine And.intro ?_ ?_) | ((show (_ : Int) = _); omega) | ((fail_if_success (with_reducible (show _ = _))); (show _ = _))))) <;> try rfl
    · have hj64 : j < 64 := by
        rcases Nat.lt_or_ge j 64 with h | h
        · exact h
        · have : j = 64 := by omega
          subst this
          have e : out = zerosTo56 64 (t ++ [128]) := hzj
          rw [← e] at hz
          exact absurd hz.1 h56
      repeat ((try conv => whnf); first | (refine Exists.intro out.length (And.intro hbl ?_)) | (refine r_remn ?_) | (refine And.intro (by simp [bytesE_len]; omega) ?_) | (refine And.intro (by kernel_rfl) ?_) | (refine stpQ ?_))
      refine ⟨j + 1, ⟨by omega, ?_⟩, by omega, ?_⟩
      · rw [← hzj, show 64 - j = (64 - (j + 1)) + 1 by omega, zerosTo56, if_neg h56, ← ho]
        simp [List.replicate_succ']
      · (refine le_auto (by rfl) ?_ ?_) <;> ((repeat' (first | (exact trivial) | (exact ml_vE _ _ _ _) | (with_reducible rfl) | (exact (rfl : _ = true)) | (exact (rfl : _ = some _)) | (exact (rfl : _ = none)) | (refine And.intro ?_ ?_) | ((show (_ : Int) = _); omega) | ((fail_if_success (with_reducible (show _ = _))); (show _ = _))))) <;> try rfl
        rw [← ho]
        simp [bytesE, byteE, List.replicate_succ']
  · generalize zerosTo56 64 (t ++ [128]) = z at hz ⊢
    repeat ((try conv => whnf); first | (refine w_mull (by omega) ?_) | (refine And.intro (by kernel_rfl) ?_) | (refine stpQ ?_))
    refine loop_cut 2 ⟨[(3, .ref 1)], [(1, some (.row 1 (bytesE (z ++ lenB (8 * t.length) 8))))], 2⟩ Nat (fun j => ⟨[(3, .ref 1), (4, .int .i64 ((8 * t.length : Nat) : Int)), (5, .int .i64 (7 - (j : Int)))], [(1, some (.row 1 (bytesE (z ++ lenB (8 * t.length) j))))], 2⟩) (fun j => j ≤ 8) (fun j => 8 - j) 0 (by omega) ?_ ?_ ?_
    · (refine le_auto (by rfl) ?_ ?_) <;> ((repeat' (first | (exact trivial) | (exact ml_vE _ _ _ _) | (with_reducible rfl) | (exact (rfl : _ = true)) | (exact (rfl : _ = some _)) | (exact (rfl : _ = none)) | (refine And.intro ?_ ?_) | ((show (_ : Int) = _); omega) | ((fail_if_success (with_reducible (show _ = _))); (show _ = _))))) <;> try rfl
      simp [lenB]
    · intro j hj
      by_cases hj8 : j < 8
      · have hnx := lenB_next (8 * t.length) j
        have hll := lenB_len (8 * t.length) j
        generalize 8 * t.length = n at hnx hll ⊢
        generalize lenB n j = o at hnx hll ⊢
        have hol : (bytesE (z ++ o)).length = z.length + o.length := by rw [bytesE_len, List.length_append]
        have e1 : IntKind.u64.wrap (7 - (j : Int)) = ((7 - j : Nat) : Int) := by rw [IntKind.wrap_u64]; omega
        have e2 : IntKind.u64.wrap (8 * ((7 - j : Nat) : Int)) = ((8 * (7 - j) : Nat) : Int) := by rw [IntKind.wrap_u64]; omega
        have e3 : (n : Int) / 2 ^ (((8 * (7 - j) : Nat) : Int)).toNat = ((n / 2 ^ (8 * (7 - j)) : Nat) : Int) := by rw [Int.toNat_natCast]; simp
        repeat ((try conv => whnf); first | (refine Exists.intro _ (And.intro e1.symm ?_)) | (refine Exists.intro _ (And.intro e2.symm ?_)) | (refine And.intro (show _ ≤ (64 : Int) from by omega) ?_) | (refine Exists.intro _ (And.intro e3.symm ?_)) | (refine w_u8 ?_) | (refine And.intro (by simp [bytesE_len]; omega) ?_) | (refine And.intro (by kernel_rfl) ?_) | (refine stpQ ?_))
        refine ⟨j + 1, by omega, by omega, ?_⟩
        rw [hnx]
        (refine le_auto (by rfl) ?_ ?_) <;> ((repeat' (first | (exact trivial) | (exact ml_vE _ _ _ _) | (with_reducible rfl) | (exact (rfl : _ = true)) | (exact (rfl : _ = some _)) | (exact (rfl : _ = none)) | (refine And.intro ?_ ?_) | ((show (_ : Int) = _); omega) | ((fail_if_success (with_reducible (show _ = _))); (show _ = _))))) <;> try rfl
        simp [bytesE, byteE]
      · have hj8 : j = 8 := by omega
        rw [hj8]
        repeat ((try conv => whnf); first | (refine And.intro (by kernel_rfl) ?_) | (refine stpQ ?_))
        (refine le_auto (by rfl) ?_ ?_) <;> ((repeat' (first | (exact trivial) | (exact ml_vE _ _ _ _) | (with_reducible rfl) | (exact (rfl : _ = true)) | (exact (rfl : _ = some _)) | (exact (rfl : _ = none)) | (refine And.intro ?_ ?_) | ((show (_ : Int) = _); omega) | ((fail_if_success (with_reducible (show _ = _))); (show _ = _))))) <;> try rfl
    · generalize z ++ lenB (8 * t.length) 8 = p
      repeat ((try conv => whnf); first | (refine Exists.intro p (And.intro rfl ?_)) | (refine And.intro (by kernel_rfl) ?_) | (refine stpQ ?_))
      (refine ans_auto (by rfl) ?_ ?_ (by rfl)) <;> ((repeat' (first | (exact trivial) | (exact ml_vE _ _ _ _) | (with_reducible rfl) | (exact (rfl : _ = true)) | (exact (rfl : _ = some _)) | (exact (rfl : _ = none)) | (refine And.intro ?_ ?_) | ((show (_ : Int) = _); omega) | ((fail_if_success (with_reducible (show _ = _))); (show _ = _)))))
theorem cut64 (p : Bs) (n : Nat) : (p.take (n + 64)).drop n = (p.drop n).take 64 := by rw [List.drop_take, Nat.add_sub_cancel_left]
set_option maxRecDepth 100000 in
set_option maxHeartbeats 8000000 in
theorem c_Digest (t : Bs) (ht : (t.length : Int) ≤ 100000000) : CT Tryz.prog 121 [] [.str t] (.str (digestB t)) [] := by
  have hp := padB_len t
  have cp := c_pad t ht
  refine ct_intro tt2_ok 1 rfl Tryz.func121 rfl rfl rfl ?_
  unfold digestB
  generalize padB t = p at hp cp ⊢
  obtain ⟨m, hm⟩ : ∃ m, p.length = 64 * m := ⟨p.length / 64, by omega⟩
  have hm2 : p.length / 64 = m := by omega
  rw [hm2]
  repeat ((try conv => whnf); first | (refine ccA ([]) (c_first) ?_) | (refine ccA ([]) (c_keys) ?_) | (refine ccA ([]) (cp) ?_) | (refine And.intro (by kernel_rfl) ?_) | (refine stpQ ?_))
  refine loop_cut 0 ⟨[(3, .ptr 1 0 0)], [(1, some (.box (wE (blocksF first8 p kF m).list)))], 2⟩ Nat (fun k => ⟨[(3, .ptr 1 0 0), (4, .ptr 2 0 0), (5, .str p), (6, .int .i64 ((64 * k : Nat) : Int))], [(1, some (.box (wE (blocksF first8 p kF k).list))), (2, some (.box (vE kF 64)))], 3⟩) (fun k => k ≤ m) (fun k => m - k) 0 (by omega) ?_ ?_ ?_
  · (refine le_auto (by rfl) ?_ ?_) <;> ((repeat' (first | (exact trivial) | (exact ml_vE _ _ _ _) | (with_reducible rfl) | (exact (rfl : _ = true)) | (exact (rfl : _ = some _)) | (exact (rfl : _ = none)) | (refine And.intro ?_ ?_) | ((show (_ : Int) = _); omega) | ((fail_if_success (with_reducible (show _ = _))); (show _ = _))))) <;> first | rfl | decide
  · intro k hk
    by_cases hlt : k < m
    · have hnx := blocksF_next first8 p kF k
      generalize blocksF first8 p kF k = h at hnx ⊢
      have hcut := cut64 p (64 * k)
      rw [← hcut] at hnx
      have hbl : ((p.take (64 * k + 64)).drop (64 * k)).length = 64 := by rw [hcut]; simp; omega
      generalize hb : (p.take (64 * k + 64)).drop (64 * k) = b at hnx hbl
      have cb := c_block h b kF hbl
      rw [← hb] at cb
      repeat ((try conv => whnf); first | (refine ccA ([]) (cb) ?_) | (refine And.intro (by kernel_rfl) ?_) | (refine stpQ ?_))
      refine ⟨k + 1, by omega, by omega, ?_⟩
      rw [hnx, ← hb]
      (refine le_auto (by rfl) ?_ ?_) <;> ((repeat' (first | (exact trivial) | (exact ml_vE _ _ _ _) | (with_reducible rfl) | (exact (rfl : _ = true)) | (exact (rfl : _ = some _)) | (exact (rfl : _ = none)) | (refine And.intro ?_ ?_) | ((show (_ : Int) = _); omega) | ((fail_if_success (with_reducible (show _ = _))); (show _ = _))))) <;> first | rfl | decide | omega
    · have hkm : k = m := by omega
      rw [hkm]
      repeat ((try conv => whnf); first | (refine And.intro (by kernel_rfl) ?_) | (refine stpQ ?_))
      (refine le_auto (by rfl) ?_ ?_) <;> ((repeat' (first | (exact trivial) | (exact ml_vE _ _ _ _) | (with_reducible rfl) | (exact (rfl : _ = true)) | (exact (rfl : _ = some _)) | (exact (rfl : _ = none)) | (refine And.intro ?_ ?_) | ((show (_ : Int) = _); omega) | ((fail_if_success (with_reducible (show _ = _))); (show _ = _))))) <;> first | rfl | decide
  · generalize blocksF first8 p kF m = h
    repeat ((try conv => whnf); first | (refine And.intro (by kernel_rfl) ?_) | (refine stpQ ?_))
    refine loop_cut 2 ⟨[(7, .ref 2)], [(2, some (.row 1 (bytesE (outB h.fn 8))))], 3⟩ Nat (fun i => ⟨[(3, .ptr 1 0 0), (7, .ref 2), (8, .int .i64 (i : Int))], [(1, some (.box (vE h.fn 8))), (2, some (.row 1 (bytesE (outB h.fn i))))], 3⟩) (fun i => i ≤ 8) (fun i => 8 - i) 0 (by omega) ?_ ?_ ?_
    · (refine le_auto (by rfl) ?_ ?_) <;> ((repeat' (first | (exact trivial) | (exact ml_vE _ _ _ _) | (with_reducible rfl) | (exact (rfl : _ = true)) | (exact (rfl : _ = some _)) | (exact (rfl : _ = none)) | (refine And.intro ?_ ?_) | ((show (_ : Int) = _); omega) | ((fail_if_success (with_reducible (show _ = _))); (show _ = _))))) <;> first | rfl | decide
    · intro i hi
      by_cases hlt : i < 8
      · have hnx := outB_next h.fn i
        have hol := outB_len h.fn i
        generalize outB h.fn i = o at hnx hol ⊢
        have hbl := bytesE_len o
        have g0 := bget (c := o) (i := 4 * i) (by omega)
        have g1 : ((bytesE o).set (4 * i) [.int .u8 ((UInt8.ofNat (shrN (h.fn i) 24).toNat).toNat : Int)])[4 * i + 1]? = some [.int .u8 ((o.getD (4 * i + 1) 0).toNat : Int)] := by
          rw [List.getElem?_set_ne (by omega)]; exact bget (by omega)
        have g2 : (((bytesE o).set (4 * i) [.int .u8 ((UInt8.ofNat (shrN (h.fn i) 24).toNat).toNat : Int)]).set (4 * i + 1) [.int .u8 ((UInt8.ofNat (shrN (h.fn i) 16).toNat).toNat : Int)])[4 * i + 2]? = some [.int .u8 ((o.getD (4 * i + 2) 0).toNat : Int)] := by
          rw [List.getElem?_set_ne (by omega), List.getElem?_set_ne (by omega)]; exact bget (by omega)
        have g3 : ((((bytesE o).set (4 * i) [.int .u8 ((UInt8.ofNat (shrN (h.fn i) 24).toNat).toNat : Int)]).set (4 * i + 1) [.int .u8 ((UInt8.ofNat (shrN (h.fn i) 16).toNat).toNat : Int)]).set (4 * i + 2) [.int .u8 ((UInt8.ofNat (shrN (h.fn i) 8).toNat).toNat : Int)])[4 * i + 3]? = some [.int .u8 ((o.getD (4 * i + 3) 0).toNat : Int)] := by
          rw [List.getElem?_set_ne (by omega), List.getElem?_set_ne (by omega), List.getElem?_set_ne (by omega)]; exact bget (by omega)
        repeat ((try conv => whnf); first | (refine w_mull (by omega) ?_) | (refine v_at (by omega) ?_) | (refine And.intro (le32 (by omega)) ?_) | (refine u_shr (n := 24) rfl ?_) | (refine u_shr (n := 16) rfl ?_) | (refine u_shr (n := 8) rfl ?_) | (refine w_u8 ?_) | (refine i_lt (by simp only [List.length_set]; omega) ?_) | (refine Exists.intro _ (And.intro g0 ?_)) | (refine Exists.intro _ (And.intro g1 ?_)) | (refine Exists.intro _ (And.intro g2 ?_)) | (refine Exists.intro _ (And.intro g3 ?_)) | (refine And.intro (by kernel_rfl) ?_) | (refine stpQ ?_))
        refine ⟨i + 1, by omega, by omega, ?_⟩
        rw [hnx]
        (refine le_auto (by rfl) ?_ ?_) <;> ((repeat' (first | (exact trivial) | (exact ml_vE _ _ _ _) | (with_reducible rfl) | (exact (rfl : _ = true)) | (exact (rfl : _ = some _)) | (exact (rfl : _ = none)) | (refine And.intro ?_ ?_) | ((show (_ : Int) = _); omega) | ((fail_if_success (with_reducible (show _ = _))); (show _ = _))))) <;> try rfl
        show ((((bytesE o).set (4 * i) [.int .u8 ((UInt8.ofNat (shrN (h.fn i) 24).toNat).toNat : Int)]).set (4 * i + 1) [.int .u8 ((UInt8.ofNat (shrN (h.fn i) 16).toNat).toNat : Int)]).set (4 * i + 2) [.int .u8 ((UInt8.ofNat (shrN (h.fn i) 8).toNat).toNat : Int)]).set (4 * i + 3) [.int .u8 ((UInt8.ofNat (h.fn i).toNat).toNat : Int)] = _
        rw [bset, bset, bset, bset]; rfl
      · have hi8 : i = 8 := by omega
        rw [hi8]
        repeat ((try conv => whnf); first | (refine And.intro (by kernel_rfl) ?_) | (refine stpQ ?_))
        (refine le_auto (by rfl) ?_ ?_) <;> ((repeat' (first | (exact trivial) | (exact ml_vE _ _ _ _) | (with_reducible rfl) | (exact (rfl : _ = true)) | (exact (rfl : _ = some _)) | (exact (rfl : _ = none)) | (refine And.intro ?_ ?_) | ((show (_ : Int) = _); omega) | ((fail_if_success (with_reducible (show _ = _))); (show _ = _))))) <;> first | rfl | decide
    · generalize outB h.fn 8 = o
      repeat ((try conv => whnf); first | (refine Exists.intro o (And.intro rfl ?_)) | (refine And.intro (by kernel_rfl) ?_) | (refine stpQ ?_))
      (refine ans_auto (by rfl) ?_ ?_ (by rfl)) <;> ((repeat' (first | (exact trivial) | (exact ml_vE _ _ _ _) | (with_reducible rfl) | (exact (rfl : _ = true)) | (exact (rfl : _ = some _)) | (exact (rfl : _ = none)) | (refine And.intro ?_ ?_) | ((show (_ : Int) = _); omega) | ((fail_if_success (with_reducible (show _ = _))); (show _ = _)))))
end Go.Proofs.YtmmnkndmlkhmhaaGreatDoor
