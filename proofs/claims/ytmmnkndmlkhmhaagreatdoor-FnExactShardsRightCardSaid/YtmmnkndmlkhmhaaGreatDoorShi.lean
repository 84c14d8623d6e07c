/- Functions by content: the program's digest. -/
import Derived.Test.YtmmnkndmlkhmhaaGreatDoorShc
import Derived.Test.YtmmnkndmlkhmhaaGreatDoorPlainSh
namespace Go.Proofs.YtmmnkndmlkhmhaaGreatDoor
open Go.RowKit Pl
set_option linter.unusedVariables false
set_option linter.unusedSimpArgs false
attribute [local irreducible] CondB CallP LoopW AnsP LeP bits turnN shlN shrN

theorem u64_neg {n : Nat} (hn : 0 < n ∧ n < 32) : IntKind.u64.wrap (-(n : Int)) = ((18446744073709551616 - n : Nat) : Int) := by
  rw [IntKind.wrap_u64]; omega
theorem u64_and31 {n : Nat} (hn : 0 < n ∧ n < 32) : bits .and .u64 ((18446744073709551616 - n : Nat) : Int) 31 = ((32 - n : Nat) : Int) := by
  have h := u64_and_nat (18446744073709551616 - n) 31 (by omega) (by omega)
  have e : (18446744073709551616 - n) &&& 31 = 32 - n := by
    rw [show 31 = 2 ^ 5 - 1 from rfl, Nat.and_two_pow_sub_one_eq_mod]; omega
  rw [e] at h
  exact h
theorem i64_neg {n : Nat} (hn : 0 < n ∧ n < 32) : IntKind.i64.wrap (0 - (n : Int)) = -(n : Int) := by rw [wrap_i64 (by omega) (by omega)]; omega
set_option maxRecDepth 100000 in
set_option maxHeartbeats 1000000 in
theorem c_rotl (x : UInt32) (n : Nat) (hn : 0 < n ∧ n < 32) : CT Tryz.prog 356 [] [.int .u32 (x.toNat : Int), .int .i64 (-(n : Int))] (.int .u32 ((turnN x n).toNat : Int)) [] := by
  have h1 := u64_neg hn
  have h2 := u64_and31 hn
  have h3 : IntKind.u64.wrap (32 - ((32 - n : Nat) : Int)) = (n : Int) := by rw [IntKind.wrap_u64]; omega
  rw [← turn_comm]
  refine ct_intro tt_ok 1 rfl Tryz.func356 rfl rfl rfl ?_
  repeat ((try conv => whnf); first | (refine Exists.intro _ (And.intro h1.symm ?_)) | (refine Exists.intro _ (And.intro h2.symm ?_)) | (refine Exists.intro _ (And.intro h3.symm ?_)) | (refine And.intro (le32 (by omega)) ?_) | (refine u_shl (n := 32 - n) (by omega) ?_) | (refine u_shr (n := n) (by omega) ?_) | (refine u_or ?_) | (refine stpQ ?_))
  (refine ans_auto (by rfl) ?_ ?_ (by rfl)) <;> (repeat' (first | (exact eqA) | (refine And.intro ?_ ?_) | ((fail_if_success (with_reducible (show _ = _))); (show _ = _))))
set_option maxRecDepth 100000 in
set_option maxHeartbeats 1000000 in
theorem c_turnC (x : UInt32) (n : Nat) (hn : 0 < n ∧ n < 32) : CT Tryz.prog 355 [] [.int .u32 (x.toNat : Int), .int .i64 (n : Int)] (.int .u32 ((turnN x n).toNat : Int)) [] := by
  have h1 := i64_neg hn
  have c1 := c_rotl x n hn
  refine ct_intro tt_ok 1 rfl Tryz.func355 rfl rfl rfl ?_
  repeat ((try conv => whnf); first | (refine Exists.intro _ (And.intro h1.symm ?_)) | (refine ccA ([]) (c1) ?_) | (refine stpQ ?_))
  (refine ans_auto (by rfl) ?_ ?_ (by rfl)) <;> (repeat' (first | (exact eqA) | (refine And.intro ?_ ?_) | ((fail_if_success (with_reducible (show _ = _))); (show _ = _))))
set_option maxRecDepth 100000 in
set_option maxHeartbeats 1000000 in
theorem c_four (x : UInt32) : CT Tryz.prog 271 [] [.int .u32 (x.toNat : Int)] (.str (four x)) [] := by
  refine ct_intro tt_ok 1 rfl Tryz.func271 rfl rfl rfl ?_
  unfold four
  repeat ((try conv => whnf); first | (refine And.intro (le32 (by omega)) ?_) | (refine u_shr (n := 24) rfl ?_) | (refine u_shr (n := 16) rfl ?_) | (refine u_shr (n := 8) rfl ?_) | (refine w_u8 ?_) | (refine Exists.intro (four x) (And.intro rfl ?_)) | (refine stpQ ?_))
  (refine ans_auto (by rfl) ?_ ?_ (by rfl)) <;> (repeat' (first | (exact eqA) | (refine And.intro ?_ ?_) | ((fail_if_success (with_reducible (show _ = _))); (show _ = _))))
  rfl
set_option maxRecDepth 100000 in
set_option maxHeartbeats 4000000 in
theorem c_iPad (t : Bs) (ht : (t.length : Int) ≤ 100000000) : CT Tryz.prog 269 [] [.str t] (.str (padI t)) [] := by
  have h1 : IntKind.i64.wrap (119 - ((t.length % 64 : Nat) : Int)) = ((119 - t.length % 64 : Nat) : Int) := by rw [wrap_i64 (by omega) (by omega)]; omega
  have hzl : (119 - t.length % 64) % 64 < 64 := Nat.mod_lt _ (by decide)
  unfold padI
  refine ct_intro tt_ok 1 rfl Tryz.func269 rfl rfl rfl ?_
  repeat ((try conv => whnf); first | (refine r_remn (n := nat_lit 64) ?_) | (refine Exists.intro _ (And.intro h1.symm ?_)) | (refine And.intro (by simp [bytesE_len]; omega) ?_) | (refine And.intro (by kernel_rfl) ?_) | (refine stpQ ?_))
  generalize hz : t ++ [128] ++ List.replicate ((119 - t.length % 64) % 64) 0 = z
  have hzz : z.length = t.length + 1 + (119 - t.length % 64) % 64 := by rw [← hz]; simp; omega
  refine loop_cut 0 ⟨[(4, .ref 1)], [(1, some (.row 1 (bytesE (z ++ lenB (8 * t.length) 8))))], 2⟩ Nat (fun j => ⟨[(0, .str t), (4, .ref 1), (5, .int .i64 (7 - (j : Int)))], [(1, some (.row 1 (bytesE (z ++ lenB (8 * t.length) j))))], 2⟩) (fun j => j ≤ 8) (fun j => 8 - j) 0 (by omega) ?_ ?_ ?_
  · (refine le_auto (by rfl) ?_ ?_) <;> ((repeat' (first | (exact trivial) | (exact ml_vE _ _ _ _) | (with_reducible rfl) | (exact (rfl : _ = true)) | (exact (rfl : _ = some _)) | (exact (rfl : _ = none)) | (refine And.intro ?_ ?_) | ((show (_ : Int) = _); omega) | ((fail_if_success (with_reducible (show _ = _))); (show _ = _))))) <;> try rfl
    rw [← hz]; simp [lenB, bytesE, byteE]
  · intro j hj
    by_cases hj8 : j < 8
    · have hnx := lenB_next (8 * t.length) j
      have hll := lenB_len (8 * t.length) j
      have e2 : IntKind.i64.wrap (8 * (7 - (j : Int))) = ((8 * (7 - j) : Nat) : Int) := by rw [wrap_i64 (by omega) (by omega)]; omega
      have e3 : ((8 * t.length : Nat) : Int) / 2 ^ (((8 * (7 - j) : Nat) : Int)).toNat = ((8 * t.length / 2 ^ (8 * (7 - j)) : Nat) : Int) := by rw [Int.toNat_natCast]; simp
      generalize lenB (8 * t.length) j = o at hnx hll ⊢
      have hol : (bytesE (z ++ o)).length = z.length + o.length := by rw [bytesE_len, List.length_append]
      repeat ((try conv => whnf); first | (refine Exists.intro _ (And.intro e2.symm ?_)) | (refine w_mull (by omega) ?_) | (refine And.intro (show _ ≤ (64 : Int) from by omega) ?_) | (refine Exists.intro _ (And.intro e3.symm ?_)) | (refine w_u8 ?_) | (refine And.intro (by simp [bytesE_len]; omega) ?_) | (refine And.intro (by kernel_rfl) ?_) | (refine stpQ ?_))
      refine ⟨j + 1, by omega, by omega, ?_⟩
      rw [hnx]
      (refine le_auto (by rfl) ?_ ?_) <;> ((repeat' (first | (exact trivial) | (exact ml_vE _ _ _ _) | (with_reducible rfl) | (exact (rfl : _ = true)) | (exact (rfl : _ = some _)) | (exact (rfl : _ = none)) | (refine And.intro ?_ ?_) | ((show (_ : Int) = _); omega) | ((fail_if_success (with_reducible (show _ = _))); (show _ = _))))) <;> try rfl
      simp [bytesE, byteE]
    · have hj8 : j = 8 := by omega
      rw [hj8]
      repeat ((try conv => whnf); first | (refine And.intro (by kernel_rfl) ?_) | (refine stpQ ?_))
      (refine le_auto (by rfl) ?_ ?_) <;> ((repeat' (first | (exact trivial) | (exact ml_vE _ _ _ _) | (with_reducible rfl) | (exact (rfl : _ = true)) | (exact (rfl : _ = some _)) | (exact (rfl : _ = none)) | (refine And.intro ?_ ?_) | ((show (_ : Int) = _); omega) | ((fail_if_success (with_reducible (show _ = _))); (show _ = _))))) <;> try rfl
  · generalize z ++ lenB (8 * t.length) 8 = p
    repeat ((try conv => whnf); first | (refine Exists.intro p (And.intro rfl ?_)) | (refine And.intro (by kernel_rfl) ?_) | (refine stpQ ?_))
    (refine ans_auto (by rfl) ?_ ?_ (by rfl)) <;> ((repeat' (first | (exact trivial) | (exact ml_vE _ _ _ _) | (with_reducible rfl) | (exact (rfl : _ = true)) | (exact (rfl : _ = some _)) | (exact (rfl : _ = none)) | (refine And.intro ?_ ?_) | ((show (_ : Int) = _); omega) | ((fail_if_success (with_reducible (show _ = _))); (show _ = _)))))
theorem round_vE : globT roundZ = vE kF 64 := by kernel_rfl
theorem r_at {i : Nat} {K : T → Prop} (h : i < 64) (hk : K (.int .u32 ((kF i).toNat : Int))) : ∃ c, (globT roundZ)[0 + i * 1]? = some c ∧ K c := by
  rw [round_vE]; exact v_at h hk
theorem u_xorN {a : UInt32} {K : Int → Prop} (hk : K ((a ^^^ 4294967295).toNat : Int)) : ∃ r, r = bits .xor .u32 4294967295 (a.toNat : Int) ∧ K r := by
  have := u_xor (a := 4294967295) (b := a) (K := K) (by rw [xor_comm]; exact hk)
  exact this
abbrev turnV : T := .val (.func (.func 355) #[] #[])
set_option maxRecDepth 100000 in
set_option maxHeartbeats 16000000 in
theorem c_compress (h : W8) (b : Bs) (hb : b.length = 64) : CT Tryz.prog 270 [] [.agg (wE h.list), .str b] (.agg (wE (blockF h b kF).list)) [] := by
  refine ct_intro tt2_ok 1 rfl Tryz.func270 rfl rfl rfl ?_
  unfold blockF
  repeat ((try conv => whnf); first | (refine And.intro (by kernel_rfl) ?_) | (refine stpQ ?_))
  refine loop_cut 0 ⟨[(2, .ptr 1 0 0), (4, .ptr 2 0 0), (5, .ptr 3 0 0)], [(1, some (.box (wE h.list))), (2, some (.box (List.replicate 8 (.int .u32 0)))), (3, some (.box (vE (sched0 b 16) 64)))], 4⟩ Nat (fun i => ⟨[(1, .str b), (2, .ptr 1 0 0), (4, .ptr 2 0 0), (5, .ptr 3 0 0), (18, .int .i64 (i : Int))], [(1, some (.box (wE h.list))), (2, some (.box (List.replicate 8 (.int .u32 0)))), (3, some (.box (vE (sched0 b i) 64)))], 4⟩) (fun i => i ≤ 16) (fun i => 16 - i) 0 (by omega) ?_ ?_ ?_
  · (refine le_auto (by rfl) ?_ ?_) <;> ((repeat' (first | (exact trivial) | (exact ml_vE _ _ _ _) | (with_reducible rfl) | (exact (rfl : _ = true)) | (exact (rfl : _ = some _)) | (exact (rfl : _ = none)) | (refine And.intro ?_ ?_) | ((show (_ : Int) = _); omega) | ((fail_if_success (with_reducible (show _ = _))); (show _ = _))))) <;> first | rfl | decide
  · intro i hi
    by_cases hlt : i < 16
    · have hst := v_st (sched0 b i) 64 i (wordB b i)
      rw [← sched0_next] at hst
      repeat ((try conv => whnf); first | (refine w_mull (by omega) ?_) | (refine u_of8 ?_) | (refine And.intro (le32 (by omega)) ?_) | (refine u_shl (n := 24) rfl ?_) | (refine u_shl (n := 16) rfl ?_) | (refine u_shl (n := 8) rfl ?_) | (refine u_or ?_) | (refine And.intro (v_in (by omega)) ?_) | (refine And.intro (by kernel_rfl) ?_) | (refine stpQ ?_))
      refine ⟨i + 1, by omega, by omega, le_box hst ?_⟩
      (refine le_auto (by rfl) ?_ ?_) <;> ((repeat' (first | (exact trivial) | (exact ml_vE _ _ _ _) | (with_reducible rfl) | (exact (rfl : _ = true)) | (exact (rfl : _ = some _)) | (exact (rfl : _ = none)) | (refine And.intro ?_ ?_) | ((show (_ : Int) = _); omega) | ((fail_if_success (with_reducible (show _ = _))); (show _ = _))))) <;> try rfl
    · have hi16 : i = 16 := by omega
      rw [hi16]
      repeat ((try conv => whnf); first | (refine And.intro (by kernel_rfl) ?_) | (refine stpQ ?_))
      (refine le_auto (by rfl) ?_ ?_) <;> ((repeat' (first | (exact trivial) | (exact ml_vE _ _ _ _) | (with_reducible rfl) | (exact (rfl : _ = true)) | (exact (rfl : _ = some _)) | (exact (rfl : _ = none)) | (refine And.intro ?_ ?_) | ((show (_ : Int) = _); omega) | ((fail_if_success (with_reducible (show _ = _))); (show _ = _))))) <;> try rfl
  · generalize sched0 b 16 = w0
    repeat ((try conv => whnf); first | (refine And.intro (by kernel_rfl) ?_) | (refine stpQ ?_))
    refine loop_cut 2 ⟨[(2, .ptr 1 0 0), (4, .ptr 2 0 0), (5, .ptr 3 0 0), (7, turnV)], [(1, some (.box (wE h.list))), (2, some (.box (List.replicate 8 (.int .u32 0)))), (3, some (.box (vE (sched1 w0 64) 64)))], 4⟩ Nat (fun i => ⟨[(2, .ptr 1 0 0), (4, .ptr 2 0 0), (5, .ptr 3 0 0), (7, turnV), (8, .int .i64 (i : Int))], [(1, some (.box (wE h.list))), (2, some (.box (List.replicate 8 (.int .u32 0)))), (3, some (.box (vE (sched1 w0 i) 64)))], 4⟩) (fun i => 16 ≤ i ∧ i ≤ 64) (fun i => 64 - i) 16 ⟨by omega, by omega⟩ ?_ ?_ ?_
    · (refine le_auto (by rfl) ?_ ?_) <;> ((repeat' (first | (exact trivial) | (exact ml_vE _ _ _ _) | (with_reducible rfl) | (exact (rfl : _ = true)) | (exact (rfl : _ = some _)) | (exact (rfl : _ = none)) | (refine And.intro ?_ ?_) | ((show (_ : Int) = _); omega) | ((fail_if_success (with_reducible (show _ = _))); (show _ = _))))) <;> first | rfl | decide
    · intro i hii
      have hi : 16 ≤ i := hii.1
      have hi2 : i ≤ 64 := hii.2
      by_cases hlt : i < 64
      · have hnx := sched1_next (ws := w0) hi
        generalize sched1 w0 i = f at hnx ⊢
        have hst := v_st f 64 i (f (i - 16) + (turnN (f (i - 15)) 7 ^^^ turnN (f (i - 15)) 18 ^^^ shrN (f (i - 15)) 3) + f (i - 7) + (turnN (f (i - 2)) 17 ^^^ turnN (f (i - 2)) 19 ^^^ shrN (f (i - 2)) 10))
        rw [show upd f i _ = schedStep f i from rfl, ← hnx] at hst
        repeat ((try conv => whnf); first | (refine v_at (by omega) ?_) | (refine ccA ([]) (c_turnC (f (i - 15)) 7 (by decide)) ?_) | (refine ccA ([]) (c_turnC (f (i - 15)) 18 (by decide)) ?_) | (refine ccA ([]) (c_turnC (f (i - 2)) 17 (by decide)) ?_) | (refine ccA ([]) (c_turnC (f (i - 2)) 19 (by decide)) ?_) | (refine And.intro (le32 (by omega)) ?_) | (refine u_shr (n := 3) rfl ?_) | (refine u_shr (n := 10) rfl ?_) | (refine u_xor ?_) | (refine u_add ?_) | (refine And.intro (v_in (by omega)) ?_) | (refine And.intro (by kernel_rfl) ?_) | (refine stpQ ?_))
        refine ⟨i + 1, ⟨by omega, by omega⟩, by omega, le_box hst ?_⟩
        (refine le_auto (by rfl) ?_ ?_) <;> ((repeat' (first | (exact trivial) | (exact ml_vE _ _ _ _) | (with_reducible rfl) | (exact (rfl : _ = true)) | (exact (rfl : _ = some _)) | (exact (rfl : _ = none)) | (refine And.intro ?_ ?_) | ((show (_ : Int) = _); omega) | ((fail_if_success (with_reducible (show _ = _))); (show _ = _))))) <;> try rfl
      · have hi64 : i = 64 := by omega
        rw [hi64]
        repeat ((try conv => whnf); first | (refine And.intro (by kernel_rfl) ?_) | (refine stpQ ?_))
        (refine le_auto (by rfl) ?_ ?_) <;> ((repeat' (first | (exact trivial) | (exact ml_vE _ _ _ _) | (with_reducible rfl) | (exact (rfl : _ = true)) | (exact (rfl : _ = some _)) | (exact (rfl : _ = none)) | (refine And.intro ?_ ?_) | ((show (_ : Int) = _); omega) | ((fail_if_success (with_reducible (show _ = _))); (show _ = _))))) <;> try rfl
    · generalize sched1 w0 64 = w
      repeat ((try conv => whnf); first | (refine And.intro (by kernel_rfl) ?_) | (refine stpQ ?_))
      refine loop_cut 4 ⟨[(2, .ptr 1 0 0), (4, .ptr 2 0 0), (11, .ptr 3 0 0)], [(1, some (.box (wE h.list))), (2, some (.box (List.replicate 8 (.int .u32 0)))), (3, some (.box (wE (rnds h kF w 64).list)))], 4⟩ Nat (fun i => ⟨[(2, .ptr 1 0 0), (4, .ptr 2 0 0), (5, .ptr 3 0 0), (7, turnV), (11, .ptr 4 0 0), (99, .int .i64 (i : Int))], [(1, some (.box (wE h.list))), (2, some (.box (List.replicate 8 (.int .u32 0)))), (3, some (.box (vE w 64))), (4, some (.box (wE (rnds h kF w i).list)))], 5⟩) (fun i => i ≤ 64) (fun i => 64 - i) 0 (by omega) ?_ ?_ ?_
      · (refine le_auto (by rfl) ?_ ?_) <;> ((repeat' (first | (exact trivial) | (exact ml_vE _ _ _ _) | (with_reducible rfl) | (exact (rfl : _ = true)) | (exact (rfl : _ = some _)) | (exact (rfl : _ = none)) | (refine And.intro ?_ ?_) | ((show (_ : Int) = _); omega) | ((fail_if_success (with_reducible (show _ = _))); (show _ = _))))) <;> first | rfl | decide
      · intro i hi
        by_cases hlt : i < 64
        · have hnx := rnds_next h kF w i
          generalize rnds h kF w i = s at hnx ⊢
          repeat ((try conv => whnf); first | (refine v_at (by omega) ?_) | (refine r_at (by omega) ?_) | (refine ccA ([]) (c_turnC s.e 6 (by decide)) ?_) | (refine ccA ([]) (c_turnC s.e 11 (by decide)) ?_) | (refine ccA ([]) (c_turnC s.e 25 (by decide)) ?_) | (refine ccA ([]) (c_turnC s.a 2 (by decide)) ?_) | (refine ccA ([]) (c_turnC s.a 13 (by decide)) ?_) | (refine ccA ([]) (c_turnC s.a 22 (by decide)) ?_) | (refine u_and ?_) | (refine u_xorN ?_) | (refine u_xor ?_) | (refine u_add ?_) | (refine And.intro (by kernel_rfl) ?_) | (refine stpQ ?_))
          refine ⟨i + 1, by omega, by omega, ?_⟩
          rw [hnx]
          (refine le_auto (by rfl) ?_ ?_) <;> ((repeat' (first | (exact trivial) | (exact ml_vE _ _ _ _) | (with_reducible rfl) | (exact (rfl : _ = true)) | (exact (rfl : _ = some _)) | (exact (rfl : _ = none)) | (refine And.intro ?_ ?_) | ((show (_ : Int) = _); omega) | ((fail_if_success (with_reducible (show _ = _))); (show _ = _))))) <;> first | rfl | decide
        · have hi64 : i = 64 := by omega
          rw [hi64]
          repeat ((try conv => whnf); first | (refine And.intro (by kernel_rfl) ?_) | (refine stpQ ?_))
          (refine le_auto (by rfl) ?_ ?_) <;> ((repeat' (first | (exact trivial) | (exact ml_vE _ _ _ _) | (with_reducible rfl) | (exact (rfl : _ = true)) | (exact (rfl : _ = some _)) | (exact (rfl : _ = none)) | (refine And.intro ?_ ?_) | ((show (_ : Int) = _); omega) | ((fail_if_success (with_reducible (show _ = _))); (show _ = _))))) <;> first | rfl | decide
      · generalize rnds h kF w 64 = s
        repeat ((try conv => whnf); first | (refine And.intro (by kernel_rfl) ?_) | (refine stpQ ?_))
        refine loop_cut 6 ⟨[(2, .ptr 1 0 0), (4, .ptr 2 0 0)], [(1, some (.box (vE (addW h.fn s.fn 8) 8))), (2, some (.box (List.replicate 8 (.int .u32 0))))], 3⟩ Nat (fun i => ⟨[(2, .ptr 1 0 0), (4, .ptr 2 0 0), (11, .ptr 3 0 0), (185, .int .i64 (i : Int))], [(1, some (.box (vE (addW h.fn s.fn i) 8))), (2, some (.box (List.replicate 8 (.int .u32 0)))), (3, some (.box (vE s.fn 8)))], 4⟩) (fun i => i ≤ 8) (fun i => 8 - i) 0 (by omega) ?_ ?_ ?_
        · (refine le_auto (by rfl) ?_ ?_) <;> ((repeat' (first | (exact trivial) | (exact ml_vE _ _ _ _) | (with_reducible rfl) | (exact (rfl : _ = true)) | (exact (rfl : _ = some _)) | (exact (rfl : _ = none)) | (refine And.intro ?_ ?_) | ((show (_ : Int) = _); omega) | ((fail_if_success (with_reducible (show _ = _))); (show _ = _))))) <;> first | rfl | decide
        · intro i hi
          by_cases hlt : i < 8
          · have hnx := addW_next h.fn s.fn i
            generalize addW h.fn s.fn i = f at hnx ⊢
            have hst := v_st f 8 i (f i + s.fn i)
            rw [← hnx] at hst
            repeat ((try conv => whnf); first | (refine v_at (by omega) ?_) | (refine u_add ?_) | (refine And.intro (v_in (by omega)) ?_) | (refine And.intro (by kernel_rfl) ?_) | (refine stpQ ?_))
            refine ⟨i + 1, by omega, by omega, le_box hst ?_⟩
            (refine le_auto (by rfl) ?_ ?_) <;> ((repeat' (first | (exact trivial) | (exact ml_vE _ _ _ _) | (with_reducible rfl) | (exact (rfl : _ = true)) | (exact (rfl : _ = some _)) | (exact (rfl : _ = none)) | (refine And.intro ?_ ?_) | ((show (_ : Int) = _); omega) | ((fail_if_success (with_reducible (show _ = _))); (show _ = _))))) <;> try rfl
          · have hi8 : i = 8 := by omega
            rw [hi8]
            repeat ((try conv => whnf); first | (refine And.intro (by kernel_rfl) ?_) | (refine stpQ ?_))
            (refine le_auto (by rfl) ?_ ?_) <;> ((repeat' (first | (exact trivial) | (exact ml_vE _ _ _ _) | (with_reducible rfl) | (exact (rfl : _ = true)) | (exact (rfl : _ = some _)) | (exact (rfl : _ = none)) | (refine And.intro ?_ ?_) | ((show (_ : Int) = _); omega) | ((fail_if_success (with_reducible (show _ = _))); (show _ = _))))) <;> try rfl
        · have hf : ∀ j, j < 8 → addW h.fn s.fn 8 j = h.fn j + s.fn j := fun j hj => by rw [addW_at, if_pos hj]
          generalize addW h.fn s.fn 8 = f at hf ⊢
          repeat ((try conv => whnf); first | (refine And.intro (by kernel_rfl) ?_) | (refine stpQ ?_))
          (refine ans_auto (by rfl) ?_ ?_ (by rfl)) <;> ((repeat' (first | (exact trivial) | (exact ml_vE _ _ _ _) | (with_reducible rfl) | (exact (rfl : _ = true)) | (exact (rfl : _ = some _)) | (exact (rfl : _ = none)) | (refine And.intro ?_ ?_) | ((show (_ : Int) = _); omega) | ((fail_if_success (with_reducible (show _ = _))); (show _ = _)))))
          all_goals first
            | (rw [hf _ (by decide)]; rfl)
            | rfl
end Go.Proofs.YtmmnkndmlkhmhaaGreatDoor
