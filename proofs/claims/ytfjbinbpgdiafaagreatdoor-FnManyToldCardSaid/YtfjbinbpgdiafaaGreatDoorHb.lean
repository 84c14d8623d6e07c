/- Functions by content: the program's digest. Functions by content: the program's digest, whole. Functions by content: the index of a name, and the entries of an index. -/
import Derived.Test.YtfjbinbpgdiafaaGreatDoorHa
import Derived.Test.YtfjbinbpgdiafaaGreatDoorPlainM
import Derived.Test.YtfjbinbpgdiafaaGreatDoorFc
namespace Go.Proofs.YtfjbinbpgdiafaaGreatDoor
set_option maxRecDepth 100000
set_option maxHeartbeats 16000000
set_option linter.unusedVariables false
set_option linter.unusedSimpArgs false
set_option linter.unusedSectionVars false
open Go.RowKit Pl
attribute [local irreducible] z0t z0u z0A AnsP LeP bits z1Q shlN shrN
theorem zff {n : Nat} (hn : 0 < n ∧ n < 32) : IntKind.u64.wrap (-(n : Int)) = ((18446744073709551616 - n : Nat) : Int) := by
 rw [IntKind.wrap_u64]; omega
theorem zct {n : Nat} (hn : 0 < n ∧ n < 32) : bits .and .u64 ((18446744073709551616 - n : Nat) : Int) 31 = ((32 - n : Nat) : Int) := by
 have h := u64_and_nat (18446744073709551616 - n) 31 (by omega) (by omega)
 have e : (18446744073709551616 - n) &&& 31 = 32 - n := by
  rw [show 31 = 2 ^ 5 - 1 from rfl, Nat.and_two_pow_sub_one_eq_mod]; omega
 rw [e] at h
 exact h
theorem zfg {n : Nat} (hn : 0 < n ∧ n < 32) : IntKind.i64.wrap (0 - (n : Int)) = -(n : Int) := by rw [wrap_i64 (by omega) (by omega)]; omega
theorem c_rotl (x : UInt32) (n : Nat) (hn : 0 < n ∧ n < 32) : CT Tryz.prog 198 [] [.int .u32 (x.toNat : Int), .int .i64 (-(n : Int))] (.int .u32 ((z1Q x n).toNat : Int)) [] := by
 have h1 := zff hn
 have h2 := zct hn
 have h3 : IntKind.u64.wrap (32 - ((32 - n : Nat) : Int)) = (n : Int) := by rw [IntKind.wrap_u64]; omega
 rw [← zcs]
 refine z0b z0q 1 rfl Tryz.func198 rfl rfl rfl ?_
 repeat ((try conv => whnf); first | (refine Exists.intro _ (And.intro h1.symm ?_)) | (refine Exists.intro _ (And.intro h2.symm ?_)) | (refine Exists.intro _ (And.intro h3.symm ?_)) | (refine And.intro (le32 (by omega)) ?_) | (refine z8f (n := 32 - n) (by omega) ?_) | (refine z4r (n := n) (by omega) ?_) | (refine u_or ?_) | (refine stpQ ?_))
 (refine z02 (by rfl) ?_ ?_ (by rfl)) <;> (repeat' (first | (exact eqA) | (refine shE ?_) | (refine And.intro ?_ ?_)))
theorem z2i (x : UInt32) (n : Nat) (hn : 0 < n ∧ n < 32) : CT Tryz.prog 197 [] [.int .u32 (x.toNat : Int), .int .i64 (n : Int)] (.int .u32 ((z1Q x n).toNat : Int)) [] := by
 have h1 := zfg hn
 have c1 := c_rotl x n hn
 refine z0b z0q 1 rfl Tryz.func197 rfl rfl rfl ?_
 repeat ((try conv => whnf); first | (refine Exists.intro _ (And.intro h1.symm ?_)) | (refine ccA ([]) (c1) ?_) | (refine stpQ ?_))
 (refine z02 (by rfl) ?_ ?_ (by rfl)) <;> (repeat' (first | (exact eqA) | (refine shE ?_) | (refine And.intro ?_ ?_)))
theorem c_four (x : UInt32) : CT Tryz.prog 173 [] [.int .u32 (x.toNat : Int)] (.str (four x)) [] := by
 refine z0b z0q 1 rfl Tryz.func173 rfl rfl rfl ?_
 unfold four
 repeat ((try conv => whnf); first | (refine And.intro (le32 (by omega)) ?_) | (refine z4r (n := 24) rfl ?_) | (refine z4r (n := 16) rfl ?_) | (refine z4r (n := 8) rfl ?_) | (refine w_u8 ?_) | (refine Exists.intro (four x) (And.intro rfl ?_)) | (refine stpQ ?_))
 (refine z02 (by rfl) ?_ ?_ (by rfl)) <;> (repeat' (first | (exact eqA) | (refine shE ?_) | (refine And.intro ?_ ?_)))
 rfl
theorem c_iPad (t : Bs) (ht : (t.length : Int) ≤ 100000000) : CT Tryz.prog 171 [] [.str t] (.str (padI t)) [] := by
 have h1 : IntKind.i64.wrap (119 - ((t.length % 64 : Nat) : Int)) = ((119 - t.length % 64 : Nat) : Int) := by rw [wrap_i64 (by omega) (by omega)]; omega
 have hzl : (119 - t.length % 64) % 64 < 64 := Nat.mod_lt _ (by decide)
 unfold padI
 refine z0b z0q 1 rfl Tryz.func171 rfl rfl rfl ?_
 repeat ((try conv => whnf); first | (refine z1c (n := nat_lit 64) ?_) | (refine Exists.intro _ (And.intro h1.symm ?_)) | (refine And.intro (by simp [z0s]; omega) ?_) | (refine And.intro (by kernel_rfl) ?_) | (refine stpQ ?_))
 generalize hz : t ++ [128] ++ List.replicate ((119 - t.length % 64) % 64) 0 = z
 have hzz : z.length = t.length + 1 + (119 - t.length % 64) % 64 := by rw [← hz]; simp; omega
 refine z0g 0 ⟨[(4, .ref 1)], [(1, some (.row 1 (z0i (z ++ lenB (8 * t.length) 8))))], 2⟩ Nat (fun j => ⟨[(0, .str t), (4, .ref 1), (5, .int .i64 (7 - (j : Int)))], [(1, some (.row 1 (z0i (z ++ lenB (8 * t.length) j))))], 2⟩) (fun j => j ≤ 8) (fun j => 8 - j) 0 (by omega) ?_ ?_ ?_
 ·(refine z01 (by rfl) ?_ ?_) <;> ((repeat' (first | (exact trivial) | (exact z0J _ _ _ _) | (with_reducible rfl) | (exact (rfl : _ = true)) | (exact (rfl : _ = some _)) | (exact (rfl : _ = none)) | (refine And.intro ?_ ?_) | ((show (_ : Int) = _); omega) | ((fail_if_success (with_reducible (show _ = _))); (show _ = _))))) <;> try rfl
  rw [← hz]; simp [lenB, z0i, z35]
 ·intro j hj
  by_cases hj8 : j < 8
  ·have hnx := z8h (8 * t.length) j
   have hll := zah (8 * t.length) j
   have e2 : IntKind.i64.wrap (8 * (7 - (j : Int))) = ((8 * (7 - j) : Nat) : Int) := by rw [wrap_i64 (by omega) (by omega)]; omega
   have e3 : ((8 * t.length : Nat) : Int) / 2 ^ (((8 * (7 - j) : Nat) : Int)).toNat = ((8 * t.length / 2 ^ (8 * (7 - j)) : Nat) : Int) := by rw [Int.toNat_natCast]; simp
   generalize lenB (8 * t.length) j = o at hnx hll ⊢
   have hol : (z0i (z ++ o)).length = z.length + o.length := by rw [z0s, List.length_append]
   repeat ((try conv => whnf); first | (refine Exists.intro _ (And.intro e2.symm ?_)) | (refine z5p (by omega) ?_) | (refine And.intro (show _ ≤ (64 : Int) from by omega) ?_) | (refine Exists.intro _ (And.intro e3.symm ?_)) | (refine w_u8 ?_) | (refine And.intro (by simp [z0s]; omega) ?_) | (refine And.intro (by kernel_rfl) ?_) | (refine stpQ ?_))
   refine ⟨j + 1, by omega, by omega, ?_⟩
   rw [hnx]
   (refine z01 (by rfl) ?_ ?_) <;> ((repeat' (first | (exact trivial) | (exact z0J _ _ _ _) | (with_reducible rfl) | (exact (rfl : _ = true)) | (exact (rfl : _ = some _)) | (exact (rfl : _ = none)) | (refine And.intro ?_ ?_) | ((show (_ : Int) = _); omega) | ((fail_if_success (with_reducible (show _ = _))); (show _ = _))))) <;> try rfl
   simp [z0i, z35]
  ·have hj8 : j = 8 := by omega
   rw [hj8]
   repeat ((try conv => whnf); first | (refine And.intro (by kernel_rfl) ?_) | (refine stpQ ?_))
   (refine z01 (by rfl) ?_ ?_) <;> ((repeat' (first | (exact trivial) | (exact z0J _ _ _ _) | (with_reducible rfl) | (exact (rfl : _ = true)) | (exact (rfl : _ = some _)) | (exact (rfl : _ = none)) | (refine And.intro ?_ ?_) | ((show (_ : Int) = _); omega) | ((fail_if_success (with_reducible (show _ = _))); (show _ = _))))) <;> try rfl
 ·generalize z ++ lenB (8 * t.length) 8 = p
  repeat ((try conv => whnf); first | (refine Exists.intro p (And.intro rfl ?_)) | (refine And.intro (by kernel_rfl) ?_) | (refine stpQ ?_))
  (refine z02 (by rfl) ?_ ?_ (by rfl)) <;> ((repeat' (first | (exact trivial) | (exact z0J _ _ _ _) | (with_reducible rfl) | (exact (rfl : _ = true)) | (exact (rfl : _ = some _)) | (exact (rfl : _ = none)) | (refine And.intro ?_ ?_) | ((show (_ : Int) = _); omega) | ((fail_if_success (with_reducible (show _ = _))); (show _ = _)))))
theorem zdK : z8B z7B = vE kF 64 := by kernel_rfl
theorem r_at {i : Nat} {K : T → Prop} (h : i < 64) (hk : K (.int .u32 ((kF i).toNat : Int))) : ∃ c, (z8B z7B)[0 + i * 1]? = some c ∧ K c := by
 rw [zdK]; exact v_at h hk
theorem u_xorN {a : UInt32} {K : Int → Prop} (hk : K ((a ^^^ 4294967295).toNat : Int)) : ∃ r, r = bits .xor .u32 4294967295 (a.toNat : Int) ∧ K r := by
 have := zb5 (a := 4294967295) (b := a) (K := K) (by rw [xor_comm]; exact hk)
 exact this
abbrev zfh : T := .val (.func (.func 197) #[] #[])
theorem zb6 (h : W8) (b : Bs) (hb : b.length = 64) : CT Tryz.prog 172 [] [.agg (wE h.list), .str b] (.agg (wE (z6q h b kF).list)) [] := by
 refine z0b z6r 1 rfl Tryz.func172 rfl rfl rfl ?_
 unfold z6q
 repeat ((try conv => whnf); first | (refine And.intro (by kernel_rfl) ?_) | (refine stpQ ?_))
 refine z0g 0 ⟨[(2, .ptr 1 0 0), (4, .ptr 2 0 0), (5, .ptr 3 0 0)], [(1, some (.box (wE h.list))), (2, some (.box (List.replicate 8 (.int .u32 0)))), (3, some (.box (vE (z2A b 16) 64)))], 4⟩ Nat (fun i => ⟨[(1, .str b), (2, .ptr 1 0 0), (4, .ptr 2 0 0), (5, .ptr 3 0 0), (18, .int .i64 (i : Int))], [(1, some (.box (wE h.list))), (2, some (.box (List.replicate 8 (.int .u32 0)))), (3, some (.box (vE (z2A b i) 64)))], 4⟩) (fun i => i ≤ 16) (fun i => 16 - i) 0 (by omega) ?_ ?_ ?_
 ·(refine z01 (by rfl) ?_ ?_) <;> ((repeat' (first | (exact trivial) | (exact z0J _ _ _ _) | (with_reducible rfl) | (exact (rfl : _ = true)) | (exact (rfl : _ = some _)) | (exact (rfl : _ = none)) | (refine And.intro ?_ ?_) | ((show (_ : Int) = _); omega) | ((fail_if_success (with_reducible (show _ = _))); (show _ = _))))) <;> first | rfl | decide
 ·intro i hi
  by_cases hlt : i < 16
  ·have hst := v_st (z2A b i) 64 i (zdI b i)
   rw [← z5l] at hst
   repeat ((try conv => whnf); first | (refine z5p (by omega) ?_) | (refine u_of8 ?_) | (refine And.intro (le32 (by omega)) ?_) | (refine z8f (n := 24) rfl ?_) | (refine z8f (n := 16) rfl ?_) | (refine z8f (n := 8) rfl ?_) | (refine u_or ?_) | (refine And.intro (v_in (by omega)) ?_) | (refine And.intro (by kernel_rfl) ?_) | (refine stpQ ?_))
   refine ⟨i + 1, by omega, by omega, z6s hst ?_⟩
   (refine z01 (by rfl) ?_ ?_) <;> ((repeat' (first | (exact trivial) | (exact z0J _ _ _ _) | (with_reducible rfl) | (exact (rfl : _ = true)) | (exact (rfl : _ = some _)) | (exact (rfl : _ = none)) | (refine And.intro ?_ ?_) | ((show (_ : Int) = _); omega) | ((fail_if_success (with_reducible (show _ = _))); (show _ = _))))) <;> try rfl
  ·have hi16 : i = 16 := by omega
   rw [hi16]
   repeat ((try conv => whnf); first | (refine And.intro (by kernel_rfl) ?_) | (refine stpQ ?_))
   (refine z01 (by rfl) ?_ ?_) <;> ((repeat' (first | (exact trivial) | (exact z0J _ _ _ _) | (with_reducible rfl) | (exact (rfl : _ = true)) | (exact (rfl : _ = some _)) | (exact (rfl : _ = none)) | (refine And.intro ?_ ?_) | ((show (_ : Int) = _); omega) | ((fail_if_success (with_reducible (show _ = _))); (show _ = _))))) <;> try rfl
 ·generalize z2A b 16 = w0
  repeat ((try conv => whnf); first | (refine And.intro (by kernel_rfl) ?_) | (refine stpQ ?_))
  refine z0g 2 ⟨[(2, .ptr 1 0 0), (4, .ptr 2 0 0), (5, .ptr 3 0 0), (7, zfh)], [(1, some (.box (wE h.list))), (2, some (.box (List.replicate 8 (.int .u32 0)))), (3, some (.box (vE (z2n w0 64) 64)))], 4⟩ Nat (fun i => ⟨[(2, .ptr 1 0 0), (4, .ptr 2 0 0), (5, .ptr 3 0 0), (7, zfh), (8, .int .i64 (i : Int))], [(1, some (.box (wE h.list))), (2, some (.box (List.replicate 8 (.int .u32 0)))), (3, some (.box (vE (z2n w0 i) 64)))], 4⟩) (fun i => 16 ≤ i ∧ i ≤ 64) (fun i => 64 - i) 16 ⟨by omega, by omega⟩ ?_ ?_ ?_
  ·(refine z01 (by rfl) ?_ ?_) <;> ((repeat' (first | (exact trivial) | (exact z0J _ _ _ _) | (with_reducible rfl) | (exact (rfl : _ = true)) | (exact (rfl : _ = some _)) | (exact (rfl : _ = none)) | (refine And.intro ?_ ?_) | ((show (_ : Int) = _); omega) | ((fail_if_success (with_reducible (show _ = _))); (show _ = _))))) <;> first | rfl | decide
  ·intro i hii
   have hi : 16 ≤ i := hii.1
   have hi2 : i ≤ 64 := hii.2
   by_cases hlt : i < 64
   ·have hnx := z5m (ws := w0) hi
    generalize z2n w0 i = f at hnx ⊢
    have hst := v_st f 64 i (f (i - 16) + (z1Q (f (i - 15)) 7 ^^^ z1Q (f (i - 15)) 18 ^^^ shrN (f (i - 15)) 3) + f (i - 7) + (z1Q (f (i - 2)) 17 ^^^ z1Q (f (i - 2)) 19 ^^^ shrN (f (i - 2)) 10))
    rw [show upd f i _ = z3H f i from rfl, ← hnx] at hst
    repeat ((try conv => whnf); first | (refine v_at (by omega) ?_) | (refine ccA ([]) (z2i (f (i - 15)) 7 (by decide)) ?_) | (refine ccA ([]) (z2i (f (i - 15)) 18 (by decide)) ?_) | (refine ccA ([]) (z2i (f (i - 2)) 17 (by decide)) ?_) | (refine ccA ([]) (z2i (f (i - 2)) 19 (by decide)) ?_) | (refine And.intro (le32 (by omega)) ?_) | (refine z4r (n := 3) rfl ?_) | (refine z4r (n := 10) rfl ?_) | (refine zb5 ?_) | (refine zb4 ?_) | (refine And.intro (v_in (by omega)) ?_) | (refine And.intro (by kernel_rfl) ?_) | (refine stpQ ?_))
    refine ⟨i + 1, ⟨by omega, by omega⟩, by omega, z6s hst ?_⟩
    (refine z01 (by rfl) ?_ ?_) <;> ((repeat' (first | (exact trivial) | (exact z0J _ _ _ _) | (with_reducible rfl) | (exact (rfl : _ = true)) | (exact (rfl : _ = some _)) | (exact (rfl : _ = none)) | (refine And.intro ?_ ?_) | ((show (_ : Int) = _); omega) | ((fail_if_success (with_reducible (show _ = _))); (show _ = _))))) <;> try rfl
   ·have hi64 : i = 64 := by omega
    rw [hi64]
    repeat ((try conv => whnf); first | (refine And.intro (by kernel_rfl) ?_) | (refine stpQ ?_))
    (refine z01 (by rfl) ?_ ?_) <;> ((repeat' (first | (exact trivial) | (exact z0J _ _ _ _) | (with_reducible rfl) | (exact (rfl : _ = true)) | (exact (rfl : _ = some _)) | (exact (rfl : _ = none)) | (refine And.intro ?_ ?_) | ((show (_ : Int) = _); omega) | ((fail_if_success (with_reducible (show _ = _))); (show _ = _))))) <;> try rfl
  ·generalize z2n w0 64 = w
   repeat ((try conv => whnf); first | (refine And.intro (by kernel_rfl) ?_) | (refine stpQ ?_))
   refine z0g 4 ⟨[(2, .ptr 1 0 0), (4, .ptr 2 0 0), (11, .ptr 3 0 0)], [(1, some (.box (wE h.list))), (2, some (.box (List.replicate 8 (.int .u32 0)))), (3, some (.box (wE (rnds h kF w 64).list)))], 4⟩ Nat (fun i => ⟨[(2, .ptr 1 0 0), (4, .ptr 2 0 0), (5, .ptr 3 0 0), (7, zfh), (11, .ptr 4 0 0), (99, .int .i64 (i : Int))], [(1, some (.box (wE h.list))), (2, some (.box (List.replicate 8 (.int .u32 0)))), (3, some (.box (vE w 64))), (4, some (.box (wE (rnds h kF w i).list)))], 5⟩) (fun i => i ≤ 64) (fun i => 64 - i) 0 (by omega) ?_ ?_ ?_
   ·(refine z01 (by rfl) ?_ ?_) <;> ((repeat' (first | (exact trivial) | (exact z0J _ _ _ _) | (with_reducible rfl) | (exact (rfl : _ = true)) | (exact (rfl : _ = some _)) | (exact (rfl : _ = none)) | (refine And.intro ?_ ?_) | ((show (_ : Int) = _); omega) | ((fail_if_success (with_reducible (show _ = _))); (show _ = _))))) <;> first | rfl | decide
   ·intro i hi
    by_cases hlt : i < 64
    ·have hnx := z8c h kF w i
     generalize rnds h kF w i = s at hnx ⊢
     repeat ((try conv => whnf); first | (refine v_at (by omega) ?_) | (refine r_at (by omega) ?_) | (refine ccA ([]) (z2i s.e 6 (by decide)) ?_) | (refine ccA ([]) (z2i s.e 11 (by decide)) ?_) | (refine ccA ([]) (z2i s.e 25 (by decide)) ?_) | (refine ccA ([]) (z2i s.a 2 (by decide)) ?_) | (refine ccA ([]) (z2i s.a 13 (by decide)) ?_) | (refine ccA ([]) (z2i s.a 22 (by decide)) ?_) | (refine u_and ?_) | (refine u_xorN ?_) | (refine zb5 ?_) | (refine zb4 ?_) | (refine And.intro (by kernel_rfl) ?_) | (refine stpQ ?_))
     refine ⟨i + 1, by omega, by omega, ?_⟩
     rw [hnx]
     (refine z01 (by rfl) ?_ ?_) <;> ((repeat' (first | (exact trivial) | (exact z0J _ _ _ _) | (with_reducible rfl) | (exact (rfl : _ = true)) | (exact (rfl : _ = some _)) | (exact (rfl : _ = none)) | (refine And.intro ?_ ?_) | ((show (_ : Int) = _); omega) | ((fail_if_success (with_reducible (show _ = _))); (show _ = _))))) <;> first | rfl | decide
    ·have hi64 : i = 64 := by omega
     rw [hi64]
     repeat ((try conv => whnf); first | (refine And.intro (by kernel_rfl) ?_) | (refine stpQ ?_))
     (refine z01 (by rfl) ?_ ?_) <;> ((repeat' (first | (exact trivial) | (exact z0J _ _ _ _) | (with_reducible rfl) | (exact (rfl : _ = true)) | (exact (rfl : _ = some _)) | (exact (rfl : _ = none)) | (refine And.intro ?_ ?_) | ((show (_ : Int) = _); omega) | ((fail_if_success (with_reducible (show _ = _))); (show _ = _))))) <;> first | rfl | decide
   ·generalize rnds h kF w 64 = s
    repeat ((try conv => whnf); first | (refine And.intro (by kernel_rfl) ?_) | (refine stpQ ?_))
    refine z0g 6 ⟨[(2, .ptr 1 0 0), (4, .ptr 2 0 0)], [(1, some (.box (vE (addW h.fn s.fn 8) 8))), (2, some (.box (List.replicate 8 (.int .u32 0))))], 3⟩ Nat (fun i => ⟨[(2, .ptr 1 0 0), (4, .ptr 2 0 0), (11, .ptr 3 0 0), (185, .int .i64 (i : Int))], [(1, some (.box (vE (addW h.fn s.fn i) 8))), (2, some (.box (List.replicate 8 (.int .u32 0)))), (3, some (.box (vE s.fn 8)))], 4⟩) (fun i => i ≤ 8) (fun i => 8 - i) 0 (by omega) ?_ ?_ ?_
    ·(refine z01 (by rfl) ?_ ?_) <;> ((repeat' (first | (exact trivial) | (exact z0J _ _ _ _) | (with_reducible rfl) | (exact (rfl : _ = true)) | (exact (rfl : _ = some _)) | (exact (rfl : _ = none)) | (refine And.intro ?_ ?_) | ((show (_ : Int) = _); omega) | ((fail_if_success (with_reducible (show _ = _))); (show _ = _))))) <;> first | rfl | decide
    ·intro i hi
     by_cases hlt : i < 8
     ·have hnx := z5n h.fn s.fn i
      generalize addW h.fn s.fn i = f at hnx ⊢
      have hst := v_st f 8 i (f i + s.fn i)
      rw [← hnx] at hst
      repeat ((try conv => whnf); first | (refine v_at (by omega) ?_) | (refine zb4 ?_) | (refine And.intro (v_in (by omega)) ?_) | (refine And.intro (by kernel_rfl) ?_) | (refine stpQ ?_))
      refine ⟨i + 1, by omega, by omega, z6s hst ?_⟩
      (refine z01 (by rfl) ?_ ?_) <;> ((repeat' (first | (exact trivial) | (exact z0J _ _ _ _) | (with_reducible rfl) | (exact (rfl : _ = true)) | (exact (rfl : _ = some _)) | (exact (rfl : _ = none)) | (refine And.intro ?_ ?_) | ((show (_ : Int) = _); omega) | ((fail_if_success (with_reducible (show _ = _))); (show _ = _))))) <;> try rfl
     ·have hi8 : i = 8 := by omega
      rw [hi8]
      repeat ((try conv => whnf); first | (refine And.intro (by kernel_rfl) ?_) | (refine stpQ ?_))
      (refine z01 (by rfl) ?_ ?_) <;> ((repeat' (first | (exact trivial) | (exact z0J _ _ _ _) | (with_reducible rfl) | (exact (rfl : _ = true)) | (exact (rfl : _ = some _)) | (exact (rfl : _ = none)) | (refine And.intro ?_ ?_) | ((show (_ : Int) = _); omega) | ((fail_if_success (with_reducible (show _ = _))); (show _ = _))))) <;> try rfl
    ·have hf : ∀ j, j < 8 → addW h.fn s.fn 8 j = h.fn j + s.fn j := fun j hj => by rw [z79, if_pos hj]
     generalize addW h.fn s.fn 8 = f at hf ⊢
     repeat ((try conv => whnf); first | (refine And.intro (by kernel_rfl) ?_) | (refine stpQ ?_))
     (refine z02 (by rfl) ?_ ?_ (by rfl)) <;> ((repeat' (first | (exact trivial) | (exact z0J _ _ _ _) | (with_reducible rfl) | (exact (rfl : _ = true)) | (exact (rfl : _ = some _)) | (exact (rfl : _ = none)) | (refine And.intro ?_ ?_) | ((show (_ : Int) = _); omega) | ((fail_if_success (with_reducible (show _ = _))); (show _ = _)))))
     all_goals first
      | (rw [hf _ (by decide)]; rfl)
      | rfl
end Go.Proofs.YtfjbinbpgdiafaaGreatDoor
namespace Go.Proofs.YtfjbinbpgdiafaaGreatDoor
set_option linter.unusedVariables false
set_option linter.unusedSimpArgs false
set_option linter.unusedSectionVars false
open Go.RowKit Pl
attribute [local irreducible] z0t z0u z0A AnsP LeP bits z1Q shlN shrN
theorem w_ix {l : List UInt32} {i : Nat} {K : T → Prop} (h : i < l.length) (hk : K (.int .u32 ((l.getD i 0).toNat : Int))) : ∃ c, (wE l)[i]? = some c ∧ K c := ⟨_, wE_at h, hk⟩
set_option maxRecDepth 100000 in
set_option maxHeartbeats 8000000 in
theorem z8i (t : Bs) (ht : (t.length : Int) ≤ 100000000) : CT Tryz.prog 146 [] [.str t] (.str (z2a t)) [] := by
 have hp := zad t
 have cp := c_iPad t ht
 rw [zfb] at cp
 refine z0b z6r 1 rfl Tryz.func146 rfl rfl rfl ?_
 unfold z2a
 rw [← zfc]
 generalize padB t = p at hp cp ⊢
 obtain ⟨m, hm⟩ : ∃ m, p.length = 64 * m := ⟨p.length / 64, by omega⟩
 have hm2 : p.length / 64 = m := by omega
 rw [hm2]
 repeat ((try conv => whnf); first | (refine ccA ([]) (cp) ?_) | (refine And.intro (by kernel_rfl) ?_) | (refine stpQ ?_))
 refine z0g 0 ⟨[(3, .ptr 1 0 0)], [(1, some (.box (wE (z1R first8 p kF m).list)))], 2⟩ Nat (fun k => ⟨[(3, .ptr 1 0 0), (4, .str (p.drop (64 * k)))], [(1, some (.box (wE (z1R first8 p kF k).list)))], 2⟩) (fun k => k ≤ m) (fun k => m - k) 0 (by omega) ?_ ?_ ?_
 ·(refine z01 (by rfl) ?_ ?_) <;> ((repeat' (first | (exact trivial) | (exact z0J _ _ _ _) | (with_reducible rfl) | (exact (rfl : _ = true)) | (exact (rfl : _ = some _)) | (exact (rfl : _ = none)) | (refine And.intro ?_ ?_) | ((show (_ : Int) = _); omega) | ((fail_if_success (with_reducible (show _ = _))); (show _ = _))))) <;> first | rfl | decide
 ·intro k hk
  have hdl : (p.drop (64 * k)).length = p.length - 64 * k := List.length_drop
  by_cases hlt : k < m
  ·have hnx := z4j first8 p kF k
   have hd2 : (p.drop (64 * k)).drop 64 = p.drop (64 * (k + 1)) := by rw [List.drop_drop]; congr 1
   have hbl : ((p.drop (64 * k)).take 64).length = 64 := by rw [List.length_take]; omega
   generalize z1R first8 p kF k = h at hnx ⊢
   have cb := zb6 h ((p.drop (64 * k)).take 64) hbl
   generalize p.drop (64 * k) = q at hdl hbl cb hd2 hnx ⊢
   have hne : q ≠ [] := fun h0 => by rw [h0] at hdl; simp at hdl; omega
   have h64 : 64 ≤ q.length := by omega
   repeat ((try conv => whnf); first | (refine z3j hne ?_) | (refine Exists.intro 64 (And.intro rfl (And.intro h64 ?_))) | (refine ccA ([]) (cb) ?_) | (refine And.intro (by kernel_rfl) ?_) | (refine stpQ ?_))
   refine ⟨k + 1, by omega, by omega, ?_⟩
   rw [hnx]
   (refine z01 (by rfl) ?_ ?_) <;> ((repeat' (first | (exact trivial) | (exact z0J _ _ _ _) | (with_reducible rfl) | (exact (rfl : _ = true)) | (exact (rfl : _ = some _)) | (exact (rfl : _ = none)) | (refine And.intro ?_ ?_) | ((show (_ : Int) = _); omega) | ((fail_if_success (with_reducible (show _ = _))); (show _ = _))))) <;> first | exact hd2 | rfl | decide | omega
  ·have hkm : k = m := by omega
   rw [hkm]
   have hne : p.drop (64 * m) = [] := List.drop_eq_nil_of_le (by omega)
   rw [hne]
   repeat ((try conv => whnf); first | (refine And.intro (by kernel_rfl) ?_) | (refine stpQ ?_))
   (refine z01 (by rfl) ?_ ?_) <;> ((repeat' (first | (exact trivial) | (exact z0J _ _ _ _) | (with_reducible rfl) | (exact (rfl : _ = true)) | (exact (rfl : _ = some _)) | (exact (rfl : _ = none)) | (refine And.intro ?_ ?_) | ((show (_ : Int) = _); omega) | ((fail_if_success (with_reducible (show _ = _))); (show _ = _))))) <;> first | rfl | decide
 ·generalize z1R first8 p kF m = h
  repeat ((try conv => whnf); first | (refine And.intro (by kernel_rfl) ?_) | (refine stpQ ?_))
  refine z0g 2 ⟨[(5, .str (outI h.fn 8))], [], 2⟩ Nat (fun i => ⟨[(5, .str (outI h.fn i)), (19, .agg (wE h.list)), (20, .int .i64 (i : Int))], [], 2⟩) (fun i => i ≤ 8) (fun i => 8 - i) 0 (by omega) ?_ ?_ ?_
  ·(refine z01 (by rfl) ?_ ?_) <;> ((repeat' (first | (exact trivial) | (exact z0J _ _ _ _) | (with_reducible rfl) | (exact (rfl : _ = true)) | (exact (rfl : _ = some _)) | (exact (rfl : _ = none)) | (refine And.intro ?_ ?_) | ((show (_ : Int) = _); omega) | ((fail_if_success (with_reducible (show _ = _))); (show _ = _))))) <;> first | rfl | decide
  ·intro i hi
   by_cases hlt : i < 8
   ·have hnx := z8e h.fn i
    have hol := zaf h.fn i
    have c4 := c_four (h.fn i)
    have h4 : (four (h.fn i)).length = 4 := rfl
    generalize outI h.fn i = o at hnx hol ⊢
    repeat ((try conv => whnf); first | (refine w_ix (show i < h.list.length from hlt) ?_) | (refine ccA ([]) (c4) ?_) | (refine And.intro (by rw [hol, h4]; omega) ?_) | (refine And.intro (by kernel_rfl) ?_) | (refine stpQ ?_))
    refine ⟨i + 1, by omega, by omega, ?_⟩
    rw [hnx]
    (refine z01 (by rfl) ?_ ?_) <;> ((repeat' (first | (exact trivial) | (exact z0J _ _ _ _) | (with_reducible rfl) | (exact (rfl : _ = true)) | (exact (rfl : _ = some _)) | (exact (rfl : _ = none)) | (refine And.intro ?_ ?_) | ((show (_ : Int) = _); omega) | ((fail_if_success (with_reducible (show _ = _))); (show _ = _))))) <;> try rfl
   ·have hi8 : i = 8 := by omega
    rw [hi8]
    repeat ((try conv => whnf); first | (refine And.intro (by kernel_rfl) ?_) | (refine stpQ ?_))
    (refine z01 (by rfl) ?_ ?_) <;> ((repeat' (first | (exact trivial) | (exact z0J _ _ _ _) | (with_reducible rfl) | (exact (rfl : _ = true)) | (exact (rfl : _ = some _)) | (exact (rfl : _ = none)) | (refine And.intro ?_ ?_) | ((show (_ : Int) = _); omega) | ((fail_if_success (with_reducible (show _ = _))); (show _ = _))))) <;> first | rfl | decide
  ·generalize outI h.fn 8 = o
   repeat ((try conv => whnf); first | (refine And.intro (by kernel_rfl) ?_) | (refine stpQ ?_))
   (refine z02 (by rfl) ?_ ?_ (by rfl)) <;> ((repeat' (first | (exact trivial) | (exact z0J _ _ _ _) | (with_reducible rfl) | (exact (rfl : _ = true)) | (exact (rfl : _ = some _)) | (exact (rfl : _ = none)) | (refine And.intro ?_ ?_) | ((show (_ : Int) = _); omega) | ((fail_if_success (with_reducible (show _ = _))); (show _ = _)))))
end Go.Proofs.YtfjbinbpgdiafaaGreatDoor
namespace Go.Proofs.YtfjbinbpgdiafaaGreatDoor
set_option maxRecDepth 100000
set_option maxHeartbeats 1000000
set_option linter.unusedVariables false
set_option linter.unusedSimpArgs false
set_option linter.unusedSectionVars false
open Go.RowKit Pl
attribute [local irreducible] z0t z0u z0A AnsP LeP
theorem zes (b : UInt8) : IntKind.i64.wrap ((b.toNat : Nat) : Int) = ((b.toNat : Nat) : Int) := by have := b.toNat_lt; rw [wrap_i64 (by omega) (by omega)]
theorem z3I (t : Bs) (ht : (t.length : Int) ≤ 100000000) : CT Tryz.prog 95 [] [.str t] (.int .i64 (ixB t : Int)) [] := by
 have c1 := z8i t ht
 have hl := z1E t
 unfold ixB
 generalize z2a t = d at c1 hl ⊢
 have h1 := zes (d.getD 0 0)
 have h0 : 0 < d.length := by omega
 refine z0b z0q 1 rfl Tryz.func95 rfl rfl rfl ?_
 repeat ((try conv => whnf); first | (refine ccA ([]) (c1) ?_) | (refine Exists.intro 0 (And.intro rfl (And.intro h0 ?_))) | (refine Exists.intro _ (And.intro h1.symm ?_)) | (refine stpQ ?_))
 (refine z02 (by rfl) ?_ ?_ (by rfl)) <;> (repeat' (first | (exact eqA) | (refine shE ?_) | (refine And.intro ?_ ?_)))
theorem z31 (t : Bs) (ht : (t.length : Int) ≤ 100000000) : CT Tryz.prog 12 [] [.str t] (.int .i64 (ixB t : Int)) [] := by
 have c1 := zai t ht
 have hl := z1E t
 unfold ixB
 generalize z2a t = d at c1 hl ⊢
 have h1 := zes (d.getD 0 0)
 have h0 : 0 < d.length := by omega
 refine z0b z0q 1 rfl Tryz.func12 rfl rfl rfl ?_
 repeat ((try conv => whnf); first | (refine ccA ([]) (c1) ?_) | (refine Exists.intro 0 (And.intro rfl (And.intro h0 ?_))) | (refine Exists.intro _ (And.intro h1.symm ?_)) | (refine stpQ ?_))
 (refine z02 (by rfl) ?_ ?_ (by rfl)) <;> (repeat' (first | (exact eqA) | (refine shE ?_) | (refine And.intro ?_ ?_)))
def z0k (l : List Lf) (ix : Int) : List Lf := l.filter fun x => decide ((ixB x.1 : Int) = ix)
theorem z4k {l : List Lf} {k : Nat} {ix : Int} (h : k < l.length) : z0k (l.take (k + 1)) ix = z0k (l.take k) ix ++ (if ((ixB (lfAt l k).1 : Nat) : Int) = ix then [lfAt l k] else []) := by
 unfold z0k
 rw [z26 h]
 by_cases he : ((ixB (lfAt l k).1 : Nat) : Int) = ix <;> simp [he]
theorem z6u (l : List Lf) (ix : Int) (hl : (l.length : Int) ≤ 100000000) (hf : ∀ k, ((lfAt l k).1.length : Int) ≤ 100000000) : CT Tryz.prog 62 [] [.sl 2 (lvE l), .int .i64 ix] (.ref 1) [.row 2 (lvE (z0k l ix))] := by
 have hlen := z0v l
 refine z0b z0q 1 rfl Tryz.func62 rfl rfl rfl ?_
 repeat ((try conv => whnf); first | (refine stpQ ?_))
 refine z0g 0 ⟨[(5, .ref 1)], [(1, some (.row 2 (lvE (z0k l ix))))], 2⟩ Nat (fun k => ⟨[(1, .int .i64 ix), (5, .ref 1), (8, .sl 2 (lvE l)), (9, .int .i64 ((lvE l).length : Int)), (10, .int .i64 (k : Int))], [(1, some (.row 2 (lvE (z0k (l.take k) ix))))], 2⟩) (fun k => k ≤ l.length) (fun k => l.length - k) 0 (by omega) ?_ ?_ ?_
 ·(refine z01 (by rfl) ?_ ?_) <;> (repeat' (first | (exact eqA) | (refine shE ?_) | (refine And.intro ?_ ?_))) <;> first | rfl | decide
 ·intro k hk
  by_cases hk2 : k < l.length
  ·have c1 := z3I (lfAt l k).1 (hf k)
   have hnx := z4k (ix := ix) hk2
   have hw : (z0k (l.take k) ix).length ≤ k := Nat.le_trans (List.length_filter_le _ _) (by simp; omega)
   generalize z0k (l.take k) ix = o at hnx hw ⊢
   have hol := z0v o
   repeat' (first | ((try conv => whnf); first | (refine i_at (z13 hk2) ?_) | (refine ccA ([]) (c1) ?_) | (refine And.intro (by simp [z0v]; omega) ?_) | (refine stpQ ?_)) | ((try conv => whnf); first | (refine cb_d (fun h => ?_) (fun h => ?_)) | (refine cb_n (fun h => ?_) (fun h => ?_)) | (refine cb (fun h => ?_) (fun h => ?_))))
   all_goals first
    | (exfalso; omega)
    | (refine ⟨k + 1, by omega, by omega, ?_⟩
       rw [hnx]
       (refine z01 (by rfl) ?_ ?_) <;> (repeat' (first | (exact eqA) | (refine shE ?_) | (refine And.intro ?_ ?_)))
       all_goals first
        | (simp_all [lvE]; done)
        | rfl)
  ·obtain rfl : k = l.length := by omega
   rw [List.take_length]
   repeat ((try conv => whnf); first | (refine stpQ ?_))
   (refine z01 (by rfl) ?_ ?_) <;> (repeat' (first | (exact eqA) | (refine shE ?_) | (refine And.intro ?_ ?_)))
 ·repeat ((try conv => whnf); first | (refine stpQ ?_))
  (refine z02 (by rfl) ?_ ?_ (by rfl)) <;> (repeat' (first | (exact eqA) | (refine shE ?_) | (refine And.intro ?_ ?_)))
end Go.Proofs.YtfjbinbpgdiafaaGreatDoor
