/- Functions by content: the program's digest. Functions by content: the program's digest, whole. Functions by content: the index of a name, and the entries of an index. -/
import Derived.Test.YtgmbkbggnlponaaGreatDoorHa
import Derived.Test.YtgmbkbggnlponaaGreatDoorPlainM
import Derived.Test.YtgmbkbggnlponaaGreatDoorFc
namespace Go.Proofs.YtgmbkbggnlponaaGreatDoor
set_option maxRecDepth 100000
set_option maxHeartbeats 16000000
set_option linter.unusedVariables false
set_option linter.unusedSimpArgs false
set_option linter.unusedSectionVars false
open Go.RowKit Pl
attribute [local irreducible] z0t z0u z0y AnsP LeP bits z2A shlN shrN
theorem zhV {n : Nat} (hn : 0 < n ∧ n < 32) : IntKind.u64.wrap (-(n : Int)) = ((18446744073709551616 - n : Nat) : Int) := by
 rw [IntKind.wrap_u64]; omega
theorem zf5 {n : Nat} (hn : 0 < n ∧ n < 32) : bits .and .u64 ((18446744073709551616 - n : Nat) : Int) 31 = ((32 - n : Nat) : Int) := by
 have h := u64_and_nat (18446744073709551616 - n) 31 (by omega) (by omega)
 have e : (18446744073709551616 - n) &&& 31 = 32 - n := by
  rw [show 31 = 2 ^ 5 - 1 from rfl, Nat.and_two_pow_sub_one_eq_mod]; omega
 rw [e] at h
 exact h
theorem zhW {n : Nat} (hn : 0 < n ∧ n < 32) : IntKind.i64.wrap (0 - (n : Int)) = -(n : Int) := by rw [wrap_i64 (by omega) (by omega)]; omega
theorem c_rotl (x : UInt32) (n : Nat) (hn : 0 < n ∧ n < 32) : CT Tryz.prog 167 [] [.int .u32 (x.toNat : Int), .int .i64 (-(n : Int))] (.int .u32 ((z2A x n).toNat : Int)) [] := by
 have h1 := zhV hn
 have h2 := zf5 hn
 have h3 : IntKind.u64.wrap (32 - ((32 - n : Nat) : Int)) = (n : Int) := by rw [IntKind.wrap_u64]; omega
 rw [← zf2]
 refine z01 z0m 1 rfl Tryz.func167 rfl rfl rfl ?_
 repeat ((try conv => whnf); first | (refine Exists.intro _ (And.intro h1.symm ?_)) | (refine Exists.intro _ (And.intro h2.symm ?_)) | (refine Exists.intro _ (And.intro h3.symm ?_)) | (refine And.intro (le32 (by omega)) ?_) | (refine za5 (n := 32 - n) (by omega) ?_) | (refine z5M (n := n) (by omega) ?_) | (refine u_or ?_) | (refine stpQ ?_))
 (refine z00 (by rfl) ?_ ?_ (by rfl)) <;> (repeat' (first | (exact eqA) | (refine shE ?_) | (refine And.intro ?_ ?_)))
theorem z32 (x : UInt32) (n : Nat) (hn : 0 < n ∧ n < 32) : CT Tryz.prog 166 [] [.int .u32 (x.toNat : Int), .int .i64 (n : Int)] (.int .u32 ((z2A x n).toNat : Int)) [] := by
 have h1 := zhW hn
 have c1 := c_rotl x n hn
 refine z01 z0m 1 rfl Tryz.func166 rfl rfl rfl ?_
 repeat ((try conv => whnf); first | (refine Exists.intro _ (And.intro h1.symm ?_)) | (refine ccA ([]) (c1) ?_) | (refine stpQ ?_))
 (refine z00 (by rfl) ?_ ?_ (by rfl)) <;> (repeat' (first | (exact eqA) | (refine shE ?_) | (refine And.intro ?_ ?_)))
theorem c_four (x : UInt32) : CT Tryz.prog 135 [] [.int .u32 (x.toNat : Int)] (.str (four x)) [] := by
 refine z01 z0m 1 rfl Tryz.func135 rfl rfl rfl ?_
 unfold four
 repeat ((try conv => whnf); first | (refine And.intro (le32 (by omega)) ?_) | (refine z5M (n := 24) rfl ?_) | (refine z5M (n := 16) rfl ?_) | (refine z5M (n := 8) rfl ?_) | (refine w_u8 ?_) | (refine Exists.intro (four x) (And.intro rfl ?_)) | (refine stpQ ?_))
 (refine z00 (by rfl) ?_ ?_ (by rfl)) <;> (repeat' (first | (exact eqA) | (refine shE ?_) | (refine And.intro ?_ ?_)))
 rfl
theorem c_iPad (t : Bs) (ht : (t.length : Int) ≤ 100000000) : CT Tryz.prog 133 [] [.str t] (.str (padI t)) [] := by
 have h1 : IntKind.i64.wrap (119 - ((t.length % 64 : Nat) : Int)) = ((119 - t.length % 64 : Nat) : Int) := by rw [wrap_i64 (by omega) (by omega)]; omega
 have hzl : (119 - t.length % 64) % 64 < 64 := Nat.mod_lt _ (by decide)
 unfold padI
 refine z01 z0m 1 rfl Tryz.func133 rfl rfl rfl ?_
 repeat ((try conv => whnf); first | (refine z2Y (n := nat_lit 64) ?_) | (refine Exists.intro _ (And.intro h1.symm ?_)) | (refine And.intro (by simp [z0F]; omega) ?_) | (refine And.intro (by kernel_rfl) ?_) | (refine stpQ ?_))
 generalize hz : t ++ [128] ++ List.replicate ((119 - t.length % 64) % 64) 0 = z
 have hzz : z.length = t.length + 1 + (119 - t.length % 64) % 64 := by rw [← hz]; simp; omega
 refine z0h 0 ⟨[(4, .ref 1)], [(1, some (.row 1 (z0f (z ++ lenB (8 * t.length) 8))))], 2⟩ Nat (fun j => ⟨[(0, .str t), (4, .ref 1), (5, .int .i64 (7 - (j : Int)))], [(1, some (.row 1 (z0f (z ++ lenB (8 * t.length) j))))], 2⟩) (fun j => j ≤ 8) (fun j => 8 - j) 0 (by omega) ?_ ?_ ?_
 ·(refine z02 (by rfl) ?_ ?_) <;> ((repeat' (first | (exact trivial) | (exact z11 _ _ _ _) | (with_reducible rfl) | (exact (rfl : _ = true)) | (exact (rfl : _ = some _)) | (exact (rfl : _ = none)) | (refine And.intro ?_ ?_) | ((show (_ : Int) = _); omega) | ((fail_if_success (with_reducible (show _ = _))); (show _ = _))))) <;> try rfl
  rw [← hz]; simp [lenB, z0f, z49]
 ·intro j hj
  by_cases hj8 : j < 8
  ·have hnx := za7 (8 * t.length) j
   have hll := zcA (8 * t.length) j
   have e2 : IntKind.i64.wrap (8 * (7 - (j : Int))) = ((8 * (7 - j) : Nat) : Int) := by rw [wrap_i64 (by omega) (by omega)]; omega
   have e3 : ((8 * t.length : Nat) : Int) / 2 ^ (((8 * (7 - j) : Nat) : Int)).toNat = ((8 * t.length / 2 ^ (8 * (7 - j)) : Nat) : Int) := by rw [Int.toNat_natCast]; simp
   generalize lenB (8 * t.length) j = o at hnx hll ⊢
   have hol : (z0f (z ++ o)).length = z.length + o.length := by rw [z0F, List.length_append]
   repeat ((try conv => whnf); first | (refine Exists.intro _ (And.intro e2.symm ?_)) | (refine z81 (by omega) ?_) | (refine And.intro (show _ ≤ (64 : Int) from by omega) ?_) | (refine Exists.intro _ (And.intro e3.symm ?_)) | (refine w_u8 ?_) | (refine And.intro (by simp [z0F]; omega) ?_) | (refine And.intro (by kernel_rfl) ?_) | (refine stpQ ?_))
   refine ⟨j + 1, by omega, by omega, ?_⟩
   rw [hnx]
   (refine z02 (by rfl) ?_ ?_) <;> ((repeat' (first | (exact trivial) | (exact z11 _ _ _ _) | (with_reducible rfl) | (exact (rfl : _ = true)) | (exact (rfl : _ = some _)) | (exact (rfl : _ = none)) | (refine And.intro ?_ ?_) | ((show (_ : Int) = _); omega) | ((fail_if_success (with_reducible (show _ = _))); (show _ = _))))) <;> try rfl
   simp [z0f, z49]
  ·have hj8 : j = 8 := by omega
   rw [hj8]
   repeat ((try conv => whnf); first | (refine And.intro (by kernel_rfl) ?_) | (refine stpQ ?_))
   (refine z02 (by rfl) ?_ ?_) <;> ((repeat' (first | (exact trivial) | (exact z11 _ _ _ _) | (with_reducible rfl) | (exact (rfl : _ = true)) | (exact (rfl : _ = some _)) | (exact (rfl : _ = none)) | (refine And.intro ?_ ?_) | ((show (_ : Int) = _); omega) | ((fail_if_success (with_reducible (show _ = _))); (show _ = _))))) <;> try rfl
 ·generalize z ++ lenB (8 * t.length) 8 = p
  repeat ((try conv => whnf); first | (refine Exists.intro p (And.intro rfl ?_)) | (refine And.intro (by kernel_rfl) ?_) | (refine stpQ ?_))
  (refine z00 (by rfl) ?_ ?_ (by rfl)) <;> ((repeat' (first | (exact trivial) | (exact z11 _ _ _ _) | (with_reducible rfl) | (exact (rfl : _ = true)) | (exact (rfl : _ = some _)) | (exact (rfl : _ = none)) | (refine And.intro ?_ ?_) | ((show (_ : Int) = _); omega) | ((fail_if_success (with_reducible (show _ = _))); (show _ = _)))))
theorem zgk : zaT z9m = vE kF 64 := by kernel_rfl
theorem r_at {i : Nat} {K : T → Prop} (h : i < 64) (hk : K (.int .u32 ((kF i).toNat : Int))) : ∃ c, (zaT z9m)[0 + i * 1]? = some c ∧ K c := by
 rw [zgk]; exact v_at h hk
theorem u_xorN {a : UInt32} {K : Int → Prop} (hk : K ((a ^^^ 4294967295).toNat : Int)) : ∃ r, r = bits .xor .u32 4294967295 (a.toNat : Int) ∧ K r := by
 have := zds (a := 4294967295) (b := a) (K := K) (by rw [xor_comm]; exact hk)
 exact this
abbrev zhX : T := .val (.func (.func 166) #[] #[])
theorem zdt (h : W8) (b : Bs) (hb : b.length = 64) : CT Tryz.prog 134 [] [.agg (wE h.list), .str b] (.agg (wE (z7Z h b kF).list)) [] := by
 refine z01 z80 1 rfl Tryz.func134 rfl rfl rfl ?_
 unfold z7Z
 repeat ((try conv => whnf); first | (refine And.intro (by kernel_rfl) ?_) | (refine stpQ ?_))
 refine z0h 0 ⟨[(2, .ptr 1 0 0), (4, .ptr 2 0 0), (5, .ptr 3 0 0)], [(1, some (.box (wE h.list))), (2, some (.box (List.replicate 8 (.int .u32 0)))), (3, some (.box (vE (z3v b 16) 64)))], 4⟩ Nat (fun i => ⟨[(1, .str b), (2, .ptr 1 0 0), (4, .ptr 2 0 0), (5, .ptr 3 0 0), (18, .int .i64 (i : Int))], [(1, some (.box (wE h.list))), (2, some (.box (List.replicate 8 (.int .u32 0)))), (3, some (.box (vE (z3v b i) 64)))], 4⟩) (fun i => i ≤ 16) (fun i => 16 - i) 0 (by omega) ?_ ?_ ?_
 ·(refine z02 (by rfl) ?_ ?_) <;> ((repeat' (first | (exact trivial) | (exact z11 _ _ _ _) | (with_reducible rfl) | (exact (rfl : _ = true)) | (exact (rfl : _ = some _)) | (exact (rfl : _ = none)) | (refine And.intro ?_ ?_) | ((show (_ : Int) = _); omega) | ((fail_if_success (with_reducible (show _ = _))); (show _ = _))))) <;> first | rfl | decide
 ·intro i hi
  by_cases hlt : i < 16
  ·have hst := v_st (z3v b i) 64 i (zgi b i)
   rw [← z6F] at hst
   repeat ((try conv => whnf); first | (refine z81 (by omega) ?_) | (refine u_of8 ?_) | (refine And.intro (le32 (by omega)) ?_) | (refine za5 (n := 24) rfl ?_) | (refine za5 (n := 16) rfl ?_) | (refine za5 (n := 8) rfl ?_) | (refine u_or ?_) | (refine And.intro (v_in (by omega)) ?_) | (refine And.intro (by kernel_rfl) ?_) | (refine stpQ ?_))
   refine ⟨i + 1, by omega, by omega, z82 hst ?_⟩
   (refine z02 (by rfl) ?_ ?_) <;> ((repeat' (first | (exact trivial) | (exact z11 _ _ _ _) | (with_reducible rfl) | (exact (rfl : _ = true)) | (exact (rfl : _ = some _)) | (exact (rfl : _ = none)) | (refine And.intro ?_ ?_) | ((show (_ : Int) = _); omega) | ((fail_if_success (with_reducible (show _ = _))); (show _ = _))))) <;> try rfl
  ·have hi16 : i = 16 := by omega
   rw [hi16]
   repeat ((try conv => whnf); first | (refine And.intro (by kernel_rfl) ?_) | (refine stpQ ?_))
   (refine z02 (by rfl) ?_ ?_) <;> ((repeat' (first | (exact trivial) | (exact z11 _ _ _ _) | (with_reducible rfl) | (exact (rfl : _ = true)) | (exact (rfl : _ = some _)) | (exact (rfl : _ = none)) | (refine And.intro ?_ ?_) | ((show (_ : Int) = _); omega) | ((fail_if_success (with_reducible (show _ = _))); (show _ = _))))) <;> try rfl
 ·generalize z3v b 16 = w0
  repeat ((try conv => whnf); first | (refine And.intro (by kernel_rfl) ?_) | (refine stpQ ?_))
  refine z0h 2 ⟨[(2, .ptr 1 0 0), (4, .ptr 2 0 0), (5, .ptr 3 0 0), (7, zhX)], [(1, some (.box (wE h.list))), (2, some (.box (List.replicate 8 (.int .u32 0)))), (3, some (.box (vE (z39 w0 64) 64)))], 4⟩ Nat (fun i => ⟨[(2, .ptr 1 0 0), (4, .ptr 2 0 0), (5, .ptr 3 0 0), (7, zhX), (8, .int .i64 (i : Int))], [(1, some (.box (wE h.list))), (2, some (.box (List.replicate 8 (.int .u32 0)))), (3, some (.box (vE (z39 w0 i) 64)))], 4⟩) (fun i => 16 ≤ i ∧ i ≤ 64) (fun i => 64 - i) 16 ⟨by omega, by omega⟩ ?_ ?_ ?_
  ·(refine z02 (by rfl) ?_ ?_) <;> ((repeat' (first | (exact trivial) | (exact z11 _ _ _ _) | (with_reducible rfl) | (exact (rfl : _ = true)) | (exact (rfl : _ = some _)) | (exact (rfl : _ = none)) | (refine And.intro ?_ ?_) | ((show (_ : Int) = _); omega) | ((fail_if_success (with_reducible (show _ = _))); (show _ = _))))) <;> first | rfl | decide
  ·intro i hii
   have hi : 16 ≤ i := hii.1
   have hi2 : i ≤ 64 := hii.2
   by_cases hlt : i < 64
   ·have hnx := z6G (ws := w0) hi
    generalize z39 w0 i = f at hnx ⊢
    have hst := v_st f 64 i (f (i - 16) + (z2A (f (i - 15)) 7 ^^^ z2A (f (i - 15)) 18 ^^^ shrN (f (i - 15)) 3) + f (i - 7) + (z2A (f (i - 2)) 17 ^^^ z2A (f (i - 2)) 19 ^^^ shrN (f (i - 2)) 10))
    rw [show upd f i _ = z4O f i from rfl, ← hnx] at hst
    repeat ((try conv => whnf); first | (refine v_at (by omega) ?_) | (refine ccA ([]) (z32 (f (i - 15)) 7 (by decide)) ?_) | (refine ccA ([]) (z32 (f (i - 15)) 18 (by decide)) ?_) | (refine ccA ([]) (z32 (f (i - 2)) 17 (by decide)) ?_) | (refine ccA ([]) (z32 (f (i - 2)) 19 (by decide)) ?_) | (refine And.intro (le32 (by omega)) ?_) | (refine z5M (n := 3) rfl ?_) | (refine z5M (n := 10) rfl ?_) | (refine zds ?_) | (refine zdr ?_) | (refine And.intro (v_in (by omega)) ?_) | (refine And.intro (by kernel_rfl) ?_) | (refine stpQ ?_))
    refine ⟨i + 1, ⟨by omega, by omega⟩, by omega, z82 hst ?_⟩
    (refine z02 (by rfl) ?_ ?_) <;> ((repeat' (first | (exact trivial) | (exact z11 _ _ _ _) | (with_reducible rfl) | (exact (rfl : _ = true)) | (exact (rfl : _ = some _)) | (exact (rfl : _ = none)) | (refine And.intro ?_ ?_) | ((show (_ : Int) = _); omega) | ((fail_if_success (with_reducible (show _ = _))); (show _ = _))))) <;> try rfl
   ·have hi64 : i = 64 := by omega
    rw [hi64]
    repeat ((try conv => whnf); first | (refine And.intro (by kernel_rfl) ?_) | (refine stpQ ?_))
    (refine z02 (by rfl) ?_ ?_) <;> ((repeat' (first | (exact trivial) | (exact z11 _ _ _ _) | (with_reducible rfl) | (exact (rfl : _ = true)) | (exact (rfl : _ = some _)) | (exact (rfl : _ = none)) | (refine And.intro ?_ ?_) | ((show (_ : Int) = _); omega) | ((fail_if_success (with_reducible (show _ = _))); (show _ = _))))) <;> try rfl
  ·generalize z39 w0 64 = w
   repeat ((try conv => whnf); first | (refine And.intro (by kernel_rfl) ?_) | (refine stpQ ?_))
   refine z0h 4 ⟨[(2, .ptr 1 0 0), (4, .ptr 2 0 0), (11, .ptr 3 0 0)], [(1, some (.box (wE h.list))), (2, some (.box (List.replicate 8 (.int .u32 0)))), (3, some (.box (wE (rnds h kF w 64).list)))], 4⟩ Nat (fun i => ⟨[(2, .ptr 1 0 0), (4, .ptr 2 0 0), (5, .ptr 3 0 0), (7, zhX), (11, .ptr 4 0 0), (99, .int .i64 (i : Int))], [(1, some (.box (wE h.list))), (2, some (.box (List.replicate 8 (.int .u32 0)))), (3, some (.box (vE w 64))), (4, some (.box (wE (rnds h kF w i).list)))], 5⟩) (fun i => i ≤ 64) (fun i => 64 - i) 0 (by omega) ?_ ?_ ?_
   ·(refine z02 (by rfl) ?_ ?_) <;> ((repeat' (first | (exact trivial) | (exact z11 _ _ _ _) | (with_reducible rfl) | (exact (rfl : _ = true)) | (exact (rfl : _ = some _)) | (exact (rfl : _ = none)) | (refine And.intro ?_ ?_) | ((show (_ : Int) = _); omega) | ((fail_if_success (with_reducible (show _ = _))); (show _ = _))))) <;> first | rfl | decide
   ·intro i hi
    by_cases hlt : i < 64
    ·have hnx := za1 h kF w i
     generalize rnds h kF w i = s at hnx ⊢
     repeat ((try conv => whnf); first | (refine v_at (by omega) ?_) | (refine r_at (by omega) ?_) | (refine ccA ([]) (z32 s.e 6 (by decide)) ?_) | (refine ccA ([]) (z32 s.e 11 (by decide)) ?_) | (refine ccA ([]) (z32 s.e 25 (by decide)) ?_) | (refine ccA ([]) (z32 s.a 2 (by decide)) ?_) | (refine ccA ([]) (z32 s.a 13 (by decide)) ?_) | (refine ccA ([]) (z32 s.a 22 (by decide)) ?_) | (refine u_and ?_) | (refine u_xorN ?_) | (refine zds ?_) | (refine zdr ?_) | (refine And.intro (by kernel_rfl) ?_) | (refine stpQ ?_))
     refine ⟨i + 1, by omega, by omega, ?_⟩
     rw [hnx]
     (refine z02 (by rfl) ?_ ?_) <;> ((repeat' (first | (exact trivial) | (exact z11 _ _ _ _) | (with_reducible rfl) | (exact (rfl : _ = true)) | (exact (rfl : _ = some _)) | (exact (rfl : _ = none)) | (refine And.intro ?_ ?_) | ((show (_ : Int) = _); omega) | ((fail_if_success (with_reducible (show _ = _))); (show _ = _))))) <;> first | rfl | decide
    ·have hi64 : i = 64 := by omega
     rw [hi64]
     repeat ((try conv => whnf); first | (refine And.intro (by kernel_rfl) ?_) | (refine stpQ ?_))
     (refine z02 (by rfl) ?_ ?_) <;> ((repeat' (first | (exact trivial) | (exact z11 _ _ _ _) | (with_reducible rfl) | (exact (rfl : _ = true)) | (exact (rfl : _ = some _)) | (exact (rfl : _ = none)) | (refine And.intro ?_ ?_) | ((show (_ : Int) = _); omega) | ((fail_if_success (with_reducible (show _ = _))); (show _ = _))))) <;> first | rfl | decide
   ·generalize rnds h kF w 64 = s
    repeat ((try conv => whnf); first | (refine And.intro (by kernel_rfl) ?_) | (refine stpQ ?_))
    refine z0h 6 ⟨[(2, .ptr 1 0 0), (4, .ptr 2 0 0)], [(1, some (.box (vE (addW h.fn s.fn 8) 8))), (2, some (.box (List.replicate 8 (.int .u32 0))))], 3⟩ Nat (fun i => ⟨[(2, .ptr 1 0 0), (4, .ptr 2 0 0), (11, .ptr 3 0 0), (185, .int .i64 (i : Int))], [(1, some (.box (vE (addW h.fn s.fn i) 8))), (2, some (.box (List.replicate 8 (.int .u32 0)))), (3, some (.box (vE s.fn 8)))], 4⟩) (fun i => i ≤ 8) (fun i => 8 - i) 0 (by omega) ?_ ?_ ?_
    ·(refine z02 (by rfl) ?_ ?_) <;> ((repeat' (first | (exact trivial) | (exact z11 _ _ _ _) | (with_reducible rfl) | (exact (rfl : _ = true)) | (exact (rfl : _ = some _)) | (exact (rfl : _ = none)) | (refine And.intro ?_ ?_) | ((show (_ : Int) = _); omega) | ((fail_if_success (with_reducible (show _ = _))); (show _ = _))))) <;> first | rfl | decide
    ·intro i hi
     by_cases hlt : i < 8
     ·have hnx := z6H h.fn s.fn i
      generalize addW h.fn s.fn i = f at hnx ⊢
      have hst := v_st f 8 i (f i + s.fn i)
      rw [← hnx] at hst
      repeat ((try conv => whnf); first | (refine v_at (by omega) ?_) | (refine zdr ?_) | (refine And.intro (v_in (by omega)) ?_) | (refine And.intro (by kernel_rfl) ?_) | (refine stpQ ?_))
      refine ⟨i + 1, by omega, by omega, z82 hst ?_⟩
      (refine z02 (by rfl) ?_ ?_) <;> ((repeat' (first | (exact trivial) | (exact z11 _ _ _ _) | (with_reducible rfl) | (exact (rfl : _ = true)) | (exact (rfl : _ = some _)) | (exact (rfl : _ = none)) | (refine And.intro ?_ ?_) | ((show (_ : Int) = _); omega) | ((fail_if_success (with_reducible (show _ = _))); (show _ = _))))) <;> try rfl
     ·have hi8 : i = 8 := by omega
      rw [hi8]
      repeat ((try conv => whnf); first | (refine And.intro (by kernel_rfl) ?_) | (refine stpQ ?_))
      (refine z02 (by rfl) ?_ ?_) <;> ((repeat' (first | (exact trivial) | (exact z11 _ _ _ _) | (with_reducible rfl) | (exact (rfl : _ = true)) | (exact (rfl : _ = some _)) | (exact (rfl : _ = none)) | (refine And.intro ?_ ?_) | ((show (_ : Int) = _); omega) | ((fail_if_success (with_reducible (show _ = _))); (show _ = _))))) <;> try rfl
    ·have hf : ∀ j, j < 8 → addW h.fn s.fn 8 j = h.fn j + s.fn j := fun j hj => by rw [z8S, if_pos hj]
     generalize addW h.fn s.fn 8 = f at hf ⊢
     repeat ((try conv => whnf); first | (refine And.intro (by kernel_rfl) ?_) | (refine stpQ ?_))
     (refine z00 (by rfl) ?_ ?_ (by rfl)) <;> ((repeat' (first | (exact trivial) | (exact z11 _ _ _ _) | (with_reducible rfl) | (exact (rfl : _ = true)) | (exact (rfl : _ = some _)) | (exact (rfl : _ = none)) | (refine And.intro ?_ ?_) | ((show (_ : Int) = _); omega) | ((fail_if_success (with_reducible (show _ = _))); (show _ = _)))))
     all_goals first
      | (rw [hf _ (by decide)]; rfl)
      | rfl
end Go.Proofs.YtgmbkbggnlponaaGreatDoor
namespace Go.Proofs.YtgmbkbggnlponaaGreatDoor
set_option linter.unusedVariables false
set_option linter.unusedSimpArgs false
set_option linter.unusedSectionVars false
open Go.RowKit Pl
attribute [local irreducible] z0t z0u z0y AnsP LeP bits z2A shlN shrN
theorem w_ix {l : List UInt32} {i : Nat} {K : T → Prop} (h : i < l.length) (hk : K (.int .u32 ((l.getD i 0).toNat : Int))) : ∃ c, (wE l)[i]? = some c ∧ K c := ⟨_, wE_at h, hk⟩
set_option maxRecDepth 100000 in
set_option maxHeartbeats 8000000 in
theorem za8 (t : Bs) (ht : (t.length : Int) ≤ 100000000) : CT Tryz.prog 72 [] [.str t] (.str (z2d t)) [] := by
 have hp := zcu t
 have cp := c_iPad t ht
 rw [zhQ] at cp
 refine z01 z80 1 rfl Tryz.func72 rfl rfl rfl ?_
 unfold z2d
 rw [← zhR]
 generalize padB t = p at hp cp ⊢
 obtain ⟨m, hm⟩ : ∃ m, p.length = 64 * m := ⟨p.length / 64, by omega⟩
 have hm2 : p.length / 64 = m := by omega
 rw [hm2]
 repeat ((try conv => whnf); first | (refine ccA ([]) (cp) ?_) | (refine And.intro (by kernel_rfl) ?_) | (refine stpQ ?_))
 refine z0h 0 ⟨[(3, .ptr 1 0 0)], [(1, some (.box (wE (z2B first8 p kF m).list)))], 2⟩ Nat (fun k => ⟨[(3, .ptr 1 0 0), (4, .str (p.drop (64 * k)))], [(1, some (.box (wE (z2B first8 p kF k).list)))], 2⟩) (fun k => k ≤ m) (fun k => m - k) 0 (by omega) ?_ ?_ ?_
 ·(refine z02 (by rfl) ?_ ?_) <;> ((repeat' (first | (exact trivial) | (exact z11 _ _ _ _) | (with_reducible rfl) | (exact (rfl : _ = true)) | (exact (rfl : _ = some _)) | (exact (rfl : _ = none)) | (refine And.intro ?_ ?_) | ((show (_ : Int) = _); omega) | ((fail_if_success (with_reducible (show _ = _))); (show _ = _))))) <;> first | rfl | decide
 ·intro k hk
  have hdl : (p.drop (64 * k)).length = p.length - 64 * k := List.length_drop
  by_cases hlt : k < m
  ·have hnx := z5E first8 p kF k
   have hd2 : (p.drop (64 * k)).drop 64 = p.drop (64 * (k + 1)) := by rw [List.drop_drop]; congr 1
   have hbl : ((p.drop (64 * k)).take 64).length = 64 := by rw [List.length_take]; omega
   generalize z2B first8 p kF k = h at hnx ⊢
   have cb := zdt h ((p.drop (64 * k)).take 64) hbl
   generalize p.drop (64 * k) = q at hdl hbl cb hd2 hnx ⊢
   have hne : q ≠ [] := fun h0 => by rw [h0] at hdl; simp at hdl; omega
   have h64 : 64 ≤ q.length := by omega
   repeat ((try conv => whnf); first | (refine z30 hne ?_) | (refine Exists.intro 64 (And.intro rfl (And.intro h64 ?_))) | (refine ccA ([]) (cb) ?_) | (refine And.intro (by kernel_rfl) ?_) | (refine stpQ ?_))
   refine ⟨k + 1, by omega, by omega, ?_⟩
   rw [hnx]
   (refine z02 (by rfl) ?_ ?_) <;> ((repeat' (first | (exact trivial) | (exact z11 _ _ _ _) | (with_reducible rfl) | (exact (rfl : _ = true)) | (exact (rfl : _ = some _)) | (exact (rfl : _ = none)) | (refine And.intro ?_ ?_) | ((show (_ : Int) = _); omega) | ((fail_if_success (with_reducible (show _ = _))); (show _ = _))))) <;> first | exact hd2 | rfl | decide | omega
  ·have hkm : k = m := by omega
   rw [hkm]
   have hne : p.drop (64 * m) = [] := List.drop_eq_nil_of_le (by omega)
   rw [hne]
   repeat ((try conv => whnf); first | (refine And.intro (by kernel_rfl) ?_) | (refine stpQ ?_))
   (refine z02 (by rfl) ?_ ?_) <;> ((repeat' (first | (exact trivial) | (exact z11 _ _ _ _) | (with_reducible rfl) | (exact (rfl : _ = true)) | (exact (rfl : _ = some _)) | (exact (rfl : _ = none)) | (refine And.intro ?_ ?_) | ((show (_ : Int) = _); omega) | ((fail_if_success (with_reducible (show _ = _))); (show _ = _))))) <;> first | rfl | decide
 ·generalize z2B first8 p kF m = h
  repeat ((try conv => whnf); first | (refine And.intro (by kernel_rfl) ?_) | (refine stpQ ?_))
  refine z0h 2 ⟨[(5, .str (outI h.fn 8))], [], 2⟩ Nat (fun i => ⟨[(5, .str (outI h.fn i)), (19, .agg (wE h.list)), (20, .int .i64 (i : Int))], [], 2⟩) (fun i => i ≤ 8) (fun i => 8 - i) 0 (by omega) ?_ ?_ ?_
  ·(refine z02 (by rfl) ?_ ?_) <;> ((repeat' (first | (exact trivial) | (exact z11 _ _ _ _) | (with_reducible rfl) | (exact (rfl : _ = true)) | (exact (rfl : _ = some _)) | (exact (rfl : _ = none)) | (refine And.intro ?_ ?_) | ((show (_ : Int) = _); omega) | ((fail_if_success (with_reducible (show _ = _))); (show _ = _))))) <;> first | rfl | decide
  ·intro i hi
   by_cases hlt : i < 8
   ·have hnx := za3 h.fn i
    have hol := zcw h.fn i
    have c4 := c_four (h.fn i)
    have h4 : (four (h.fn i)).length = 4 := rfl
    generalize outI h.fn i = o at hnx hol ⊢
    repeat ((try conv => whnf); first | (refine w_ix (show i < h.list.length from hlt) ?_) | (refine ccA ([]) (c4) ?_) | (refine And.intro (by rw [hol, h4]; omega) ?_) | (refine And.intro (by kernel_rfl) ?_) | (refine stpQ ?_))
    refine ⟨i + 1, by omega, by omega, ?_⟩
    rw [hnx]
    (refine z02 (by rfl) ?_ ?_) <;> ((repeat' (first | (exact trivial) | (exact z11 _ _ _ _) | (with_reducible rfl) | (exact (rfl : _ = true)) | (exact (rfl : _ = some _)) | (exact (rfl : _ = none)) | (refine And.intro ?_ ?_) | ((show (_ : Int) = _); omega) | ((fail_if_success (with_reducible (show _ = _))); (show _ = _))))) <;> try rfl
   ·have hi8 : i = 8 := by omega
    rw [hi8]
    repeat ((try conv => whnf); first | (refine And.intro (by kernel_rfl) ?_) | (refine stpQ ?_))
    (refine z02 (by rfl) ?_ ?_) <;> ((repeat' (first | (exact trivial) | (exact z11 _ _ _ _) | (with_reducible rfl) | (exact (rfl : _ = true)) | (exact (rfl : _ = some _)) | (exact (rfl : _ = none)) | (refine And.intro ?_ ?_) | ((show (_ : Int) = _); omega) | ((fail_if_success (with_reducible (show _ = _))); (show _ = _))))) <;> first | rfl | decide
  ·generalize outI h.fn 8 = o
   repeat ((try conv => whnf); first | (refine And.intro (by kernel_rfl) ?_) | (refine stpQ ?_))
   (refine z00 (by rfl) ?_ ?_ (by rfl)) <;> ((repeat' (first | (exact trivial) | (exact z11 _ _ _ _) | (with_reducible rfl) | (exact (rfl : _ = true)) | (exact (rfl : _ = some _)) | (exact (rfl : _ = none)) | (refine And.intro ?_ ?_) | ((show (_ : Int) = _); omega) | ((fail_if_success (with_reducible (show _ = _))); (show _ = _)))))
end Go.Proofs.YtgmbkbggnlponaaGreatDoor
namespace Go.Proofs.YtgmbkbggnlponaaGreatDoor
set_option maxRecDepth 100000
set_option maxHeartbeats 1000000
set_option linter.unusedVariables false
set_option linter.unusedSimpArgs false
set_option linter.unusedSectionVars false
open Go.RowKit Pl
attribute [local irreducible] z0t z0u z0y AnsP LeP
theorem z4T (b : UInt8) : IntKind.i64.wrap ((b.toNat : Nat) : Int) = ((b.toNat : Nat) : Int) := by have := b.toNat_lt; rw [wrap_i64 (by omega) (by omega)]
theorem z4U (t : Bs) (ht : (t.length : Int) ≤ 100000000) : CT Tryz.prog 21 [] [.str t] (.int .i64 (ixB t : Int)) [] := by
 have c1 := za8 t ht
 have hl := z21 t
 unfold ixB
 generalize z2d t = d at c1 hl ⊢
 have h1 := z4T (d.getD 0 0)
 have h0 : 0 < d.length := by omega
 refine z01 z0m 1 rfl Tryz.func21 rfl rfl rfl ?_
 repeat ((try conv => whnf); first | (refine ccA ([]) (c1) ?_) | (refine Exists.intro 0 (And.intro rfl (And.intro h0 ?_))) | (refine Exists.intro _ (And.intro h1.symm ?_)) | (refine stpQ ?_))
 (refine z00 (by rfl) ?_ ?_ (by rfl)) <;> (repeat' (first | (exact eqA) | (refine shE ?_) | (refine And.intro ?_ ?_)))
theorem z25 (t : Bs) (ht : (t.length : Int) ≤ 100000000) : CT Tryz.prog 29 [] [.str t] (.int .i64 (ixB t : Int)) [] := by
 have c1 := z8W t ht
 have hl := z21 t
 unfold ixB
 generalize z2d t = d at c1 hl ⊢
 have h1 := z4T (d.getD 0 0)
 have h0 : 0 < d.length := by omega
 refine z01 z0m 1 rfl Tryz.func29 rfl rfl rfl ?_
 repeat ((try conv => whnf); first | (refine ccA ([]) (c1) ?_) | (refine Exists.intro 0 (And.intro rfl (And.intro h0 ?_))) | (refine Exists.intro _ (And.intro h1.symm ?_)) | (refine stpQ ?_))
 (refine z00 (by rfl) ?_ ?_ (by rfl)) <;> (repeat' (first | (exact eqA) | (refine shE ?_) | (refine And.intro ?_ ?_)))
def z0v (l : List Lf) (ix : Int) : List Lf := l.filter fun x => decide ((ixB x.1 : Int) = ix)
theorem z5F {l : List Lf} {k : Nat} {ix : Int} (h : k < l.length) : z0v (l.take (k + 1)) ix = z0v (l.take k) ix ++ (if ((ixB (lfAt l k).1 : Nat) : Int) = ix then [lfAt l k] else []) := by
 unfold z0v
 rw [z2S h]
 by_cases he : ((ixB (lfAt l k).1 : Nat) : Int) = ix <;> simp [he]
theorem zdu (l : List Lf) (ix : Int) (hl : (l.length : Int) ≤ 100000000) (hf : ∀ k, ((lfAt l k).1.length : Int) ≤ 100000000) : CT Tryz.prog 125 [] [.sl 2 (lvE l), .int .i64 ix] (.ref 1) [.row 2 (lvE (z0v l ix))] := by
 have hlen := z0Q l
 refine z01 z0m 1 rfl Tryz.func125 rfl rfl rfl ?_
 repeat ((try conv => whnf); first | (refine stpQ ?_))
 refine z0h 0 ⟨[(5, .ref 1)], [(1, some (.row 2 (lvE (z0v l ix))))], 2⟩ Nat (fun k => ⟨[(1, .int .i64 ix), (5, .ref 1), (8, .sl 2 (lvE l)), (9, .int .i64 ((lvE l).length : Int)), (10, .int .i64 (k : Int))], [(1, some (.row 2 (lvE (z0v (l.take k) ix))))], 2⟩) (fun k => k ≤ l.length) (fun k => l.length - k) 0 (by omega) ?_ ?_ ?_
 ·(refine z02 (by rfl) ?_ ?_) <;> (repeat' (first | (exact eqA) | (refine shE ?_) | (refine And.intro ?_ ?_))) <;> first | rfl | decide
 ·intro k hk
  by_cases hk2 : k < l.length
  ·have c1 := z4U (lfAt l k).1 (hf k)
   have hnx := z5F (ix := ix) hk2
   have hw : (z0v (l.take k) ix).length ≤ k := Nat.le_trans (List.length_filter_le _ _) (by simp; omega)
   generalize z0v (l.take k) ix = o at hnx hw ⊢
   have hol := z0Q o
   repeat' (first | ((try conv => whnf); first | (refine i_at (z1K hk2) ?_) | (refine ccA ([]) (c1) ?_) | (refine And.intro (by simp [z0Q]; omega) ?_) | (refine stpQ ?_)) | ((try conv => whnf); first | (refine cb_d (fun h => ?_) (fun h => ?_)) | (refine cb_n (fun h => ?_) (fun h => ?_)) | (refine cb (fun h => ?_) (fun h => ?_))))
   all_goals first
    | (exfalso; omega)
    | (refine ⟨k + 1, by omega, by omega, ?_⟩
       rw [hnx]
       (refine z02 (by rfl) ?_ ?_) <;> (repeat' (first | (exact eqA) | (refine shE ?_) | (refine And.intro ?_ ?_)))
       all_goals first
        | (simp_all [lvE]; done)
        | rfl)
  ·obtain rfl : k = l.length := by omega
   rw [List.take_length]
   repeat ((try conv => whnf); first | (refine stpQ ?_))
   (refine z02 (by rfl) ?_ ?_) <;> (repeat' (first | (exact eqA) | (refine shE ?_) | (refine And.intro ?_ ?_)))
 ·repeat ((try conv => whnf); first | (refine stpQ ?_))
  (refine z00 (by rfl) ?_ ?_ (by rfl)) <;> (repeat' (first | (exact eqA) | (refine shE ?_) | (refine And.intro ?_ ?_)))
end Go.Proofs.YtgmbkbggnlponaaGreatDoor
