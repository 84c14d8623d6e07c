/- The exact laws compare values: what is compared with itself is alike. The types of the exact laws are of their shapes. -/
import Derived.Test.YtnhcfmmdaihneaaGreatDoorXt
namespace Go.Proofs.YtnhcfmmdaihneaaGreatDoor
set_option maxRecDepth 100000
set_option maxHeartbeats 2000000
set_option linter.unusedVariables false
set_option linter.unusedSimpArgs false
set_option linter.unusedSectionVars false
open Go.RowKit Pl
attribute [local irreducible] z0w z0x z0A AnsP LeP
theorem zj8 (e : List T) (h : Fits 1048576 z4B e) : CT Tryz.prog 172 [] [.agg e, .agg e] (.bool true) [] := by
 obtain ⟨s0, s1, rfl, qs0, qs1, -⟩ := zam h
 clear h
 refine z01 z03 1 rfl Tryz.func172 rfl rfl rfl ?_
 repeat ((try conv => whnf); first | (refine z0S rfl ?_) | (refine And.intro (by kernel_rfl) ?_) | (refine stpQ ?_))
 (refine z00 (by rfl) ?_ ?_ (by rfl)) <;> (repeat' (first | (exact eqA) | (refine shE ?_) | (refine And.intro ?_ ?_)))
theorem zeX (e : List T) (h : Fits 1048576 z38 e) : CT Tryz.prog 259 [] [.agg e, .agg e] (.bool true) [] := by
 obtain ⟨n0, s1, s2, rfl, qn0, qs1, qs2, -⟩ := z78 h
 clear h
 refine z01 z03 1 rfl Tryz.func259 rfl rfl rfl ?_
 repeat ((try conv => whnf); first | (refine z0S rfl ?_) | (refine And.intro (by kernel_rfl) ?_) | (refine stpQ ?_))
 (refine z00 (by rfl) ?_ ?_ (by rfl)) <;> (repeat' (first | (exact eqA) | (refine shE ?_) | (refine And.intro ?_ ?_)))
theorem zhn (e : List T) (h : Fits 1048576 z6q e) : CT Tryz.prog 212 [] [.agg e, .agg e] (.bool true) [] := by
 obtain ⟨n0, n1, n2, rfl, qn0, qn1, qn2, -⟩ := z8l h
 clear h
 refine z01 z03 1 rfl Tryz.func212 rfl rfl rfl ?_
 repeat ((try conv => whnf); first | (refine z0S rfl ?_) | (refine And.intro (by kernel_rfl) ?_) | (refine stpQ ?_))
 (refine z00 (by rfl) ?_ ?_ (by rfl)) <;> (repeat' (first | (exact eqA) | (refine shE ?_) | (refine And.intro ?_ ?_)))
theorem zj9 (e : List T) (h : Fits 1048576 z0D e) : CT Tryz.prog 141 [] [.agg e, .agg e] (.bool true) [] := by
 obtain ⟨s0, s1, n2, rfl, qs0, qs1, qn2, -⟩ := z1W h
 clear h
 refine z01 z03 1 rfl Tryz.func141 rfl rfl rfl ?_
 repeat ((try conv => whnf); first | (refine z0S rfl ?_) | (refine And.intro (by kernel_rfl) ?_) | (refine stpQ ?_))
 (refine z00 (by rfl) ?_ ?_ (by rfl)) <;> (repeat' (first | (exact eqA) | (refine shE ?_) | (refine And.intro ?_ ?_)))
theorem zho (z : List (List T)) (h : z.length ≤ 1048576 ∧ ∀ e ∈ z, Fits 1048576 z0D e) : CT Tryz.prog 65 [] [.sl 3 z, .sl 3 z] (.bool true) [] := by
 obtain ⟨hn, hz⟩ := h
 refine z01 z03 1 rfl Tryz.func65 rfl rfl rfl ?_
 repeat ((try conv => whnf); first | (refine stpQ ?_))
 refine z0H Nat (fun i => ⟨[(0, .sl 3 z), (1, .sl 3 z), (5, .int .i64 (i : Int))], [], 1⟩) (fun i => i ≤ z.length) (fun i => z.length - i) 0 (Nat.zero_le _) ?_ ?_
 ·(refine z02 (by rfl) ?_ ?_) <;> (repeat' (first | (exact eqA) | (refine shE ?_) | (refine And.intro ?_ ?_))) <;> first | rfl | decide
 ·intro i hi
  by_cases hlt : i < z.length
  ·have hi2 : (i : Int) < (z.length : Int) := by omega
   have gi : z[i]? = some z[i] := List.getElem?_eq_getElem hlt
   have hf := hz _ (List.getElem_mem hlt)
   generalize z[i] = e at hf gi
   obtain ⟨s0, s1, n2, rfl, -⟩ := z1W hf
   have cE := zj9 [.str s0, .str s1, .int .i64 n2] hf
   repeat ((try conv => whnf); first | (refine i_at gi ?_) | (refine ccA ([]) (cE) ?_) | (refine stpQ ?_))
   refine ⟨i + 1, hlt, by omega, ?_⟩
   (refine z02 (by rfl) ?_ ?_) <;> (repeat' (first | (exact eqA) | (refine shE ?_) | (refine And.intro ?_ ?_)))
  ·obtain rfl : i = z.length := by omega
   repeat ((try conv => whnf); first | (refine stpQ ?_))
   (refine z00 (by rfl) ?_ ?_ (by rfl)) <;> (repeat' (first | (exact eqA) | (refine shE ?_) | (refine And.intro ?_ ?_)))
theorem z9r (e : List T) (h : Fits 1048576 z1s e) : CT Tryz.prog 18 [] [.agg e, .agg e] (.bool true) [] := by
 obtain ⟨z0, rfl, qz0, -⟩ := z2J h
 clear h
 have c0 := zho z0 qz0
 refine z01 z03 1 rfl Tryz.func18 rfl rfl rfl ?_
 repeat ((try conv => whnf); first | (refine ccA ([]) (c0) ?_) | (refine z0S rfl ?_) | (refine And.intro (by kernel_rfl) ?_) | (refine stpQ ?_))
 (refine z00 (by rfl) ?_ ?_ (by rfl)) <;> (repeat' (first | (exact eqA) | (refine shE ?_) | (refine And.intro ?_ ?_)))
theorem zja (e : List T) (h : Fits 1048576 z2K e) : CT Tryz.prog 193 [] [.agg e, .agg e] (.bool true) [] := by
 obtain ⟨n0, n1, s2, s3, rfl, qn0, qn1, qs2, qs3, -⟩ := z56 h
 clear h
 refine z01 z03 1 rfl Tryz.func193 rfl rfl rfl ?_
 repeat ((try conv => whnf); first | (refine z0S rfl ?_) | (refine And.intro (by kernel_rfl) ?_) | (refine stpQ ?_))
 (refine z00 (by rfl) ?_ ?_ (by rfl)) <;> (repeat' (first | (exact eqA) | (refine shE ?_) | (refine And.intro ?_ ?_)))
theorem z2c (z : List (List T)) (h : z.length ≤ 1048576 ∧ ∀ e ∈ z, Fits 1048576 .str e) : CT Tryz.prog 48 [] [.sl 1 z, .sl 1 z] (.bool true) [] := by
 obtain ⟨hn, hz⟩ := h
 refine z01 z03 1 rfl Tryz.func48 rfl rfl rfl ?_
 repeat ((try conv => whnf); first | (refine stpQ ?_))
 refine z0H Nat (fun i => ⟨[(0, .sl 1 z), (1, .sl 1 z), (5, .int .i64 (i : Int))], [], 1⟩) (fun i => i ≤ z.length) (fun i => z.length - i) 0 (Nat.zero_le _) ?_ ?_
 ·(refine z02 (by rfl) ?_ ?_) <;> (repeat' (first | (exact eqA) | (refine shE ?_) | (refine And.intro ?_ ?_))) <;> first | rfl | decide
 ·intro i hi
  by_cases hlt : i < z.length
  ·have hi2 : (i : Int) < (z.length : Int) := by omega
   have gi : z[i]? = some z[i] := List.getElem?_eq_getElem hlt
   have hf := hz _ (List.getElem_mem hlt)
   generalize z[i] = e at hf gi
   obtain ⟨s, rfl, hf1⟩ := hf
   repeat ((try conv => whnf); first | (refine i_at gi ?_) | (refine z0S rfl ?_) | (refine stpQ ?_))
   refine ⟨i + 1, hlt, by omega, ?_⟩
   (refine z02 (by rfl) ?_ ?_) <;> (repeat' (first | (exact eqA) | (refine shE ?_) | (refine And.intro ?_ ?_)))
  ·obtain rfl : i = z.length := by omega
   repeat ((try conv => whnf); first | (refine stpQ ?_))
   (refine z00 (by rfl) ?_ ?_ (by rfl)) <;> (repeat' (first | (exact eqA) | (refine shE ?_) | (refine And.intro ?_ ?_)))
theorem zla (e : List T) (h : Fits 1048576 z3T e) : CT Tryz.prog 194 [] [.agg e, .agg e] (.bool true) [] := by
 obtain ⟨n0, z1, z2, z3, rfl, qn0, qz1, qz2, qz3, -⟩ := z6r h
 clear h
 have c1 := z2c z1 qz1
 have c2 := z2c z2 qz2
 have c3 := z2c z3 qz3
 refine z01 z03 1 rfl Tryz.func194 rfl rfl rfl ?_
 repeat ((try conv => whnf); first | (refine ccA ([]) (c1) ?_) | (refine ccA ([]) (c2) ?_) | (refine ccA ([]) (c3) ?_) | (refine z0S rfl ?_) | (refine And.intro (by kernel_rfl) ?_) | (refine stpQ ?_))
 (refine z00 (by rfl) ?_ ?_ (by rfl)) <;> (repeat' (first | (exact eqA) | (refine shE ?_) | (refine And.intro ?_ ?_)))
theorem zjb (e : List T) (h : Fits 1048576 z0K e) : CT Tryz.prog 140 [] [.agg e, .agg e] (.bool true) [] := by
 obtain ⟨n0, n1, s2, s3, n4, z5, z6, z7, rfl, qn0, qn1, qs2, qs3, qn4, qz5, qz6, qz7, -⟩ := z2k h
 clear h
 have c0 := zja [.int .i64 n0, .int .i64 n1, .str s2, .str s3] (z79 qn0 qn1 qs2 qs3)
 have c1 := zla [.int .i64 n4, .sl 1 z5, .sl 1 z6, .sl 1 z7] (zdw qn4 qz5 qz6 qz7)
 refine z01 z03 1 rfl Tryz.func140 rfl rfl rfl ?_
 repeat ((try conv => whnf); first | (refine ccA ([]) (c0) ?_) | (refine ccA ([]) (c1) ?_) | (refine z0S rfl ?_) | (refine And.intro (by kernel_rfl) ?_) | (refine stpQ ?_))
 (refine z00 (by rfl) ?_ ?_ (by rfl)) <;> (repeat' (first | (exact eqA) | (refine shE ?_) | (refine And.intro ?_ ?_)))
theorem zhp (z : List (List T)) (h : z.length ≤ 1048576 ∧ ∀ e ∈ z, Fits 1048576 z4B e) : CT Tryz.prog 123 [] [.sl 2 z, .sl 2 z] (.bool true) [] := by
 obtain ⟨hn, hz⟩ := h
 refine z01 z03 1 rfl Tryz.func123 rfl rfl rfl ?_
 repeat ((try conv => whnf); first | (refine stpQ ?_))
 refine z0H Nat (fun i => ⟨[(0, .sl 2 z), (1, .sl 2 z), (5, .int .i64 (i : Int))], [], 1⟩) (fun i => i ≤ z.length) (fun i => z.length - i) 0 (Nat.zero_le _) ?_ ?_
 ·(refine z02 (by rfl) ?_ ?_) <;> (repeat' (first | (exact eqA) | (refine shE ?_) | (refine And.intro ?_ ?_))) <;> first | rfl | decide
 ·intro i hi
  by_cases hlt : i < z.length
  ·have hi2 : (i : Int) < (z.length : Int) := by omega
   have gi : z[i]? = some z[i] := List.getElem?_eq_getElem hlt
   have hf := hz _ (List.getElem_mem hlt)
   generalize z[i] = e at hf gi
   obtain ⟨s0, s1, rfl, -⟩ := zam hf
   have cE := zj8 [.str s0, .str s1] hf
   repeat ((try conv => whnf); first | (refine i_at gi ?_) | (refine ccA ([]) (cE) ?_) | (refine stpQ ?_))
   refine ⟨i + 1, hlt, by omega, ?_⟩
   (refine z02 (by rfl) ?_ ?_) <;> (repeat' (first | (exact eqA) | (refine shE ?_) | (refine And.intro ?_ ?_)))
  ·obtain rfl : i = z.length := by omega
   repeat ((try conv => whnf); first | (refine stpQ ?_))
   (refine z00 (by rfl) ?_ ?_ (by rfl)) <;> (repeat' (first | (exact eqA) | (refine shE ?_) | (refine And.intro ?_ ?_)))
theorem zeY (z : List (List T)) (h : z.length ≤ 1048576 ∧ ∀ e ∈ z, Fits 1048576 (.sl 2 z4B) e) : CT Tryz.prog 49 [] [.sl 1 z, .sl 1 z] (.bool true) [] := by
 obtain ⟨hn, hz⟩ := h
 refine z01 z03 1 rfl Tryz.func49 rfl rfl rfl ?_
 repeat ((try conv => whnf); first | (refine stpQ ?_))
 refine z0H Nat (fun i => ⟨[(0, .sl 1 z), (1, .sl 1 z), (5, .int .i64 (i : Int))], [], 1⟩) (fun i => i ≤ z.length) (fun i => z.length - i) 0 (Nat.zero_le _) ?_ ?_
 ·(refine z02 (by rfl) ?_ ?_) <;> (repeat' (first | (exact eqA) | (refine shE ?_) | (refine And.intro ?_ ?_))) <;> first | rfl | decide
 ·intro i hi
  by_cases hlt : i < z.length
  ·have hi2 : (i : Int) < (z.length : Int) := by omega
   have gi : z[i]? = some z[i] := List.getElem?_eq_getElem hlt
   have hf := hz _ (List.getElem_mem hlt)
   generalize z[i] = e at hf gi
   obtain ⟨es, rfl, hf1⟩ := hf
   have cE := zhp es hf1
   repeat ((try conv => whnf); first | (refine i_at gi ?_) | (refine ccA ([]) (cE) ?_) | (refine stpQ ?_))
   refine ⟨i + 1, hlt, by omega, ?_⟩
   (refine z02 (by rfl) ?_ ?_) <;> (repeat' (first | (exact eqA) | (refine shE ?_) | (refine And.intro ?_ ?_)))
  ·obtain rfl : i = z.length := by omega
   repeat ((try conv => whnf); first | (refine stpQ ?_))
   (refine z00 (by rfl) ?_ ?_ (by rfl)) <;> (repeat' (first | (exact eqA) | (refine shE ?_) | (refine And.intro ?_ ?_)))
theorem z9s (z : List (List T)) (h : z.length ≤ 1048576 ∧ ∀ e ∈ z, Fits 1048576 .int e) : CT Tryz.prog 63 [] [.sl 1 z, .sl 1 z] (.bool true) [] := by
 obtain ⟨hn, hz⟩ := h
 refine z01 z03 1 rfl Tryz.func63 rfl rfl rfl ?_
 repeat ((try conv => whnf); first | (refine stpQ ?_))
 refine z0H Nat (fun i => ⟨[(0, .sl 1 z), (1, .sl 1 z), (5, .int .i64 (i : Int))], [], 1⟩) (fun i => i ≤ z.length) (fun i => z.length - i) 0 (Nat.zero_le _) ?_ ?_
 ·(refine z02 (by rfl) ?_ ?_) <;> (repeat' (first | (exact eqA) | (refine shE ?_) | (refine And.intro ?_ ?_))) <;> first | rfl | decide
 ·intro i hi
  by_cases hlt : i < z.length
  ·have hi2 : (i : Int) < (z.length : Int) := by omega
   have gi : z[i]? = some z[i] := List.getElem?_eq_getElem hlt
   have hf := hz _ (List.getElem_mem hlt)
   generalize z[i] = e at hf gi
   obtain ⟨n, rfl, hf1⟩ := hf
   repeat ((try conv => whnf); first | (refine i_at gi ?_) | (refine z0S rfl ?_) | (refine stpQ ?_))
   refine ⟨i + 1, hlt, by omega, ?_⟩
   (refine z02 (by rfl) ?_ ?_) <;> (repeat' (first | (exact eqA) | (refine shE ?_) | (refine And.intro ?_ ?_)))
  ·obtain rfl : i = z.length := by omega
   repeat ((try conv => whnf); first | (refine stpQ ?_))
   (refine z00 (by rfl) ?_ ?_ (by rfl)) <;> (repeat' (first | (exact eqA) | (refine shE ?_) | (refine And.intro ?_ ?_)))
theorem zck (z : List (List T)) (h : z.length ≤ 1048576 ∧ ∀ e ∈ z, Fits 1048576 z38 e) : CT Tryz.prog 211 [] [.sl 3 z, .sl 3 z] (.bool true) [] := by
 obtain ⟨hn, hz⟩ := h
 refine z01 z03 1 rfl Tryz.func211 rfl rfl rfl ?_
 repeat ((try conv => whnf); first | (refine stpQ ?_))
 refine z0H Nat (fun i => ⟨[(0, .sl 3 z), (1, .sl 3 z), (5, .int .i64 (i : Int))], [], 1⟩) (fun i => i ≤ z.length) (fun i => z.length - i) 0 (Nat.zero_le _) ?_ ?_
 ·(refine z02 (by rfl) ?_ ?_) <;> (repeat' (first | (exact eqA) | (refine shE ?_) | (refine And.intro ?_ ?_))) <;> first | rfl | decide
 ·intro i hi
  by_cases hlt : i < z.length
  ·have hi2 : (i : Int) < (z.length : Int) := by omega
   have gi : z[i]? = some z[i] := List.getElem?_eq_getElem hlt
   have hf := hz _ (List.getElem_mem hlt)
   generalize z[i] = e at hf gi
   obtain ⟨n0, s1, s2, rfl, -⟩ := z78 hf
   have cE := zeX [.int .i64 n0, .str s1, .str s2] hf
   repeat ((try conv => whnf); first | (refine i_at gi ?_) | (refine ccA ([]) (cE) ?_) | (refine stpQ ?_))
   refine ⟨i + 1, hlt, by omega, ?_⟩
   (refine z02 (by rfl) ?_ ?_) <;> (repeat' (first | (exact eqA) | (refine shE ?_) | (refine And.intro ?_ ?_)))
  ·obtain rfl : i = z.length := by omega
   repeat ((try conv => whnf); first | (refine stpQ ?_))
   (refine z00 (by rfl) ?_ ?_ (by rfl)) <;> (repeat' (first | (exact eqA) | (refine shE ?_) | (refine And.intro ?_ ?_)))
theorem zeZ (e : List T) (h : Fits 1048576 z2l e) : CT Tryz.prog 149 [] [.agg e, .agg e] (.bool true) [] := by
 obtain ⟨n0, n1, b2, z3, n4, z5, z6, z7, n8, n9, n10, rfl, qn0, qn1, qb2, qz3, qn4, qz5, qz6, qz7, qn8, qn9, qn10, -⟩ := z7a h
 clear h
 have c3 := z9r [.sl 3 z3] (z5H qz3)
 have c5 := zeY z5 qz5
 have c6 := z9s z6 qz6
 have c7 := zck z7 qz7
 have c8 := zhn [.int .i64 n8, .int .i64 n9, .int .i64 n10] (zdv qn8 qn9 qn10)
 refine z01 z03 1 rfl Tryz.func149 rfl rfl rfl ?_
 cases b2
 all_goals
  repeat ((try conv => whnf); first | (refine ccA ([]) (c3) ?_) | (refine ccA ([]) (c5) ?_) | (refine ccA ([]) (c6) ?_) | (refine ccA ([]) (c7) ?_) | (refine ccA ([]) (c8) ?_) | (refine z0S rfl ?_) | (refine And.intro (by kernel_rfl) ?_) | (refine stpQ ?_))
  (refine z00 (by rfl) ?_ ?_ (by rfl)) <;> (repeat' (first | (exact eqA) | (refine shE ?_) | (refine And.intro ?_ ?_)))
theorem zhq (z : List (List T)) (h : z.length ≤ 1048576 ∧ ∀ e ∈ z, Fits 1048576 z0K e) : CT Tryz.prog 62 [] [.sl 8 z, .sl 8 z] (.bool true) [] := by
 obtain ⟨hn, hz⟩ := h
 refine z01 z03 1 rfl Tryz.func62 rfl rfl rfl ?_
 repeat ((try conv => whnf); first | (refine stpQ ?_))
 refine z0H Nat (fun i => ⟨[(0, .sl 8 z), (1, .sl 8 z), (5, .int .i64 (i : Int))], [], 1⟩) (fun i => i ≤ z.length) (fun i => z.length - i) 0 (Nat.zero_le _) ?_ ?_
 ·(refine z02 (by rfl) ?_ ?_) <;> (repeat' (first | (exact eqA) | (refine shE ?_) | (refine And.intro ?_ ?_))) <;> first | rfl | decide
 ·intro i hi
  by_cases hlt : i < z.length
  ·have hi2 : (i : Int) < (z.length : Int) := by omega
   have gi : z[i]? = some z[i] := List.getElem?_eq_getElem hlt
   have hf := hz _ (List.getElem_mem hlt)
   generalize z[i] = e at hf gi
   obtain ⟨n0, n1, s2, s3, n4, z5, z6, z7, rfl, -⟩ := z2k hf
   have cE := zjb [.int .i64 n0, .int .i64 n1, .str s2, .str s3, .int .i64 n4, .sl 1 z5, .sl 1 z6, .sl 1 z7] hf
   repeat ((try conv => whnf); first | (refine i_at gi ?_) | (refine ccA ([]) (cE) ?_) | (refine stpQ ?_))
   refine ⟨i + 1, hlt, by omega, ?_⟩
   (refine z02 (by rfl) ?_ ?_) <;> (repeat' (first | (exact eqA) | (refine shE ?_) | (refine And.intro ?_ ?_)))
  ·obtain rfl : i = z.length := by omega
   repeat ((try conv => whnf); first | (refine stpQ ?_))
   (refine z00 (by rfl) ?_ ?_ (by rfl)) <;> (repeat' (first | (exact eqA) | (refine shE ?_) | (refine And.intro ?_ ?_)))
theorem zhr (z : List (List T)) (h : z.length ≤ 1048576 ∧ ∀ e ∈ z, Fits 1048576 .bool e) : CT Tryz.prog 64 [] [.sl 1 z, .sl 1 z] (.bool true) [] := by
 obtain ⟨hn, hz⟩ := h
 refine z01 z03 1 rfl Tryz.func64 rfl rfl rfl ?_
 repeat ((try conv => whnf); first | (refine stpQ ?_))
 refine z0H Nat (fun i => ⟨[(0, .sl 1 z), (1, .sl 1 z), (5, .int .i64 (i : Int))], [], 1⟩) (fun i => i ≤ z.length) (fun i => z.length - i) 0 (Nat.zero_le _) ?_ ?_
 ·(refine z02 (by rfl) ?_ ?_) <;> (repeat' (first | (exact eqA) | (refine shE ?_) | (refine And.intro ?_ ?_))) <;> first | rfl | decide
 ·intro i hi
  by_cases hlt : i < z.length
  ·have hi2 : (i : Int) < (z.length : Int) := by omega
   have gi : z[i]? = some z[i] := List.getElem?_eq_getElem hlt
   have hf := hz _ (List.getElem_mem hlt)
   generalize z[i] = e at hf gi
   obtain ⟨b, rfl⟩ := hf
   cases b
   all_goals
    repeat ((try conv => whnf); first | (refine i_at gi ?_) | (refine stpQ ?_))
    refine ⟨i + 1, hlt, by omega, ?_⟩
    (refine z02 (by rfl) ?_ ?_) <;> (repeat' (first | (exact eqA) | (refine shE ?_) | (refine And.intro ?_ ?_)))
  ·obtain rfl : i = z.length := by omega
   repeat ((try conv => whnf); first | (refine stpQ ?_))
   (refine z00 (by rfl) ?_ ?_ (by rfl)) <;> (repeat' (first | (exact eqA) | (refine shE ?_) | (refine And.intro ?_ ?_)))
theorem zaW (e : List T) (h : Fits 1048576 z0Q e) : CT Tryz.prog 17 [] [.agg e, .agg e] (.bool true) [] := by
 obtain ⟨n0, n1, b2, z3, z4, z5, z6, n7, b8, z9, z10, rfl, qn0, qn1, qb2, qz3, qz4, qz5, qz6, qn7, qb8, qz9, qz10, -⟩ := z28 h
 clear h
 have c3 := z9r [.sl 3 z3] (z5H qz3)
 have c4 := z2c z4 qz4
 have c5 := zhq z5 qz5
 have c6 := z9s z6 qz6
 have c9 := z2c z9 qz9
 have c10 := zhr z10 qz10
 refine z01 z03 1 rfl Tryz.func17 rfl rfl rfl ?_
 cases b2
 cases b8
 all_goals
  repeat ((try conv => whnf); first | (refine ccA ([]) (c3) ?_) | (refine ccA ([]) (c4) ?_) | (refine ccA ([]) (c5) ?_) | (refine ccA ([]) (c6) ?_) | (refine ccA ([]) (c9) ?_) | (refine ccA ([]) (c10) ?_) | (refine z0S rfl ?_) | (refine And.intro (by kernel_rfl) ?_) | (refine stpQ ?_))
  (refine z00 (by rfl) ?_ ?_ (by rfl)) <;> (repeat' (first | (exact eqA) | (refine shE ?_) | (refine And.intro ?_ ?_)))
theorem zcl (z : List (List T)) (h : z.length ≤ 1048576 ∧ ∀ e ∈ z, Fits 1048576 z2l e) : CT Tryz.prog 90 [] [.sl 11 z, .sl 11 z] (.bool true) [] := by
 obtain ⟨hn, hz⟩ := h
 refine z01 z03 1 rfl Tryz.func90 rfl rfl rfl ?_
 repeat ((try conv => whnf); first | (refine stpQ ?_))
 refine z0H Nat (fun i => ⟨[(0, .sl 11 z), (1, .sl 11 z), (5, .int .i64 (i : Int))], [], 1⟩) (fun i => i ≤ z.length) (fun i => z.length - i) 0 (Nat.zero_le _) ?_ ?_
 ·(refine z02 (by rfl) ?_ ?_) <;> (repeat' (first | (exact eqA) | (refine shE ?_) | (refine And.intro ?_ ?_))) <;> first | rfl | decide
 ·intro i hi
  by_cases hlt : i < z.length
  ·have hi2 : (i : Int) < (z.length : Int) := by omega
   have gi : z[i]? = some z[i] := List.getElem?_eq_getElem hlt
   have hf := hz _ (List.getElem_mem hlt)
   generalize z[i] = e at hf gi
   obtain ⟨n0, n1, b2, z3, n4, z5, z6, z7, n8, n9, n10, rfl, -⟩ := z7a hf
   have cE := zeZ [.int .i64 n0, .int .i64 n1, .bool b2, .sl 3 z3, .int .i64 n4, .sl 1 z5, .sl 1 z6, .sl 3 z7, .int .i64 n8, .int .i64 n9, .int .i64 n10] hf
   repeat ((try conv => whnf); first | (refine i_at gi ?_) | (refine ccA ([]) (cE) ?_) | (refine stpQ ?_))
   refine ⟨i + 1, hlt, by omega, ?_⟩
   (refine z02 (by rfl) ?_ ?_) <;> (repeat' (first | (exact eqA) | (refine shE ?_) | (refine And.intro ?_ ?_)))
  ·obtain rfl : i = z.length := by omega
   repeat ((try conv => whnf); first | (refine stpQ ?_))
   (refine z00 (by rfl) ?_ ?_ (by rfl)) <;> (repeat' (first | (exact eqA) | (refine shE ?_) | (refine And.intro ?_ ?_)))
theorem zhs (e : List T) (h : Fits 1048576 z57 e) : CT Tryz.prog 28 [] [.agg e, .agg e] (.bool true) [] := by
 obtain ⟨n0, n1, b2, z3, z4, z5, z6, n7, b8, z9, z10, z11, z12, z13, rfl, qn0, qn1, qb2, qz3, qz4, qz5, qz6, qn7, qb8, qz9, qz10, qz11, qz12, qz13, -⟩ := zex h
 clear h
 have c0 := zaW [.int .i64 n0, .int .i64 n1, .bool b2, .sl 3 z3, .sl 1 z4, .sl 8 z5, .sl 1 z6, .int .i64 n7, .bool b8, .sl 1 z9, .sl 1 z10] (z97 qn0 qn1 qb2 qz3 qz4 qz5 qz6 qn7 qb8 qz9 qz10)
 have c1 := zcl z11 qz11
 have c2 := z2c z12 qz12
 have c3 := z9s z13 qz13
 refine z01 z03 1 rfl Tryz.func28 rfl rfl rfl ?_
 repeat ((try conv => whnf); first | (refine ccA ([]) (c0) ?_) | (refine ccA ([]) (c1) ?_) | (refine ccA ([]) (c2) ?_) | (refine ccA ([]) (c3) ?_) | (refine z0S rfl ?_) | (refine And.intro (by kernel_rfl) ?_) | (refine stpQ ?_))
 (refine z00 (by rfl) ?_ ?_ (by rfl)) <;> (repeat' (first | (exact eqA) | (refine shE ?_) | (refine And.intro ?_ ?_)))
end Go.Proofs.YtnhcfmmdaihneaaGreatDoor
namespace Go.Proofs.YtnhcfmmdaihneaaGreatDoor
set_option linter.unusedVariables false
set_option linter.unusedSimpArgs false
set_option linter.unusedSectionVars false
open Go.RowKit Pl
end Go.Proofs.YtnhcfmmdaihneaaGreatDoor
