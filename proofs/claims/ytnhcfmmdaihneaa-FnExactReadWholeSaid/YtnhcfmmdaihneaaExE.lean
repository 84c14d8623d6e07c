/- The exact laws compare values: what is compared with itself is alike. -/
import Derived.Test.YtnhcfmmdaihneaaXt
namespace Go.Proofs.Ytnhcfmmdaihneaa
set_option maxRecDepth 100000
set_option maxHeartbeats 2000000
set_option linter.unusedVariables false
set_option linter.unusedSimpArgs false
set_option linter.unusedSectionVars false
open Go.RowKit Pl
attribute [local irreducible] z0m z0o z0s AnsP LeP
theorem zbS (e : List T) (h : Fits 1048576 z37 e) : CT Try.prog 73 [] [.agg e, .agg e] (.bool true) [] := by
 obtain ⟨s0, s1, rfl, qs0, qs1, -⟩ := z77 h
 clear h
 refine z01 z0j 1 rfl Try.func73 rfl rfl rfl ?_
 repeat ((try conv => whnf); first | (refine z25 rfl ?_) | (refine And.intro (by kernel_rfl) ?_) | (refine stpQ ?_))
 (refine z00 (by rfl) ?_ ?_ (by rfl)) <;> (repeat' (first | (exact eqA) | (refine shE ?_) | (refine And.intro ?_ ?_)))
theorem zbT (e : List T) (h : Fits 1048576 z67 e) : CT Try.prog 59 [] [.agg e, .agg e] (.bool true) [] := by
 obtain ⟨n0, n1, s2, s3, rfl, qn0, qn1, qs2, qs3, -⟩ := z78 h
 clear h
 refine z01 z0j 1 rfl Try.func59 rfl rfl rfl ?_
 repeat ((try conv => whnf); first | (refine z25 rfl ?_) | (refine And.intro (by kernel_rfl) ?_) | (refine stpQ ?_))
 (refine z00 (by rfl) ?_ ?_ (by rfl)) <;> (repeat' (first | (exact eqA) | (refine shE ?_) | (refine And.intro ?_ ?_)))
theorem z1U (z : List (List T)) (h : z.length ≤ 1048576 ∧ ∀ e ∈ z, Fits 1048576 .str e) : CT Try.prog 28 [] [.sl 1 z, .sl 1 z] (.bool true) [] := by
 obtain ⟨hn, hz⟩ := h
 refine z01 z0j 1 rfl Try.func28 rfl rfl rfl ?_
 repeat ((try conv => whnf); first | (refine stpQ ?_))
 refine z18 Nat (fun i => ⟨[(0, .sl 1 z), (1, .sl 1 z), (5, .int .i64 (i : Int))], [], 1⟩) (fun i => i ≤ z.length) (fun i => z.length - i) 0 (Nat.zero_le _) ?_ ?_
 ·(refine z08 (by rfl) ?_ ?_) <;> (repeat' (first | (exact eqA) | (refine shE ?_) | (refine And.intro ?_ ?_))) <;> first | rfl | decide
 ·intro i hi
  by_cases hlt : i < z.length
  ·have hi2 : (i : Int) < (z.length : Int) := by omega
   have gi : z[i]? = some z[i] := List.getElem?_eq_getElem hlt
   have hf := hz _ (List.getElem_mem hlt)
   generalize z[i] = e at hf gi
   obtain ⟨s, rfl, hf1⟩ := hf
   repeat ((try conv => whnf); first | (refine i_at gi ?_) | (refine z25 rfl ?_) | (refine stpQ ?_))
   refine ⟨i + 1, hlt, by omega, ?_⟩
   (refine z08 (by rfl) ?_ ?_) <;> (repeat' (first | (exact eqA) | (refine shE ?_) | (refine And.intro ?_ ?_)))
  ·obtain rfl : i = z.length := by omega
   repeat ((try conv => whnf); first | (refine stpQ ?_))
   (refine z00 (by rfl) ?_ ?_ (by rfl)) <;> (repeat' (first | (exact eqA) | (refine shE ?_) | (refine And.intro ?_ ?_)))
theorem zaX (e : List T) (h : Fits 1048576 z79 e) : CT Try.prog 60 [] [.agg e, .agg e] (.bool true) [] := by
 obtain ⟨n0, z1, z2, z3, rfl, qn0, qz1, qz2, qz3, -⟩ := z68 h
 clear h
 have c1 := z1U z1 qz1
 have c2 := z1U z2 qz2
 have c3 := z1U z3 qz3
 refine z01 z0j 1 rfl Try.func60 rfl rfl rfl ?_
 repeat ((try conv => whnf); first | (refine ccA ([]) (c1) ?_) | (refine ccA ([]) (c2) ?_) | (refine ccA ([]) (c3) ?_) | (refine z25 rfl ?_) | (refine And.intro (by kernel_rfl) ?_) | (refine stpQ ?_))
 (refine z00 (by rfl) ?_ ?_ (by rfl)) <;> (repeat' (first | (exact eqA) | (refine shE ?_) | (refine And.intro ?_ ?_)))
theorem zbU (e : List T) (h : Fits 1048576 z4I e) : CT Try.prog 29 [] [.agg e, .agg e] (.bool true) [] := by
 obtain ⟨n0, n1, s2, s3, n4, z5, z6, z7, rfl, qn0, qn1, qs2, qs3, qn4, qz5, qz6, qz7, -⟩ := zaM h
 clear h
 have c0 := zbT [.int .i64 n0, .int .i64 n1, .str s2, .str s3] (zaL qn0 qn1 qs2 qs3)
 have c1 := zaX [.int .i64 n4, .sl 1 z5, .sl 1 z6, .sl 1 z7] (z8U qn4 qz5 qz6 qz7)
 refine z01 z0j 1 rfl Try.func29 rfl rfl rfl ?_
 repeat ((try conv => whnf); first | (refine ccA ([]) (c0) ?_) | (refine ccA ([]) (c1) ?_) | (refine z25 rfl ?_) | (refine And.intro (by kernel_rfl) ?_) | (refine stpQ ?_))
 (refine z00 (by rfl) ?_ ?_ (by rfl)) <;> (repeat' (first | (exact eqA) | (refine shE ?_) | (refine And.intro ?_ ?_)))
theorem zaY (e : List T) (h : Fits 1048576 z2N e) : CT Try.prog 61 [] [.agg e, .agg e] (.bool true) [] := by
 obtain ⟨n0, n1, z2, z3, z4, rfl, qn0, qn1, qz2, qz3, qz4, -⟩ := z5o h
 clear h
 have c1 := zaX [.int .i64 n1, .sl 1 z2, .sl 1 z3, .sl 1 z4] (z8U qn1 qz2 qz3 qz4)
 refine z01 z0j 1 rfl Try.func61 rfl rfl rfl ?_
 repeat ((try conv => whnf); first | (refine ccA ([]) (c1) ?_) | (refine z25 rfl ?_) | (refine And.intro (by kernel_rfl) ?_) | (refine stpQ ?_))
 (refine z00 (by rfl) ?_ ?_ (by rfl)) <;> (repeat' (first | (exact eqA) | (refine shE ?_) | (refine And.intro ?_ ?_)))
theorem zaZ (z : List (List T)) (h : z.length ≤ 1048576 ∧ ∀ e ∈ z, Fits 1048576 z37 e) : CT Try.prog 58 [] [.sl 2 z, .sl 2 z] (.bool true) [] := by
 obtain ⟨hn, hz⟩ := h
 refine z01 z0j 1 rfl Try.func58 rfl rfl rfl ?_
 repeat ((try conv => whnf); first | (refine stpQ ?_))
 refine z18 Nat (fun i => ⟨[(0, .sl 2 z), (1, .sl 2 z), (5, .int .i64 (i : Int))], [], 1⟩) (fun i => i ≤ z.length) (fun i => z.length - i) 0 (Nat.zero_le _) ?_ ?_
 ·(refine z08 (by rfl) ?_ ?_) <;> (repeat' (first | (exact eqA) | (refine shE ?_) | (refine And.intro ?_ ?_))) <;> first | rfl | decide
 ·intro i hi
  by_cases hlt : i < z.length
  ·have hi2 : (i : Int) < (z.length : Int) := by omega
   have gi : z[i]? = some z[i] := List.getElem?_eq_getElem hlt
   have hf := hz _ (List.getElem_mem hlt)
   generalize z[i] = e at hf gi
   obtain ⟨s0, s1, rfl, -⟩ := z77 hf
   have cE := zbS [.str s0, .str s1] hf
   repeat ((try conv => whnf); first | (refine i_at gi ?_) | (refine ccA ([]) (cE) ?_) | (refine stpQ ?_))
   refine ⟨i + 1, hlt, by omega, ?_⟩
   (refine z08 (by rfl) ?_ ?_) <;> (repeat' (first | (exact eqA) | (refine shE ?_) | (refine And.intro ?_ ?_)))
  ·obtain rfl : i = z.length := by omega
   repeat ((try conv => whnf); first | (refine stpQ ?_))
   (refine z00 (by rfl) ?_ ?_ (by rfl)) <;> (repeat' (first | (exact eqA) | (refine shE ?_) | (refine And.intro ?_ ?_)))
end Go.Proofs.Ytnhcfmmdaihneaa
