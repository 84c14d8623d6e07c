/- The exact laws compare values: what is compared with itself is alike. The types of the exact laws are of their shapes. -/
import Derived.Test.YtbcgmjdfnjmhoaaGreatDoorXt
namespace Go.Proofs.YtbcgmjdfnjmhoaaGreatDoor
set_option maxRecDepth 100000
set_option maxHeartbeats 2000000
set_option linter.unusedVariables false
set_option linter.unusedSimpArgs false
set_option linter.unusedSectionVars false
open Go.RowKit Pl
attribute [local irreducible] z0F z0I z0T AnsP LeP
theorem zdi (e : List T) (h : Fits 1048576 z2x e) : CT Tryz.prog 185 [] [.agg e, .agg e] (.bool true) [] := by
 obtain ⟨s0, s1, rfl, qs0, qs1, -⟩ := z77 h
 clear h
 refine z01 z03 1 rfl Tryz.func185 rfl rfl rfl ?_
 repeat ((try conv => whnf); first | (refine z1v rfl ?_) | (refine And.intro (by kernel_rfl) ?_) | (refine stpQ ?_))
 (refine z00 (by rfl) ?_ ?_ (by rfl)) <;> (repeat' (first | (exact eqA) | (refine shE ?_) | (refine And.intro ?_ ?_)))
theorem zak (e : List T) (h : Fits 1048576 z1S e) : CT Tryz.prog 133 [] [.agg e, .agg e] (.bool true) [] := by
 obtain ⟨n0, s1, s2, rfl, qn0, qs1, qs2, -⟩ := z4N h
 clear h
 refine z01 z03 1 rfl Tryz.func133 rfl rfl rfl ?_
 repeat ((try conv => whnf); first | (refine z1v rfl ?_) | (refine And.intro (by kernel_rfl) ?_) | (refine stpQ ?_))
 (refine z00 (by rfl) ?_ ?_ (by rfl)) <;> (repeat' (first | (exact eqA) | (refine shE ?_) | (refine And.intro ?_ ?_)))
theorem zcb (e : List T) (h : Fits 1048576 z4h e) : CT Tryz.prog 51 [] [.agg e, .agg e] (.bool true) [] := by
 obtain ⟨n0, n1, n2, rfl, qn0, qn1, qn2, -⟩ := z5G h
 clear h
 refine z01 z03 1 rfl Tryz.func51 rfl rfl rfl ?_
 repeat ((try conv => whnf); first | (refine z1v rfl ?_) | (refine And.intro (by kernel_rfl) ?_) | (refine stpQ ?_))
 (refine z00 (by rfl) ?_ ?_ (by rfl)) <;> (repeat' (first | (exact eqA) | (refine shE ?_) | (refine And.intro ?_ ?_)))
theorem zdj (e : List T) (h : Fits 1048576 z0s e) : CT Tryz.prog 134 [] [.agg e, .agg e] (.bool true) [] := by
 obtain ⟨s0, s1, n2, rfl, qs0, qs1, qn2, -⟩ := z1n h
 clear h
 refine z01 z03 1 rfl Tryz.func134 rfl rfl rfl ?_
 repeat ((try conv => whnf); first | (refine z1v rfl ?_) | (refine And.intro (by kernel_rfl) ?_) | (refine stpQ ?_))
 (refine z00 (by rfl) ?_ ?_ (by rfl)) <;> (repeat' (first | (exact eqA) | (refine shE ?_) | (refine And.intro ?_ ?_)))
theorem zcc (z : List (List T)) (h : z.length ≤ 1048576 ∧ ∀ e ∈ z, Fits 1048576 z0s e) : CT Tryz.prog 52 [] [.sl 3 z, .sl 3 z] (.bool true) [] := by
 obtain ⟨hn, hz⟩ := h
 refine z01 z03 1 rfl Tryz.func52 rfl rfl rfl ?_
 repeat ((try conv => whnf); first | (refine stpQ ?_))
 refine z0y Nat (fun i => ⟨[(0, .sl 3 z), (1, .sl 3 z), (5, .int .i64 (i : Int))], [], 1⟩) (fun i => i ≤ z.length) (fun i => z.length - i) 0 (Nat.zero_le _) ?_ ?_
 ·(refine z02 (by rfl) ?_ ?_) <;> (repeat' (first | (exact eqA) | (refine shE ?_) | (refine And.intro ?_ ?_))) <;> first | rfl | decide
 ·intro i hi
  by_cases hlt : i < z.length
  ·have hi2 : (i : Int) < (z.length : Int) := by omega
   have gi : z[i]? = some z[i] := List.getElem?_eq_getElem hlt
   have hf := hz _ (List.getElem_mem hlt)
   generalize z[i] = e at hf gi
   obtain ⟨s0, s1, n2, rfl, -⟩ := z1n hf
   have cE := zdj [.str s0, .str s1, .int .i64 n2] hf
   repeat ((try conv => whnf); first | (refine i_at gi ?_) | (refine ccA ([]) (cE) ?_) | (refine stpQ ?_))
   refine ⟨i + 1, hlt, by omega, ?_⟩
   (refine z02 (by rfl) ?_ ?_) <;> (repeat' (first | (exact eqA) | (refine shE ?_) | (refine And.intro ?_ ?_)))
  ·obtain rfl : i = z.length := by omega
   repeat ((try conv => whnf); first | (refine stpQ ?_))
   (refine z00 (by rfl) ?_ ?_ (by rfl)) <;> (repeat' (first | (exact eqA) | (refine shE ?_) | (refine And.intro ?_ ?_)))
theorem z9w (e : List T) (h : Fits 1048576 z1b e) : CT Tryz.prog 14 [] [.agg e, .agg e] (.bool true) [] := by
 obtain ⟨z0, rfl, qz0, -⟩ := z26 h
 clear h
 have c0 := zcc z0 qz0
 refine z01 z03 1 rfl Tryz.func14 rfl rfl rfl ?_
 repeat ((try conv => whnf); first | (refine ccA ([]) (c0) ?_) | (refine z1v rfl ?_) | (refine And.intro (by kernel_rfl) ?_) | (refine stpQ ?_))
 (refine z00 (by rfl) ?_ ?_ (by rfl)) <;> (repeat' (first | (exact eqA) | (refine shE ?_) | (refine And.intro ?_ ?_)))
theorem zcd (z : List (List T)) (h : z.length ≤ 1048576 ∧ ∀ e ∈ z, Fits 1048576 z2x e) : CT Tryz.prog 132 [] [.sl 2 z, .sl 2 z] (.bool true) [] := by
 obtain ⟨hn, hz⟩ := h
 refine z01 z03 1 rfl Tryz.func132 rfl rfl rfl ?_
 repeat ((try conv => whnf); first | (refine stpQ ?_))
 refine z0y Nat (fun i => ⟨[(0, .sl 2 z), (1, .sl 2 z), (5, .int .i64 (i : Int))], [], 1⟩) (fun i => i ≤ z.length) (fun i => z.length - i) 0 (Nat.zero_le _) ?_ ?_
 ·(refine z02 (by rfl) ?_ ?_) <;> (repeat' (first | (exact eqA) | (refine shE ?_) | (refine And.intro ?_ ?_))) <;> first | rfl | decide
 ·intro i hi
  by_cases hlt : i < z.length
  ·have hi2 : (i : Int) < (z.length : Int) := by omega
   have gi : z[i]? = some z[i] := List.getElem?_eq_getElem hlt
   have hf := hz _ (List.getElem_mem hlt)
   generalize z[i] = e at hf gi
   obtain ⟨s0, s1, rfl, -⟩ := z77 hf
   have cE := zdi [.str s0, .str s1] hf
   repeat ((try conv => whnf); first | (refine i_at gi ?_) | (refine ccA ([]) (cE) ?_) | (refine stpQ ?_))
   refine ⟨i + 1, hlt, by omega, ?_⟩
   (refine z02 (by rfl) ?_ ?_) <;> (repeat' (first | (exact eqA) | (refine shE ?_) | (refine And.intro ?_ ?_)))
  ·obtain rfl : i = z.length := by omega
   repeat ((try conv => whnf); first | (refine stpQ ?_))
   (refine z00 (by rfl) ?_ ?_ (by rfl)) <;> (repeat' (first | (exact eqA) | (refine shE ?_) | (refine And.intro ?_ ?_)))
theorem zal (z : List (List T)) (h : z.length ≤ 1048576 ∧ ∀ e ∈ z, Fits 1048576 (.sl 2 z2x) e) : CT Tryz.prog 48 [] [.sl 1 z, .sl 1 z] (.bool true) [] := by
 obtain ⟨hn, hz⟩ := h
 refine z01 z03 1 rfl Tryz.func48 rfl rfl rfl ?_
 repeat ((try conv => whnf); first | (refine stpQ ?_))
 refine z0y Nat (fun i => ⟨[(0, .sl 1 z), (1, .sl 1 z), (5, .int .i64 (i : Int))], [], 1⟩) (fun i => i ≤ z.length) (fun i => z.length - i) 0 (Nat.zero_le _) ?_ ?_
 ·(refine z02 (by rfl) ?_ ?_) <;> (repeat' (first | (exact eqA) | (refine shE ?_) | (refine And.intro ?_ ?_))) <;> first | rfl | decide
 ·intro i hi
  by_cases hlt : i < z.length
  ·have hi2 : (i : Int) < (z.length : Int) := by omega
   have gi : z[i]? = some z[i] := List.getElem?_eq_getElem hlt
   have hf := hz _ (List.getElem_mem hlt)
   generalize z[i] = e at hf gi
   obtain ⟨es, rfl, hf1⟩ := hf
   have cE := zcd es hf1
   repeat ((try conv => whnf); first | (refine i_at gi ?_) | (refine ccA ([]) (cE) ?_) | (refine stpQ ?_))
   refine ⟨i + 1, hlt, by omega, ?_⟩
   (refine z02 (by rfl) ?_ ?_) <;> (repeat' (first | (exact eqA) | (refine shE ?_) | (refine And.intro ?_ ?_)))
  ·obtain rfl : i = z.length := by omega
   repeat ((try conv => whnf); first | (refine stpQ ?_))
   (refine z00 (by rfl) ?_ ?_ (by rfl)) <;> (repeat' (first | (exact eqA) | (refine shE ?_) | (refine And.intro ?_ ?_)))
theorem zdk (z : List (List T)) (h : z.length ≤ 1048576 ∧ ∀ e ∈ z, Fits 1048576 .int e) : CT Tryz.prog 49 [] [.sl 1 z, .sl 1 z] (.bool true) [] := by
 obtain ⟨hn, hz⟩ := h
 refine z01 z03 1 rfl Tryz.func49 rfl rfl rfl ?_
 repeat ((try conv => whnf); first | (refine stpQ ?_))
 refine z0y Nat (fun i => ⟨[(0, .sl 1 z), (1, .sl 1 z), (5, .int .i64 (i : Int))], [], 1⟩) (fun i => i ≤ z.length) (fun i => z.length - i) 0 (Nat.zero_le _) ?_ ?_
 ·(refine z02 (by rfl) ?_ ?_) <;> (repeat' (first | (exact eqA) | (refine shE ?_) | (refine And.intro ?_ ?_))) <;> first | rfl | decide
 ·intro i hi
  by_cases hlt : i < z.length
  ·have hi2 : (i : Int) < (z.length : Int) := by omega
   have gi : z[i]? = some z[i] := List.getElem?_eq_getElem hlt
   have hf := hz _ (List.getElem_mem hlt)
   generalize z[i] = e at hf gi
   obtain ⟨n, rfl, hf1⟩ := hf
   repeat ((try conv => whnf); first | (refine i_at gi ?_) | (refine z1v rfl ?_) | (refine stpQ ?_))
   refine ⟨i + 1, hlt, by omega, ?_⟩
   (refine z02 (by rfl) ?_ ?_) <;> (repeat' (first | (exact eqA) | (refine shE ?_) | (refine And.intro ?_ ?_)))
  ·obtain rfl : i = z.length := by omega
   repeat ((try conv => whnf); first | (refine stpQ ?_))
   (refine z00 (by rfl) ?_ ?_ (by rfl)) <;> (repeat' (first | (exact eqA) | (refine shE ?_) | (refine And.intro ?_ ?_)))
theorem z8o (z : List (List T)) (h : z.length ≤ 1048576 ∧ ∀ e ∈ z, Fits 1048576 z1S e) : CT Tryz.prog 50 [] [.sl 3 z, .sl 3 z] (.bool true) [] := by
 obtain ⟨hn, hz⟩ := h
 refine z01 z03 1 rfl Tryz.func50 rfl rfl rfl ?_
 repeat ((try conv => whnf); first | (refine stpQ ?_))
 refine z0y Nat (fun i => ⟨[(0, .sl 3 z), (1, .sl 3 z), (5, .int .i64 (i : Int))], [], 1⟩) (fun i => i ≤ z.length) (fun i => z.length - i) 0 (Nat.zero_le _) ?_ ?_
 ·(refine z02 (by rfl) ?_ ?_) <;> (repeat' (first | (exact eqA) | (refine shE ?_) | (refine And.intro ?_ ?_))) <;> first | rfl | decide
 ·intro i hi
  by_cases hlt : i < z.length
  ·have hi2 : (i : Int) < (z.length : Int) := by omega
   have gi : z[i]? = some z[i] := List.getElem?_eq_getElem hlt
   have hf := hz _ (List.getElem_mem hlt)
   generalize z[i] = e at hf gi
   obtain ⟨n0, s1, s2, rfl, -⟩ := z4N hf
   have cE := zak [.int .i64 n0, .str s1, .str s2] hf
   repeat ((try conv => whnf); first | (refine i_at gi ?_) | (refine ccA ([]) (cE) ?_) | (refine stpQ ?_))
   refine ⟨i + 1, hlt, by omega, ?_⟩
   (refine z02 (by rfl) ?_ ?_) <;> (repeat' (first | (exact eqA) | (refine shE ?_) | (refine And.intro ?_ ?_)))
  ·obtain rfl : i = z.length := by omega
   repeat ((try conv => whnf); first | (refine stpQ ?_))
   (refine z00 (by rfl) ?_ ?_ (by rfl)) <;> (repeat' (first | (exact eqA) | (refine shE ?_) | (refine And.intro ?_ ?_)))
theorem zam (e : List T) (h : Fits 1048576 z2y e) : CT Tryz.prog 13 [] [.agg e, .agg e] (.bool true) [] := by
 obtain ⟨n0, n1, b2, z3, n4, z5, z6, z7, n8, n9, n10, rfl, qn0, qn1, qb2, qz3, qn4, qz5, qz6, qz7, qn8, qn9, qn10, -⟩ := z7Z h
 clear h
 have c3 := z9w [.sl 3 z3] (zbp qz3)
 have c5 := zal z5 qz5
 have c6 := zdk z6 qz6
 have c7 := z8o z7 qz7
 have c8 := zcb [.int .i64 n8, .int .i64 n9, .int .i64 n10] (z9e qn8 qn9 qn10)
 refine z01 z03 1 rfl Tryz.func13 rfl rfl rfl ?_
 cases b2
 all_goals
  repeat ((try conv => whnf); first | (refine ccA ([]) (c3) ?_) | (refine ccA ([]) (c5) ?_) | (refine ccA ([]) (c6) ?_) | (refine ccA ([]) (c7) ?_) | (refine ccA ([]) (c8) ?_) | (refine z1v rfl ?_) | (refine And.intro (by kernel_rfl) ?_) | (refine stpQ ?_))
  (refine z00 (by rfl) ?_ ?_ (by rfl)) <;> (repeat' (first | (exact eqA) | (refine shE ?_) | (refine And.intro ?_ ?_)))
end Go.Proofs.YtbcgmjdfnjmhoaaGreatDoor
namespace Go.Proofs.YtbcgmjdfnjmhoaaGreatDoor
set_option linter.unusedVariables false
set_option linter.unusedSimpArgs false
set_option linter.unusedSectionVars false
open Go.RowKit Pl
theorem zfv : TOk Tryz.prog 221 z2x := .st Tryz.underlying221 (by kernel_rfl) (.cons (by kernel_rfl) (.str Tryz.underlying9) (.cons (by kernel_rfl) (.str Tryz.underlying9) .nil))
theorem zf9 : TOk Tryz.prog 173 z1S := .st Tryz.underlying173 (by kernel_rfl) (.cons (by kernel_rfl) (.int Tryz.underlying3) (.cons (by kernel_rfl) (.str Tryz.underlying9) (.cons (by kernel_rfl) (.str Tryz.underlying9) .nil)))
theorem zfh : TOk Tryz.prog 53 z4h := .st Tryz.underlying53 (by kernel_rfl) (.cons (by kernel_rfl) (.int Tryz.underlying3) (.cons (by kernel_rfl) (.int Tryz.underlying3) (.cons (by kernel_rfl) (.int Tryz.underlying3) .nil)))
theorem zdl : TOk Tryz.prog 140 z0s := .st Tryz.underlying140 (by kernel_rfl) (.cons (by kernel_rfl) (.str Tryz.underlying9) (.cons (by kernel_rfl) (.str Tryz.underlying9) (.cons (by kernel_rfl) (.int Tryz.underlying3) .nil)))
theorem zcf : TOk Tryz.prog 22 (.sl 3 z0s) := .sl Tryz.underlying22 (by kernel_rfl) rfl (by decide) zdl
theorem zdm : TOk Tryz.prog 24 z1b := .st Tryz.underlying24 (by kernel_rfl) (.cons (by kernel_rfl) zcf .nil)
theorem zfi : TOk Tryz.prog 171 (.sl 2 z2x) := .sl Tryz.underlying171 (by kernel_rfl) rfl (by decide) zfv
theorem zfa : TOk Tryz.prog 51 (.sl 1 (.sl 2 z2x)) := .sl Tryz.underlying51 (by kernel_rfl) rfl (by decide) zfi
theorem zfw : TOk Tryz.prog 30 (.sl 1 .int) := .sl Tryz.underlying30 (by kernel_rfl) rfl (by decide) (.int Tryz.underlying3)
theorem zeX : TOk Tryz.prog 52 (.sl 3 z1S) := .sl Tryz.underlying52 (by kernel_rfl) rfl (by decide) zf9
theorem zfb : TOk Tryz.prog 55 z2y := .st Tryz.underlying55 (by kernel_rfl) (.cons (by kernel_rfl) (.int Tryz.underlying3) (.cons (by kernel_rfl) (.int Tryz.underlying3) (.cons (by kernel_rfl) (.bool Tryz.underlying4) (.cons (by kernel_rfl) zdm (.cons (by kernel_rfl) (.int Tryz.underlying3) (.cons (by kernel_rfl) zfa (.cons (by kernel_rfl) zfw (.cons (by kernel_rfl) zeX (.cons (by kernel_rfl) zfh .nil)))))))))
end Go.Proofs.YtbcgmjdfnjmhoaaGreatDoor
