/- The exact laws compare values: what is compared with itself is alike. -/
import Derived.Test.YtnhcfmmdaihneaaGreatDoorXt
namespace Go.Proofs.YtnhcfmmdaihneaaGreatDoor
set_option maxRecDepth 100000
set_option maxHeartbeats 2000000
set_option linter.unusedVariables false
set_option linter.unusedSimpArgs false
set_option linter.unusedSectionVars false
open Go.RowKit Pl
attribute [local irreducible] z0s z0t z0x AnsP LeP
theorem zcx (e : List T) (h : Fits 1048576 z2x e) : CT Tryz.prog 172 [] [.agg e, .agg e] (.bool true) [] := by
 obtain ⟨s0, s1, rfl, qs0, qs1, -⟩ := z7o h
 clear h
 refine z0b z1j 1 rfl Tryz.func172 rfl rfl rfl ?_
 repeat ((try conv => whnf); first | (refine z2k rfl ?_) | (refine And.intro (by kernel_rfl) ?_) | (refine stpQ ?_))
 (refine z07 (by rfl) ?_ ?_ (by rfl)) <;> (repeat' (first | (exact eqA) | (refine shE ?_) | (refine And.intro ?_ ?_)))
theorem z4T (z : List (List T)) (h : z.length ≤ 1048576 ∧ ∀ e ∈ z, Fits 1048576 .str e) : CT Tryz.prog 48 [] [.sl 1 z, .sl 1 z] (.bool true) [] := by
 obtain ⟨hn, hz⟩ := h
 refine z0b z1j 1 rfl Tryz.func48 rfl rfl rfl ?_
 repeat ((try conv => whnf); first | (refine stpQ ?_))
 refine z0Y Nat (fun i => ⟨[(0, .sl 1 z), (1, .sl 1 z), (5, .int .i64 (i : Int))], [], 1⟩) (fun i => i ≤ z.length) (fun i => z.length - i) 0 (Nat.zero_le _) ?_ ?_
 ·(refine z01 (by rfl) ?_ ?_) <;> (repeat' (first | (exact eqA) | (refine shE ?_) | (refine And.intro ?_ ?_))) <;> first | rfl | decide
 ·intro i hi
  by_cases hlt : i < z.length
  ·have hi2 : (i : Int) < (z.length : Int) := by omega
   have gi : z[i]? = some z[i] := List.getElem?_eq_getElem hlt
   have hf := hz _ (List.getElem_mem hlt)
   generalize z[i] = e at hf gi
   obtain ⟨s, rfl, hf1⟩ := hf
   repeat ((try conv => whnf); first | (refine i_at gi ?_) | (refine z2k rfl ?_) | (refine stpQ ?_))
   refine ⟨i + 1, hlt, by omega, ?_⟩
   (refine z01 (by rfl) ?_ ?_) <;> (repeat' (first | (exact eqA) | (refine shE ?_) | (refine And.intro ?_ ?_)))
  ·obtain rfl : i = z.length := by omega
   repeat ((try conv => whnf); first | (refine stpQ ?_))
   (refine z07 (by rfl) ?_ ?_ (by rfl)) <;> (repeat' (first | (exact eqA) | (refine shE ?_) | (refine And.intro ?_ ?_)))
theorem zbF (z : List (List T)) (h : z.length ≤ 1048576 ∧ ∀ e ∈ z, Fits 1048576 z2x e) : CT Tryz.prog 123 [] [.sl 2 z, .sl 2 z] (.bool true) [] := by
 obtain ⟨hn, hz⟩ := h
 refine z0b z1j 1 rfl Tryz.func123 rfl rfl rfl ?_
 repeat ((try conv => whnf); first | (refine stpQ ?_))
 refine z0Y Nat (fun i => ⟨[(0, .sl 2 z), (1, .sl 2 z), (5, .int .i64 (i : Int))], [], 1⟩) (fun i => i ≤ z.length) (fun i => z.length - i) 0 (Nat.zero_le _) ?_ ?_
 ·(refine z01 (by rfl) ?_ ?_) <;> (repeat' (first | (exact eqA) | (refine shE ?_) | (refine And.intro ?_ ?_))) <;> first | rfl | decide
 ·intro i hi
  by_cases hlt : i < z.length
  ·have hi2 : (i : Int) < (z.length : Int) := by omega
   have gi : z[i]? = some z[i] := List.getElem?_eq_getElem hlt
   have hf := hz _ (List.getElem_mem hlt)
   generalize z[i] = e at hf gi
   obtain ⟨s0, s1, rfl, -⟩ := z7o hf
   have cE := zcx [.str s0, .str s1] hf
   repeat ((try conv => whnf); first | (refine i_at gi ?_) | (refine ccA ([]) (cE) ?_) | (refine stpQ ?_))
   refine ⟨i + 1, hlt, by omega, ?_⟩
   (refine z01 (by rfl) ?_ ?_) <;> (repeat' (first | (exact eqA) | (refine shE ?_) | (refine And.intro ?_ ?_)))
  ·obtain rfl : i = z.length := by omega
   repeat ((try conv => whnf); first | (refine stpQ ?_))
   (refine z07 (by rfl) ?_ ?_ (by rfl)) <;> (repeat' (first | (exact eqA) | (refine shE ?_) | (refine And.intro ?_ ?_)))
theorem za8 (z : List (List T)) (h : z.length ≤ 1048576 ∧ ∀ e ∈ z, Fits 1048576 (.sl 2 z2x) e) : CT Tryz.prog 49 [] [.sl 1 z, .sl 1 z] (.bool true) [] := by
 obtain ⟨hn, hz⟩ := h
 refine z0b z1j 1 rfl Tryz.func49 rfl rfl rfl ?_
 repeat ((try conv => whnf); first | (refine stpQ ?_))
 refine z0Y Nat (fun i => ⟨[(0, .sl 1 z), (1, .sl 1 z), (5, .int .i64 (i : Int))], [], 1⟩) (fun i => i ≤ z.length) (fun i => z.length - i) 0 (Nat.zero_le _) ?_ ?_
 ·(refine z01 (by rfl) ?_ ?_) <;> (repeat' (first | (exact eqA) | (refine shE ?_) | (refine And.intro ?_ ?_))) <;> first | rfl | decide
 ·intro i hi
  by_cases hlt : i < z.length
  ·have hi2 : (i : Int) < (z.length : Int) := by omega
   have gi : z[i]? = some z[i] := List.getElem?_eq_getElem hlt
   have hf := hz _ (List.getElem_mem hlt)
   generalize z[i] = e at hf gi
   obtain ⟨es, rfl, hf1⟩ := hf
   have cE := zbF es hf1
   repeat ((try conv => whnf); first | (refine i_at gi ?_) | (refine ccA ([]) (cE) ?_) | (refine stpQ ?_))
   refine ⟨i + 1, hlt, by omega, ?_⟩
   (refine z01 (by rfl) ?_ ?_) <;> (repeat' (first | (exact eqA) | (refine shE ?_) | (refine And.intro ?_ ?_)))
  ·obtain rfl : i = z.length := by omega
   repeat ((try conv => whnf); first | (refine stpQ ?_))
   (refine z07 (by rfl) ?_ ?_ (by rfl)) <;> (repeat' (first | (exact eqA) | (refine shE ?_) | (refine And.intro ?_ ?_)))
end Go.Proofs.YtnhcfmmdaihneaaGreatDoor
