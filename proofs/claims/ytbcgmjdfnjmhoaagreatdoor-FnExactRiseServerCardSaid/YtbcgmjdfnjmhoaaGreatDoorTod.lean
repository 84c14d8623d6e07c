/- The exact laws copy their arguments: the copies' rows are the caller's own. -/
import Derived.Test.YtbcgmjdfnjmhoaaGreatDoorExO
import Derived.Test.YtbcgmjdfnjmhoaaGreatDoorMk
namespace Go.Proofs.YtbcgmjdfnjmhoaaGreatDoor
set_option maxRecDepth 100000
set_option maxHeartbeats 2000000
set_option linter.unusedVariables false
set_option linter.unusedSimpArgs false
set_option linter.unusedSectionVars false
open Go.RowKit Pl
attribute [local irreducible] z0F z0I z0T AnsP LeP
theorem zde {N : Nat} {z : List (List T)} (h : ∀ e ∈ z, Fits N z0s e) : WfFl z := fun e he => by
 obtain ⟨s0, s1, n2, rfl, -⟩ := z1n (h e he)
 exact ⟨_, _, _, rfl⟩
theorem zeG {z : List (List T)} (h : WfFl z) : ∀ e ∈ z, ∀ c ∈ e, cl0 c := fun e he c hc => by
 obtain ⟨a0, a1, a2, rfl⟩ := h e he
 simp only [List.mem_cons, List.not_mem_nil, or_false] at hc
 rcases hc with rfl | rfl | rfl <;> trivial
theorem zah (z : List (List T)) (h : z.length ≤ 1048576 ∧ ∀ e ∈ z, Fits 1048576 z0s e) : CT Tryz.prog 44 [] [.sl 3 z] (.ref 1) [.row 3 z] := by
 obtain ⟨hn, hz⟩ := h
 refine z01 z03 1 rfl Tryz.func44 rfl rfl rfl ?_
 repeat ((try conv => whnf); first | (refine stpQ ?_))
 refine z0A 0 ⟨[(3, .ref 1)], [(1, some (.row 3 z))], 2⟩ Nat (fun i => ⟨[(0, .sl 3 z), (3, .ref 1), (4, .int .i64 (i : Int))], [(1, some (.row 3 (z.take i ++ List.replicate (z.length - i) ([.str [], .str [], .int .i64 0] : List T))))], 2⟩) (fun i => i ≤ z.length) (fun i => z.length - i) 0 (by omega) ?_ ?_ ?_
 ·(refine z02 (by rfl) ?_ ?_) <;> (repeat' (first | (exact eqA) | (refine shE ?_) | (refine And.intro ?_ ?_))) <;> first | rfl | decide
 ·intro i hi
  by_cases hlt : i < z.length
  ·have hi2 : (i : Int) < (z.length : Int) := by omega
   have gi : z[i]? = some z[i] := List.getElem?_eq_getElem hlt
   have hf := hz _ (List.getElem_mem hlt)
   have hnx := z9q (zero := ([.str [], .str [], .int .i64 0] : List T)) gi
   have hle : ∀ e ∈ z.take i ++ List.replicate (z.length - i) ([.str [], .str [], .int .i64 0] : List T), e.length = 3 := z9r (s := z0s) (N := 1048576) rfl rfl hz
   have hlo : (z.take i ++ List.replicate (z.length - i) ([.str [], .str [], .int .i64 0] : List T)).length = z.length := by rw [List.length_append, List.length_take, List.length_replicate]; omega
   generalize z.take i ++ List.replicate (z.length - i) ([.str [], .str [], .int .i64 0] : List T) = o at hnx hlo hle ⊢
   have hio : i < o.length := by omega
   have gio : o[i]? = some o[i] := List.getElem?_eq_getElem hio
   have hoe := hle _ (List.getElem_mem hio)
   generalize o[i] = oe at gio hoe
   generalize z[i] = e at hf gi hnx
   obtain ⟨s0, s1, n2, rfl, -⟩ := z1n hf
   have cE := z9t [.str s0, .str s1, .int .i64 n2] hf
   repeat ((try conv => whnf); first | (refine i_at gi ?_) | (refine ccA ([]) (cE) ?_) | (refine Exists.intro _ (And.intro gio ?_)) | (refine stpQ ?_))
   refine ⟨i + 1, hlt, by omega, ?_⟩
   rw [← hnx]
   (refine z02 (by rfl) ?_ ?_) <;> (repeat' (first | (exact eqA) | (refine shE ?_) | (refine And.intro ?_ ?_)))
   all_goals exact congrArg (List.set o i) (zc5 hoe)
  ·obtain rfl : i = z.length := by omega
   rw [z9s]
   repeat ((try conv => whnf); first | (refine stpQ ?_))
   (refine z02 (by rfl) ?_ ?_) <;> (repeat' (first | (exact eqA) | (refine shE ?_) | (refine And.intro ?_ ?_)))
 ·repeat ((try conv => whnf); first | (refine stpQ ?_))
  (refine z00 (by rfl) ?_ ?_ (by rfl)) <;> (repeat' (first | (exact eqA) | (refine shE ?_) | (refine And.intro ?_ ?_)))
theorem zai (z : List (List T)) (h : z.length ≤ 1048576 ∧ ∀ e ∈ z, Fits 1048576 z0s e) : CT Tryz.prog 44 [] [.sl 3 z] (.ref 1) [.deep 3 z []] := zc1 0 (zah z h) rfl (by decide) (zeG (zde h.2))
theorem zfq {N : Nat} {z : List (List T)} (h : ∀ e ∈ z, Fits N .int e) : WfIt z := fun e he => by
 obtain ⟨x, rfl, -⟩ := h e he
 exact ⟨_, rfl⟩
theorem zfE {z : List (List T)} (h : WfIt z) : ∀ e ∈ z, ∀ c ∈ e, cl0 c := fun e he c hc => by
 obtain ⟨a0, rfl⟩ := h e he
 simp only [List.mem_cons, List.not_mem_nil, or_false] at hc
 subst hc; trivial
theorem zfd (z : List (List T)) (h : z.length ≤ 1048576 ∧ ∀ e ∈ z, Fits 1048576 .int e) : CT Tryz.prog 81 [] [.sl 1 z] (.ref 1) [.row 1 z] := by
 obtain ⟨hn, hz⟩ := h
 refine z01 z03 1 rfl Tryz.func81 rfl rfl rfl ?_
 repeat ((try conv => whnf); first | (refine stpQ ?_))
 refine z0A 0 ⟨[(3, .ref 1)], [(1, some (.row 1 z))], 2⟩ Nat (fun i => ⟨[(0, .sl 1 z), (3, .ref 1), (4, .int .i64 (i : Int))], [(1, some (.row 1 (z.take i ++ List.replicate (z.length - i) ([.int .i64 0] : List T))))], 2⟩) (fun i => i ≤ z.length) (fun i => z.length - i) 0 (by omega) ?_ ?_ ?_
 ·(refine z02 (by rfl) ?_ ?_) <;> (repeat' (first | (exact eqA) | (refine shE ?_) | (refine And.intro ?_ ?_))) <;> first | rfl | decide
 ·intro i hi
  by_cases hlt : i < z.length
  ·have hi2 : (i : Int) < (z.length : Int) := by omega
   have gi : z[i]? = some z[i] := List.getElem?_eq_getElem hlt
   have hf := hz _ (List.getElem_mem hlt)
   have hnx := z9q (zero := ([.int .i64 0] : List T)) gi
   have hle : ∀ e ∈ z.take i ++ List.replicate (z.length - i) ([.int .i64 0] : List T), e.length = 1 := z9r (s := .int) (N := 1048576) rfl rfl hz
   have hlo : (z.take i ++ List.replicate (z.length - i) ([.int .i64 0] : List T)).length = z.length := by rw [List.length_append, List.length_take, List.length_replicate]; omega
   generalize z.take i ++ List.replicate (z.length - i) ([.int .i64 0] : List T) = o at hnx hlo hle ⊢
   have hio : i < o.length := by omega
   have gio : o[i]? = some o[i] := List.getElem?_eq_getElem hio
   have hoe := hle _ (List.getElem_mem hio)
   generalize o[i] = oe at gio hoe
   generalize z[i] = e at hf gi hnx
   obtain ⟨n, rfl, hf1⟩ := hf
   repeat ((try conv => whnf); first | (refine i_at gi ?_) | (refine Exists.intro _ (And.intro gio ?_)) | (refine stpQ ?_))
   refine ⟨i + 1, hlt, by omega, ?_⟩
   rw [← hnx]
   (refine z02 (by rfl) ?_ ?_) <;> (repeat' (first | (exact eqA) | (refine shE ?_) | (refine And.intro ?_ ?_)))
   all_goals exact congrArg (List.set o i) (zc5 hoe)
  ·obtain rfl : i = z.length := by omega
   rw [z9s]
   repeat ((try conv => whnf); first | (refine stpQ ?_))
   (refine z02 (by rfl) ?_ ?_) <;> (repeat' (first | (exact eqA) | (refine shE ?_) | (refine And.intro ?_ ?_)))
 ·repeat ((try conv => whnf); first | (refine stpQ ?_))
  (refine z00 (by rfl) ?_ ?_ (by rfl)) <;> (repeat' (first | (exact eqA) | (refine shE ?_) | (refine And.intro ?_ ?_)))
theorem zfe (z : List (List T)) (h : z.length ≤ 1048576 ∧ ∀ e ∈ z, Fits 1048576 .int e) : CT Tryz.prog 81 [] [.sl 1 z] (.ref 1) [.deep 1 z []] := zc1 0 (zfd z h) rfl (by decide) (zfE (zfq h.2))
theorem zfr {N : Nat} {z : List (List T)} (h : ∀ e ∈ z, Fits N z1S e) : WfCh z := fun e he => by
 obtain ⟨n0, s1, s2, rfl, -⟩ := z4N (h e he)
 exact ⟨_, _, _, rfl⟩
theorem zfF {z : List (List T)} (h : WfCh z) : ∀ e ∈ z, ∀ c ∈ e, cl0 c := fun e he c hc => by
 obtain ⟨a0, a1, a2, rfl⟩ := h e he
 simp only [List.mem_cons, List.not_mem_nil, or_false] at hc
 rcases hc with rfl | rfl | rfl <;> trivial
theorem zeR (z : List (List T)) (h : z.length ≤ 1048576 ∧ ∀ e ∈ z, Fits 1048576 z1S e) : CT Tryz.prog 82 [] [.sl 3 z] (.ref 1) [.row 3 z] := by
 obtain ⟨hn, hz⟩ := h
 refine z01 z03 1 rfl Tryz.func82 rfl rfl rfl ?_
 repeat ((try conv => whnf); first | (refine stpQ ?_))
 refine z0A 0 ⟨[(3, .ref 1)], [(1, some (.row 3 z))], 2⟩ Nat (fun i => ⟨[(0, .sl 3 z), (3, .ref 1), (4, .int .i64 (i : Int))], [(1, some (.row 3 (z.take i ++ List.replicate (z.length - i) ([.int .i64 0, .str [], .str []] : List T))))], 2⟩) (fun i => i ≤ z.length) (fun i => z.length - i) 0 (by omega) ?_ ?_ ?_
 ·(refine z02 (by rfl) ?_ ?_) <;> (repeat' (first | (exact eqA) | (refine shE ?_) | (refine And.intro ?_ ?_))) <;> first | rfl | decide
 ·intro i hi
  by_cases hlt : i < z.length
  ·have hi2 : (i : Int) < (z.length : Int) := by omega
   have gi : z[i]? = some z[i] := List.getElem?_eq_getElem hlt
   have hf := hz _ (List.getElem_mem hlt)
   have hnx := z9q (zero := ([.int .i64 0, .str [], .str []] : List T)) gi
   have hle : ∀ e ∈ z.take i ++ List.replicate (z.length - i) ([.int .i64 0, .str [], .str []] : List T), e.length = 3 := z9r (s := z1S) (N := 1048576) rfl rfl hz
   have hlo : (z.take i ++ List.replicate (z.length - i) ([.int .i64 0, .str [], .str []] : List T)).length = z.length := by rw [List.length_append, List.length_take, List.length_replicate]; omega
   generalize z.take i ++ List.replicate (z.length - i) ([.int .i64 0, .str [], .str []] : List T) = o at hnx hlo hle ⊢
   have hio : i < o.length := by omega
   have gio : o[i]? = some o[i] := List.getElem?_eq_getElem hio
   have hoe := hle _ (List.getElem_mem hio)
   generalize o[i] = oe at gio hoe
   generalize z[i] = e at hf gi hnx
   obtain ⟨n0, s1, s2, rfl, -⟩ := z4N hf
   have cE := zeL [.int .i64 n0, .str s1, .str s2] hf
   repeat ((try conv => whnf); first | (refine i_at gi ?_) | (refine ccA ([]) (cE) ?_) | (refine Exists.intro _ (And.intro gio ?_)) | (refine stpQ ?_))
   refine ⟨i + 1, hlt, by omega, ?_⟩
   rw [← hnx]
   (refine z02 (by rfl) ?_ ?_) <;> (repeat' (first | (exact eqA) | (refine shE ?_) | (refine And.intro ?_ ?_)))
   all_goals exact congrArg (List.set o i) (zc5 hoe)
  ·obtain rfl : i = z.length := by omega
   rw [z9s]
   repeat ((try conv => whnf); first | (refine stpQ ?_))
   (refine z02 (by rfl) ?_ ?_) <;> (repeat' (first | (exact eqA) | (refine shE ?_) | (refine And.intro ?_ ?_)))
 ·repeat ((try conv => whnf); first | (refine stpQ ?_))
  (refine z00 (by rfl) ?_ ?_ (by rfl)) <;> (repeat' (first | (exact eqA) | (refine shE ?_) | (refine And.intro ?_ ?_)))
theorem zeS (z : List (List T)) (h : z.length ≤ 1048576 ∧ ∀ e ∈ z, Fits 1048576 z1S e) : CT Tryz.prog 82 [] [.sl 3 z] (.ref 1) [.deep 3 z []] := zc1 0 (zeR z h) rfl (by decide) (zfF (zfr h.2))
theorem zfs {N : Nat} {z : List (List T)} (h : ∀ e ∈ z, Fits N z2x e) : WfLf z := fun e he => by
 obtain ⟨s0, s1, rfl, -⟩ := z77 (h e he)
 exact ⟨_, _, rfl⟩
theorem zfG {z : List (List T)} (h : WfLf z) : ∀ e ∈ z, ∀ c ∈ e, cl0 c := fun e he c hc => by
 obtain ⟨a0, a1, rfl⟩ := h e he
 simp only [List.mem_cons, List.not_mem_nil, or_false] at hc
 rcases hc with rfl | rfl <;> trivial
theorem zf5 (z : List (List T)) (h : z.length ≤ 1048576 ∧ ∀ e ∈ z, Fits 1048576 z2x e) : CT Tryz.prog 156 [] [.sl 2 z] (.ref 1) [.row 2 z] := by
 obtain ⟨hn, hz⟩ := h
 refine z01 z03 1 rfl Tryz.func156 rfl rfl rfl ?_
 repeat ((try conv => whnf); first | (refine stpQ ?_))
 refine z0A 0 ⟨[(3, .ref 1)], [(1, some (.row 2 z))], 2⟩ Nat (fun i => ⟨[(0, .sl 2 z), (3, .ref 1), (4, .int .i64 (i : Int))], [(1, some (.row 2 (z.take i ++ List.replicate (z.length - i) ([.str [], .str []] : List T))))], 2⟩) (fun i => i ≤ z.length) (fun i => z.length - i) 0 (by omega) ?_ ?_ ?_
 ·(refine z02 (by rfl) ?_ ?_) <;> (repeat' (first | (exact eqA) | (refine shE ?_) | (refine And.intro ?_ ?_))) <;> first | rfl | decide
 ·intro i hi
  by_cases hlt : i < z.length
  ·have hi2 : (i : Int) < (z.length : Int) := by omega
   have gi : z[i]? = some z[i] := List.getElem?_eq_getElem hlt
   have hf := hz _ (List.getElem_mem hlt)
   have hnx := z9q (zero := ([.str [], .str []] : List T)) gi
   have hle : ∀ e ∈ z.take i ++ List.replicate (z.length - i) ([.str [], .str []] : List T), e.length = 2 := z9r (s := z2x) (N := 1048576) rfl rfl hz
   have hlo : (z.take i ++ List.replicate (z.length - i) ([.str [], .str []] : List T)).length = z.length := by rw [List.length_append, List.length_take, List.length_replicate]; omega
   generalize z.take i ++ List.replicate (z.length - i) ([.str [], .str []] : List T) = o at hnx hlo hle ⊢
   have hio : i < o.length := by omega
   have gio : o[i]? = some o[i] := List.getElem?_eq_getElem hio
   have hoe := hle _ (List.getElem_mem hio)
   generalize o[i] = oe at gio hoe
   generalize z[i] = e at hf gi hnx
   obtain ⟨s0, s1, rfl, -⟩ := z77 hf
   have cE := zf0 [.str s0, .str s1] hf
   repeat ((try conv => whnf); first | (refine i_at gi ?_) | (refine ccA ([]) (cE) ?_) | (refine Exists.intro _ (And.intro gio ?_)) | (refine stpQ ?_))
   refine ⟨i + 1, hlt, by omega, ?_⟩
   rw [← hnx]
   (refine z02 (by rfl) ?_ ?_) <;> (repeat' (first | (exact eqA) | (refine shE ?_) | (refine And.intro ?_ ?_)))
   all_goals exact congrArg (List.set o i) (zc5 hoe)
  ·obtain rfl : i = z.length := by omega
   rw [z9s]
   repeat ((try conv => whnf); first | (refine stpQ ?_))
   (refine z02 (by rfl) ?_ ?_) <;> (repeat' (first | (exact eqA) | (refine shE ?_) | (refine And.intro ?_ ?_)))
 ·repeat ((try conv => whnf); first | (refine stpQ ?_))
  (refine z00 (by rfl) ?_ ?_ (by rfl)) <;> (repeat' (first | (exact eqA) | (refine shE ?_) | (refine And.intro ?_ ?_)))
theorem zf6 (z : List (List T)) (h : z.length ≤ 1048576 ∧ ∀ e ∈ z, Fits 1048576 z2x e) : CT Tryz.prog 156 [] [.sl 2 z] (.ref 1) [.deep 2 z []] := zc1 0 (zf5 z h) rfl (by decide) (zfG (zfs h.2))
theorem zc7 (z : List (List T)) (h : z.length ≤ 1048576 ∧ ∀ e ∈ z, Fits 1048576 z0s e) : CT Tryz.prog 11 [] [.agg [.sl 3 z]] (.agg [.ref 1]) [.deep 3 z []] := by
 have c0 := zai z h
 refine z01 z03 1 rfl Tryz.func11 rfl rfl rfl ?_
 repeat ((try conv => whnf); first | (refine ccA ([]) (c0) ?_) | (refine And.intro (by kernel_rfl) ?_) | (refine stpQ ?_))
 (refine z00 (by rfl) ?_ ?_ (by rfl)) <;> (repeat' (first | (exact eqA) | (refine shE ?_) | (refine And.intro ?_ ?_)))
end Go.Proofs.YtbcgmjdfnjmhoaaGreatDoor
