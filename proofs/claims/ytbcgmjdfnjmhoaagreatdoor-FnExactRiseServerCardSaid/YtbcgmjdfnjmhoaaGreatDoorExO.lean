/- The exact laws copy their arguments: what the functions to.. answer is alike. -/
import Derived.Test.YtbcgmjdfnjmhoaaGreatDoorXt
namespace Go.Proofs.YtbcgmjdfnjmhoaaGreatDoor
set_option maxRecDepth 100000
set_option maxHeartbeats 2000000
set_option linter.unusedVariables false
set_option linter.unusedSimpArgs false
set_option linter.unusedSectionVars false
open Go.RowKit Pl
attribute [local irreducible] z0F z0I z0T AnsP LeP
theorem z9q {α : Type} {z : List α} {zero : α} {i : Nat} {e : α} (h : z[i]? = some e) : (z.take i ++ List.replicate (z.length - i) zero).set i e = z.take (i + 1) ++ List.replicate (z.length - (i + 1)) zero := by
 obtain ⟨hi, rfl⟩ := List.getElem?_eq_some_iff.1 h
 have hl : (z.take i).length = i := by rw [List.length_take]; omega
 obtain ⟨m, hm⟩ : ∃ m, z.length - i = m + 1 := ⟨z.length - i - 1, by omega⟩
 rw [hm, List.set_append_right _ _ (by omega), hl, Nat.sub_self, List.replicate_succ, List.set_cons_zero, List.take_succ_eq_append_getElem hi, List.append_assoc, show z.length - (i + 1) = m by omega]
 rfl
theorem z9r {s : Shp} {N k i m : Nat} {z : List (List T)} {zr : List T} (hw : s.wd = k) (hr : zr.length = k) (hz : ∀ e ∈ z, Fits N s e) : ∀ e ∈ z.take i ++ List.replicate m zr, e.length = k := fun e he => by
 rcases List.mem_append.1 he with h | h
 ·rw [(hz e (List.mem_of_mem_take h)).len, hw]
 ·rw [(List.mem_replicate.1 h).2, hr]
theorem zc5 {oe cs : List T} (h : oe.length = cs.length) : ovl oe 0 cs = cs := by
 rw [z2J _ _ _ (by omega), List.take_zero, List.nil_append, Nat.zero_add, List.drop_eq_nil_of_le (by omega), List.append_nil]
theorem z9s {α : Type} (z : List α) (zero : α) : z.take z.length ++ List.replicate (z.length - z.length) zero = z := by simp
theorem zf0 (e : List T) (h : Fits 1048576 z2x e) : CT Tryz.prog 200 [] [.agg e] (.agg e) [] := by
 obtain ⟨s0, s1, rfl, qs0, qs1, -⟩ := z77 h
 clear h
 refine z01 z03 1 rfl Tryz.func200 rfl rfl rfl ?_
 repeat ((try conv => whnf); first | (refine And.intro (by kernel_rfl) ?_) | (refine stpQ ?_))
 (refine z00 (by rfl) ?_ ?_ (by rfl)) <;> (repeat' (first | (exact eqA) | (refine shE ?_) | (refine And.intro ?_ ?_)))
theorem zeL (e : List T) (h : Fits 1048576 z1S e) : CT Tryz.prog 157 [] [.agg e] (.agg e) [] := by
 obtain ⟨n0, s1, s2, rfl, qn0, qs1, qs2, -⟩ := z4N h
 clear h
 refine z01 z03 1 rfl Tryz.func157 rfl rfl rfl ?_
 repeat ((try conv => whnf); first | (refine And.intro (by kernel_rfl) ?_) | (refine stpQ ?_))
 (refine z00 (by rfl) ?_ ?_ (by rfl)) <;> (repeat' (first | (exact eqA) | (refine shE ?_) | (refine And.intro ?_ ?_)))
theorem zeQ (e : List T) (h : Fits 1048576 z4h e) : CT Tryz.prog 83 [] [.agg e] (.agg e) [] := by
 obtain ⟨n0, n1, n2, rfl, qn0, qn1, qn2, -⟩ := z5G h
 clear h
 refine z01 z03 1 rfl Tryz.func83 rfl rfl rfl ?_
 repeat ((try conv => whnf); first | (refine And.intro (by kernel_rfl) ?_) | (refine stpQ ?_))
 (refine z00 (by rfl) ?_ ?_ (by rfl)) <;> (repeat' (first | (exact eqA) | (refine shE ?_) | (refine And.intro ?_ ?_)))
theorem z9t (e : List T) (h : Fits 1048576 z0s e) : CT Tryz.prog 122 [] [.agg e] (.agg e) [] := by
 obtain ⟨s0, s1, n2, rfl, qs0, qs1, qn2, -⟩ := z1n h
 clear h
 refine z01 z03 1 rfl Tryz.func122 rfl rfl rfl ?_
 repeat ((try conv => whnf); first | (refine And.intro (by kernel_rfl) ?_) | (refine stpQ ?_))
 (refine z00 (by rfl) ?_ ?_ (by rfl)) <;> (repeat' (first | (exact eqA) | (refine shE ?_) | (refine And.intro ?_ ?_)))
theorem zc6 (z : List (List T)) (h : z.length ≤ 1048576 ∧ ∀ e ∈ z, Fits 1048576 z0s e) : CT Tryz.prog 44 [] [.sl 3 z] (.sl 3 z) [] := by
 obtain ⟨hn, hz⟩ := h
 refine z01 z03 1 rfl Tryz.func44 rfl rfl rfl ?_
 repeat ((try conv => whnf); first | (refine stpQ ?_))
 refine z0A 0 ⟨[(3, .ref 1)], [(1, some (.row 3 z))], 2⟩ Nat (fun i => ⟨[(0, .sl 3 z), (3, .ref 1), (4, .int .i64 (i : Int))], [(1, some (.row 3 (z.take i ++ List.replicate (z.length - i) ([.str [], .str [], .int .i64 0] : List T))))], 2⟩) (fun i => i ≤ z.length) (fun i => z.length - i) 0 (by omega) ?_ ?_ ?_
 ·(refine z02 (by rfl) ?_ ?_) <;> (repeat' (first | (exact eqA) | (refine shE ?_) | (refine And.intro ?_ ?_))) <;> first | rfl | decide
 ·intro i hi
  by_cases hlt : i < z.length
  ·have hi2 : (i : Int) < (z.length : Int) := by omega
   have gi : z[i]? = some z[i] := List.getElem?_eq_getElem hlt
   have hf := hz _ (List.getElem_mem hlt)
   have hnx := z9q (zero := ([.str [], .str [], .int .i64 0] : List T)) gi
   have hle : ∀ e ∈ z.take i ++ List.replicate (z.length - i) ([.str [], .str [], .int .i64 0] : List T), e.length = 3 := z9r (s := z0s) (N := 1048576) rfl rfl hz
   have hlo : (z.take i ++ List.replicate (z.length - i) ([.str [], .str [], .int .i64 0] : List T)).length = z.length := by rw [List.length_append, List.length_take, List.length_replicate]; omega
   generalize z.take i ++ List.replicate (z.length - i) ([.str [], .str [], .int .i64 0] : List T) = o at hnx hlo hle ⊢
   have hio : i < o.length := by omega
   have gio : o[i]? = some o[i] := List.getElem?_eq_getElem hio
   have hoe := hle _ (List.getElem_mem hio)
   generalize o[i] = oe at gio hoe
   generalize z[i] = e at hf gi hnx
   obtain ⟨s0, s1, n2, rfl, -⟩ := z1n hf
   have cE := z9t [.str s0, .str s1, .int .i64 n2] hf
   repeat ((try conv => whnf); first | (refine i_at gi ?_) | (refine ccA ([]) (cE) ?_) | (refine Exists.intro _ (And.intro gio ?_)) | (refine stpQ ?_))
   refine ⟨i + 1, hlt, by omega, ?_⟩
   rw [← hnx]
   (refine z02 (by rfl) ?_ ?_) <;> (repeat' (first | (exact eqA) | (refine shE ?_) | (refine And.intro ?_ ?_)))
   all_goals exact congrArg (List.set o i) (zc5 hoe)
  ·obtain rfl : i = z.length := by omega
   rw [z9s]
   repeat ((try conv => whnf); first | (refine stpQ ?_))
   (refine z02 (by rfl) ?_ ?_) <;> (repeat' (first | (exact eqA) | (refine shE ?_) | (refine And.intro ?_ ?_)))
 ·repeat ((try conv => whnf); first | (refine stpQ ?_))
  (refine z00 (by rfl) ?_ ?_ (by rfl)) <;> (repeat' (first | (exact eqA) | (refine shE ?_) | (refine And.intro ?_ ?_)))
theorem zdd (e : List T) (h : Fits 1048576 z1b e) : CT Tryz.prog 11 [] [.agg e] (.agg e) [] := by
 obtain ⟨z0, rfl, qz0, -⟩ := z26 h
 clear h
 have c0 := zc6 z0 qz0
 refine z01 z03 1 rfl Tryz.func11 rfl rfl rfl ?_
 repeat ((try conv => whnf); first | (refine ccA ([]) (c0) ?_) | (refine And.intro (by kernel_rfl) ?_) | (refine stpQ ?_))
 (refine z00 (by rfl) ?_ ?_ (by rfl)) <;> (repeat' (first | (exact eqA) | (refine shE ?_) | (refine And.intro ?_ ?_)))
theorem zfc (z : List (List T)) (h : z.length ≤ 1048576 ∧ ∀ e ∈ z, Fits 1048576 z2x e) : CT Tryz.prog 156 [] [.sl 2 z] (.sl 2 z) [] := by
 obtain ⟨hn, hz⟩ := h
 refine z01 z03 1 rfl Tryz.func156 rfl rfl rfl ?_
 repeat ((try conv => whnf); first | (refine stpQ ?_))
 refine z0A 0 ⟨[(3, .ref 1)], [(1, some (.row 2 z))], 2⟩ Nat (fun i => ⟨[(0, .sl 2 z), (3, .ref 1), (4, .int .i64 (i : Int))], [(1, some (.row 2 (z.take i ++ List.replicate (z.length - i) ([.str [], .str []] : List T))))], 2⟩) (fun i => i ≤ z.length) (fun i => z.length - i) 0 (by omega) ?_ ?_ ?_
 ·(refine z02 (by rfl) ?_ ?_) <;> (repeat' (first | (exact eqA) | (refine shE ?_) | (refine And.intro ?_ ?_))) <;> first | rfl | decide
 ·intro i hi
  by_cases hlt : i < z.length
  ·have hi2 : (i : Int) < (z.length : Int) := by omega
   have gi : z[i]? = some z[i] := List.getElem?_eq_getElem hlt
   have hf := hz _ (List.getElem_mem hlt)
   have hnx := z9q (zero := ([.str [], .str []] : List T)) gi
   have hle : ∀ e ∈ z.take i ++ List.replicate (z.length - i) ([.str [], .str []] : List T), e.length = 2 := z9r (s := z2x) (N := 1048576) rfl rfl hz
   have hlo : (z.take i ++ List.replicate (z.length - i) ([.str [], .str []] : List T)).length = z.length := by rw [List.length_append, List.length_take, List.length_replicate]; omega
   generalize z.take i ++ List.replicate (z.length - i) ([.str [], .str []] : List T) = o at hnx hlo hle ⊢
   have hio : i < o.length := by omega
   have gio : o[i]? = some o[i] := List.getElem?_eq_getElem hio
   have hoe := hle _ (List.getElem_mem hio)
   generalize o[i] = oe at gio hoe
   generalize z[i] = e at hf gi hnx
   obtain ⟨s0, s1, rfl, -⟩ := z77 hf
   have cE := zf0 [.str s0, .str s1] hf
   repeat ((try conv => whnf); first | (refine i_at gi ?_) | (refine ccA ([]) (cE) ?_) | (refine Exists.intro _ (And.intro gio ?_)) | (refine stpQ ?_))
   refine ⟨i + 1, hlt, by omega, ?_⟩
   rw [← hnx]
   (refine z02 (by rfl) ?_ ?_) <;> (repeat' (first | (exact eqA) | (refine shE ?_) | (refine And.intro ?_ ?_)))
   all_goals exact congrArg (List.set o i) (zc5 hoe)
  ·obtain rfl : i = z.length := by omega
   rw [z9s]
   repeat ((try conv => whnf); first | (refine stpQ ?_))
   (refine z02 (by rfl) ?_ ?_) <;> (repeat' (first | (exact eqA) | (refine shE ?_) | (refine And.intro ?_ ?_)))
 ·repeat ((try conv => whnf); first | (refine stpQ ?_))
  (refine z00 (by rfl) ?_ ?_ (by rfl)) <;> (repeat' (first | (exact eqA) | (refine shE ?_) | (refine And.intro ?_ ?_)))
theorem zf3 (z : List (List T)) (h : z.length ≤ 1048576 ∧ ∀ e ∈ z, Fits 1048576 (.sl 2 z2x) e) : CT Tryz.prog 80 [] [.sl 1 z] (.sl 1 z) [] := by
 obtain ⟨hn, hz⟩ := h
 refine z01 z03 1 rfl Tryz.func80 rfl rfl rfl ?_
 repeat ((try conv => whnf); first | (refine stpQ ?_))
 refine z0A 0 ⟨[(3, .ref 1)], [(1, some (.row 1 z))], 2⟩ Nat (fun i => ⟨[(0, .sl 1 z), (3, .ref 1), (4, .int .i64 (i : Int))], [(1, some (.row 1 (z.take i ++ List.replicate (z.length - i) ([.val nilV] : List T))))], 2⟩) (fun i => i ≤ z.length) (fun i => z.length - i) 0 (by omega) ?_ ?_ ?_
 ·(refine z02 (by rfl) ?_ ?_) <;> (repeat' (first | (exact eqA) | (refine shE ?_) | (refine And.intro ?_ ?_))) <;> first | rfl | decide
 ·intro i hi
  by_cases hlt : i < z.length
  ·have hi2 : (i : Int) < (z.length : Int) := by omega
   have gi : z[i]? = some z[i] := List.getElem?_eq_getElem hlt
   have hf := hz _ (List.getElem_mem hlt)
   have hnx := z9q (zero := ([.val nilV] : List T)) gi
   have hle : ∀ e ∈ z.take i ++ List.replicate (z.length - i) ([.val nilV] : List T), e.length = 1 := z9r (s := (.sl 2 z2x)) (N := 1048576) rfl rfl hz
   have hlo : (z.take i ++ List.replicate (z.length - i) ([.val nilV] : List T)).length = z.length := by rw [List.length_append, List.length_take, List.length_replicate]; omega
   generalize z.take i ++ List.replicate (z.length - i) ([.val nilV] : List T) = o at hnx hlo hle ⊢
   have hio : i < o.length := by omega
   have gio : o[i]? = some o[i] := List.getElem?_eq_getElem hio
   have hoe := hle _ (List.getElem_mem hio)
   generalize o[i] = oe at gio hoe
   generalize z[i] = e at hf gi hnx
   obtain ⟨es, rfl, hf1⟩ := hf
   have cE := zfc es hf1
   repeat ((try conv => whnf); first | (refine i_at gi ?_) | (refine ccA ([]) (cE) ?_) | (refine Exists.intro _ (And.intro gio ?_)) | (refine stpQ ?_))
   refine ⟨i + 1, hlt, by omega, ?_⟩
   rw [← hnx]
   (refine z02 (by rfl) ?_ ?_) <;> (repeat' (first | (exact eqA) | (refine shE ?_) | (refine And.intro ?_ ?_)))
   all_goals exact congrArg (List.set o i) (zc5 hoe)
  ·obtain rfl : i = z.length := by omega
   rw [z9s]
   repeat ((try conv => whnf); first | (refine stpQ ?_))
   (refine z02 (by rfl) ?_ ?_) <;> (repeat' (first | (exact eqA) | (refine shE ?_) | (refine And.intro ?_ ?_)))
 ·repeat ((try conv => whnf); first | (refine stpQ ?_))
  (refine z00 (by rfl) ?_ ?_ (by rfl)) <;> (repeat' (first | (exact eqA) | (refine shE ?_) | (refine And.intro ?_ ?_)))
theorem zfp (z : List (List T)) (h : z.length ≤ 1048576 ∧ ∀ e ∈ z, Fits 1048576 .int e) : CT Tryz.prog 81 [] [.sl 1 z] (.sl 1 z) [] := by
 obtain ⟨hn, hz⟩ := h
 refine z01 z03 1 rfl Tryz.func81 rfl rfl rfl ?_
 repeat ((try conv => whnf); first | (refine stpQ ?_))
 refine z0A 0 ⟨[(3, .ref 1)], [(1, some (.row 1 z))], 2⟩ Nat (fun i => ⟨[(0, .sl 1 z), (3, .ref 1), (4, .int .i64 (i : Int))], [(1, some (.row 1 (z.take i ++ List.replicate (z.length - i) ([.int .i64 0] : List T))))], 2⟩) (fun i => i ≤ z.length) (fun i => z.length - i) 0 (by omega) ?_ ?_ ?_
 ·(refine z02 (by rfl) ?_ ?_) <;> (repeat' (first | (exact eqA) | (refine shE ?_) | (refine And.intro ?_ ?_))) <;> first | rfl | decide
 ·intro i hi
  by_cases hlt : i < z.length
  ·have hi2 : (i : Int) < (z.length : Int) := by omega
   have gi : z[i]? = some z[i] := List.getElem?_eq_getElem hlt
   have hf := hz _ (List.getElem_mem hlt)
   have hnx := z9q (zero := ([.int .i64 0] : List T)) gi
   have hle : ∀ e ∈ z.take i ++ List.replicate (z.length - i) ([.int .i64 0] : List T), e.length = 1 := z9r (s := .int) (N := 1048576) rfl rfl hz
   have hlo : (z.take i ++ List.replicate (z.length - i) ([.int .i64 0] : List T)).length = z.length := by rw [List.length_append, List.length_take, List.length_replicate]; omega
   generalize z.take i ++ List.replicate (z.length - i) ([.int .i64 0] : List T) = o at hnx hlo hle ⊢
   have hio : i < o.length := by omega
   have gio : o[i]? = some o[i] := List.getElem?_eq_getElem hio
   have hoe := hle _ (List.getElem_mem hio)
   generalize o[i] = oe at gio hoe
   generalize z[i] = e at hf gi hnx
   obtain ⟨n, rfl, hf1⟩ := hf
   repeat ((try conv => whnf); first | (refine i_at gi ?_) | (refine Exists.intro _ (And.intro gio ?_)) | (refine stpQ ?_))
   refine ⟨i + 1, hlt, by omega, ?_⟩
   rw [← hnx]
   (refine z02 (by rfl) ?_ ?_) <;> (repeat' (first | (exact eqA) | (refine shE ?_) | (refine And.intro ?_ ?_)))
   all_goals exact congrArg (List.set o i) (zc5 hoe)
  ·obtain rfl : i = z.length := by omega
   rw [z9s]
   repeat ((try conv => whnf); first | (refine stpQ ?_))
   (refine z02 (by rfl) ?_ ?_) <;> (repeat' (first | (exact eqA) | (refine shE ?_) | (refine And.intro ?_ ?_)))
 ·repeat ((try conv => whnf); first | (refine stpQ ?_))
  (refine z00 (by rfl) ?_ ?_ (by rfl)) <;> (repeat' (first | (exact eqA) | (refine shE ?_) | (refine And.intro ?_ ?_)))
theorem zeV (z : List (List T)) (h : z.length ≤ 1048576 ∧ ∀ e ∈ z, Fits 1048576 z1S e) : CT Tryz.prog 82 [] [.sl 3 z] (.sl 3 z) [] := by
 obtain ⟨hn, hz⟩ := h
 refine z01 z03 1 rfl Tryz.func82 rfl rfl rfl ?_
 repeat ((try conv => whnf); first | (refine stpQ ?_))
 refine z0A 0 ⟨[(3, .ref 1)], [(1, some (.row 3 z))], 2⟩ Nat (fun i => ⟨[(0, .sl 3 z), (3, .ref 1), (4, .int .i64 (i : Int))], [(1, some (.row 3 (z.take i ++ List.replicate (z.length - i) ([.int .i64 0, .str [], .str []] : List T))))], 2⟩) (fun i => i ≤ z.length) (fun i => z.length - i) 0 (by omega) ?_ ?_ ?_
 ·(refine z02 (by rfl) ?_ ?_) <;> (repeat' (first | (exact eqA) | (refine shE ?_) | (refine And.intro ?_ ?_))) <;> first | rfl | decide
 ·intro i hi
  by_cases hlt : i < z.length
  ·have hi2 : (i : Int) < (z.length : Int) := by omega
   have gi : z[i]? = some z[i] := List.getElem?_eq_getElem hlt
   have hf := hz _ (List.getElem_mem hlt)
   have hnx := z9q (zero := ([.int .i64 0, .str [], .str []] : List T)) gi
   have hle : ∀ e ∈ z.take i ++ List.replicate (z.length - i) ([.int .i64 0, .str [], .str []] : List T), e.length = 3 := z9r (s := z1S) (N := 1048576) rfl rfl hz
   have hlo : (z.take i ++ List.replicate (z.length - i) ([.int .i64 0, .str [], .str []] : List T)).length = z.length := by rw [List.length_append, List.length_take, List.length_replicate]; omega
   generalize z.take i ++ List.replicate (z.length - i) ([.int .i64 0, .str [], .str []] : List T) = o at hnx hlo hle ⊢
   have hio : i < o.length := by omega
   have gio : o[i]? = some o[i] := List.getElem?_eq_getElem hio
   have hoe := hle _ (List.getElem_mem hio)
   generalize o[i] = oe at gio hoe
   generalize z[i] = e at hf gi hnx
   obtain ⟨n0, s1, s2, rfl, -⟩ := z4N hf
   have cE := zeL [.int .i64 n0, .str s1, .str s2] hf
   repeat ((try conv => whnf); first | (refine i_at gi ?_) | (refine ccA ([]) (cE) ?_) | (refine Exists.intro _ (And.intro gio ?_)) | (refine stpQ ?_))
   refine ⟨i + 1, hlt, by omega, ?_⟩
   rw [← hnx]
   (refine z02 (by rfl) ?_ ?_) <;> (repeat' (first | (exact eqA) | (refine shE ?_) | (refine And.intro ?_ ?_)))
   all_goals exact congrArg (List.set o i) (zc5 hoe)
  ·obtain rfl : i = z.length := by omega
   rw [z9s]
   repeat ((try conv => whnf); first | (refine stpQ ?_))
   (refine z02 (by rfl) ?_ ?_) <;> (repeat' (first | (exact eqA) | (refine shE ?_) | (refine And.intro ?_ ?_)))
 ·repeat ((try conv => whnf); first | (refine stpQ ?_))
  (refine z00 (by rfl) ?_ ?_ (by rfl)) <;> (repeat' (first | (exact eqA) | (refine shE ?_) | (refine And.intro ?_ ?_)))
theorem zf4 (e : List T) (h : Fits 1048576 z2y e) : CT Tryz.prog 25 [] [.agg e] (.agg e) [] := by
 obtain ⟨n0, n1, b2, z3, n4, z5, z6, z7, n8, n9, n10, rfl, qn0, qn1, qb2, qz3, qn4, qz5, qz6, qz7, qn8, qn9, qn10, -⟩ := z7Z h
 clear h
 have c3 := zdd [.sl 3 z3] (zbp qz3)
 have c5 := zf3 z5 qz5
 have c6 := zfp z6 qz6
 have c7 := zeV z7 qz7
 have c8 := zeQ [.int .i64 n8, .int .i64 n9, .int .i64 n10] (z9e qn8 qn9 qn10)
 refine z01 z03 1 rfl Tryz.func25 rfl rfl rfl ?_
 repeat ((try conv => whnf); first | (refine ccA ([]) (c3) ?_) | (refine ccA ([]) (c5) ?_) | (refine ccA ([]) (c6) ?_) | (refine ccA ([]) (c7) ?_) | (refine ccA ([]) (c8) ?_) | (refine And.intro (by kernel_rfl) ?_) | (refine stpQ ?_))
 (refine z00 (by rfl) ?_ ?_ (by rfl)) <;> (repeat' (first | (exact eqA) | (refine shE ?_) | (refine And.intro ?_ ?_)))
end Go.Proofs.YtbcgmjdfnjmhoaaGreatDoor
