/- The exact laws copy their arguments: what the functions to.. answer is alike. -/
import Derived.Test.YtnhcfmmdaihneaaGreatDoorXt
namespace Go.Proofs.YtnhcfmmdaihneaaGreatDoor
set_option maxRecDepth 100000
set_option maxHeartbeats 2000000
set_option linter.unusedVariables false
set_option linter.unusedSimpArgs false
set_option linter.unusedSectionVars false
open Go.RowKit Pl
attribute [local irreducible] z0w z0x z0A AnsP LeP
theorem z2h {α : Type} {z : List α} {zero : α} {i : Nat} {e : α} (h : z[i]? = some e) : (z.take i ++ List.replicate (z.length - i) zero).set i e = z.take (i + 1) ++ List.replicate (z.length - (i + 1)) zero := by
 obtain ⟨hi, rfl⟩ := List.getElem?_eq_some_iff.1 h
 have hl : (z.take i).length = i := by rw [List.length_take]; omega
 obtain ⟨m, hm⟩ : ∃ m, z.length - i = m + 1 := ⟨z.length - i - 1, by omega⟩
 rw [hm, List.set_append_right _ _ (by omega), hl, Nat.sub_self, List.replicate_succ, List.set_cons_zero, List.take_succ_eq_append_getElem hi, List.append_assoc, show z.length - (i + 1) = m by omega]
 rfl
theorem z2z {s : Shp} {N k i m : Nat} {z : List (List T)} {zr : List T} (hw : s.wd = k) (hr : zr.length = k) (hz : ∀ e ∈ z, Fits N s e) : ∀ e ∈ z.take i ++ List.replicate m zr, e.length = k := fun e he => by
 rcases List.mem_append.1 he with h | h
 ·rw [(hz e (List.mem_of_mem_take h)).len, hw]
 ·rw [(List.mem_replicate.1 h).2, hr]
theorem z3y {oe cs : List T} (h : oe.length = cs.length) : ovl oe 0 cs = cs := by
 rw [z4c _ _ _ (by omega), List.take_zero, List.nil_append, Nat.zero_add, List.drop_eq_nil_of_le (by omega), List.append_nil]
theorem z2A {α : Type} (z : List α) (zero : α) : z.take z.length ++ List.replicate (z.length - z.length) zero = z := by simp
theorem ze2 (e : List T) (h : Fits 1048576 z0D e) : CT Tryz.prog 133 [] [.agg e] (.agg e) [] := by
 obtain ⟨s0, s1, n2, rfl, qs0, qs1, qn2, -⟩ := z1W h
 clear h
 refine z01 z03 1 rfl Tryz.func133 rfl rfl rfl ?_
 repeat ((try conv => whnf); first | (refine And.intro (by kernel_rfl) ?_) | (refine stpQ ?_))
 (refine z00 (by rfl) ?_ ?_ (by rfl)) <;> (repeat' (first | (exact eqA) | (refine shE ?_) | (refine And.intro ?_ ?_)))
theorem zhM (z : List (List T)) (h : z.length ≤ 1048576 ∧ ∀ e ∈ z, Fits 1048576 z0D e) : CT Tryz.prog 58 [] [.sl 3 z] (.sl 3 z) [] := by
 obtain ⟨hn, hz⟩ := h
 refine z01 z03 1 rfl Tryz.func58 rfl rfl rfl ?_
 repeat ((try conv => whnf); first | (refine stpQ ?_))
 refine z0n 0 ⟨[(3, .ref 1)], [(1, some (.row 3 z))], 2⟩ Nat (fun i => ⟨[(0, .sl 3 z), (3, .ref 1), (4, .int .i64 (i : Int))], [(1, some (.row 3 (z.take i ++ List.replicate (z.length - i) ([.str [], .str [], .int .i64 0] : List T))))], 2⟩) (fun i => i ≤ z.length) (fun i => z.length - i) 0 (by omega) ?_ ?_ ?_
 ·(refine z02 (by rfl) ?_ ?_) <;> (repeat' (first | (exact eqA) | (refine shE ?_) | (refine And.intro ?_ ?_))) <;> first | rfl | decide
 ·intro i hi
  by_cases hlt : i < z.length
  ·have hi2 : (i : Int) < (z.length : Int) := by omega
   have gi : z[i]? = some z[i] := List.getElem?_eq_getElem hlt
   have hf := hz _ (List.getElem_mem hlt)
   have hnx := z2h (zero := ([.str [], .str [], .int .i64 0] : List T)) gi
   have hle : ∀ e ∈ z.take i ++ List.replicate (z.length - i) ([.str [], .str [], .int .i64 0] : List T), e.length = 3 := z2z (s := z0D) (N := 1048576) rfl rfl hz
   have hlo : (z.take i ++ List.replicate (z.length - i) ([.str [], .str [], .int .i64 0] : List T)).length = z.length := by rw [List.length_append, List.length_take, List.length_replicate]; omega
   generalize z.take i ++ List.replicate (z.length - i) ([.str [], .str [], .int .i64 0] : List T) = o at hnx hlo hle ⊢
   have hio : i < o.length := by omega
   have gio : o[i]? = some o[i] := List.getElem?_eq_getElem hio
   have hoe := hle _ (List.getElem_mem hio)
   generalize o[i] = oe at gio hoe
   generalize z[i] = e at hf gi hnx
   obtain ⟨s0, s1, n2, rfl, -⟩ := z1W hf
   have cE := ze2 [.str s0, .str s1, .int .i64 n2] hf
   repeat ((try conv => whnf); first | (refine i_at gi ?_) | (refine ccA ([]) (cE) ?_) | (refine Exists.intro _ (And.intro gio ?_)) | (refine stpQ ?_))
   refine ⟨i + 1, hlt, by omega, ?_⟩
   rw [← hnx]
   (refine z02 (by rfl) ?_ ?_) <;> (repeat' (first | (exact eqA) | (refine shE ?_) | (refine And.intro ?_ ?_)))
   all_goals exact congrArg (List.set o i) (z3y hoe)
  ·obtain rfl : i = z.length := by omega
   rw [z2A]
   repeat ((try conv => whnf); first | (refine stpQ ?_))
   (refine z02 (by rfl) ?_ ?_) <;> (repeat' (first | (exact eqA) | (refine shE ?_) | (refine And.intro ?_ ?_)))
 ·repeat ((try conv => whnf); first | (refine stpQ ?_))
  (refine z00 (by rfl) ?_ ?_ (by rfl)) <;> (repeat' (first | (exact eqA) | (refine shE ?_) | (refine And.intro ?_ ?_)))
theorem ze3 (e : List T) (h : Fits 1048576 z1s e) : CT Tryz.prog 15 [] [.agg e] (.agg e) [] := by
 obtain ⟨z0, rfl, qz0, -⟩ := z2J h
 clear h
 have c0 := zhM z0 qz0
 refine z01 z03 1 rfl Tryz.func15 rfl rfl rfl ?_
 repeat ((try conv => whnf); first | (refine ccA ([]) (c0) ?_) | (refine And.intro (by kernel_rfl) ?_) | (refine stpQ ?_))
 (refine z00 (by rfl) ?_ ?_ (by rfl)) <;> (repeat' (first | (exact eqA) | (refine shE ?_) | (refine And.intro ?_ ?_)))
theorem ze4 (e : List T) (h : Fits 1048576 z2K e) : CT Tryz.prog 198 [] [.agg e] (.agg e) [] := by
 obtain ⟨n0, n1, s2, s3, rfl, qn0, qn1, qs2, qs3, -⟩ := z56 h
 clear h
 refine z01 z03 1 rfl Tryz.func198 rfl rfl rfl ?_
 repeat ((try conv => whnf); first | (refine And.intro (by kernel_rfl) ?_) | (refine stpQ ?_))
 (refine z00 (by rfl) ?_ ?_ (by rfl)) <;> (repeat' (first | (exact eqA) | (refine shE ?_) | (refine And.intro ?_ ?_)))
theorem z2Q (z : List (List T)) (h : z.length ≤ 1048576 ∧ ∀ e ∈ z, Fits 1048576 .str e) : CT Tryz.prog 79 [] [.sl 1 z] (.sl 1 z) [] := by
 obtain ⟨hn, hz⟩ := h
 refine z01 z03 1 rfl Tryz.func79 rfl rfl rfl ?_
 repeat ((try conv => whnf); first | (refine stpQ ?_))
 refine z0n 0 ⟨[(3, .ref 1)], [(1, some (.row 1 z))], 2⟩ Nat (fun i => ⟨[(0, .sl 1 z), (3, .ref 1), (4, .int .i64 (i : Int))], [(1, some (.row 1 (z.take i ++ List.replicate (z.length - i) ([.str []] : List T))))], 2⟩) (fun i => i ≤ z.length) (fun i => z.length - i) 0 (by omega) ?_ ?_ ?_
 ·(refine z02 (by rfl) ?_ ?_) <;> (repeat' (first | (exact eqA) | (refine shE ?_) | (refine And.intro ?_ ?_))) <;> first | rfl | decide
 ·intro i hi
  by_cases hlt : i < z.length
  ·have hi2 : (i : Int) < (z.length : Int) := by omega
   have gi : z[i]? = some z[i] := List.getElem?_eq_getElem hlt
   have hf := hz _ (List.getElem_mem hlt)
   have hnx := z2h (zero := ([.str []] : List T)) gi
   have hle : ∀ e ∈ z.take i ++ List.replicate (z.length - i) ([.str []] : List T), e.length = 1 := z2z (s := .str) (N := 1048576) rfl rfl hz
   have hlo : (z.take i ++ List.replicate (z.length - i) ([.str []] : List T)).length = z.length := by rw [List.length_append, List.length_take, List.length_replicate]; omega
   generalize z.take i ++ List.replicate (z.length - i) ([.str []] : List T) = o at hnx hlo hle ⊢
   have hio : i < o.length := by omega
   have gio : o[i]? = some o[i] := List.getElem?_eq_getElem hio
   have hoe := hle _ (List.getElem_mem hio)
   generalize o[i] = oe at gio hoe
   generalize z[i] = e at hf gi hnx
   obtain ⟨s, rfl, hf1⟩ := hf
   repeat ((try conv => whnf); first | (refine i_at gi ?_) | (refine Exists.intro _ (And.intro gio ?_)) | (refine stpQ ?_))
   refine ⟨i + 1, hlt, by omega, ?_⟩
   rw [← hnx]
   (refine z02 (by rfl) ?_ ?_) <;> (repeat' (first | (exact eqA) | (refine shE ?_) | (refine And.intro ?_ ?_)))
   all_goals exact congrArg (List.set o i) (z3y hoe)
  ·obtain rfl : i = z.length := by omega
   rw [z2A]
   repeat ((try conv => whnf); first | (refine stpQ ?_))
   (refine z02 (by rfl) ?_ ?_) <;> (repeat' (first | (exact eqA) | (refine shE ?_) | (refine And.intro ?_ ?_)))
 ·repeat ((try conv => whnf); first | (refine stpQ ?_))
  (refine z00 (by rfl) ?_ ?_ (by rfl)) <;> (repeat' (first | (exact eqA) | (refine shE ?_) | (refine And.intro ?_ ?_)))
theorem zll (e : List T) (h : Fits 1048576 z3T e) : CT Tryz.prog 199 [] [.agg e] (.agg e) [] := by
 obtain ⟨n0, z1, z2, z3, rfl, qn0, qz1, qz2, qz3, -⟩ := z6r h
 clear h
 have c1 := z2Q z1 qz1
 have c2 := z2Q z2 qz2
 have c3 := z2Q z3 qz3
 refine z01 z03 1 rfl Tryz.func199 rfl rfl rfl ?_
 repeat ((try conv => whnf); first | (refine ccA ([]) (c1) ?_) | (refine ccA ([]) (c2) ?_) | (refine ccA ([]) (c3) ?_) | (refine And.intro (by kernel_rfl) ?_) | (refine stpQ ?_))
 (refine z00 (by rfl) ?_ ?_ (by rfl)) <;> (repeat' (first | (exact eqA) | (refine shE ?_) | (refine And.intro ?_ ?_)))
theorem zjn (e : List T) (h : Fits 1048576 z0K e) : CT Tryz.prog 145 [] [.agg e] (.agg e) [] := by
 obtain ⟨n0, n1, s2, s3, n4, z5, z6, z7, rfl, qn0, qn1, qs2, qs3, qn4, qz5, qz6, qz7, -⟩ := z2k h
 clear h
 have c0 := ze4 [.int .i64 n0, .int .i64 n1, .str s2, .str s3] (z79 qn0 qn1 qs2 qs3)
 have c1 := zll [.int .i64 n4, .sl 1 z5, .sl 1 z6, .sl 1 z7] (zdw qn4 qz5 qz6 qz7)
 refine z01 z03 1 rfl Tryz.func145 rfl rfl rfl ?_
 repeat ((try conv => whnf); first | (refine ccA ([]) (c0) ?_) | (refine ccA ([]) (c1) ?_) | (refine And.intro (by kernel_rfl) ?_) | (refine stpQ ?_))
 (refine z00 (by rfl) ?_ ?_ (by rfl)) <;> (repeat' (first | (exact eqA) | (refine shE ?_) | (refine And.intro ?_ ?_)))
theorem zjo (z : List (List T)) (h : z.length ≤ 1048576 ∧ ∀ e ∈ z, Fits 1048576 .int e) : CT Tryz.prog 81 [] [.sl 1 z] (.sl 1 z) [] := by
 obtain ⟨hn, hz⟩ := h
 refine z01 z03 1 rfl Tryz.func81 rfl rfl rfl ?_
 repeat ((try conv => whnf); first | (refine stpQ ?_))
 refine z0n 0 ⟨[(3, .ref 1)], [(1, some (.row 1 z))], 2⟩ Nat (fun i => ⟨[(0, .sl 1 z), (3, .ref 1), (4, .int .i64 (i : Int))], [(1, some (.row 1 (z.take i ++ List.replicate (z.length - i) ([.int .i64 0] : List T))))], 2⟩) (fun i => i ≤ z.length) (fun i => z.length - i) 0 (by omega) ?_ ?_ ?_
 ·(refine z02 (by rfl) ?_ ?_) <;> (repeat' (first | (exact eqA) | (refine shE ?_) | (refine And.intro ?_ ?_))) <;> first | rfl | decide
 ·intro i hi
  by_cases hlt : i < z.length
  ·have hi2 : (i : Int) < (z.length : Int) := by omega
   have gi : z[i]? = some z[i] := List.getElem?_eq_getElem hlt
   have hf := hz _ (List.getElem_mem hlt)
   have hnx := z2h (zero := ([.int .i64 0] : List T)) gi
   have hle : ∀ e ∈ z.take i ++ List.replicate (z.length - i) ([.int .i64 0] : List T), e.length = 1 := z2z (s := .int) (N := 1048576) rfl rfl hz
   have hlo : (z.take i ++ List.replicate (z.length - i) ([.int .i64 0] : List T)).length = z.length := by rw [List.length_append, List.length_take, List.length_replicate]; omega
   generalize z.take i ++ List.replicate (z.length - i) ([.int .i64 0] : List T) = o at hnx hlo hle ⊢
   have hio : i < o.length := by omega
   have gio : o[i]? = some o[i] := List.getElem?_eq_getElem hio
   have hoe := hle _ (List.getElem_mem hio)
   generalize o[i] = oe at gio hoe
   generalize z[i] = e at hf gi hnx
   obtain ⟨n, rfl, hf1⟩ := hf
   repeat ((try conv => whnf); first | (refine i_at gi ?_) | (refine Exists.intro _ (And.intro gio ?_)) | (refine stpQ ?_))
   refine ⟨i + 1, hlt, by omega, ?_⟩
   rw [← hnx]
   (refine z02 (by rfl) ?_ ?_) <;> (repeat' (first | (exact eqA) | (refine shE ?_) | (refine And.intro ?_ ?_)))
   all_goals exact congrArg (List.set o i) (z3y hoe)
  ·obtain rfl : i = z.length := by omega
   rw [z2A]
   repeat ((try conv => whnf); first | (refine stpQ ?_))
   (refine z02 (by rfl) ?_ ?_) <;> (repeat' (first | (exact eqA) | (refine shE ?_) | (refine And.intro ?_ ?_)))
 ·repeat ((try conv => whnf); first | (refine stpQ ?_))
  (refine z00 (by rfl) ?_ ?_ (by rfl)) <;> (repeat' (first | (exact eqA) | (refine shE ?_) | (refine And.intro ?_ ?_)))
theorem zhN (z : List (List T)) (h : z.length ≤ 1048576 ∧ ∀ e ∈ z, Fits 1048576 z0K e) : CT Tryz.prog 80 [] [.sl 8 z] (.sl 8 z) [] := by
 obtain ⟨hn, hz⟩ := h
 refine z01 z03 1 rfl Tryz.func80 rfl rfl rfl ?_
 repeat ((try conv => whnf); first | (refine stpQ ?_))
 refine z0n 0 ⟨[(3, .ref 1)], [(1, some (.row 8 z))], 2⟩ Nat (fun i => ⟨[(0, .sl 8 z), (3, .ref 1), (4, .int .i64 (i : Int))], [(1, some (.row 8 (z.take i ++ List.replicate (z.length - i) ([.int .i64 0, .int .i64 0, .str [], .str [], .int .i64 0, .val nilV, .val nilV, .val nilV] : List T))))], 2⟩) (fun i => i ≤ z.length) (fun i => z.length - i) 0 (by omega) ?_ ?_ ?_
 ·(refine z02 (by rfl) ?_ ?_) <;> (repeat' (first | (exact eqA) | (refine shE ?_) | (refine And.intro ?_ ?_))) <;> first | rfl | decide
 ·intro i hi
  by_cases hlt : i < z.length
  ·have hi2 : (i : Int) < (z.length : Int) := by omega
   have gi : z[i]? = some z[i] := List.getElem?_eq_getElem hlt
   have hf := hz _ (List.getElem_mem hlt)
   have hnx := z2h (zero := ([.int .i64 0, .int .i64 0, .str [], .str [], .int .i64 0, .val nilV, .val nilV, .val nilV] : List T)) gi
   have hle : ∀ e ∈ z.take i ++ List.replicate (z.length - i) ([.int .i64 0, .int .i64 0, .str [], .str [], .int .i64 0, .val nilV, .val nilV, .val nilV] : List T), e.length = 8 := z2z (s := z0K) (N := 1048576) rfl rfl hz
   have hlo : (z.take i ++ List.replicate (z.length - i) ([.int .i64 0, .int .i64 0, .str [], .str [], .int .i64 0, .val nilV, .val nilV, .val nilV] : List T)).length = z.length := by rw [List.length_append, List.length_take, List.length_replicate]; omega
   generalize z.take i ++ List.replicate (z.length - i) ([.int .i64 0, .int .i64 0, .str [], .str [], .int .i64 0, .val nilV, .val nilV, .val nilV] : List T) = o at hnx hlo hle ⊢
   have hio : i < o.length := by omega
   have gio : o[i]? = some o[i] := List.getElem?_eq_getElem hio
   have hoe := hle _ (List.getElem_mem hio)
   generalize o[i] = oe at gio hoe
   generalize z[i] = e at hf gi hnx
   obtain ⟨n0, n1, s2, s3, n4, z5, z6, z7, rfl, -⟩ := z2k hf
   have cE := zjn [.int .i64 n0, .int .i64 n1, .str s2, .str s3, .int .i64 n4, .sl 1 z5, .sl 1 z6, .sl 1 z7] hf
   repeat ((try conv => whnf); first | (refine i_at gi ?_) | (refine ccA ([]) (cE) ?_) | (refine Exists.intro _ (And.intro gio ?_)) | (refine stpQ ?_))
   refine ⟨i + 1, hlt, by omega, ?_⟩
   rw [← hnx]
   (refine z02 (by rfl) ?_ ?_) <;> (repeat' (first | (exact eqA) | (refine shE ?_) | (refine And.intro ?_ ?_)))
   all_goals exact congrArg (List.set o i) (z3y hoe)
  ·obtain rfl : i = z.length := by omega
   rw [z2A]
   repeat ((try conv => whnf); first | (refine stpQ ?_))
   (refine z02 (by rfl) ?_ ?_) <;> (repeat' (first | (exact eqA) | (refine shE ?_) | (refine And.intro ?_ ?_)))
 ·repeat ((try conv => whnf); first | (refine stpQ ?_))
  (refine z00 (by rfl) ?_ ?_ (by rfl)) <;> (repeat' (first | (exact eqA) | (refine shE ?_) | (refine And.intro ?_ ?_)))
theorem zhO (z : List (List T)) (h : z.length ≤ 1048576 ∧ ∀ e ∈ z, Fits 1048576 .bool e) : CT Tryz.prog 82 [] [.sl 1 z] (.sl 1 z) [] := by
 obtain ⟨hn, hz⟩ := h
 refine z01 z03 1 rfl Tryz.func82 rfl rfl rfl ?_
 repeat ((try conv => whnf); first | (refine stpQ ?_))
 refine z0n 0 ⟨[(3, .ref 1)], [(1, some (.row 1 z))], 2⟩ Nat (fun i => ⟨[(0, .sl 1 z), (3, .ref 1), (4, .int .i64 (i : Int))], [(1, some (.row 1 (z.take i ++ List.replicate (z.length - i) ([.bool false] : List T))))], 2⟩) (fun i => i ≤ z.length) (fun i => z.length - i) 0 (by omega) ?_ ?_ ?_
 ·(refine z02 (by rfl) ?_ ?_) <;> (repeat' (first | (exact eqA) | (refine shE ?_) | (refine And.intro ?_ ?_))) <;> first | rfl | decide
 ·intro i hi
  by_cases hlt : i < z.length
  ·have hi2 : (i : Int) < (z.length : Int) := by omega
   have gi : z[i]? = some z[i] := List.getElem?_eq_getElem hlt
   have hf := hz _ (List.getElem_mem hlt)
   have hnx := z2h (zero := ([.bool false] : List T)) gi
   have hle : ∀ e ∈ z.take i ++ List.replicate (z.length - i) ([.bool false] : List T), e.length = 1 := z2z (s := .bool) (N := 1048576) rfl rfl hz
   have hlo : (z.take i ++ List.replicate (z.length - i) ([.bool false] : List T)).length = z.length := by rw [List.length_append, List.length_take, List.length_replicate]; omega
   generalize z.take i ++ List.replicate (z.length - i) ([.bool false] : List T) = o at hnx hlo hle ⊢
   have hio : i < o.length := by omega
   have gio : o[i]? = some o[i] := List.getElem?_eq_getElem hio
   have hoe := hle _ (List.getElem_mem hio)
   generalize o[i] = oe at gio hoe
   generalize z[i] = e at hf gi hnx
   obtain ⟨b, rfl⟩ := hf
   repeat ((try conv => whnf); first | (refine i_at gi ?_) | (refine Exists.intro _ (And.intro gio ?_)) | (refine stpQ ?_))
   refine ⟨i + 1, hlt, by omega, ?_⟩
   rw [← hnx]
   (refine z02 (by rfl) ?_ ?_) <;> (repeat' (first | (exact eqA) | (refine shE ?_) | (refine And.intro ?_ ?_)))
   all_goals exact congrArg (List.set o i) (z3y hoe)
  ·obtain rfl : i = z.length := by omega
   rw [z2A]
   repeat ((try conv => whnf); first | (refine stpQ ?_))
   (refine z02 (by rfl) ?_ ?_) <;> (repeat' (first | (exact eqA) | (refine shE ?_) | (refine And.intro ?_ ?_)))
 ·repeat ((try conv => whnf); first | (refine stpQ ?_))
  (refine z00 (by rfl) ?_ ?_ (by rfl)) <;> (repeat' (first | (exact eqA) | (refine shE ?_) | (refine And.intro ?_ ?_)))
theorem zhP (e : List T) (h : Fits 1048576 z0Q e) : CT Tryz.prog 24 [] [.agg e] (.agg e) [] := by
 obtain ⟨n0, n1, b2, z3, z4, z5, z6, n7, b8, z9, z10, rfl, qn0, qn1, qb2, qz3, qz4, qz5, qz6, qn7, qb8, qz9, qz10, -⟩ := z28 h
 clear h
 have c3 := ze3 [.sl 3 z3] (z5H qz3)
 have c4 := z2Q z4 qz4
 have c5 := zhN z5 qz5
 have c6 := zjo z6 qz6
 have c9 := z2Q z9 qz9
 have c10 := zhO z10 qz10
 refine z01 z03 1 rfl Tryz.func24 rfl rfl rfl ?_
 repeat ((try conv => whnf); first | (refine ccA ([]) (c3) ?_) | (refine ccA ([]) (c4) ?_) | (refine ccA ([]) (c5) ?_) | (refine ccA ([]) (c6) ?_) | (refine ccA ([]) (c9) ?_) | (refine ccA ([]) (c10) ?_) | (refine And.intro (by kernel_rfl) ?_) | (refine stpQ ?_))
 (refine z00 (by rfl) ?_ ?_ (by rfl)) <;> (repeat' (first | (exact eqA) | (refine shE ?_) | (refine And.intro ?_ ?_)))
end Go.Proofs.YtnhcfmmdaihneaaGreatDoor
