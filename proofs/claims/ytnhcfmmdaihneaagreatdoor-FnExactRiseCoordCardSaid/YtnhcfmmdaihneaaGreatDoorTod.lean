/- The exact laws copy their arguments: the copies' rows are the caller's own. -/
import Derived.Test.YtnhcfmmdaihneaaGreatDoorExO
import Derived.Test.YtnhcfmmdaihneaaGreatDoorMk
namespace Go.Proofs.YtnhcfmmdaihneaaGreatDoor
set_option maxRecDepth 100000
set_option maxHeartbeats 2000000
set_option linter.unusedVariables false
set_option linter.unusedSimpArgs false
set_option linter.unusedSectionVars false
open Go.RowKit Pl
attribute [local irreducible] z0w z0x z0A AnsP LeP
theorem z9B {N : Nat} {z : List (List T)} (h : ∀ e ∈ z, Fits N z0D e) : WfFl z := fun e he => by
 obtain ⟨s0, s1, n2, rfl, -⟩ := z1W (h e he)
 exact ⟨_, _, _, rfl⟩
theorem zhQ {z : List (List T)} (h : WfFl z) : ∀ e ∈ z, ∀ c ∈ e, cl0 c := fun e he c hc => by
 obtain ⟨a0, a1, a2, rfl⟩ := h e he
 simp only [List.mem_cons, List.not_mem_nil, or_false] at hc
 rcases hc with rfl | rfl | rfl <;> trivial
theorem zf9 (z : List (List T)) (h : z.length ≤ 1048576 ∧ ∀ e ∈ z, Fits 1048576 z0D e) : CT Tryz.prog 58 [] [.sl 3 z] (.ref 1) [.row 3 z] := by
 obtain ⟨hn, hz⟩ := h
 refine z01 z03 1 rfl Tryz.func58 rfl rfl rfl ?_
 repeat ((try conv => whnf); first | (refine stpQ ?_))
 refine z0n 0 ⟨[(3, .ref 1)], [(1, some (.row 3 z))], 2⟩ Nat (fun i => ⟨[(0, .sl 3 z), (3, .ref 1), (4, .int .i64 (i : Int))], [(1, some (.row 3 (z.take i ++ List.replicate (z.length - i) ([.str [], .str [], .int .i64 0] : List T))))], 2⟩) (fun i => i ≤ z.length) (fun i => z.length - i) 0 (by omega) ?_ ?_ ?_
 ·(refine z02 (by rfl) ?_ ?_) <;> (repeat' (first | (exact eqA) | (refine shE ?_) | (refine And.intro ?_ ?_))) <;> first | rfl | decide
 ·intro i hi
  by_cases hlt : i < z.length
  ·have hi2 : (i : Int) < (z.length : Int) := by omega
   have gi : z[i]? = some z[i] := List.getElem?_eq_getElem hlt
   have hf := hz _ (List.getElem_mem hlt)
   have hnx := z2h (zero := ([.str [], .str [], .int .i64 0] : List T)) gi
   have hle : ∀ e ∈ z.take i ++ List.replicate (z.length - i) ([.str [], .str [], .int .i64 0] : List T), e.length = 3 := z2z (s := z0D) (N := 1048576) rfl rfl hz
   have hlo : (z.take i ++ List.replicate (z.length - i) ([.str [], .str [], .int .i64 0] : List T)).length = z.length := by rw [List.length_append, List.length_take, List.length_replicate]; omega
   generalize z.take i ++ List.replicate (z.length - i) ([.str [], .str [], .int .i64 0] : List T) = o at hnx hlo hle ⊢
   have hio : i < o.length := by omega
   have gio : o[i]? = some o[i] := List.getElem?_eq_getElem hio
   have hoe := hle _ (List.getElem_mem hio)
   generalize o[i] = oe at gio hoe
   generalize z[i] = e at hf gi hnx
   obtain ⟨s0, s1, n2, rfl, -⟩ := z1W hf
   have cE := ze2 [.str s0, .str s1, .int .i64 n2] hf
   repeat ((try conv => whnf); first | (refine i_at gi ?_) | (refine ccA ([]) (cE) ?_) | (refine Exists.intro _ (And.intro gio ?_)) | (refine stpQ ?_))
   refine ⟨i + 1, hlt, by omega, ?_⟩
   rw [← hnx]
   (refine z02 (by rfl) ?_ ?_) <;> (repeat' (first | (exact eqA) | (refine shE ?_) | (refine And.intro ?_ ?_)))
   all_goals exact congrArg (List.set o i) (z3y hoe)
  ·obtain rfl : i = z.length := by omega
   rw [z2A]
   repeat ((try conv => whnf); first | (refine stpQ ?_))
   (refine z02 (by rfl) ?_ ?_) <;> (repeat' (first | (exact eqA) | (refine shE ?_) | (refine And.intro ?_ ?_)))
 ·repeat ((try conv => whnf); first | (refine stpQ ?_))
  (refine z00 (by rfl) ?_ ?_ (by rfl)) <;> (repeat' (first | (exact eqA) | (refine shE ?_) | (refine And.intro ?_ ?_)))
theorem zfa (z : List (List T)) (h : z.length ≤ 1048576 ∧ ∀ e ∈ z, Fits 1048576 z0D e) : CT Tryz.prog 58 [] [.sl 3 z] (.ref 1) [.deep 3 z []] := z4E 0 (zf9 z h) rfl (by decide) (zhQ (z9B h.2))
theorem z3z {N : Nat} {z : List (List T)} (h : ∀ e ∈ z, Fits N .str e) : WfSt z := fun e he => by
 obtain ⟨x, rfl, -⟩ := h e he
 exact ⟨_, rfl⟩
theorem zhR {z : List (List T)} (h : WfSt z) : ∀ e ∈ z, ∀ c ∈ e, cl0 c := fun e he c hc => by
 obtain ⟨a0, rfl⟩ := h e he
 simp only [List.mem_cons, List.not_mem_nil, or_false] at hc
 subst hc; trivial
theorem zbj (z : List (List T)) (h : z.length ≤ 1048576 ∧ ∀ e ∈ z, Fits 1048576 .str e) : CT Tryz.prog 79 [] [.sl 1 z] (.ref 1) [.row 1 z] := by
 obtain ⟨hn, hz⟩ := h
 refine z01 z03 1 rfl Tryz.func79 rfl rfl rfl ?_
 repeat ((try conv => whnf); first | (refine stpQ ?_))
 refine z0n 0 ⟨[(3, .ref 1)], [(1, some (.row 1 z))], 2⟩ Nat (fun i => ⟨[(0, .sl 1 z), (3, .ref 1), (4, .int .i64 (i : Int))], [(1, some (.row 1 (z.take i ++ List.replicate (z.length - i) ([.str []] : List T))))], 2⟩) (fun i => i ≤ z.length) (fun i => z.length - i) 0 (by omega) ?_ ?_ ?_
 ·(refine z02 (by rfl) ?_ ?_) <;> (repeat' (first | (exact eqA) | (refine shE ?_) | (refine And.intro ?_ ?_))) <;> first | rfl | decide
 ·intro i hi
  by_cases hlt : i < z.length
  ·have hi2 : (i : Int) < (z.length : Int) := by omega
   have gi : z[i]? = some z[i] := List.getElem?_eq_getElem hlt
   have hf := hz _ (List.getElem_mem hlt)
   have hnx := z2h (zero := ([.str []] : List T)) gi
   have hle : ∀ e ∈ z.take i ++ List.replicate (z.length - i) ([.str []] : List T), e.length = 1 := z2z (s := .str) (N := 1048576) rfl rfl hz
   have hlo : (z.take i ++ List.replicate (z.length - i) ([.str []] : List T)).length = z.length := by rw [List.length_append, List.length_take, List.length_replicate]; omega
   generalize z.take i ++ List.replicate (z.length - i) ([.str []] : List T) = o at hnx hlo hle ⊢
   have hio : i < o.length := by omega
   have gio : o[i]? = some o[i] := List.getElem?_eq_getElem hio
   have hoe := hle _ (List.getElem_mem hio)
   generalize o[i] = oe at gio hoe
   generalize z[i] = e at hf gi hnx
   obtain ⟨s, rfl, hf1⟩ := hf
   repeat ((try conv => whnf); first | (refine i_at gi ?_) | (refine Exists.intro _ (And.intro gio ?_)) | (refine stpQ ?_))
   refine ⟨i + 1, hlt, by omega, ?_⟩
   rw [← hnx]
   (refine z02 (by rfl) ?_ ?_) <;> (repeat' (first | (exact eqA) | (refine shE ?_) | (refine And.intro ?_ ?_)))
   all_goals exact congrArg (List.set o i) (z3y hoe)
  ·obtain rfl : i = z.length := by omega
   rw [z2A]
   repeat ((try conv => whnf); first | (refine stpQ ?_))
   (refine z02 (by rfl) ?_ ?_) <;> (repeat' (first | (exact eqA) | (refine shE ?_) | (refine And.intro ?_ ?_)))
 ·repeat ((try conv => whnf); first | (refine stpQ ?_))
  (refine z00 (by rfl) ?_ ?_ (by rfl)) <;> (repeat' (first | (exact eqA) | (refine shE ?_) | (refine And.intro ?_ ?_)))
theorem z2n (z : List (List T)) (h : z.length ≤ 1048576 ∧ ∀ e ∈ z, Fits 1048576 .str e) : CT Tryz.prog 79 [] [.sl 1 z] (.ref 1) [.deep 1 z []] := z4E 0 (zbj z h) rfl (by decide) (zhR (z3z h.2))
theorem z6y {N : Nat} {z : List (List T)} (h : ∀ e ∈ z, Fits N .int e) : WfIt z := fun e he => by
 obtain ⟨x, rfl, -⟩ := h e he
 exact ⟨_, rfl⟩
theorem zhS {z : List (List T)} (h : WfIt z) : ∀ e ∈ z, ∀ c ∈ e, cl0 c := fun e he c hc => by
 obtain ⟨a0, rfl⟩ := h e he
 simp only [List.mem_cons, List.not_mem_nil, or_false] at hc
 subst hc; trivial
theorem zhT (z : List (List T)) (h : z.length ≤ 1048576 ∧ ∀ e ∈ z, Fits 1048576 .int e) : CT Tryz.prog 81 [] [.sl 1 z] (.ref 1) [.row 1 z] := by
 obtain ⟨hn, hz⟩ := h
 refine z01 z03 1 rfl Tryz.func81 rfl rfl rfl ?_
 repeat ((try conv => whnf); first | (refine stpQ ?_))
 refine z0n 0 ⟨[(3, .ref 1)], [(1, some (.row 1 z))], 2⟩ Nat (fun i => ⟨[(0, .sl 1 z), (3, .ref 1), (4, .int .i64 (i : Int))], [(1, some (.row 1 (z.take i ++ List.replicate (z.length - i) ([.int .i64 0] : List T))))], 2⟩) (fun i => i ≤ z.length) (fun i => z.length - i) 0 (by omega) ?_ ?_ ?_
 ·(refine z02 (by rfl) ?_ ?_) <;> (repeat' (first | (exact eqA) | (refine shE ?_) | (refine And.intro ?_ ?_))) <;> first | rfl | decide
 ·intro i hi
  by_cases hlt : i < z.length
  ·have hi2 : (i : Int) < (z.length : Int) := by omega
   have gi : z[i]? = some z[i] := List.getElem?_eq_getElem hlt
   have hf := hz _ (List.getElem_mem hlt)
   have hnx := z2h (zero := ([.int .i64 0] : List T)) gi
   have hle : ∀ e ∈ z.take i ++ List.replicate (z.length - i) ([.int .i64 0] : List T), e.length = 1 := z2z (s := .int) (N := 1048576) rfl rfl hz
   have hlo : (z.take i ++ List.replicate (z.length - i) ([.int .i64 0] : List T)).length = z.length := by rw [List.length_append, List.length_take, List.length_replicate]; omega
   generalize z.take i ++ List.replicate (z.length - i) ([.int .i64 0] : List T) = o at hnx hlo hle ⊢
   have hio : i < o.length := by omega
   have gio : o[i]? = some o[i] := List.getElem?_eq_getElem hio
   have hoe := hle _ (List.getElem_mem hio)
   generalize o[i] = oe at gio hoe
   generalize z[i] = e at hf gi hnx
   obtain ⟨n, rfl, hf1⟩ := hf
   repeat ((try conv => whnf); first | (refine i_at gi ?_) | (refine Exists.intro _ (And.intro gio ?_)) | (refine stpQ ?_))
   refine ⟨i + 1, hlt, by omega, ?_⟩
   rw [← hnx]
   (refine z02 (by rfl) ?_ ?_) <;> (repeat' (first | (exact eqA) | (refine shE ?_) | (refine And.intro ?_ ?_)))
   all_goals exact congrArg (List.set o i) (z3y hoe)
  ·obtain rfl : i = z.length := by omega
   rw [z2A]
   repeat ((try conv => whnf); first | (refine stpQ ?_))
   (refine z02 (by rfl) ?_ ?_) <;> (repeat' (first | (exact eqA) | (refine shE ?_) | (refine And.intro ?_ ?_)))
 ·repeat ((try conv => whnf); first | (refine stpQ ?_))
  (refine z00 (by rfl) ?_ ?_ (by rfl)) <;> (repeat' (first | (exact eqA) | (refine shE ?_) | (refine And.intro ?_ ?_)))
theorem zhU (z : List (List T)) (h : z.length ≤ 1048576 ∧ ∀ e ∈ z, Fits 1048576 .int e) : CT Tryz.prog 81 [] [.sl 1 z] (.ref 1) [.deep 1 z []] := z4E 0 (zhT z h) rfl (by decide) (zhS (z6y h.2))
theorem z6z {N : Nat} {z : List (List T)} (h : ∀ e ∈ z, Fits N .bool e) : WfBo z := fun e he => by
 obtain ⟨x, rfl⟩ := h e he
 exact ⟨_, rfl⟩
theorem zhV {z : List (List T)} (h : WfBo z) : ∀ e ∈ z, ∀ c ∈ e, cl0 c := fun e he c hc => by
 obtain ⟨a0, rfl⟩ := h e he
 simp only [List.mem_cons, List.not_mem_nil, or_false] at hc
 subst hc; trivial
theorem zfb (z : List (List T)) (h : z.length ≤ 1048576 ∧ ∀ e ∈ z, Fits 1048576 .bool e) : CT Tryz.prog 82 [] [.sl 1 z] (.ref 1) [.row 1 z] := by
 obtain ⟨hn, hz⟩ := h
 refine z01 z03 1 rfl Tryz.func82 rfl rfl rfl ?_
 repeat ((try conv => whnf); first | (refine stpQ ?_))
 refine z0n 0 ⟨[(3, .ref 1)], [(1, some (.row 1 z))], 2⟩ Nat (fun i => ⟨[(0, .sl 1 z), (3, .ref 1), (4, .int .i64 (i : Int))], [(1, some (.row 1 (z.take i ++ List.replicate (z.length - i) ([.bool false] : List T))))], 2⟩) (fun i => i ≤ z.length) (fun i => z.length - i) 0 (by omega) ?_ ?_ ?_
 ·(refine z02 (by rfl) ?_ ?_) <;> (repeat' (first | (exact eqA) | (refine shE ?_) | (refine And.intro ?_ ?_))) <;> first | rfl | decide
 ·intro i hi
  by_cases hlt : i < z.length
  ·have hi2 : (i : Int) < (z.length : Int) := by omega
   have gi : z[i]? = some z[i] := List.getElem?_eq_getElem hlt
   have hf := hz _ (List.getElem_mem hlt)
   have hnx := z2h (zero := ([.bool false] : List T)) gi
   have hle : ∀ e ∈ z.take i ++ List.replicate (z.length - i) ([.bool false] : List T), e.length = 1 := z2z (s := .bool) (N := 1048576) rfl rfl hz
   have hlo : (z.take i ++ List.replicate (z.length - i) ([.bool false] : List T)).length = z.length := by rw [List.length_append, List.length_take, List.length_replicate]; omega
   generalize z.take i ++ List.replicate (z.length - i) ([.bool false] : List T) = o at hnx hlo hle ⊢
   have hio : i < o.length := by omega
   have gio : o[i]? = some o[i] := List.getElem?_eq_getElem hio
   have hoe := hle _ (List.getElem_mem hio)
   generalize o[i] = oe at gio hoe
   generalize z[i] = e at hf gi hnx
   obtain ⟨b, rfl⟩ := hf
   repeat ((try conv => whnf); first | (refine i_at gi ?_) | (refine Exists.intro _ (And.intro gio ?_)) | (refine stpQ ?_))
   refine ⟨i + 1, hlt, by omega, ?_⟩
   rw [← hnx]
   (refine z02 (by rfl) ?_ ?_) <;> (repeat' (first | (exact eqA) | (refine shE ?_) | (refine And.intro ?_ ?_)))
   all_goals exact congrArg (List.set o i) (z3y hoe)
  ·obtain rfl : i = z.length := by omega
   rw [z2A]
   repeat ((try conv => whnf); first | (refine stpQ ?_))
   (refine z02 (by rfl) ?_ ?_) <;> (repeat' (first | (exact eqA) | (refine shE ?_) | (refine And.intro ?_ ?_)))
 ·repeat ((try conv => whnf); first | (refine stpQ ?_))
  (refine z00 (by rfl) ?_ ?_ (by rfl)) <;> (repeat' (first | (exact eqA) | (refine shE ?_) | (refine And.intro ?_ ?_)))
theorem zfc (z : List (List T)) (h : z.length ≤ 1048576 ∧ ∀ e ∈ z, Fits 1048576 .bool e) : CT Tryz.prog 82 [] [.sl 1 z] (.ref 1) [.deep 1 z []] := z4E 0 (zfb z h) rfl (by decide) (zhV (z6z h.2))
theorem zbk (z : List (List T)) (h : z.length ≤ 1048576 ∧ ∀ e ∈ z, Fits 1048576 z0D e) : CT Tryz.prog 15 [] [.agg [.sl 3 z]] (.agg [.ref 1]) [.deep 3 z []] := by
 have c0 := zfa z h
 refine z01 z03 1 rfl Tryz.func15 rfl rfl rfl ?_
 repeat ((try conv => whnf); first | (refine ccA ([]) (c0) ?_) | (refine And.intro (by kernel_rfl) ?_) | (refine stpQ ?_))
 (refine z00 (by rfl) ?_ ?_ (by rfl)) <;> (repeat' (first | (exact eqA) | (refine shE ?_) | (refine And.intro ?_ ?_)))
end Go.Proofs.YtnhcfmmdaihneaaGreatDoor
