/- The exact laws copy their arguments: what the functions to.. answer is alike. -/
import Derived.Test.YtfgfkhmldlpmkaaGreatDoorExT
namespace Go.Proofs.YtfgfkhmldlpmkaaGreatDoor
open Go.RowKit Pl
set_option linter.unusedVariables false
set_option linter.unusedSimpArgs false

attribute [local irreducible] CondB CallP LoopW AnsP LeP


theorem set_next {α : Type} {z : List α} {zero : α} {i : Nat} {e : α} (h : z[i]? = some e) : (z.take i ++ List.replicate (z.length - i) zero).set i e = z.take (i + 1) ++ List.replicate (z.length - (i + 1)) zero := by
  obtain ⟨hi, rfl⟩ := List.getElem?_eq_some_iff.1 h
  have hl : (z.take i).length = i := by rw [List.length_take]; omega
  obtain ⟨m, hm⟩ : ∃ m, z.length - i = m + 1 := ⟨z.length - i - 1, by omega⟩
  rw [hm, List.set_append_right _ _ (by omega), hl, Nat.sub_self, List.replicate_succ, List.set_cons_zero, List.take_succ_eq_append_getElem hi, List.append_assoc, show z.length - (i + 1) = m by omega]
  rfl
theorem fill_len {s : Shp} {N k i m : Nat} {z : List (List T)} {zr : List T} (hw : s.wd = k) (hr : zr.length = k) (hz : ∀ e ∈ z, Fits N s e) : ∀ e ∈ z.take i ++ List.replicate m zr, e.length = k := fun e he => by
  rcases List.mem_append.1 he with h | h
  · rw [(hz e (List.mem_of_mem_take h)).len, hw]
  · rw [(List.mem_replicate.1 h).2, hr]
theorem ovl_all {oe cs : List T} (h : oe.length = cs.length) : ovl oe 0 cs = cs := by
  rw [ovl_eq _ _ _ (by omega), List.take_zero, List.nil_append, Nat.zero_add, List.drop_eq_nil_of_le (by omega), List.append_nil]
theorem all_next {α : Type} (z : List α) (zero : α) : z.take z.length ++ List.replicate (z.length - z.length) zero = z := by simp
set_option maxRecDepth 100000 in
set_option maxHeartbeats 2000000 in
theorem c_toLeaf (e : List T) (h : Fits 1048576 sh_Leaf e) : CT Tryz.prog 134 [] [.agg e] (.agg e) [] := by
  obtain ⟨s0, s1, rfl, qs0, qs1, -⟩ := fits_Leaf h
  clear h
  refine ct_intro ttE_ok 1 rfl Tryz.func134 rfl rfl rfl ?_
  repeat ((try conv => whnf); first | (refine And.intro (by kernel_rfl) ?_) | (refine stpQ ?_))
  (refine ans_auto (by rfl) ?_ ?_ (by rfl)) <;> (repeat' (first | (exact eqA) | (refine And.intro ?_ ?_) | ((fail_if_success (with_reducible (show _ = _))); (show _ = _))))
set_option maxRecDepth 100000 in
set_option maxHeartbeats 2000000 in
theorem c_toChange (e : List T) (h : Fits 1048576 sh_Change e) : CT Tryz.prog 115 [] [.agg e] (.agg e) [] := by
  obtain ⟨n0, s1, s2, rfl, qn0, qs1, qs2, -⟩ := fits_Change h
  clear h
  refine ct_intro ttE_ok 1 rfl Tryz.func115 rfl rfl rfl ?_
  repeat ((try conv => whnf); first | (refine And.intro (by kernel_rfl) ?_) | (refine stpQ ?_))
  (refine ans_auto (by rfl) ?_ ?_ (by rfl)) <;> (repeat' (first | (exact eqA) | (refine And.intro ?_ ?_) | ((fail_if_success (with_reducible (show _ = _))); (show _ = _))))
set_option maxRecDepth 100000 in
set_option maxHeartbeats 2000000 in
theorem c_toReady (e : List T) (h : Fits 1048576 sh_Ready e) : CT Tryz.prog 101 [] [.agg e] (.agg e) [] := by
  obtain ⟨n0, n1, n2, rfl, qn0, qn1, qn2, -⟩ := fits_Ready h
  clear h
  refine ct_intro ttE_ok 1 rfl Tryz.func101 rfl rfl rfl ?_
  repeat ((try conv => whnf); first | (refine And.intro (by kernel_rfl) ?_) | (refine stpQ ?_))
  (refine ans_auto (by rfl) ?_ ?_ (by rfl)) <;> (repeat' (first | (exact eqA) | (refine And.intro ?_ ?_) | ((fail_if_success (with_reducible (show _ = _))); (show _ = _))))
set_option maxRecDepth 100000 in
set_option maxHeartbeats 2000000 in
theorem c_toFile (e : List T) (h : Fits 1048576 sh_File e) : CT Tryz.prog 102 [] [.agg e] (.agg e) [] := by
  obtain ⟨s0, s1, n2, rfl, qs0, qs1, qn2, -⟩ := fits_File h
  clear h
  refine ct_intro ttE_ok 1 rfl Tryz.func102 rfl rfl rfl ?_
  repeat ((try conv => whnf); first | (refine And.intro (by kernel_rfl) ?_) | (refine stpQ ?_))
  (refine ans_auto (by rfl) ?_ ?_ (by rfl)) <;> (repeat' (first | (exact eqA) | (refine And.intro ?_ ?_) | ((fail_if_success (with_reducible (show _ = _))); (show _ = _))))
set_option maxRecDepth 100000 in
set_option maxHeartbeats 1000000 in
theorem c_toFileS (z : List (List T)) (h : z.length ≤ 1048576 ∧ ∀ e ∈ z, Fits 1048576 sh_File e) : CT Tryz.prog 84 [] [.sl 3 z] (.sl 3 z) [] := by
  obtain ⟨hn, hz⟩ := h
  refine ct_intro ttE_ok 1 rfl Tryz.func84 rfl rfl rfl ?_
  repeat ((try conv => whnf); first | (refine stpQ ?_))
  refine loop_cut 0 ⟨[(3, .ref 1)], [(1, some (.row 3 z))], 2⟩ Nat (fun i => ⟨[(0, .sl 3 z), (3, .ref 1), (4, .int .i64 (i : Int))], [(1, some (.row 3 (z.take i ++ List.replicate (z.length - i) ([.str [], .str [], .int .i64 0] : List T))))], 2⟩) (fun i => i ≤ z.length) (fun i => z.length - i) 0 (by omega) ?_ ?_ ?_
  · (refine le_auto (by rfl) ?_ ?_) <;> (repeat' (first | (exact eqA) | (refine And.intro ?_ ?_) | ((fail_if_success (with_reducible (show _ = _))); (show _ = _)))) <;> first | rfl | decide
  · intro i hi
    by_cases hlt : i < z.length
    · have hi2 : (i : Int) < (z.length : Int) := by omega
      have gi : z[i]? = some z[i] := List.getElem?_eq_getElem hlt
      have hf := hz _ (List.getElem_mem hlt)
      have hnx := set_next (zero := ([.str [], .str [], .int .i64 0] : List T)) gi
      have hle : ∀ e ∈ z.take i ++ List.replicate (z.length - i) ([.str [], .str [], .int .i64 0] : List T), e.length = 3 := fill_len (s := sh_File) (N := 1048576) rfl rfl hz
      have hlo : (z.take i ++ List.replicate (z.length - i) ([.str [], .str [], .int .i64 0] : List T)).length = z.length := by rw [List.length_append, List.length_take, List.length_replicate]; omega
      generalize z.take i ++ List.replicate (z.length - i) ([.str [], .str [], .int .i64 0] : List T) = o at hnx hlo hle ⊢
      have hio : i < o.length := by omega
      have gio : o[i]? = some o[i] := List.getElem?_eq_getElem hio
      have hoe := hle _ (List.getElem_mem hio)
      generalize o[i] = oe at gio hoe
      generalize z[i] = e at hf gi hnx
      obtain ⟨s0, s1, n2, rfl, -⟩ := fits_File hf
      have cE := c_toFile [.str s0, .str s1, .int .i64 n2] hf
      repeat ((try conv => whnf); first | (refine i_at gi ?_) | (refine ccA ([]) (cE) ?_) | (refine Exists.intro _ (And.intro gio ?_)) | (refine stpQ ?_))
      refine ⟨i + 1, hlt, by omega, ?_⟩
      rw [← hnx]
      (refine le_auto (by rfl) ?_ ?_) <;> (repeat' (first | (exact eqA) | (refine And.intro ?_ ?_) | ((fail_if_success (with_reducible (show _ = _))); (show _ = _))))
      all_goals exact congrArg (List.set o i) (ovl_all hoe)
    · obtain rfl : i = z.length := by omega
      rw [all_next]
      repeat ((try conv => whnf); first | (refine stpQ ?_))
      (refine le_auto (by rfl) ?_ ?_) <;> (repeat' (first | (exact eqA) | (refine And.intro ?_ ?_) | ((fail_if_success (with_reducible (show _ = _))); (show _ = _))))
  · repeat ((try conv => whnf); first | (refine stpQ ?_))
    (refine ans_auto (by rfl) ?_ ?_ (by rfl)) <;> (repeat' (first | (exact eqA) | (refine And.intro ?_ ?_) | ((fail_if_success (with_reducible (show _ = _))); (show _ = _))))
set_option maxRecDepth 100000 in
set_option maxHeartbeats 2000000 in
theorem c_toDisk (e : List T) (h : Fits 1048576 sh_Disk e) : CT Tryz.prog 64 [] [.agg e] (.agg e) [] := by
  obtain ⟨z0, rfl, qz0, -⟩ := fits_Disk h
  clear h
  have c0 := c_toFileS z0 qz0
  refine ct_intro ttE_ok 1 rfl Tryz.func64 rfl rfl rfl ?_
  repeat ((try conv => whnf); first | (refine ccA ([]) (c0) ?_) | (refine And.intro (by kernel_rfl) ?_) | (refine stpQ ?_))
  (refine ans_auto (by rfl) ?_ ?_ (by rfl)) <;> (repeat' (first | (exact eqA) | (refine And.intro ?_ ?_) | ((fail_if_success (with_reducible (show _ = _))); (show _ = _))))
set_option maxRecDepth 100000 in
set_option maxHeartbeats 2000000 in
theorem c_toHead (e : List T) (h : Fits 1048576 sh_Head e) : CT Tryz.prog 103 [] [.agg e] (.agg e) [] := by
  obtain ⟨n0, n1, s2, s3, rfl, qn0, qn1, qs2, qs3, -⟩ := fits_Head h
  clear h
  refine ct_intro ttE_ok 1 rfl Tryz.func103 rfl rfl rfl ?_
  repeat ((try conv => whnf); first | (refine And.intro (by kernel_rfl) ?_) | (refine stpQ ?_))
  (refine ans_auto (by rfl) ?_ ?_ (by rfl)) <;> (repeat' (first | (exact eqA) | (refine And.intro ?_ ?_) | ((fail_if_success (with_reducible (show _ = _))); (show _ = _))))
set_option maxRecDepth 100000 in
set_option maxHeartbeats 1000000 in
theorem c_toStringS (z : List (List T)) (h : z.length ≤ 1048576 ∧ ∀ e ∈ z, Fits 1048576 .str e) : CT Tryz.prog 63 [] [.sl 1 z] (.sl 1 z) [] := by
  obtain ⟨hn, hz⟩ := h
  refine ct_intro ttE_ok 1 rfl Tryz.func63 rfl rfl rfl ?_
  repeat ((try conv => whnf); first | (refine stpQ ?_))
  refine loop_cut 0 ⟨[(3, .ref 1)], [(1, some (.row 1 z))], 2⟩ Nat (fun i => ⟨[(0, .sl 1 z), (3, .ref 1), (4, .int .i64 (i : Int))], [(1, some (.row 1 (z.take i ++ List.replicate (z.length - i) ([.str []] : List T))))], 2⟩) (fun i => i ≤ z.length) (fun i => z.length - i) 0 (by omega) ?_ ?_ ?_
  · (refine le_auto (by rfl) ?_ ?_) <;> (repeat' (first | (exact eqA) | (refine And.intro ?_ ?_) | ((fail_if_success (with_reducible (show _ = _))); (show _ = _)))) <;> first | rfl | decide
  · intro i hi
    by_cases hlt : i < z.length
    · have hi2 : (i : Int) < (z.length : Int) := by omega
      have gi : z[i]? = some z[i] := List.getElem?_eq_getElem hlt
      have hf := hz _ (List.getElem_mem hlt)
      have hnx := set_next (zero := ([.str []] : List T)) gi
      have hle : ∀ e ∈ z.take i ++ List.replicate (z.length - i) ([.str []] : List T), e.length = 1 := fill_len (s := .str) (N := 1048576) rfl rfl hz
      have hlo : (z.take i ++ List.replicate (z.length - i) ([.str []] : List T)).length = z.length := by rw [List.length_append, List.length_take, List.length_replicate]; omega
      generalize z.take i ++ List.replicate (z.length - i) ([.str []] : List T) = o at hnx hlo hle ⊢
      have hio : i < o.length := by omega
      have gio : o[i]? = some o[i] := List.getElem?_eq_getElem hio
      have hoe := hle _ (List.getElem_mem hio)
      generalize o[i] = oe at gio hoe
      generalize z[i] = e at hf gi hnx
      obtain ⟨s, rfl, hf1⟩ := hf
      repeat ((try conv => whnf); first | (refine i_at gi ?_) | (refine Exists.intro _ (And.intro gio ?_)) | (refine stpQ ?_))
      refine ⟨i + 1, hlt, by omega, ?_⟩
      rw [← hnx]
      (refine le_auto (by rfl) ?_ ?_) <;> (repeat' (first | (exact eqA) | (refine And.intro ?_ ?_) | ((fail_if_success (with_reducible (show _ = _))); (show _ = _))))
      all_goals exact congrArg (List.set o i) (ovl_all hoe)
    · obtain rfl : i = z.length := by omega
      rw [all_next]
      repeat ((try conv => whnf); first | (refine stpQ ?_))
      (refine le_auto (by rfl) ?_ ?_) <;> (repeat' (first | (exact eqA) | (refine And.intro ?_ ?_) | ((fail_if_success (with_reducible (show _ = _))); (show _ = _))))
  · repeat ((try conv => whnf); first | (refine stpQ ?_))
    (refine ans_auto (by rfl) ?_ ?_ (by rfl)) <;> (repeat' (first | (exact eqA) | (refine And.intro ?_ ?_) | ((fail_if_success (with_reducible (show _ = _))); (show _ = _))))
set_option maxRecDepth 100000 in
set_option maxHeartbeats 2000000 in
theorem c_toSig (e : List T) (h : Fits 1048576 sh_Sig e) : CT Tryz.prog 87 [] [.agg e] (.agg e) [] := by
  obtain ⟨n0, z1, z2, z3, rfl, qn0, qz1, qz2, qz3, -⟩ := fits_Sig h
  clear h
  have c1 := c_toStringS z1 qz1
  have c2 := c_toStringS z2 qz2
  have c3 := c_toStringS z3 qz3
  refine ct_intro ttE_ok 1 rfl Tryz.func87 rfl rfl rfl ?_
  repeat ((try conv => whnf); first | (refine ccA ([]) (c1) ?_) | (refine ccA ([]) (c2) ?_) | (refine ccA ([]) (c3) ?_) | (refine And.intro (by kernel_rfl) ?_) | (refine stpQ ?_))
  (refine ans_auto (by rfl) ?_ ?_ (by rfl)) <;> (repeat' (first | (exact eqA) | (refine And.intro ?_ ?_) | ((fail_if_success (with_reducible (show _ = _))); (show _ = _))))
set_option maxRecDepth 100000 in
set_option maxHeartbeats 2000000 in
theorem c_toSeal (e : List T) (h : Fits 1048576 sh_Seal e) : CT Tryz.prog 85 [] [.agg e] (.agg e) [] := by
  obtain ⟨n0, n1, s2, s3, n4, z5, z6, z7, rfl, qn0, qn1, qs2, qs3, qn4, qz5, qz6, qz7, -⟩ := fits_Seal h
  clear h
  have c0 := c_toHead [.int .i64 n0, .int .i64 n1, .str s2, .str s3] (mk_Head qn0 qn1 qs2 qs3)
  have c1 := c_toSig [.int .i64 n4, .sl 1 z5, .sl 1 z6, .sl 1 z7] (mk_Sig qn4 qz5 qz6 qz7)
  refine ct_intro ttE_ok 1 rfl Tryz.func85 rfl rfl rfl ?_
  repeat ((try conv => whnf); first | (refine ccA ([]) (c0) ?_) | (refine ccA ([]) (c1) ?_) | (refine And.intro (by kernel_rfl) ?_) | (refine stpQ ?_))
  (refine ans_auto (by rfl) ?_ ?_ (by rfl)) <;> (repeat' (first | (exact eqA) | (refine And.intro ?_ ?_) | ((fail_if_success (with_reducible (show _ = _))); (show _ = _))))
set_option maxRecDepth 100000 in
set_option maxHeartbeats 2000000 in
theorem c_toStamp (e : List T) (h : Fits 1048576 sh_Stamp e) : CT Tryz.prog 67 [] [.agg e] (.agg e) [] := by
  obtain ⟨n0, n1, z2, z3, z4, rfl, qn0, qn1, qz2, qz3, qz4, -⟩ := fits_Stamp h
  clear h
  have c1 := c_toSig [.int .i64 n1, .sl 1 z2, .sl 1 z3, .sl 1 z4] (mk_Sig qn1 qz2 qz3 qz4)
  refine ct_intro ttE_ok 1 rfl Tryz.func67 rfl rfl rfl ?_
  repeat ((try conv => whnf); first | (refine ccA ([]) (c1) ?_) | (refine And.intro (by kernel_rfl) ?_) | (refine stpQ ?_))
  (refine ans_auto (by rfl) ?_ ?_ (by rfl)) <;> (repeat' (first | (exact eqA) | (refine And.intro ?_ ?_) | ((fail_if_success (with_reducible (show _ = _))); (show _ = _))))
set_option maxRecDepth 100000 in
set_option maxHeartbeats 2000000 in
theorem c_toPair (e : List T) (h : Fits 1048576 sh_Pair e) : CT Tryz.prog 86 [] [.agg e] (.agg e) [] := by
  obtain ⟨n0, n1, s2, s3, n4, z5, z6, z7, n8, n9, s10, s11, n12, z13, z14, z15, rfl, qn0, qn1, qs2, qs3, qn4, qz5, qz6, qz7, qn8, qn9, qs10, qs11, qn12, qz13, qz14, qz15, -⟩ := fits_Pair h
  clear h
  have c0 := c_toSeal [.int .i64 n0, .int .i64 n1, .str s2, .str s3, .int .i64 n4, .sl 1 z5, .sl 1 z6, .sl 1 z7] (mk_Seal qn0 qn1 qs2 qs3 qn4 qz5 qz6 qz7)
  have c1 := c_toSeal [.int .i64 n8, .int .i64 n9, .str s10, .str s11, .int .i64 n12, .sl 1 z13, .sl 1 z14, .sl 1 z15] (mk_Seal qn8 qn9 qs10 qs11 qn12 qz13 qz14 qz15)
  refine ct_intro ttE_ok 1 rfl Tryz.func86 rfl rfl rfl ?_
  repeat ((try conv => whnf); first | (refine ccA ([]) (c0) ?_) | (refine ccA ([]) (c1) ?_) | (refine And.intro (by kernel_rfl) ?_) | (refine stpQ ?_))
  (refine ans_auto (by rfl) ?_ ?_ (by rfl)) <;> (repeat' (first | (exact eqA) | (refine And.intro ?_ ?_) | ((fail_if_success (with_reducible (show _ = _))); (show _ = _))))
set_option maxRecDepth 100000 in
set_option maxHeartbeats 1000000 in
theorem c_toLeafS (z : List (List T)) (h : z.length ≤ 1048576 ∧ ∀ e ∈ z, Fits 1048576 sh_Leaf e) : CT Tryz.prog 114 [] [.sl 2 z] (.sl 2 z) [] := by
  obtain ⟨hn, hz⟩ := h
  refine ct_intro ttE_ok 1 rfl Tryz.func114 rfl rfl rfl ?_
  repeat ((try conv => whnf); first | (refine stpQ ?_))
  refine loop_cut 0 ⟨[(3, .ref 1)], [(1, some (.row 2 z))], 2⟩ Nat (fun i => ⟨[(0, .sl 2 z), (3, .ref 1), (4, .int .i64 (i : Int))], [(1, some (.row 2 (z.take i ++ List.replicate (z.length - i) ([.str [], .str []] : List T))))], 2⟩) (fun i => i ≤ z.length) (fun i => z.length - i) 0 (by omega) ?_ ?_ ?_
  · (refine le_auto (by rfl) ?_ ?_) <;> (repeat' (first | (exact eqA) | (refine And.intro ?_ ?_) | ((fail_if_success (with_reducible (show _ = _))); (show _ = _)))) <;> first | rfl | decide
  · intro i hi
    by_cases hlt : i < z.length
    · have hi2 : (i : Int) < (z.length : Int) := by omega
      have gi : z[i]? = some z[i] := List.getElem?_eq_getElem hlt
      have hf := hz _ (List.getElem_mem hlt)
      have hnx := set_next (zero := ([.str [], .str []] : List T)) gi
      have hle : ∀ e ∈ z.take i ++ List.replicate (z.length - i) ([.str [], .str []] : List T), e.length = 2 := fill_len (s := sh_Leaf) (N := 1048576) rfl rfl hz
      have hlo : (z.take i ++ List.replicate (z.length - i) ([.str [], .str []] : List T)).length = z.length := by rw [List.length_append, List.length_take, List.length_replicate]; omega
      generalize z.take i ++ List.replicate (z.length - i) ([.str [], .str []] : List T) = o at hnx hlo hle ⊢
      have hio : i < o.length := by omega
      have gio : o[i]? = some o[i] := List.getElem?_eq_getElem hio
      have hoe := hle _ (List.getElem_mem hio)
      generalize o[i] = oe at gio hoe
      generalize z[i] = e at hf gi hnx
      obtain ⟨s0, s1, rfl, -⟩ := fits_Leaf hf
      have cE := c_toLeaf [.str s0, .str s1] hf
      repeat ((try conv => whnf); first | (refine i_at gi ?_) | (refine ccA ([]) (cE) ?_) | (refine Exists.intro _ (And.intro gio ?_)) | (refine stpQ ?_))
      refine ⟨i + 1, hlt, by omega, ?_⟩
      rw [← hnx]
      (refine le_auto (by rfl) ?_ ?_) <;> (repeat' (first | (exact eqA) | (refine And.intro ?_ ?_) | ((fail_if_success (with_reducible (show _ = _))); (show _ = _))))
      all_goals exact congrArg (List.set o i) (ovl_all hoe)
    · obtain rfl : i = z.length := by omega
      rw [all_next]
      repeat ((try conv => whnf); first | (refine stpQ ?_))
      (refine le_auto (by rfl) ?_ ?_) <;> (repeat' (first | (exact eqA) | (refine And.intro ?_ ?_) | ((fail_if_success (with_reducible (show _ = _))); (show _ = _))))
  · repeat ((try conv => whnf); first | (refine stpQ ?_))
    (refine ans_auto (by rfl) ?_ ?_ (by rfl)) <;> (repeat' (first | (exact eqA) | (refine And.intro ?_ ?_) | ((fail_if_success (with_reducible (show _ = _))); (show _ = _))))
set_option maxRecDepth 100000 in
set_option maxHeartbeats 1000000 in
theorem c_toLeafSS (z : List (List T)) (h : z.length ≤ 1048576 ∧ ∀ e ∈ z, Fits 1048576 (.sl 2 sh_Leaf) e) : CT Tryz.prog 99 [] [.sl 1 z] (.sl 1 z) [] := by
  obtain ⟨hn, hz⟩ := h
  refine ct_intro ttE_ok 1 rfl Tryz.func99 rfl rfl rfl ?_
  repeat ((try conv => whnf); first | (refine stpQ ?_))
  refine loop_cut 0 ⟨[(3, .ref 1)], [(1, some (.row 1 z))], 2⟩ Nat (fun i => ⟨[(0, .sl 1 z), (3, .ref 1), (4, .int .i64 (i : Int))], [(1, some (.row 1 (z.take i ++ List.replicate (z.length - i) ([.val nilV] : List T))))], 2⟩) (fun i => i ≤ z.length) (fun i => z.length - i) 0 (by omega) ?_ ?_ ?_
  · (refine le_auto (by rfl) ?_ ?_) <;> (repeat' (first | (exact eqA) | (refine And.intro ?_ ?_) | ((fail_if_success (with_reducible (show _ = _))); (show _ = _)))) <;> first | rfl | decide
  · intro i hi
    by_cases hlt : i < z.length
    · have hi2 : (i : Int) < (z.length : Int) := by omega
      have gi : z[i]? = some z[i] := List.getElem?_eq_getElem hlt
      have hf := hz _ (List.getElem_mem hlt)
      have hnx := set_next (zero := ([.val nilV] : List T)) gi
      have hle : ∀ e ∈ z.take i ++ List.replicate (z.length - i) ([.val nilV] : List T), e.length = 1 := fill_len (s := (.sl 2 sh_Leaf)) (N := 1048576) rfl rfl hz
      have hlo : (z.take i ++ List.replicate (z.length - i) ([.val nilV] : List T)).length = z.length := by rw [List.length_append, List.length_take, List.length_replicate]; omega
      generalize z.take i ++ List.replicate (z.length - i) ([.val nilV] : List T) = o at hnx hlo hle ⊢
      have hio : i < o.length := by omega
      have gio : o[i]? = some o[i] := List.getElem?_eq_getElem hio
      have hoe := hle _ (List.getElem_mem hio)
      generalize o[i] = oe at gio hoe
      generalize z[i] = e at hf gi hnx
      obtain ⟨es, rfl, hf1⟩ := hf
      have cE := c_toLeafS es hf1
      repeat ((try conv => whnf); first | (refine i_at gi ?_) | (refine ccA ([]) (cE) ?_) | (refine Exists.intro _ (And.intro gio ?_)) | (refine stpQ ?_))
      refine ⟨i + 1, hlt, by omega, ?_⟩
      rw [← hnx]
      (refine le_auto (by rfl) ?_ ?_) <;> (repeat' (first | (exact eqA) | (refine And.intro ?_ ?_) | ((fail_if_success (with_reducible (show _ = _))); (show _ = _))))
      all_goals exact congrArg (List.set o i) (ovl_all hoe)
    · obtain rfl : i = z.length := by omega
      rw [all_next]
      repeat ((try conv => whnf); first | (refine stpQ ?_))
      (refine le_auto (by rfl) ?_ ?_) <;> (repeat' (first | (exact eqA) | (refine And.intro ?_ ?_) | ((fail_if_success (with_reducible (show _ = _))); (show _ = _))))
  · repeat ((try conv => whnf); first | (refine stpQ ?_))
    (refine ans_auto (by rfl) ?_ ?_ (by rfl)) <;> (repeat' (first | (exact eqA) | (refine And.intro ?_ ?_) | ((fail_if_success (with_reducible (show _ = _))); (show _ = _))))
set_option maxRecDepth 100000 in
set_option maxHeartbeats 1000000 in
theorem c_toIntS (z : List (List T)) (h : z.length ≤ 1048576 ∧ ∀ e ∈ z, Fits 1048576 .int e) : CT Tryz.prog 23 [] [.sl 1 z] (.sl 1 z) [] := by
  obtain ⟨hn, hz⟩ := h
  refine ct_intro ttE_ok 1 rfl Tryz.func23 rfl rfl rfl ?_
  repeat ((try conv => whnf); first | (refine stpQ ?_))
  refine loop_cut 0 ⟨[(3, .ref 1)], [(1, some (.row 1 z))], 2⟩ Nat (fun i => ⟨[(0, .sl 1 z), (3, .ref 1), (4, .int .i64 (i : Int))], [(1, some (.row 1 (z.take i ++ List.replicate (z.length - i) ([.int .i64 0] : List T))))], 2⟩) (fun i => i ≤ z.length) (fun i => z.length - i) 0 (by omega) ?_ ?_ ?_
  · (refine le_auto (by rfl) ?_ ?_) <;> (repeat' (first | (exact eqA) | (refine And.intro ?_ ?_) | ((fail_if_success (with_reducible (show _ = _))); (show _ = _)))) <;> first | rfl | decide
  · intro i hi
    by_cases hlt : i < z.length
    · have hi2 : (i : Int) < (z.length : Int) := by omega
      have gi : z[i]? = some z[i] := List.getElem?_eq_getElem hlt
      have hf := hz _ (List.getElem_mem hlt)
      have hnx := set_next (zero := ([.int .i64 0] : List T)) gi
      have hle : ∀ e ∈ z.take i ++ List.replicate (z.length - i) ([.int .i64 0] : List T), e.length = 1 := fill_len (s := .int) (N := 1048576) rfl rfl hz
      have hlo : (z.take i ++ List.replicate (z.length - i) ([.int .i64 0] : List T)).length = z.length := by rw [List.length_append, List.length_take, List.length_replicate]; omega
      generalize z.take i ++ List.replicate (z.length - i) ([.int .i64 0] : List T) = o at hnx hlo hle ⊢
      have hio : i < o.length := by omega
      have gio : o[i]? = some o[i] := List.getElem?_eq_getElem hio
      have hoe := hle _ (List.getElem_mem hio)
      generalize o[i] = oe at gio hoe
      generalize z[i] = e at hf gi hnx
      obtain ⟨n, rfl, hf1⟩ := hf
      repeat ((try conv => whnf); first | (refine i_at gi ?_) | (refine Exists.intro _ (And.intro gio ?_)) | (refine stpQ ?_))
      refine ⟨i + 1, hlt, by omega, ?_⟩
      rw [← hnx]
      (refine le_auto (by rfl) ?_ ?_) <;> (repeat' (first | (exact eqA) | (refine And.intro ?_ ?_) | ((fail_if_success (with_reducible (show _ = _))); (show _ = _))))
      all_goals exact congrArg (List.set o i) (ovl_all hoe)
    · obtain rfl : i = z.length := by omega
      rw [all_next]
      repeat ((try conv => whnf); first | (refine stpQ ?_))
      (refine le_auto (by rfl) ?_ ?_) <;> (repeat' (first | (exact eqA) | (refine And.intro ?_ ?_) | ((fail_if_success (with_reducible (show _ = _))); (show _ = _))))
  · repeat ((try conv => whnf); first | (refine stpQ ?_))
    (refine ans_auto (by rfl) ?_ ?_ (by rfl)) <;> (repeat' (first | (exact eqA) | (refine And.intro ?_ ?_) | ((fail_if_success (with_reducible (show _ = _))); (show _ = _))))
set_option maxRecDepth 100000 in
set_option maxHeartbeats 1000000 in
theorem c_toChangeS (z : List (List T)) (h : z.length ≤ 1048576 ∧ ∀ e ∈ z, Fits 1048576 sh_Change e) : CT Tryz.prog 100 [] [.sl 3 z] (.sl 3 z) [] := by
  obtain ⟨hn, hz⟩ := h
  refine ct_intro ttE_ok 1 rfl Tryz.func100 rfl rfl rfl ?_
  repeat ((try conv => whnf); first | (refine stpQ ?_))
  refine loop_cut 0 ⟨[(3, .ref 1)], [(1, some (.row 3 z))], 2⟩ Nat (fun i => ⟨[(0, .sl 3 z), (3, .ref 1), (4, .int .i64 (i : Int))], [(1, some (.row 3 (z.take i ++ List.replicate (z.length - i) ([.int .i64 0, .str [], .str []] : List T))))], 2⟩) (fun i => i ≤ z.length) (fun i => z.length - i) 0 (by omega) ?_ ?_ ?_
  · (refine le_auto (by rfl) ?_ ?_) <;> (repeat' (first | (exact eqA) | (refine And.intro ?_ ?_) | ((fail_if_success (with_reducible (show _ = _))); (show _ = _)))) <;> first | rfl | decide
  · intro i hi
    by_cases hlt : i < z.length
    · have hi2 : (i : Int) < (z.length : Int) := by omega
      have gi : z[i]? = some z[i] := List.getElem?_eq_getElem hlt
      have hf := hz _ (List.getElem_mem hlt)
      have hnx := set_next (zero := ([.int .i64 0, .str [], .str []] : List T)) gi
      have hle : ∀ e ∈ z.take i ++ List.replicate (z.length - i) ([.int .i64 0, .str [], .str []] : List T), e.length = 3 := fill_len (s := sh_Change) (N := 1048576) rfl rfl hz
      have hlo : (z.take i ++ List.replicate (z.length - i) ([.int .i64 0, .str [], .str []] : List T)).length = z.length := by rw [List.length_append, List.length_take, List.length_replicate]; omega
      generalize z.take i ++ List.replicate (z.length - i) ([.int .i64 0, .str [], .str []] : List T) = o at hnx hlo hle ⊢
      have hio : i < o.length := by omega
      have gio : o[i]? = some o[i] := List.getElem?_eq_getElem hio
      have hoe := hle _ (List.getElem_mem hio)
      generalize o[i] = oe at gio hoe
      generalize z[i] = e at hf gi hnx
      obtain ⟨n0, s1, s2, rfl, -⟩ := fits_Change hf
      have cE := c_toChange [.int .i64 n0, .str s1, .str s2] hf
      repeat ((try conv => whnf); first | (refine i_at gi ?_) | (refine ccA ([]) (cE) ?_) | (refine Exists.intro _ (And.intro gio ?_)) | (refine stpQ ?_))
      refine ⟨i + 1, hlt, by omega, ?_⟩
      rw [← hnx]
      (refine le_auto (by rfl) ?_ ?_) <;> (repeat' (first | (exact eqA) | (refine And.intro ?_ ?_) | ((fail_if_success (with_reducible (show _ = _))); (show _ = _))))
      all_goals exact congrArg (List.set o i) (ovl_all hoe)
    · obtain rfl : i = z.length := by omega
      rw [all_next]
      repeat ((try conv => whnf); first | (refine stpQ ?_))
      (refine le_auto (by rfl) ?_ ?_) <;> (repeat' (first | (exact eqA) | (refine And.intro ?_ ?_) | ((fail_if_success (with_reducible (show _ = _))); (show _ = _))))
  · repeat ((try conv => whnf); first | (refine stpQ ?_))
    (refine ans_auto (by rfl) ?_ ?_ (by rfl)) <;> (repeat' (first | (exact eqA) | (refine And.intro ?_ ?_) | ((fail_if_success (with_reducible (show _ = _))); (show _ = _))))
set_option maxRecDepth 100000 in
set_option maxHeartbeats 2000000 in
theorem c_toServer (e : List T) (h : Fits 1048576 sh_Server e) : CT Tryz.prog 83 [] [.agg e] (.agg e) [] := by
  obtain ⟨n0, n1, b2, z3, n4, z5, z6, z7, n8, n9, n10, rfl, qn0, qn1, qb2, qz3, qn4, qz5, qz6, qz7, qn8, qn9, qn10, -⟩ := fits_Server h
  clear h
  have c3 := c_toDisk [.sl 3 z3] (mk_Disk qz3)
  have c5 := c_toLeafSS z5 qz5
  have c6 := c_toIntS z6 qz6
  have c7 := c_toChangeS z7 qz7
  have c8 := c_toReady [.int .i64 n8, .int .i64 n9, .int .i64 n10] (mk_Ready qn8 qn9 qn10)
  refine ct_intro ttE_ok 1 rfl Tryz.func83 rfl rfl rfl ?_
  repeat ((try conv => whnf); first | (refine ccA ([]) (c3) ?_) | (refine ccA ([]) (c5) ?_) | (refine ccA ([]) (c6) ?_) | (refine ccA ([]) (c7) ?_) | (refine ccA ([]) (c8) ?_) | (refine And.intro (by kernel_rfl) ?_) | (refine stpQ ?_))
  (refine ans_auto (by rfl) ?_ ?_ (by rfl)) <;> (repeat' (first | (exact eqA) | (refine And.intro ?_ ?_) | ((fail_if_success (with_reducible (show _ = _))); (show _ = _))))
set_option maxRecDepth 100000 in
set_option maxHeartbeats 1000000 in
theorem c_toSealS (z : List (List T)) (h : z.length ≤ 1048576 ∧ ∀ e ∈ z, Fits 1048576 sh_Seal e) : CT Tryz.prog 65 [] [.sl 8 z] (.sl 8 z) [] := by
  obtain ⟨hn, hz⟩ := h
  refine ct_intro ttE_ok 1 rfl Tryz.func65 rfl rfl rfl ?_
  repeat ((try conv => whnf); first | (refine stpQ ?_))
  refine loop_cut 0 ⟨[(3, .ref 1)], [(1, some (.row 8 z))], 2⟩ Nat (fun i => ⟨[(0, .sl 8 z), (3, .ref 1), (4, .int .i64 (i : Int))], [(1, some (.row 8 (z.take i ++ List.replicate (z.length - i) ([.int .i64 0, .int .i64 0, .str [], .str [], .int .i64 0, .val nilV, .val nilV, .val nilV] : List T))))], 2⟩) (fun i => i ≤ z.length) (fun i => z.length - i) 0 (by omega) ?_ ?_ ?_
  · (refine le_auto (by rfl) ?_ ?_) <;> (repeat' (first | (exact eqA) | (refine And.intro ?_ ?_) | ((fail_if_success (with_reducible (show _ = _))); (show _ = _)))) <;> first | rfl | decide
  · intro i hi
    by_cases hlt : i < z.length
    · have hi2 : (i : Int) < (z.length : Int) := by omega
      have gi : z[i]? = some z[i] := List.getElem?_eq_getElem hlt
      have hf := hz _ (List.getElem_mem hlt)
      have hnx := set_next (zero := ([.int .i64 0, .int .i64 0, .str [], .str [], .int .i64 0, .val nilV, .val nilV, .val nilV] : List T)) gi
      have hle : ∀ e ∈ z.take i ++ List.replicate (z.length - i) ([.int .i64 0, .int .i64 0, .str [], .str [], .int .i64 0, .val nilV, .val nilV, .val nilV] : List T), e.length = 8 := fill_len (s := sh_Seal) (N := 1048576) rfl rfl hz
      have hlo : (z.take i ++ List.replicate (z.length - i) ([.int .i64 0, .int .i64 0, .str [], .str [], .int .i64 0, .val nilV, .val nilV, .val nilV] : List T)).length = z.length := by rw [List.length_append, List.length_take, List.length_replicate]; omega
      generalize z.take i ++ List.replicate (z.length - i) ([.int .i64 0, .int .i64 0, .str [], .str [], .int .i64 0, .val nilV, .val nilV, .val nilV] : List T) = o at hnx hlo hle ⊢
      have hio : i < o.length := by omega
      have gio : o[i]? = some o[i] := List.getElem?_eq_getElem hio
      have hoe := hle _ (List.getElem_mem hio)
      generalize o[i] = oe at gio hoe
      generalize z[i] = e at hf gi hnx
      obtain ⟨n0, n1, s2, s3, n4, z5, z6, z7, rfl, -⟩ := fits_Seal hf
      have cE := c_toSeal [.int .i64 n0, .int .i64 n1, .str s2, .str s3, .int .i64 n4, .sl 1 z5, .sl 1 z6, .sl 1 z7] hf
      repeat ((try conv => whnf); first | (refine i_at gi ?_) | (refine ccA ([]) (cE) ?_) | (refine Exists.intro _ (And.intro gio ?_)) | (refine stpQ ?_))
      refine ⟨i + 1, hlt, by omega, ?_⟩
      rw [← hnx]
      (refine le_auto (by rfl) ?_ ?_) <;> (repeat' (first | (exact eqA) | (refine And.intro ?_ ?_) | ((fail_if_success (with_reducible (show _ = _))); (show _ = _))))
      all_goals exact congrArg (List.set o i) (ovl_all hoe)
    · obtain rfl : i = z.length := by omega
      rw [all_next]
      repeat ((try conv => whnf); first | (refine stpQ ?_))
      (refine le_auto (by rfl) ?_ ?_) <;> (repeat' (first | (exact eqA) | (refine And.intro ?_ ?_) | ((fail_if_success (with_reducible (show _ = _))); (show _ = _))))
  · repeat ((try conv => whnf); first | (refine stpQ ?_))
    (refine ans_auto (by rfl) ?_ ?_ (by rfl)) <;> (repeat' (first | (exact eqA) | (refine And.intro ?_ ?_) | ((fail_if_success (with_reducible (show _ = _))); (show _ = _))))
set_option maxRecDepth 100000 in
set_option maxHeartbeats 1000000 in
theorem c_toBoolS (z : List (List T)) (h : z.length ≤ 1048576 ∧ ∀ e ∈ z, Fits 1048576 .bool e) : CT Tryz.prog 22 [] [.sl 1 z] (.sl 1 z) [] := by
  obtain ⟨hn, hz⟩ := h
  refine ct_intro ttE_ok 1 rfl Tryz.func22 rfl rfl rfl ?_
  repeat ((try conv => whnf); first | (refine stpQ ?_))
  refine loop_cut 0 ⟨[(3, .ref 1)], [(1, some (.row 1 z))], 2⟩ Nat (fun i => ⟨[(0, .sl 1 z), (3, .ref 1), (4, .int .i64 (i : Int))], [(1, some (.row 1 (z.take i ++ List.replicate (z.length - i) ([.bool false] : List T))))], 2⟩) (fun i => i ≤ z.length) (fun i => z.length - i) 0 (by omega) ?_ ?_ ?_
  · (refine le_auto (by rfl) ?_ ?_) <;> (repeat' (first | (exact eqA) | (refine And.intro ?_ ?_) | ((fail_if_success (with_reducible (show _ = _))); (show _ = _)))) <;> first | rfl | decide
  · intro i hi
    by_cases hlt : i < z.length
    · have hi2 : (i : Int) < (z.length : Int) := by omega
      have gi : z[i]? = some z[i] := List.getElem?_eq_getElem hlt
      have hf := hz _ (List.getElem_mem hlt)
      have hnx := set_next (zero := ([.bool false] : List T)) gi
      have hle : ∀ e ∈ z.take i ++ List.replicate (z.length - i) ([.bool false] : List T), e.length = 1 := fill_len (s := .bool) (N := 1048576) rfl rfl hz
      have hlo : (z.take i ++ List.replicate (z.length - i) ([.bool false] : List T)).length = z.length := by rw [List.length_append, List.length_take, List.length_replicate]; omega
      generalize z.take i ++ List.replicate (z.length - i) ([.bool false] : List T) = o at hnx hlo hle ⊢
      have hio : i < o.length := by omega
      have gio : o[i]? = some o[i] := List.getElem?_eq_getElem hio
      have hoe := hle _ (List.getElem_mem hio)
      generalize o[i] = oe at gio hoe
      generalize z[i] = e at hf gi hnx
      obtain ⟨b, rfl⟩ := hf
      repeat ((try conv => whnf); first | (refine i_at gi ?_) | (refine Exists.intro _ (And.intro gio ?_)) | (refine stpQ ?_))
      refine ⟨i + 1, hlt, by omega, ?_⟩
      rw [← hnx]
      (refine le_auto (by rfl) ?_ ?_) <;> (repeat' (first | (exact eqA) | (refine And.intro ?_ ?_) | ((fail_if_success (with_reducible (show _ = _))); (show _ = _))))
      all_goals exact congrArg (List.set o i) (ovl_all hoe)
    · obtain rfl : i = z.length := by omega
      rw [all_next]
      repeat ((try conv => whnf); first | (refine stpQ ?_))
      (refine le_auto (by rfl) ?_ ?_) <;> (repeat' (first | (exact eqA) | (refine And.intro ?_ ?_) | ((fail_if_success (with_reducible (show _ = _))); (show _ = _))))
  · repeat ((try conv => whnf); first | (refine stpQ ?_))
    (refine ans_auto (by rfl) ?_ ?_ (by rfl)) <;> (repeat' (first | (exact eqA) | (refine And.intro ?_ ?_) | ((fail_if_success (with_reducible (show _ = _))); (show _ = _))))
set_option maxRecDepth 100000 in
set_option maxHeartbeats 2000000 in
theorem c_toCoord (e : List T) (h : Fits 1048576 sh_Coord e) : CT Tryz.prog 61 [] [.agg e] (.agg e) [] := by
  obtain ⟨n0, n1, b2, z3, z4, z5, z6, n7, b8, z9, z10, rfl, qn0, qn1, qb2, qz3, qz4, qz5, qz6, qn7, qb8, qz9, qz10, -⟩ := fits_Coord h
  clear h
  have c3 := c_toDisk [.sl 3 z3] (mk_Disk qz3)
  have c4 := c_toStringS z4 qz4
  have c5 := c_toSealS z5 qz5
  have c6 := c_toIntS z6 qz6
  have c9 := c_toStringS z9 qz9
  have c10 := c_toBoolS z10 qz10
  refine ct_intro ttE_ok 1 rfl Tryz.func61 rfl rfl rfl ?_
  repeat ((try conv => whnf); first | (refine ccA ([]) (c3) ?_) | (refine ccA ([]) (c4) ?_) | (refine ccA ([]) (c5) ?_) | (refine ccA ([]) (c6) ?_) | (refine ccA ([]) (c9) ?_) | (refine ccA ([]) (c10) ?_) | (refine And.intro (by kernel_rfl) ?_) | (refine stpQ ?_))
  (refine ans_auto (by rfl) ?_ ?_ (by rfl)) <;> (repeat' (first | (exact eqA) | (refine And.intro ?_ ?_) | ((fail_if_success (with_reducible (show _ = _))); (show _ = _))))
set_option maxRecDepth 100000 in
set_option maxHeartbeats 1000000 in
theorem c_toServerS (z : List (List T)) (h : z.length ≤ 1048576 ∧ ∀ e ∈ z, Fits 1048576 sh_Server e) : CT Tryz.prog 62 [] [.sl 11 z] (.sl 11 z) [] := by
  obtain ⟨hn, hz⟩ := h
  refine ct_intro ttE_ok 1 rfl Tryz.func62 rfl rfl rfl ?_
  repeat ((try conv => whnf); first | (refine stpQ ?_))
  refine loop_cut 0 ⟨[(3, .ref 1)], [(1, some (.row 11 z))], 2⟩ Nat (fun i => ⟨[(0, .sl 11 z), (3, .ref 1), (4, .int .i64 (i : Int))], [(1, some (.row 11 (z.take i ++ List.replicate (z.length - i) ([.int .i64 0, .int .i64 0, .bool false, .val nilV, .int .i64 0, .val nilV, .val nilV, .val nilV, .int .i64 0, .int .i64 0, .int .i64 0] : List T))))], 2⟩) (fun i => i ≤ z.length) (fun i => z.length - i) 0 (by omega) ?_ ?_ ?_
  · (refine le_auto (by rfl) ?_ ?_) <;> (repeat' (first | (exact eqA) | (refine And.intro ?_ ?_) | ((fail_if_success (with_reducible (show _ = _))); (show _ = _)))) <;> first | rfl | decide
  · intro i hi
    by_cases hlt : i < z.length
    · have hi2 : (i : Int) < (z.length : Int) := by omega
      have gi : z[i]? = some z[i] := List.getElem?_eq_getElem hlt
      have hf := hz _ (List.getElem_mem hlt)
      have hnx := set_next (zero := ([.int .i64 0, .int .i64 0, .bool false, .val nilV, .int .i64 0, .val nilV, .val nilV, .val nilV, .int .i64 0, .int .i64 0, .int .i64 0] : List T)) gi
      have hle : ∀ e ∈ z.take i ++ List.replicate (z.length - i) ([.int .i64 0, .int .i64 0, .bool false, .val nilV, .int .i64 0, .val nilV, .val nilV, .val nilV, .int .i64 0, .int .i64 0, .int .i64 0] : List T), e.length = 11 := fill_len (s := sh_Server) (N := 1048576) rfl rfl hz
      have hlo : (z.take i ++ List.replicate (z.length - i) ([.int .i64 0, .int .i64 0, .bool false, .val nilV, .int .i64 0, .val nilV, .val nilV, .val nilV, .int .i64 0, .int .i64 0, .int .i64 0] : List T)).length = z.length := by rw [List.length_append, List.length_take, List.length_replicate]; omega
      generalize z.take i ++ List.replicate (z.length - i) ([.int .i64 0, .int .i64 0, .bool false, .val nilV, .int .i64 0, .val nilV, .val nilV, .val nilV, .int .i64 0, .int .i64 0, .int .i64 0] : List T) = o at hnx hlo hle ⊢
      have hio : i < o.length := by omega
      have gio : o[i]? = some o[i] := List.getElem?_eq_getElem hio
      have hoe := hle _ (List.getElem_mem hio)
      generalize o[i] = oe at gio hoe
      generalize z[i] = e at hf gi hnx
      obtain ⟨n0, n1, b2, z3, n4, z5, z6, z7, n8, n9, n10, rfl, -⟩ := fits_Server hf
      have cE := c_toServer [.int .i64 n0, .int .i64 n1, .bool b2, .sl 3 z3, .int .i64 n4, .sl 1 z5, .sl 1 z6, .sl 3 z7, .int .i64 n8, .int .i64 n9, .int .i64 n10] hf
      repeat ((try conv => whnf); first | (refine i_at gi ?_) | (refine ccA ([]) (cE) ?_) | (refine Exists.intro _ (And.intro gio ?_)) | (refine stpQ ?_))
      refine ⟨i + 1, hlt, by omega, ?_⟩
      rw [← hnx]
      (refine le_auto (by rfl) ?_ ?_) <;> (repeat' (first | (exact eqA) | (refine And.intro ?_ ?_) | ((fail_if_success (with_reducible (show _ = _))); (show _ = _))))
      all_goals exact congrArg (List.set o i) (ovl_all hoe)
    · obtain rfl : i = z.length := by omega
      rw [all_next]
      repeat ((try conv => whnf); first | (refine stpQ ?_))
      (refine le_auto (by rfl) ?_ ?_) <;> (repeat' (first | (exact eqA) | (refine And.intro ?_ ?_) | ((fail_if_success (with_reducible (show _ = _))); (show _ = _))))
  · repeat ((try conv => whnf); first | (refine stpQ ?_))
    (refine ans_auto (by rfl) ?_ ?_ (by rfl)) <;> (repeat' (first | (exact eqA) | (refine And.intro ?_ ?_) | ((fail_if_success (with_reducible (show _ = _))); (show _ = _))))
set_option maxRecDepth 100000 in
set_option maxHeartbeats 2000000 in
theorem c_toHouse (e : List T) (h : Fits 1048576 sh_House e) : CT Tryz.prog 42 [] [.agg e] (.agg e) [] := by
  obtain ⟨n0, n1, b2, z3, z4, z5, z6, n7, b8, z9, z10, z11, z12, z13, rfl, qn0, qn1, qb2, qz3, qz4, qz5, qz6, qn7, qb8, qz9, qz10, qz11, qz12, qz13, -⟩ := fits_House h
  clear h
  have c0 := c_toCoord [.int .i64 n0, .int .i64 n1, .bool b2, .sl 3 z3, .sl 1 z4, .sl 8 z5, .sl 1 z6, .int .i64 n7, .bool b8, .sl 1 z9, .sl 1 z10] (mk_Coord qn0 qn1 qb2 qz3 qz4 qz5 qz6 qn7 qb8 qz9 qz10)
  have c1 := c_toServerS z11 qz11
  have c2 := c_toStringS z12 qz12
  have c3 := c_toIntS z13 qz13
  refine ct_intro ttE_ok 1 rfl Tryz.func42 rfl rfl rfl ?_
  repeat ((try conv => whnf); first | (refine ccA ([]) (c0) ?_) | (refine ccA ([]) (c1) ?_) | (refine ccA ([]) (c2) ?_) | (refine ccA ([]) (c3) ?_) | (refine And.intro (by kernel_rfl) ?_) | (refine stpQ ?_))
  (refine ans_auto (by rfl) ?_ ?_ (by rfl)) <;> (repeat' (first | (exact eqA) | (refine And.intro ?_ ?_) | ((fail_if_success (with_reducible (show _ = _))); (show _ = _))))
set_option maxRecDepth 100000 in
set_option maxHeartbeats 1000000 in
theorem c_toPairS (z : List (List T)) (h : z.length ≤ 1048576 ∧ ∀ e ∈ z, Fits 1048576 sh_Pair e) : CT Tryz.prog 66 [] [.sl 16 z] (.sl 16 z) [] := by
  obtain ⟨hn, hz⟩ := h
  refine ct_intro ttE_ok 1 rfl Tryz.func66 rfl rfl rfl ?_
  repeat ((try conv => whnf); first | (refine stpQ ?_))
  refine loop_cut 0 ⟨[(3, .ref 1)], [(1, some (.row 16 z))], 2⟩ Nat (fun i => ⟨[(0, .sl 16 z), (3, .ref 1), (4, .int .i64 (i : Int))], [(1, some (.row 16 (z.take i ++ List.replicate (z.length - i) ([.int .i64 0, .int .i64 0, .str [], .str [], .int .i64 0, .val nilV, .val nilV, .val nilV, .int .i64 0, .int .i64 0, .str [], .str [], .int .i64 0, .val nilV, .val nilV, .val nilV] : List T))))], 2⟩) (fun i => i ≤ z.length) (fun i => z.length - i) 0 (by omega) ?_ ?_ ?_
  · (refine le_auto (by rfl) ?_ ?_) <;> (repeat' (first | (exact eqA) | (refine And.intro ?_ ?_) | ((fail_if_success (with_reducible (show _ = _))); (show _ = _)))) <;> first | rfl | decide
  · intro i hi
    by_cases hlt : i < z.length
    · have hi2 : (i : Int) < (z.length : Int) := by omega
      have gi : z[i]? = some z[i] := List.getElem?_eq_getElem hlt
      have hf := hz _ (List.getElem_mem hlt)
      have hnx := set_next (zero := ([.int .i64 0, .int .i64 0, .str [], .str [], .int .i64 0, .val nilV, .val nilV, .val nilV, .int .i64 0, .int .i64 0, .str [], .str [], .int .i64 0, .val nilV, .val nilV, .val nilV] : List T)) gi
      have hle : ∀ e ∈ z.take i ++ List.replicate (z.length - i) ([.int .i64 0, .int .i64 0, .str [], .str [], .int .i64 0, .val nilV, .val nilV, .val nilV, .int .i64 0, .int .i64 0, .str [], .str [], .int .i64 0, .val nilV, .val nilV, .val nilV] : List T), e.length = 16 := fill_len (s := sh_Pair) (N := 1048576) rfl rfl hz
      have hlo : (z.take i ++ List.replicate (z.length - i) ([.int .i64 0, .int .i64 0, .str [], .str [], .int .i64 0, .val nilV, .val nilV, .val nilV, .int .i64 0, .int .i64 0, .str [], .str [], .int .i64 0, .val nilV, .val nilV, .val nilV] : List T)).length = z.length := by rw [List.length_append, List.length_take, List.length_replicate]; omega
      generalize z.take i ++ List.replicate (z.length - i) ([.int .i64 0, .int .i64 0, .str [], .str [], .int .i64 0, .val nilV, .val nilV, .val nilV, .int .i64 0, .int .i64 0, .str [], .str [], .int .i64 0, .val nilV, .val nilV, .val nilV] : List T) = o at hnx hlo hle ⊢
      have hio : i < o.length := by omega
      have gio : o[i]? = some o[i] := List.getElem?_eq_getElem hio
      have hoe := hle _ (List.getElem_mem hio)
      generalize o[i] = oe at gio hoe
      generalize z[i] = e at hf gi hnx
      obtain ⟨n0, n1, s2, s3, n4, z5, z6, z7, n8, n9, s10, s11, n12, z13, z14, z15, rfl, -⟩ := fits_Pair hf
      have cE := c_toPair [.int .i64 n0, .int .i64 n1, .str s2, .str s3, .int .i64 n4, .sl 1 z5, .sl 1 z6, .sl 1 z7, .int .i64 n8, .int .i64 n9, .str s10, .str s11, .int .i64 n12, .sl 1 z13, .sl 1 z14, .sl 1 z15] hf
      repeat ((try conv => whnf); first | (refine i_at gi ?_) | (refine ccA ([]) (cE) ?_) | (refine Exists.intro _ (And.intro gio ?_)) | (refine stpQ ?_))
      refine ⟨i + 1, hlt, by omega, ?_⟩
      rw [← hnx]
      (refine le_auto (by rfl) ?_ ?_) <;> (repeat' (first | (exact eqA) | (refine And.intro ?_ ?_) | ((fail_if_success (with_reducible (show _ = _))); (show _ = _))))
      all_goals exact congrArg (List.set o i) (ovl_all hoe)
    · obtain rfl : i = z.length := by omega
      rw [all_next]
      repeat ((try conv => whnf); first | (refine stpQ ?_))
      (refine le_auto (by rfl) ?_ ?_) <;> (repeat' (first | (exact eqA) | (refine And.intro ?_ ?_) | ((fail_if_success (with_reducible (show _ = _))); (show _ = _))))
  · repeat ((try conv => whnf); first | (refine stpQ ?_))
    (refine ans_auto (by rfl) ?_ ?_ (by rfl)) <;> (repeat' (first | (exact eqA) | (refine And.intro ?_ ?_) | ((fail_if_success (with_reducible (show _ = _))); (show _ = _))))
set_option maxRecDepth 100000 in
set_option maxHeartbeats 2000000 in
theorem c_toAuditor (e : List T) (h : Fits 1048576 sh_Auditor e) : CT Tryz.prog 43 [] [.agg e] (.agg e) [] := by
  obtain ⟨n0, b1, z2, z3, z4, z5, rfl, qn0, qb1, qz2, qz3, qz4, qz5, -⟩ := fits_Auditor h
  clear h
  have c2 := c_toDisk [.sl 3 z2] (mk_Disk qz2)
  have c3 := c_toStringS z3 qz3
  have c4 := c_toSealS z4 qz4
  have c5 := c_toPairS z5 qz5
  refine ct_intro ttE_ok 1 rfl Tryz.func43 rfl rfl rfl ?_
  repeat ((try conv => whnf); first | (refine ccA ([]) (c2) ?_) | (refine ccA ([]) (c3) ?_) | (refine ccA ([]) (c4) ?_) | (refine ccA ([]) (c5) ?_) | (refine And.intro (by kernel_rfl) ?_) | (refine stpQ ?_))
  (refine ans_auto (by rfl) ?_ ?_ (by rfl)) <;> (repeat' (first | (exact eqA) | (refine And.intro ?_ ?_) | ((fail_if_success (with_reducible (show _ = _))); (show _ = _))))
set_option maxRecDepth 100000 in
set_option maxHeartbeats 2000000 in
theorem c_toNote (e : List T) (h : Fits 1048576 sh_Note e) : CT Tryz.prog 44 [] [.agg e] (.agg e) [] := by
  obtain ⟨n0, s1, rfl, qn0, qs1, -⟩ := fits_Note h
  clear h
  refine ct_intro ttE_ok 1 rfl Tryz.func44 rfl rfl rfl ?_
  repeat ((try conv => whnf); first | (refine And.intro (by kernel_rfl) ?_) | (refine stpQ ?_))
  (refine ans_auto (by rfl) ?_ ?_ (by rfl)) <;> (repeat' (first | (exact eqA) | (refine And.intro ?_ ?_) | ((fail_if_success (with_reducible (show _ = _))); (show _ = _))))
set_option maxRecDepth 100000 in
set_option maxHeartbeats 2000000 in
theorem c_toGiven (e : List T) (h : Fits 1048576 sh_Given e) : CT Tryz.prog 45 [] [.agg e] (.agg e) [] := by
  obtain ⟨n0, n1, n2, n3, z4, z5, z6, rfl, qn0, qn1, qn2, qn3, qz4, qz5, qz6, -⟩ := fits_Given h
  clear h
  have c2 := c_toStamp [.int .i64 n2, .int .i64 n3, .sl 1 z4, .sl 1 z5, .sl 1 z6] (mk_Stamp qn2 qn3 qz4 qz5 qz6)
  refine ct_intro ttE_ok 1 rfl Tryz.func45 rfl rfl rfl ?_
  repeat ((try conv => whnf); first | (refine ccA ([]) (c2) ?_) | (refine And.intro (by kernel_rfl) ?_) | (refine stpQ ?_))
  (refine ans_auto (by rfl) ?_ ?_ (by rfl)) <;> (repeat' (first | (exact eqA) | (refine And.intro ?_ ?_) | ((fail_if_success (with_reducible (show _ = _))); (show _ = _))))
set_option maxRecDepth 100000 in
set_option maxHeartbeats 1000000 in
theorem c_toHouseS (z : List (List T)) (h : z.length ≤ 1048576 ∧ ∀ e ∈ z, Fits 1048576 sh_House e) : CT Tryz.prog 18 [] [.sl 14 z] (.sl 14 z) [] := by
  obtain ⟨hn, hz⟩ := h
  refine ct_intro ttE_ok 1 rfl Tryz.func18 rfl rfl rfl ?_
  repeat ((try conv => whnf); first | (refine stpQ ?_))
  refine loop_cut 0 ⟨[(3, .ref 1)], [(1, some (.row 14 z))], 2⟩ Nat (fun i => ⟨[(0, .sl 14 z), (3, .ref 1), (4, .int .i64 (i : Int))], [(1, some (.row 14 (z.take i ++ List.replicate (z.length - i) ([.int .i64 0, .int .i64 0, .bool false, .val nilV, .val nilV, .val nilV, .val nilV, .int .i64 0, .bool false, .val nilV, .val nilV, .val nilV, .val nilV, .val nilV] : List T))))], 2⟩) (fun i => i ≤ z.length) (fun i => z.length - i) 0 (by omega) ?_ ?_ ?_
  · (refine le_auto (by rfl) ?_ ?_) <;> (repeat' (first | (exact eqA) | (refine And.intro ?_ ?_) | ((fail_if_success (with_reducible (show _ = _))); (show _ = _)))) <;> first | rfl | decide
  · intro i hi
    by_cases hlt : i < z.length
    · have hi2 : (i : Int) < (z.length : Int) := by omega
      have gi : z[i]? = some z[i] := List.getElem?_eq_getElem hlt
      have hf := hz _ (List.getElem_mem hlt)
      have hnx := set_next (zero := ([.int .i64 0, .int .i64 0, .bool false, .val nilV, .val nilV, .val nilV, .val nilV, .int .i64 0, .bool false, .val nilV, .val nilV, .val nilV, .val nilV, .val nilV] : List T)) gi
      have hle : ∀ e ∈ z.take i ++ List.replicate (z.length - i) ([.int .i64 0, .int .i64 0, .bool false, .val nilV, .val nilV, .val nilV, .val nilV, .int .i64 0, .bool false, .val nilV, .val nilV, .val nilV, .val nilV, .val nilV] : List T), e.length = 14 := fill_len (s := sh_House) (N := 1048576) rfl rfl hz
      have hlo : (z.take i ++ List.replicate (z.length - i) ([.int .i64 0, .int .i64 0, .bool false, .val nilV, .val nilV, .val nilV, .val nilV, .int .i64 0, .bool false, .val nilV, .val nilV, .val nilV, .val nilV, .val nilV] : List T)).length = z.length := by rw [List.length_append, List.length_take, List.length_replicate]; omega
      generalize z.take i ++ List.replicate (z.length - i) ([.int .i64 0, .int .i64 0, .bool false, .val nilV, .val nilV, .val nilV, .val nilV, .int .i64 0, .bool false, .val nilV, .val nilV, .val nilV, .val nilV, .val nilV] : List T) = o at hnx hlo hle ⊢
      have hio : i < o.length := by omega
      have gio : o[i]? = some o[i] := List.getElem?_eq_getElem hio
      have hoe := hle _ (List.getElem_mem hio)
      generalize o[i] = oe at gio hoe
      generalize z[i] = e at hf gi hnx
      obtain ⟨n0, n1, b2, z3, z4, z5, z6, n7, b8, z9, z10, z11, z12, z13, rfl, -⟩ := fits_House hf
      have cE := c_toHouse [.int .i64 n0, .int .i64 n1, .bool b2, .sl 3 z3, .sl 1 z4, .sl 8 z5, .sl 1 z6, .int .i64 n7, .bool b8, .sl 1 z9, .sl 1 z10, .sl 11 z11, .sl 1 z12, .sl 1 z13] hf
      repeat ((try conv => whnf); first | (refine i_at gi ?_) | (refine ccA ([]) (cE) ?_) | (refine Exists.intro _ (And.intro gio ?_)) | (refine stpQ ?_))
      refine ⟨i + 1, hlt, by omega, ?_⟩
      rw [← hnx]
      (refine le_auto (by rfl) ?_ ?_) <;> (repeat' (first | (exact eqA) | (refine And.intro ?_ ?_) | ((fail_if_success (with_reducible (show _ = _))); (show _ = _))))
      all_goals exact congrArg (List.set o i) (ovl_all hoe)
    · obtain rfl : i = z.length := by omega
      rw [all_next]
      repeat ((try conv => whnf); first | (refine stpQ ?_))
      (refine le_auto (by rfl) ?_ ?_) <;> (repeat' (first | (exact eqA) | (refine And.intro ?_ ?_) | ((fail_if_success (with_reducible (show _ = _))); (show _ = _))))
  · repeat ((try conv => whnf); first | (refine stpQ ?_))
    (refine ans_auto (by rfl) ?_ ?_ (by rfl)) <;> (repeat' (first | (exact eqA) | (refine And.intro ?_ ?_) | ((fail_if_success (with_reducible (show _ = _))); (show _ = _))))
set_option maxRecDepth 100000 in
set_option maxHeartbeats 1000000 in
theorem c_toAuditorS (z : List (List T)) (h : z.length ≤ 1048576 ∧ ∀ e ∈ z, Fits 1048576 sh_Auditor e) : CT Tryz.prog 19 [] [.sl 6 z] (.sl 6 z) [] := by
  obtain ⟨hn, hz⟩ := h
  refine ct_intro ttE_ok 1 rfl Tryz.func19 rfl rfl rfl ?_
  repeat ((try conv => whnf); first | (refine stpQ ?_))
  refine loop_cut 0 ⟨[(3, .ref 1)], [(1, some (.row 6 z))], 2⟩ Nat (fun i => ⟨[(0, .sl 6 z), (3, .ref 1), (4, .int .i64 (i : Int))], [(1, some (.row 6 (z.take i ++ List.replicate (z.length - i) ([.int .i64 0, .bool false, .val nilV, .val nilV, .val nilV, .val nilV] : List T))))], 2⟩) (fun i => i ≤ z.length) (fun i => z.length - i) 0 (by omega) ?_ ?_ ?_
  · (refine le_auto (by rfl) ?_ ?_) <;> (repeat' (first | (exact eqA) | (refine And.intro ?_ ?_) | ((fail_if_success (with_reducible (show _ = _))); (show _ = _)))) <;> first | rfl | decide
  · intro i hi
    by_cases hlt : i < z.length
    · have hi2 : (i : Int) < (z.length : Int) := by omega
      have gi : z[i]? = some z[i] := List.getElem?_eq_getElem hlt
      have hf := hz _ (List.getElem_mem hlt)
      have hnx := set_next (zero := ([.int .i64 0, .bool false, .val nilV, .val nilV, .val nilV, .val nilV] : List T)) gi
      have hle : ∀ e ∈ z.take i ++ List.replicate (z.length - i) ([.int .i64 0, .bool false, .val nilV, .val nilV, .val nilV, .val nilV] : List T), e.length = 6 := fill_len (s := sh_Auditor) (N := 1048576) rfl rfl hz
      have hlo : (z.take i ++ List.replicate (z.length - i) ([.int .i64 0, .bool false, .val nilV, .val nilV, .val nilV, .val nilV] : List T)).length = z.length := by rw [List.length_append, List.length_take, List.length_replicate]; omega
      generalize z.take i ++ List.replicate (z.length - i) ([.int .i64 0, .bool false, .val nilV, .val nilV, .val nilV, .val nilV] : List T) = o at hnx hlo hle ⊢
      have hio : i < o.length := by omega
      have gio : o[i]? = some o[i] := List.getElem?_eq_getElem hio
      have hoe := hle _ (List.getElem_mem hio)
      generalize o[i] = oe at gio hoe
      generalize z[i] = e at hf gi hnx
      obtain ⟨n0, b1, z2, z3, z4, z5, rfl, -⟩ := fits_Auditor hf
      have cE := c_toAuditor [.int .i64 n0, .bool b1, .sl 3 z2, .sl 1 z3, .sl 8 z4, .sl 16 z5] hf
      repeat ((try conv => whnf); first | (refine i_at gi ?_) | (refine ccA ([]) (cE) ?_) | (refine Exists.intro _ (And.intro gio ?_)) | (refine stpQ ?_))
      refine ⟨i + 1, hlt, by omega, ?_⟩
      rw [← hnx]
      (refine le_auto (by rfl) ?_ ?_) <;> (repeat' (first | (exact eqA) | (refine And.intro ?_ ?_) | ((fail_if_success (with_reducible (show _ = _))); (show _ = _))))
      all_goals exact congrArg (List.set o i) (ovl_all hoe)
    · obtain rfl : i = z.length := by omega
      rw [all_next]
      repeat ((try conv => whnf); first | (refine stpQ ?_))
      (refine le_auto (by rfl) ?_ ?_) <;> (repeat' (first | (exact eqA) | (refine And.intro ?_ ?_) | ((fail_if_success (with_reducible (show _ = _))); (show _ = _))))
  · repeat ((try conv => whnf); first | (refine stpQ ?_))
    (refine ans_auto (by rfl) ?_ ?_ (by rfl)) <;> (repeat' (first | (exact eqA) | (refine And.intro ?_ ?_) | ((fail_if_success (with_reducible (show _ = _))); (show _ = _))))
set_option maxRecDepth 100000 in
set_option maxHeartbeats 1000000 in
theorem c_toNoteS (z : List (List T)) (h : z.length ≤ 1048576 ∧ ∀ e ∈ z, Fits 1048576 sh_Note e) : CT Tryz.prog 20 [] [.sl 2 z] (.sl 2 z) [] := by
  obtain ⟨hn, hz⟩ := h
  refine ct_intro ttE_ok 1 rfl Tryz.func20 rfl rfl rfl ?_
  repeat ((try conv => whnf); first | (refine stpQ ?_))
  refine loop_cut 0 ⟨[(3, .ref 1)], [(1, some (.row 2 z))], 2⟩ Nat (fun i => ⟨[(0, .sl 2 z), (3, .ref 1), (4, .int .i64 (i : Int))], [(1, some (.row 2 (z.take i ++ List.replicate (z.length - i) ([.int .i64 0, .str []] : List T))))], 2⟩) (fun i => i ≤ z.length) (fun i => z.length - i) 0 (by omega) ?_ ?_ ?_
  · (refine le_auto (by rfl) ?_ ?_) <;> (repeat' (first | (exact eqA) | (refine And.intro ?_ ?_) | ((fail_if_success (with_reducible (show _ = _))); (show _ = _)))) <;> first | rfl | decide
  · intro i hi
    by_cases hlt : i < z.length
    · have hi2 : (i : Int) < (z.length : Int) := by omega
      have gi : z[i]? = some z[i] := List.getElem?_eq_getElem hlt
      have hf := hz _ (List.getElem_mem hlt)
      have hnx := set_next (zero := ([.int .i64 0, .str []] : List T)) gi
      have hle : ∀ e ∈ z.take i ++ List.replicate (z.length - i) ([.int .i64 0, .str []] : List T), e.length = 2 := fill_len (s := sh_Note) (N := 1048576) rfl rfl hz
      have hlo : (z.take i ++ List.replicate (z.length - i) ([.int .i64 0, .str []] : List T)).length = z.length := by rw [List.length_append, List.length_take, List.length_replicate]; omega
      generalize z.take i ++ List.replicate (z.length - i) ([.int .i64 0, .str []] : List T) = o at hnx hlo hle ⊢
      have hio : i < o.length := by omega
      have gio : o[i]? = some o[i] := List.getElem?_eq_getElem hio
      have hoe := hle _ (List.getElem_mem hio)
      generalize o[i] = oe at gio hoe
      generalize z[i] = e at hf gi hnx
      obtain ⟨n0, s1, rfl, -⟩ := fits_Note hf
      have cE := c_toNote [.int .i64 n0, .str s1] hf
      repeat ((try conv => whnf); first | (refine i_at gi ?_) | (refine ccA ([]) (cE) ?_) | (refine Exists.intro _ (And.intro gio ?_)) | (refine stpQ ?_))
      refine ⟨i + 1, hlt, by omega, ?_⟩
      rw [← hnx]
      (refine le_auto (by rfl) ?_ ?_) <;> (repeat' (first | (exact eqA) | (refine And.intro ?_ ?_) | ((fail_if_success (with_reducible (show _ = _))); (show _ = _))))
      all_goals exact congrArg (List.set o i) (ovl_all hoe)
    · obtain rfl : i = z.length := by omega
      rw [all_next]
      repeat ((try conv => whnf); first | (refine stpQ ?_))
      (refine le_auto (by rfl) ?_ ?_) <;> (repeat' (first | (exact eqA) | (refine And.intro ?_ ?_) | ((fail_if_success (with_reducible (show _ = _))); (show _ = _))))
  · repeat ((try conv => whnf); first | (refine stpQ ?_))
    (refine ans_auto (by rfl) ?_ ?_ (by rfl)) <;> (repeat' (first | (exact eqA) | (refine And.intro ?_ ?_) | ((fail_if_success (with_reducible (show _ = _))); (show _ = _))))
set_option maxRecDepth 100000 in
set_option maxHeartbeats 1000000 in
theorem c_toGivenS (z : List (List T)) (h : z.length ≤ 1048576 ∧ ∀ e ∈ z, Fits 1048576 sh_Given e) : CT Tryz.prog 21 [] [.sl 7 z] (.sl 7 z) [] := by
  obtain ⟨hn, hz⟩ := h
  refine ct_intro ttE_ok 1 rfl Tryz.func21 rfl rfl rfl ?_
  repeat ((try conv => whnf); first | (refine stpQ ?_))
  refine loop_cut 0 ⟨[(3, .ref 1)], [(1, some (.row 7 z))], 2⟩ Nat (fun i => ⟨[(0, .sl 7 z), (3, .ref 1), (4, .int .i64 (i : Int))], [(1, some (.row 7 (z.take i ++ List.replicate (z.length - i) ([.int .i64 0, .int .i64 0, .int .i64 0, .int .i64 0, .val nilV, .val nilV, .val nilV] : List T))))], 2⟩) (fun i => i ≤ z.length) (fun i => z.length - i) 0 (by omega) ?_ ?_ ?_
  · (refine le_auto (by rfl) ?_ ?_) <;> (repeat' (first | (exact eqA) | (refine And.intro ?_ ?_) | ((fail_if_success (with_reducible (show _ = _))); (show _ = _)))) <;> first | rfl | decide
  · intro i hi
    by_cases hlt : i < z.length
    · have hi2 : (i : Int) < (z.length : Int) := by omega
      have gi : z[i]? = some z[i] := List.getElem?_eq_getElem hlt
      have hf := hz _ (List.getElem_mem hlt)
      have hnx := set_next (zero := ([.int .i64 0, .int .i64 0, .int .i64 0, .int .i64 0, .val nilV, .val nilV, .val nilV] : List T)) gi
      have hle : ∀ e ∈ z.take i ++ List.replicate (z.length - i) ([.int .i64 0, .int .i64 0, .int .i64 0, .int .i64 0, .val nilV, .val nilV, .val nilV] : List T), e.length = 7 := fill_len (s := sh_Given) (N := 1048576) rfl rfl hz
      have hlo : (z.take i ++ List.replicate (z.length - i) ([.int .i64 0, .int .i64 0, .int .i64 0, .int .i64 0, .val nilV, .val nilV, .val nilV] : List T)).length = z.length := by rw [List.length_append, List.length_take, List.length_replicate]; omega
      generalize z.take i ++ List.replicate (z.length - i) ([.int .i64 0, .int .i64 0, .int .i64 0, .int .i64 0, .val nilV, .val nilV, .val nilV] : List T) = o at hnx hlo hle ⊢
      have hio : i < o.length := by omega
      have gio : o[i]? = some o[i] := List.getElem?_eq_getElem hio
      have hoe := hle _ (List.getElem_mem hio)
      generalize o[i] = oe at gio hoe
      generalize z[i] = e at hf gi hnx
      obtain ⟨n0, n1, n2, n3, z4, z5, z6, rfl, -⟩ := fits_Given hf
      have cE := c_toGiven [.int .i64 n0, .int .i64 n1, .int .i64 n2, .int .i64 n3, .sl 1 z4, .sl 1 z5, .sl 1 z6] hf
      repeat ((try conv => whnf); first | (refine i_at gi ?_) | (refine ccA ([]) (cE) ?_) | (refine Exists.intro _ (And.intro gio ?_)) | (refine stpQ ?_))
      refine ⟨i + 1, hlt, by omega, ?_⟩
      rw [← hnx]
      (refine le_auto (by rfl) ?_ ?_) <;> (repeat' (first | (exact eqA) | (refine And.intro ?_ ?_) | ((fail_if_success (with_reducible (show _ = _))); (show _ = _))))
      all_goals exact congrArg (List.set o i) (ovl_all hoe)
    · obtain rfl : i = z.length := by omega
      rw [all_next]
      repeat ((try conv => whnf); first | (refine stpQ ?_))
      (refine le_auto (by rfl) ?_ ?_) <;> (repeat' (first | (exact eqA) | (refine And.intro ?_ ?_) | ((fail_if_success (with_reducible (show _ = _))); (show _ = _))))
  · repeat ((try conv => whnf); first | (refine stpQ ?_))
    (refine ans_auto (by rfl) ?_ ?_ (by rfl)) <;> (repeat' (first | (exact eqA) | (refine And.intro ?_ ?_) | ((fail_if_success (with_reducible (show _ = _))); (show _ = _))))
set_option maxRecDepth 100000 in
set_option maxHeartbeats 2000000 in
theorem c_toWorld (e : List T) (h : Fits 1048576 sh_World e) : CT Tryz.prog 6 [] [.agg e] (.agg e) [] := by
  obtain ⟨z0, z1, z2, z3, z4, z5, rfl, qz0, qz1, qz2, qz3, qz4, qz5, -⟩ := fits_World h
  clear h
  have c0 := c_toHouseS z0 qz0
  have c1 := c_toAuditorS z1 qz1
  have c2 := c_toNoteS z2 qz2
  have c3 := c_toGivenS z3 qz3
  have c4 := c_toBoolS z4 qz4
  have c5 := c_toIntS z5 qz5
  refine ct_intro ttE_ok 1 rfl Tryz.func6 rfl rfl rfl ?_
  repeat ((try conv => whnf); first | (refine ccA ([]) (c0) ?_) | (refine ccA ([]) (c1) ?_) | (refine ccA ([]) (c2) ?_) | (refine ccA ([]) (c3) ?_) | (refine ccA ([]) (c4) ?_) | (refine ccA ([]) (c5) ?_) | (refine And.intro (by kernel_rfl) ?_) | (refine stpQ ?_))
  (refine ans_auto (by rfl) ?_ ?_ (by rfl)) <;> (repeat' (first | (exact eqA) | (refine And.intro ?_ ?_) | ((fail_if_success (with_reducible (show _ = _))); (show _ = _))))
end Go.Proofs.YtfgfkhmldlpmkaaGreatDoor
