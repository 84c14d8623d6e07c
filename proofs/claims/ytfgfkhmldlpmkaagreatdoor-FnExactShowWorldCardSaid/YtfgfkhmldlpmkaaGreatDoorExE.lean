/- The exact laws compare values: what is compared with itself is alike. -/
import Derived.Test.YtfgfkhmldlpmkaaGreatDoorExT
namespace Go.Proofs.YtfgfkhmldlpmkaaGreatDoor
open Go.RowKit Pl
set_option linter.unusedVariables false
set_option linter.unusedSimpArgs false

attribute [local irreducible] CondB CallP LoopW AnsP LeP


set_option maxRecDepth 100000 in
set_option maxHeartbeats 2000000 in
theorem c_eqLeaf (e : List T) (h : Fits 1048576 sh_Leaf e) : CT Tryz.prog 145 [] [.agg e, .agg e] (.bool true) [] := by
  obtain ⟨s0, s1, rfl, qs0, qs1, -⟩ := fits_Leaf h
  clear h
  refine ct_intro ttE_ok 1 rfl Tryz.func145 rfl rfl rfl ?_
  repeat ((try conv => whnf); first | (refine cb_nf rfl ?_) | (refine And.intro (by kernel_rfl) ?_) | (refine stpQ ?_))
  (refine ans_auto (by rfl) ?_ ?_ (by rfl)) <;> (repeat' (first | (exact eqA) | (refine And.intro ?_ ?_) | ((fail_if_success (with_reducible (show _ = _))); (show _ = _))))
set_option maxRecDepth 100000 in
set_option maxHeartbeats 2000000 in
theorem c_eqChange (e : List T) (h : Fits 1048576 sh_Change e) : CT Tryz.prog 132 [] [.agg e, .agg e] (.bool true) [] := by
  obtain ⟨n0, s1, s2, rfl, qn0, qs1, qs2, -⟩ := fits_Change h
  clear h
  refine ct_intro ttE_ok 1 rfl Tryz.func132 rfl rfl rfl ?_
  repeat ((try conv => whnf); first | (refine cb_nf rfl ?_) | (refine And.intro (by kernel_rfl) ?_) | (refine stpQ ?_))
  (refine ans_auto (by rfl) ?_ ?_ (by rfl)) <;> (repeat' (first | (exact eqA) | (refine And.intro ?_ ?_) | ((fail_if_success (with_reducible (show _ = _))); (show _ = _))))
set_option maxRecDepth 100000 in
set_option maxHeartbeats 2000000 in
theorem c_eqReady (e : List T) (h : Fits 1048576 sh_Ready e) : CT Tryz.prog 109 [] [.agg e, .agg e] (.bool true) [] := by
  obtain ⟨n0, n1, n2, rfl, qn0, qn1, qn2, -⟩ := fits_Ready h
  clear h
  refine ct_intro ttE_ok 1 rfl Tryz.func109 rfl rfl rfl ?_
  repeat ((try conv => whnf); first | (refine cb_nf rfl ?_) | (refine And.intro (by kernel_rfl) ?_) | (refine stpQ ?_))
  (refine ans_auto (by rfl) ?_ ?_ (by rfl)) <;> (repeat' (first | (exact eqA) | (refine And.intro ?_ ?_) | ((fail_if_success (with_reducible (show _ = _))); (show _ = _))))
set_option maxRecDepth 100000 in
set_option maxHeartbeats 2000000 in
theorem c_eqFile (e : List T) (h : Fits 1048576 sh_File e) : CT Tryz.prog 110 [] [.agg e, .agg e] (.bool true) [] := by
  obtain ⟨s0, s1, n2, rfl, qs0, qs1, qn2, -⟩ := fits_File h
  clear h
  refine ct_intro ttE_ok 1 rfl Tryz.func110 rfl rfl rfl ?_
  repeat ((try conv => whnf); first | (refine cb_nf rfl ?_) | (refine And.intro (by kernel_rfl) ?_) | (refine stpQ ?_))
  (refine ans_auto (by rfl) ?_ ?_ (by rfl)) <;> (repeat' (first | (exact eqA) | (refine And.intro ?_ ?_) | ((fail_if_success (with_reducible (show _ = _))); (show _ = _))))
set_option maxRecDepth 100000 in
set_option maxHeartbeats 1000000 in
theorem c_eqFileS (z : List (List T)) (h : z.length ≤ 1048576 ∧ ∀ e ∈ z, Fits 1048576 sh_File e) : CT Tryz.prog 91 [] [.sl 3 z, .sl 3 z] (.bool true) [] := by
  obtain ⟨hn, hz⟩ := h
  refine ct_intro ttE_ok 1 rfl Tryz.func91 rfl rfl rfl ?_
  repeat ((try conv => whnf); first | (refine stpQ ?_))
  refine loop_of Nat (fun i => ⟨[(0, .sl 3 z), (1, .sl 3 z), (5, .int .i64 (i : Int))], [], 1⟩) (fun i => i ≤ z.length) (fun i => z.length - i) 0 (Nat.zero_le _) ?_ ?_
  · (refine le_auto (by rfl) ?_ ?_) <;> (repeat' (first | (exact eqA) | (refine And.intro ?_ ?_) | ((fail_if_success (with_reducible (show _ = _))); (show _ = _)))) <;> first | rfl | decide
  · intro i hi
    by_cases hlt : i < z.length
    · have hi2 : (i : Int) < (z.length : Int) := by omega
      have gi : z[i]? = some z[i] := List.getElem?_eq_getElem hlt
      have hf := hz _ (List.getElem_mem hlt)
      generalize z[i] = e at hf gi
      obtain ⟨s0, s1, n2, rfl, -⟩ := fits_File hf
      have cE := c_eqFile [.str s0, .str s1, .int .i64 n2] hf
      repeat ((try conv => whnf); first | (refine i_at gi ?_) | (refine ccA ([]) (cE) ?_) | (refine stpQ ?_))
      refine ⟨i + 1, hlt, by omega, ?_⟩
      (refine le_auto (by rfl) ?_ ?_) <;> (repeat' (first | (exact eqA) | (refine And.intro ?_ ?_) | ((fail_if_success (with_reducible (show _ = _))); (show _ = _))))
    · obtain rfl : i = z.length := by omega
      repeat ((try conv => whnf); first | (refine stpQ ?_))
      (refine ans_auto (by rfl) ?_ ?_ (by rfl)) <;> (repeat' (first | (exact eqA) | (refine And.intro ?_ ?_) | ((fail_if_success (with_reducible (show _ = _))); (show _ = _))))
set_option maxRecDepth 100000 in
set_option maxHeartbeats 2000000 in
theorem c_eqDisk (e : List T) (h : Fits 1048576 sh_Disk e) : CT Tryz.prog 74 [] [.agg e, .agg e] (.bool true) [] := by
  obtain ⟨z0, rfl, qz0, -⟩ := fits_Disk h
  clear h
  have c0 := c_eqFileS z0 qz0
  refine ct_intro ttE_ok 1 rfl Tryz.func74 rfl rfl rfl ?_
  repeat ((try conv => whnf); first | (refine ccA ([]) (c0) ?_) | (refine cb_nf rfl ?_) | (refine And.intro (by kernel_rfl) ?_) | (refine stpQ ?_))
  (refine ans_auto (by rfl) ?_ ?_ (by rfl)) <;> (repeat' (first | (exact eqA) | (refine And.intro ?_ ?_) | ((fail_if_success (with_reducible (show _ = _))); (show _ = _))))
set_option maxRecDepth 100000 in
set_option maxHeartbeats 2000000 in
theorem c_eqHead (e : List T) (h : Fits 1048576 sh_Head e) : CT Tryz.prog 111 [] [.agg e, .agg e] (.bool true) [] := by
  obtain ⟨n0, n1, s2, s3, rfl, qn0, qn1, qs2, qs3, -⟩ := fits_Head h
  clear h
  refine ct_intro ttE_ok 1 rfl Tryz.func111 rfl rfl rfl ?_
  repeat ((try conv => whnf); first | (refine cb_nf rfl ?_) | (refine And.intro (by kernel_rfl) ?_) | (refine stpQ ?_))
  (refine ans_auto (by rfl) ?_ ?_ (by rfl)) <;> (repeat' (first | (exact eqA) | (refine And.intro ?_ ?_) | ((fail_if_success (with_reducible (show _ = _))); (show _ = _))))
set_option maxRecDepth 100000 in
set_option maxHeartbeats 1000000 in
theorem c_eqStringS (z : List (List T)) (h : z.length ≤ 1048576 ∧ ∀ e ∈ z, Fits 1048576 .str e) : CT Tryz.prog 73 [] [.sl 1 z, .sl 1 z] (.bool true) [] := by
  obtain ⟨hn, hz⟩ := h
  refine ct_intro ttE_ok 1 rfl Tryz.func73 rfl rfl rfl ?_
  repeat ((try conv => whnf); first | (refine stpQ ?_))
  refine loop_of Nat (fun i => ⟨[(0, .sl 1 z), (1, .sl 1 z), (5, .int .i64 (i : Int))], [], 1⟩) (fun i => i ≤ z.length) (fun i => z.length - i) 0 (Nat.zero_le _) ?_ ?_
  · (refine le_auto (by rfl) ?_ ?_) <;> (repeat' (first | (exact eqA) | (refine And.intro ?_ ?_) | ((fail_if_success (with_reducible (show _ = _))); (show _ = _)))) <;> first | rfl | decide
  · intro i hi
    by_cases hlt : i < z.length
    · have hi2 : (i : Int) < (z.length : Int) := by omega
      have gi : z[i]? = some z[i] := List.getElem?_eq_getElem hlt
      have hf := hz _ (List.getElem_mem hlt)
      generalize z[i] = e at hf gi
      obtain ⟨s, rfl, hf1⟩ := hf
      repeat ((try conv => whnf); first | (refine i_at gi ?_) | (refine cb_nf rfl ?_) | (refine stpQ ?_))
      refine ⟨i + 1, hlt, by omega, ?_⟩
      (refine le_auto (by rfl) ?_ ?_) <;> (repeat' (first | (exact eqA) | (refine And.intro ?_ ?_) | ((fail_if_success (with_reducible (show _ = _))); (show _ = _))))
    · obtain rfl : i = z.length := by omega
      repeat ((try conv => whnf); first | (refine stpQ ?_))
      (refine ans_auto (by rfl) ?_ ?_ (by rfl)) <;> (repeat' (first | (exact eqA) | (refine And.intro ?_ ?_) | ((fail_if_success (with_reducible (show _ = _))); (show _ = _))))
set_option maxRecDepth 100000 in
set_option maxHeartbeats 2000000 in
theorem c_eqSig (e : List T) (h : Fits 1048576 sh_Sig e) : CT Tryz.prog 94 [] [.agg e, .agg e] (.bool true) [] := by
  obtain ⟨n0, z1, z2, z3, rfl, qn0, qz1, qz2, qz3, -⟩ := fits_Sig h
  clear h
  have c1 := c_eqStringS z1 qz1
  have c2 := c_eqStringS z2 qz2
  have c3 := c_eqStringS z3 qz3
  refine ct_intro ttE_ok 1 rfl Tryz.func94 rfl rfl rfl ?_
  repeat ((try conv => whnf); first | (refine ccA ([]) (c1) ?_) | (refine ccA ([]) (c2) ?_) | (refine ccA ([]) (c3) ?_) | (refine cb_nf rfl ?_) | (refine And.intro (by kernel_rfl) ?_) | (refine stpQ ?_))
  (refine ans_auto (by rfl) ?_ ?_ (by rfl)) <;> (repeat' (first | (exact eqA) | (refine And.intro ?_ ?_) | ((fail_if_success (with_reducible (show _ = _))); (show _ = _))))
set_option maxRecDepth 100000 in
set_option maxHeartbeats 2000000 in
theorem c_eqSeal (e : List T) (h : Fits 1048576 sh_Seal e) : CT Tryz.prog 92 [] [.agg e, .agg e] (.bool true) [] := by
  obtain ⟨n0, n1, s2, s3, n4, z5, z6, z7, rfl, qn0, qn1, qs2, qs3, qn4, qz5, qz6, qz7, -⟩ := fits_Seal h
  clear h
  have c0 := c_eqHead [.int .i64 n0, .int .i64 n1, .str s2, .str s3] (mk_Head qn0 qn1 qs2 qs3)
  have c1 := c_eqSig [.int .i64 n4, .sl 1 z5, .sl 1 z6, .sl 1 z7] (mk_Sig qn4 qz5 qz6 qz7)
  refine ct_intro ttE_ok 1 rfl Tryz.func92 rfl rfl rfl ?_
  repeat ((try conv => whnf); first | (refine ccA ([]) (c0) ?_) | (refine ccA ([]) (c1) ?_) | (refine cb_nf rfl ?_) | (refine And.intro (by kernel_rfl) ?_) | (refine stpQ ?_))
  (refine ans_auto (by rfl) ?_ ?_ (by rfl)) <;> (repeat' (first | (exact eqA) | (refine And.intro ?_ ?_) | ((fail_if_success (with_reducible (show _ = _))); (show _ = _))))
set_option maxRecDepth 100000 in
set_option maxHeartbeats 2000000 in
theorem c_eqStamp (e : List T) (h : Fits 1048576 sh_Stamp e) : CT Tryz.prog 77 [] [.agg e, .agg e] (.bool true) [] := by
  obtain ⟨n0, n1, z2, z3, z4, rfl, qn0, qn1, qz2, qz3, qz4, -⟩ := fits_Stamp h
  clear h
  have c1 := c_eqSig [.int .i64 n1, .sl 1 z2, .sl 1 z3, .sl 1 z4] (mk_Sig qn1 qz2 qz3 qz4)
  refine ct_intro ttE_ok 1 rfl Tryz.func77 rfl rfl rfl ?_
  repeat ((try conv => whnf); first | (refine ccA ([]) (c1) ?_) | (refine cb_nf rfl ?_) | (refine And.intro (by kernel_rfl) ?_) | (refine stpQ ?_))
  (refine ans_auto (by rfl) ?_ ?_ (by rfl)) <;> (repeat' (first | (exact eqA) | (refine And.intro ?_ ?_) | ((fail_if_success (with_reducible (show _ = _))); (show _ = _))))
set_option maxRecDepth 100000 in
set_option maxHeartbeats 2000000 in
theorem c_eqPair (e : List T) (h : Fits 1048576 sh_Pair e) : CT Tryz.prog 93 [] [.agg e, .agg e] (.bool true) [] := by
  obtain ⟨n0, n1, s2, s3, n4, z5, z6, z7, n8, n9, s10, s11, n12, z13, z14, z15, rfl, qn0, qn1, qs2, qs3, qn4, qz5, qz6, qz7, qn8, qn9, qs10, qs11, qn12, qz13, qz14, qz15, -⟩ := fits_Pair h
  clear h
  have c0 := c_eqSeal [.int .i64 n0, .int .i64 n1, .str s2, .str s3, .int .i64 n4, .sl 1 z5, .sl 1 z6, .sl 1 z7] (mk_Seal qn0 qn1 qs2 qs3 qn4 qz5 qz6 qz7)
  have c1 := c_eqSeal [.int .i64 n8, .int .i64 n9, .str s10, .str s11, .int .i64 n12, .sl 1 z13, .sl 1 z14, .sl 1 z15] (mk_Seal qn8 qn9 qs10 qs11 qn12 qz13 qz14 qz15)
  refine ct_intro ttE_ok 1 rfl Tryz.func93 rfl rfl rfl ?_
  repeat ((try conv => whnf); first | (refine ccA ([]) (c0) ?_) | (refine ccA ([]) (c1) ?_) | (refine cb_nf rfl ?_) | (refine And.intro (by kernel_rfl) ?_) | (refine stpQ ?_))
  (refine ans_auto (by rfl) ?_ ?_ (by rfl)) <;> (repeat' (first | (exact eqA) | (refine And.intro ?_ ?_) | ((fail_if_success (with_reducible (show _ = _))); (show _ = _))))
set_option maxRecDepth 100000 in
set_option maxHeartbeats 1000000 in
theorem c_eqLeafS (z : List (List T)) (h : z.length ≤ 1048576 ∧ ∀ e ∈ z, Fits 1048576 sh_Leaf e) : CT Tryz.prog 131 [] [.sl 2 z, .sl 2 z] (.bool true) [] := by
  obtain ⟨hn, hz⟩ := h
  refine ct_intro ttE_ok 1 rfl Tryz.func131 rfl rfl rfl ?_
  repeat ((try conv => whnf); first | (refine stpQ ?_))
  refine loop_of Nat (fun i => ⟨[(0, .sl 2 z), (1, .sl 2 z), (5, .int .i64 (i : Int))], [], 1⟩) (fun i => i ≤ z.length) (fun i => z.length - i) 0 (Nat.zero_le _) ?_ ?_
  · (refine le_auto (by rfl) ?_ ?_) <;> (repeat' (first | (exact eqA) | (refine And.intro ?_ ?_) | ((fail_if_success (with_reducible (show _ = _))); (show _ = _)))) <;> first | rfl | decide
  · intro i hi
    by_cases hlt : i < z.length
    · have hi2 : (i : Int) < (z.length : Int) := by omega
      have gi : z[i]? = some z[i] := List.getElem?_eq_getElem hlt
      have hf := hz _ (List.getElem_mem hlt)
      generalize z[i] = e at hf gi
      obtain ⟨s0, s1, rfl, -⟩ := fits_Leaf hf
      have cE := c_eqLeaf [.str s0, .str s1] hf
      repeat ((try conv => whnf); first | (refine i_at gi ?_) | (refine ccA ([]) (cE) ?_) | (refine stpQ ?_))
      refine ⟨i + 1, hlt, by omega, ?_⟩
      (refine le_auto (by rfl) ?_ ?_) <;> (repeat' (first | (exact eqA) | (refine And.intro ?_ ?_) | ((fail_if_success (with_reducible (show _ = _))); (show _ = _))))
    · obtain rfl : i = z.length := by omega
      repeat ((try conv => whnf); first | (refine stpQ ?_))
      (refine ans_auto (by rfl) ?_ ?_ (by rfl)) <;> (repeat' (first | (exact eqA) | (refine And.intro ?_ ?_) | ((fail_if_success (with_reducible (show _ = _))); (show _ = _))))
set_option maxRecDepth 100000 in
set_option maxHeartbeats 1000000 in
theorem c_eqLeafSS (z : List (List T)) (h : z.length ≤ 1048576 ∧ ∀ e ∈ z, Fits 1048576 (.sl 2 sh_Leaf) e) : CT Tryz.prog 107 [] [.sl 1 z, .sl 1 z] (.bool true) [] := by
  obtain ⟨hn, hz⟩ := h
  refine ct_intro ttE_ok 1 rfl Tryz.func107 rfl rfl rfl ?_
  repeat ((try conv => whnf); first | (refine stpQ ?_))
  refine loop_of Nat (fun i => ⟨[(0, .sl 1 z), (1, .sl 1 z), (5, .int .i64 (i : Int))], [], 1⟩) (fun i => i ≤ z.length) (fun i => z.length - i) 0 (Nat.zero_le _) ?_ ?_
  · (refine le_auto (by rfl) ?_ ?_) <;> (repeat' (first | (exact eqA) | (refine And.intro ?_ ?_) | ((fail_if_success (with_reducible (show _ = _))); (show _ = _)))) <;> first | rfl | decide
  · intro i hi
    by_cases hlt : i < z.length
    · have hi2 : (i : Int) < (z.length : Int) := by omega
      have gi : z[i]? = some z[i] := List.getElem?_eq_getElem hlt
      have hf := hz _ (List.getElem_mem hlt)
      generalize z[i] = e at hf gi
      obtain ⟨es, rfl, hf1⟩ := hf
      have cE := c_eqLeafS es hf1
      repeat ((try conv => whnf); first | (refine i_at gi ?_) | (refine ccA ([]) (cE) ?_) | (refine stpQ ?_))
      refine ⟨i + 1, hlt, by omega, ?_⟩
      (refine le_auto (by rfl) ?_ ?_) <;> (repeat' (first | (exact eqA) | (refine And.intro ?_ ?_) | ((fail_if_success (with_reducible (show _ = _))); (show _ = _))))
    · obtain rfl : i = z.length := by omega
      repeat ((try conv => whnf); first | (refine stpQ ?_))
      (refine ans_auto (by rfl) ?_ ?_ (by rfl)) <;> (repeat' (first | (exact eqA) | (refine And.intro ?_ ?_) | ((fail_if_success (with_reducible (show _ = _))); (show _ = _))))
set_option maxRecDepth 100000 in
set_option maxHeartbeats 1000000 in
theorem c_eqIntS (z : List (List T)) (h : z.length ≤ 1048576 ∧ ∀ e ∈ z, Fits 1048576 .int e) : CT Tryz.prog 32 [] [.sl 1 z, .sl 1 z] (.bool true) [] := by
  obtain ⟨hn, hz⟩ := h
  refine ct_intro ttE_ok 1 rfl Tryz.func32 rfl rfl rfl ?_
  repeat ((try conv => whnf); first | (refine stpQ ?_))
  refine loop_of Nat (fun i => ⟨[(0, .sl 1 z), (1, .sl 1 z), (5, .int .i64 (i : Int))], [], 1⟩) (fun i => i ≤ z.length) (fun i => z.length - i) 0 (Nat.zero_le _) ?_ ?_
  · (refine le_auto (by rfl) ?_ ?_) <;> (repeat' (first | (exact eqA) | (refine And.intro ?_ ?_) | ((fail_if_success (with_reducible (show _ = _))); (show _ = _)))) <;> first | rfl | decide
  · intro i hi
    by_cases hlt : i < z.length
    · have hi2 : (i : Int) < (z.length : Int) := by omega
      have gi : z[i]? = some z[i] := List.getElem?_eq_getElem hlt
      have hf := hz _ (List.getElem_mem hlt)
      generalize z[i] = e at hf gi
      obtain ⟨n, rfl, hf1⟩ := hf
      repeat ((try conv => whnf); first | (refine i_at gi ?_) | (refine cb_nf rfl ?_) | (refine stpQ ?_))
      refine ⟨i + 1, hlt, by omega, ?_⟩
      (refine le_auto (by rfl) ?_ ?_) <;> (repeat' (first | (exact eqA) | (refine And.intro ?_ ?_) | ((fail_if_success (with_reducible (show _ = _))); (show _ = _))))
    · obtain rfl : i = z.length := by omega
      repeat ((try conv => whnf); first | (refine stpQ ?_))
      (refine ans_auto (by rfl) ?_ ?_ (by rfl)) <;> (repeat' (first | (exact eqA) | (refine And.intro ?_ ?_) | ((fail_if_success (with_reducible (show _ = _))); (show _ = _))))
set_option maxRecDepth 100000 in
set_option maxHeartbeats 1000000 in
theorem c_eqChangeS (z : List (List T)) (h : z.length ≤ 1048576 ∧ ∀ e ∈ z, Fits 1048576 sh_Change e) : CT Tryz.prog 108 [] [.sl 3 z, .sl 3 z] (.bool true) [] := by
  obtain ⟨hn, hz⟩ := h
  refine ct_intro ttE_ok 1 rfl Tryz.func108 rfl rfl rfl ?_
  repeat ((try conv => whnf); first | (refine stpQ ?_))
  refine loop_of Nat (fun i => ⟨[(0, .sl 3 z), (1, .sl 3 z), (5, .int .i64 (i : Int))], [], 1⟩) (fun i => i ≤ z.length) (fun i => z.length - i) 0 (Nat.zero_le _) ?_ ?_
  · (refine le_auto (by rfl) ?_ ?_) <;> (repeat' (first | (exact eqA) | (refine And.intro ?_ ?_) | ((fail_if_success (with_reducible (show _ = _))); (show _ = _)))) <;> first | rfl | decide
  · intro i hi
    by_cases hlt : i < z.length
    · have hi2 : (i : Int) < (z.length : Int) := by omega
      have gi : z[i]? = some z[i] := List.getElem?_eq_getElem hlt
      have hf := hz _ (List.getElem_mem hlt)
      generalize z[i] = e at hf gi
      obtain ⟨n0, s1, s2, rfl, -⟩ := fits_Change hf
      have cE := c_eqChange [.int .i64 n0, .str s1, .str s2] hf
      repeat ((try conv => whnf); first | (refine i_at gi ?_) | (refine ccA ([]) (cE) ?_) | (refine stpQ ?_))
      refine ⟨i + 1, hlt, by omega, ?_⟩
      (refine le_auto (by rfl) ?_ ?_) <;> (repeat' (first | (exact eqA) | (refine And.intro ?_ ?_) | ((fail_if_success (with_reducible (show _ = _))); (show _ = _))))
    · obtain rfl : i = z.length := by omega
      repeat ((try conv => whnf); first | (refine stpQ ?_))
      (refine ans_auto (by rfl) ?_ ?_ (by rfl)) <;> (repeat' (first | (exact eqA) | (refine And.intro ?_ ?_) | ((fail_if_success (with_reducible (show _ = _))); (show _ = _))))
set_option maxRecDepth 100000 in
set_option maxHeartbeats 2000000 in
theorem c_eqServer (e : List T) (h : Fits 1048576 sh_Server e) : CT Tryz.prog 90 [] [.agg e, .agg e] (.bool true) [] := by
  obtain ⟨n0, n1, b2, z3, n4, z5, z6, z7, n8, n9, n10, rfl, qn0, qn1, qb2, qz3, qn4, qz5, qz6, qz7, qn8, qn9, qn10, -⟩ := fits_Server h
  clear h
  have c3 := c_eqDisk [.sl 3 z3] (mk_Disk qz3)
  have c5 := c_eqLeafSS z5 qz5
  have c6 := c_eqIntS z6 qz6
  have c7 := c_eqChangeS z7 qz7
  have c8 := c_eqReady [.int .i64 n8, .int .i64 n9, .int .i64 n10] (mk_Ready qn8 qn9 qn10)
  refine ct_intro ttE_ok 1 rfl Tryz.func90 rfl rfl rfl ?_
  cases b2
  all_goals
    repeat ((try conv => whnf); first | (refine ccA ([]) (c3) ?_) | (refine ccA ([]) (c5) ?_) | (refine ccA ([]) (c6) ?_) | (refine ccA ([]) (c7) ?_) | (refine ccA ([]) (c8) ?_) | (refine cb_nf rfl ?_) | (refine And.intro (by kernel_rfl) ?_) | (refine stpQ ?_))
    (refine ans_auto (by rfl) ?_ ?_ (by rfl)) <;> (repeat' (first | (exact eqA) | (refine And.intro ?_ ?_) | ((fail_if_success (with_reducible (show _ = _))); (show _ = _))))
set_option maxRecDepth 100000 in
set_option maxHeartbeats 1000000 in
theorem c_eqSealS (z : List (List T)) (h : z.length ≤ 1048576 ∧ ∀ e ∈ z, Fits 1048576 sh_Seal e) : CT Tryz.prog 75 [] [.sl 8 z, .sl 8 z] (.bool true) [] := by
  obtain ⟨hn, hz⟩ := h
  refine ct_intro ttE_ok 1 rfl Tryz.func75 rfl rfl rfl ?_
  repeat ((try conv => whnf); first | (refine stpQ ?_))
  refine loop_of Nat (fun i => ⟨[(0, .sl 8 z), (1, .sl 8 z), (5, .int .i64 (i : Int))], [], 1⟩) (fun i => i ≤ z.length) (fun i => z.length - i) 0 (Nat.zero_le _) ?_ ?_
  · (refine le_auto (by rfl) ?_ ?_) <;> (repeat' (first | (exact eqA) | (refine And.intro ?_ ?_) | ((fail_if_success (with_reducible (show _ = _))); (show _ = _)))) <;> first | rfl | decide
  · intro i hi
    by_cases hlt : i < z.length
    · have hi2 : (i : Int) < (z.length : Int) := by omega
      have gi : z[i]? = some z[i] := List.getElem?_eq_getElem hlt
      have hf := hz _ (List.getElem_mem hlt)
      generalize z[i] = e at hf gi
      obtain ⟨n0, n1, s2, s3, n4, z5, z6, z7, rfl, -⟩ := fits_Seal hf
      have cE := c_eqSeal [.int .i64 n0, .int .i64 n1, .str s2, .str s3, .int .i64 n4, .sl 1 z5, .sl 1 z6, .sl 1 z7] hf
      repeat ((try conv => whnf); first | (refine i_at gi ?_) | (refine ccA ([]) (cE) ?_) | (refine stpQ ?_))
      refine ⟨i + 1, hlt, by omega, ?_⟩
      (refine le_auto (by rfl) ?_ ?_) <;> (repeat' (first | (exact eqA) | (refine And.intro ?_ ?_) | ((fail_if_success (with_reducible (show _ = _))); (show _ = _))))
    · obtain rfl : i = z.length := by omega
      repeat ((try conv => whnf); first | (refine stpQ ?_))
      (refine ans_auto (by rfl) ?_ ?_ (by rfl)) <;> (repeat' (first | (exact eqA) | (refine And.intro ?_ ?_) | ((fail_if_success (with_reducible (show _ = _))); (show _ = _))))
set_option maxRecDepth 100000 in
set_option maxHeartbeats 1000000 in
theorem c_eqBoolS (z : List (List T)) (h : z.length ≤ 1048576 ∧ ∀ e ∈ z, Fits 1048576 .bool e) : CT Tryz.prog 31 [] [.sl 1 z, .sl 1 z] (.bool true) [] := by
  obtain ⟨hn, hz⟩ := h
  refine ct_intro ttE_ok 1 rfl Tryz.func31 rfl rfl rfl ?_
  repeat ((try conv => whnf); first | (refine stpQ ?_))
  refine loop_of Nat (fun i => ⟨[(0, .sl 1 z), (1, .sl 1 z), (5, .int .i64 (i : Int))], [], 1⟩) (fun i => i ≤ z.length) (fun i => z.length - i) 0 (Nat.zero_le _) ?_ ?_
  · (refine le_auto (by rfl) ?_ ?_) <;> (repeat' (first | (exact eqA) | (refine And.intro ?_ ?_) | ((fail_if_success (with_reducible (show _ = _))); (show _ = _)))) <;> first | rfl | decide
  · intro i hi
    by_cases hlt : i < z.length
    · have hi2 : (i : Int) < (z.length : Int) := by omega
      have gi : z[i]? = some z[i] := List.getElem?_eq_getElem hlt
      have hf := hz _ (List.getElem_mem hlt)
      generalize z[i] = e at hf gi
      obtain ⟨b, rfl⟩ := hf
      cases b
      all_goals
        repeat ((try conv => whnf); first | (refine i_at gi ?_) | (refine stpQ ?_))
        refine ⟨i + 1, hlt, by omega, ?_⟩
        (refine le_auto (by rfl) ?_ ?_) <;> (repeat' (first | (exact eqA) | (refine And.intro ?_ ?_) | ((fail_if_success (with_reducible (show _ = _))); (show _ = _))))
    · obtain rfl : i = z.length := by omega
      repeat ((try conv => whnf); first | (refine stpQ ?_))
      (refine ans_auto (by rfl) ?_ ?_ (by rfl)) <;> (repeat' (first | (exact eqA) | (refine And.intro ?_ ?_) | ((fail_if_success (with_reducible (show _ = _))); (show _ = _))))
set_option maxRecDepth 100000 in
set_option maxHeartbeats 2000000 in
theorem c_eqCoord (e : List T) (h : Fits 1048576 sh_Coord e) : CT Tryz.prog 71 [] [.agg e, .agg e] (.bool true) [] := by
  obtain ⟨n0, n1, b2, z3, z4, z5, z6, n7, b8, z9, z10, rfl, qn0, qn1, qb2, qz3, qz4, qz5, qz6, qn7, qb8, qz9, qz10, -⟩ := fits_Coord h
  clear h
  have c3 := c_eqDisk [.sl 3 z3] (mk_Disk qz3)
  have c4 := c_eqStringS z4 qz4
  have c5 := c_eqSealS z5 qz5
  have c6 := c_eqIntS z6 qz6
  have c9 := c_eqStringS z9 qz9
  have c10 := c_eqBoolS z10 qz10
  refine ct_intro ttE_ok 1 rfl Tryz.func71 rfl rfl rfl ?_
  cases b2
  cases b8
  all_goals
    repeat ((try conv => whnf); first | (refine ccA ([]) (c3) ?_) | (refine ccA ([]) (c4) ?_) | (refine ccA ([]) (c5) ?_) | (refine ccA ([]) (c6) ?_) | (refine ccA ([]) (c9) ?_) | (refine ccA ([]) (c10) ?_) | (refine cb_nf rfl ?_) | (refine And.intro (by kernel_rfl) ?_) | (refine stpQ ?_))
    (refine ans_auto (by rfl) ?_ ?_ (by rfl)) <;> (repeat' (first | (exact eqA) | (refine And.intro ?_ ?_) | ((fail_if_success (with_reducible (show _ = _))); (show _ = _))))
set_option maxRecDepth 100000 in
set_option maxHeartbeats 1000000 in
theorem c_eqServerS (z : List (List T)) (h : z.length ≤ 1048576 ∧ ∀ e ∈ z, Fits 1048576 sh_Server e) : CT Tryz.prog 72 [] [.sl 11 z, .sl 11 z] (.bool true) [] := by
  obtain ⟨hn, hz⟩ := h
  refine ct_intro ttE_ok 1 rfl Tryz.func72 rfl rfl rfl ?_
  repeat ((try conv => whnf); first | (refine stpQ ?_))
  refine loop_of Nat (fun i => ⟨[(0, .sl 11 z), (1, .sl 11 z), (5, .int .i64 (i : Int))], [], 1⟩) (fun i => i ≤ z.length) (fun i => z.length - i) 0 (Nat.zero_le _) ?_ ?_
  · (refine le_auto (by rfl) ?_ ?_) <;> (repeat' (first | (exact eqA) | (refine And.intro ?_ ?_) | ((fail_if_success (with_reducible (show _ = _))); (show _ = _)))) <;> first | rfl | decide
  · intro i hi
    by_cases hlt : i < z.length
    · have hi2 : (i : Int) < (z.length : Int) := by omega
      have gi : z[i]? = some z[i] := List.getElem?_eq_getElem hlt
      have hf := hz _ (List.getElem_mem hlt)
      generalize z[i] = e at hf gi
      obtain ⟨n0, n1, b2, z3, n4, z5, z6, z7, n8, n9, n10, rfl, -⟩ := fits_Server hf
      have cE := c_eqServer [.int .i64 n0, .int .i64 n1, .bool b2, .sl 3 z3, .int .i64 n4, .sl 1 z5, .sl 1 z6, .sl 3 z7, .int .i64 n8, .int .i64 n9, .int .i64 n10] hf
      repeat ((try conv => whnf); first | (refine i_at gi ?_) | (refine ccA ([]) (cE) ?_) | (refine stpQ ?_))
      refine ⟨i + 1, hlt, by omega, ?_⟩
      (refine le_auto (by rfl) ?_ ?_) <;> (repeat' (first | (exact eqA) | (refine And.intro ?_ ?_) | ((fail_if_success (with_reducible (show _ = _))); (show _ = _))))
    · obtain rfl : i = z.length := by omega
      repeat ((try conv => whnf); first | (refine stpQ ?_))
      (refine ans_auto (by rfl) ?_ ?_ (by rfl)) <;> (repeat' (first | (exact eqA) | (refine And.intro ?_ ?_) | ((fail_if_success (with_reducible (show _ = _))); (show _ = _))))
set_option maxRecDepth 100000 in
set_option maxHeartbeats 2000000 in
theorem c_eqHouse (e : List T) (h : Fits 1048576 sh_House e) : CT Tryz.prog 50 [] [.agg e, .agg e] (.bool true) [] := by
  obtain ⟨n0, n1, b2, z3, z4, z5, z6, n7, b8, z9, z10, z11, z12, z13, rfl, qn0, qn1, qb2, qz3, qz4, qz5, qz6, qn7, qb8, qz9, qz10, qz11, qz12, qz13, -⟩ := fits_House h
  clear h
  have c0 := c_eqCoord [.int .i64 n0, .int .i64 n1, .bool b2, .sl 3 z3, .sl 1 z4, .sl 8 z5, .sl 1 z6, .int .i64 n7, .bool b8, .sl 1 z9, .sl 1 z10] (mk_Coord qn0 qn1 qb2 qz3 qz4 qz5 qz6 qn7 qb8 qz9 qz10)
  have c1 := c_eqServerS z11 qz11
  have c2 := c_eqStringS z12 qz12
  have c3 := c_eqIntS z13 qz13
  refine ct_intro ttE_ok 1 rfl Tryz.func50 rfl rfl rfl ?_
  repeat ((try conv => whnf); first | (refine ccA ([]) (c0) ?_) | (refine ccA ([]) (c1) ?_) | (refine ccA ([]) (c2) ?_) | (refine ccA ([]) (c3) ?_) | (refine cb_nf rfl ?_) | (refine And.intro (by kernel_rfl) ?_) | (refine stpQ ?_))
  (refine ans_auto (by rfl) ?_ ?_ (by rfl)) <;> (repeat' (first | (exact eqA) | (refine And.intro ?_ ?_) | ((fail_if_success (with_reducible (show _ = _))); (show _ = _))))
set_option maxRecDepth 100000 in
set_option maxHeartbeats 1000000 in
theorem c_eqPairS (z : List (List T)) (h : z.length ≤ 1048576 ∧ ∀ e ∈ z, Fits 1048576 sh_Pair e) : CT Tryz.prog 76 [] [.sl 16 z, .sl 16 z] (.bool true) [] := by
  obtain ⟨hn, hz⟩ := h
  refine ct_intro ttE_ok 1 rfl Tryz.func76 rfl rfl rfl ?_
  repeat ((try conv => whnf); first | (refine stpQ ?_))
  refine loop_of Nat (fun i => ⟨[(0, .sl 16 z), (1, .sl 16 z), (5, .int .i64 (i : Int))], [], 1⟩) (fun i => i ≤ z.length) (fun i => z.length - i) 0 (Nat.zero_le _) ?_ ?_
  · (refine le_auto (by rfl) ?_ ?_) <;> (repeat' (first | (exact eqA) | (refine And.intro ?_ ?_) | ((fail_if_success (with_reducible (show _ = _))); (show _ = _)))) <;> first | rfl | decide
  · intro i hi
    by_cases hlt : i < z.length
    · have hi2 : (i : Int) < (z.length : Int) := by omega
      have gi : z[i]? = some z[i] := List.getElem?_eq_getElem hlt
      have hf := hz _ (List.getElem_mem hlt)
      generalize z[i] = e at hf gi
      obtain ⟨n0, n1, s2, s3, n4, z5, z6, z7, n8, n9, s10, s11, n12, z13, z14, z15, rfl, -⟩ := fits_Pair hf
      have cE := c_eqPair [.int .i64 n0, .int .i64 n1, .str s2, .str s3, .int .i64 n4, .sl 1 z5, .sl 1 z6, .sl 1 z7, .int .i64 n8, .int .i64 n9, .str s10, .str s11, .int .i64 n12, .sl 1 z13, .sl 1 z14, .sl 1 z15] hf
      repeat ((try conv => whnf); first | (refine i_at gi ?_) | (refine ccA ([]) (cE) ?_) | (refine stpQ ?_))
      refine ⟨i + 1, hlt, by omega, ?_⟩
      (refine le_auto (by rfl) ?_ ?_) <;> (repeat' (first | (exact eqA) | (refine And.intro ?_ ?_) | ((fail_if_success (with_reducible (show _ = _))); (show _ = _))))
    · obtain rfl : i = z.length := by omega
      repeat ((try conv => whnf); first | (refine stpQ ?_))
      (refine ans_auto (by rfl) ?_ ?_ (by rfl)) <;> (repeat' (first | (exact eqA) | (refine And.intro ?_ ?_) | ((fail_if_success (with_reducible (show _ = _))); (show _ = _))))
set_option maxRecDepth 100000 in
set_option maxHeartbeats 2000000 in
theorem c_eqAuditor (e : List T) (h : Fits 1048576 sh_Auditor e) : CT Tryz.prog 51 [] [.agg e, .agg e] (.bool true) [] := by
  obtain ⟨n0, b1, z2, z3, z4, z5, rfl, qn0, qb1, qz2, qz3, qz4, qz5, -⟩ := fits_Auditor h
  clear h
  have c2 := c_eqDisk [.sl 3 z2] (mk_Disk qz2)
  have c3 := c_eqStringS z3 qz3
  have c4 := c_eqSealS z4 qz4
  have c5 := c_eqPairS z5 qz5
  refine ct_intro ttE_ok 1 rfl Tryz.func51 rfl rfl rfl ?_
  cases b1
  all_goals
    repeat ((try conv => whnf); first | (refine ccA ([]) (c2) ?_) | (refine ccA ([]) (c3) ?_) | (refine ccA ([]) (c4) ?_) | (refine ccA ([]) (c5) ?_) | (refine cb_nf rfl ?_) | (refine And.intro (by kernel_rfl) ?_) | (refine stpQ ?_))
    (refine ans_auto (by rfl) ?_ ?_ (by rfl)) <;> (repeat' (first | (exact eqA) | (refine And.intro ?_ ?_) | ((fail_if_success (with_reducible (show _ = _))); (show _ = _))))
set_option maxRecDepth 100000 in
set_option maxHeartbeats 2000000 in
theorem c_eqNote (e : List T) (h : Fits 1048576 sh_Note e) : CT Tryz.prog 52 [] [.agg e, .agg e] (.bool true) [] := by
  obtain ⟨n0, s1, rfl, qn0, qs1, -⟩ := fits_Note h
  clear h
  refine ct_intro ttE_ok 1 rfl Tryz.func52 rfl rfl rfl ?_
  repeat ((try conv => whnf); first | (refine cb_nf rfl ?_) | (refine And.intro (by kernel_rfl) ?_) | (refine stpQ ?_))
  (refine ans_auto (by rfl) ?_ ?_ (by rfl)) <;> (repeat' (first | (exact eqA) | (refine And.intro ?_ ?_) | ((fail_if_success (with_reducible (show _ = _))); (show _ = _))))
set_option maxRecDepth 100000 in
set_option maxHeartbeats 2000000 in
theorem c_eqGiven (e : List T) (h : Fits 1048576 sh_Given e) : CT Tryz.prog 53 [] [.agg e, .agg e] (.bool true) [] := by
  obtain ⟨n0, n1, n2, n3, z4, z5, z6, rfl, qn0, qn1, qn2, qn3, qz4, qz5, qz6, -⟩ := fits_Given h
  clear h
  have c2 := c_eqStamp [.int .i64 n2, .int .i64 n3, .sl 1 z4, .sl 1 z5, .sl 1 z6] (mk_Stamp qn2 qn3 qz4 qz5 qz6)
  refine ct_intro ttE_ok 1 rfl Tryz.func53 rfl rfl rfl ?_
  repeat ((try conv => whnf); first | (refine ccA ([]) (c2) ?_) | (refine cb_nf rfl ?_) | (refine And.intro (by kernel_rfl) ?_) | (refine stpQ ?_))
  (refine ans_auto (by rfl) ?_ ?_ (by rfl)) <;> (repeat' (first | (exact eqA) | (refine And.intro ?_ ?_) | ((fail_if_success (with_reducible (show _ = _))); (show _ = _))))
set_option maxRecDepth 100000 in
set_option maxHeartbeats 1000000 in
theorem c_eqHouseS (z : List (List T)) (h : z.length ≤ 1048576 ∧ ∀ e ∈ z, Fits 1048576 sh_House e) : CT Tryz.prog 27 [] [.sl 14 z, .sl 14 z] (.bool true) [] := by
  obtain ⟨hn, hz⟩ := h
  refine ct_intro ttE_ok 1 rfl Tryz.func27 rfl rfl rfl ?_
  repeat ((try conv => whnf); first | (refine stpQ ?_))
  refine loop_of Nat (fun i => ⟨[(0, .sl 14 z), (1, .sl 14 z), (5, .int .i64 (i : Int))], [], 1⟩) (fun i => i ≤ z.length) (fun i => z.length - i) 0 (Nat.zero_le _) ?_ ?_
  · (refine le_auto (by rfl) ?_ ?_) <;> (repeat' (first | (exact eqA) | (refine And.intro ?_ ?_) | ((fail_if_success (with_reducible (show _ = _))); (show _ = _)))) <;> first | rfl | decide
  · intro i hi
    by_cases hlt : i < z.length
    · have hi2 : (i : Int) < (z.length : Int) := by omega
      have gi : z[i]? = some z[i] := List.getElem?_eq_getElem hlt
      have hf := hz _ (List.getElem_mem hlt)
      generalize z[i] = e at hf gi
      obtain ⟨n0, n1, b2, z3, z4, z5, z6, n7, b8, z9, z10, z11, z12, z13, rfl, -⟩ := fits_House hf
      have cE := c_eqHouse [.int .i64 n0, .int .i64 n1, .bool b2, .sl 3 z3, .sl 1 z4, .sl 8 z5, .sl 1 z6, .int .i64 n7, .bool b8, .sl 1 z9, .sl 1 z10, .sl 11 z11, .sl 1 z12, .sl 1 z13] hf
      repeat ((try conv => whnf); first | (refine i_at gi ?_) | (refine ccA ([]) (cE) ?_) | (refine stpQ ?_))
      refine ⟨i + 1, hlt, by omega, ?_⟩
      (refine le_auto (by rfl) ?_ ?_) <;> (repeat' (first | (exact eqA) | (refine And.intro ?_ ?_) | ((fail_if_success (with_reducible (show _ = _))); (show _ = _))))
    · obtain rfl : i = z.length := by omega
      repeat ((try conv => whnf); first | (refine stpQ ?_))
      (refine ans_auto (by rfl) ?_ ?_ (by rfl)) <;> (repeat' (first | (exact eqA) | (refine And.intro ?_ ?_) | ((fail_if_success (with_reducible (show _ = _))); (show _ = _))))
set_option maxRecDepth 100000 in
set_option maxHeartbeats 1000000 in
theorem c_eqAuditorS (z : List (List T)) (h : z.length ≤ 1048576 ∧ ∀ e ∈ z, Fits 1048576 sh_Auditor e) : CT Tryz.prog 28 [] [.sl 6 z, .sl 6 z] (.bool true) [] := by
  obtain ⟨hn, hz⟩ := h
  refine ct_intro ttE_ok 1 rfl Tryz.func28 rfl rfl rfl ?_
  repeat ((try conv => whnf); first | (refine stpQ ?_))
  refine loop_of Nat (fun i => ⟨[(0, .sl 6 z), (1, .sl 6 z), (5, .int .i64 (i : Int))], [], 1⟩) (fun i => i ≤ z.length) (fun i => z.length - i) 0 (Nat.zero_le _) ?_ ?_
  · (refine le_auto (by rfl) ?_ ?_) <;> (repeat' (first | (exact eqA) | (refine And.intro ?_ ?_) | ((fail_if_success (with_reducible (show _ = _))); (show _ = _)))) <;> first | rfl | decide
  · intro i hi
    by_cases hlt : i < z.length
    · have hi2 : (i : Int) < (z.length : Int) := by omega
      have gi : z[i]? = some z[i] := List.getElem?_eq_getElem hlt
      have hf := hz _ (List.getElem_mem hlt)
      generalize z[i] = e at hf gi
      obtain ⟨n0, b1, z2, z3, z4, z5, rfl, -⟩ := fits_Auditor hf
      have cE := c_eqAuditor [.int .i64 n0, .bool b1, .sl 3 z2, .sl 1 z3, .sl 8 z4, .sl 16 z5] hf
      repeat ((try conv => whnf); first | (refine i_at gi ?_) | (refine ccA ([]) (cE) ?_) | (refine stpQ ?_))
      refine ⟨i + 1, hlt, by omega, ?_⟩
      (refine le_auto (by rfl) ?_ ?_) <;> (repeat' (first | (exact eqA) | (refine And.intro ?_ ?_) | ((fail_if_success (with_reducible (show _ = _))); (show _ = _))))
    · obtain rfl : i = z.length := by omega
      repeat ((try conv => whnf); first | (refine stpQ ?_))
      (refine ans_auto (by rfl) ?_ ?_ (by rfl)) <;> (repeat' (first | (exact eqA) | (refine And.intro ?_ ?_) | ((fail_if_success (with_reducible (show _ = _))); (show _ = _))))
set_option maxRecDepth 100000 in
set_option maxHeartbeats 1000000 in
theorem c_eqNoteS (z : List (List T)) (h : z.length ≤ 1048576 ∧ ∀ e ∈ z, Fits 1048576 sh_Note e) : CT Tryz.prog 29 [] [.sl 2 z, .sl 2 z] (.bool true) [] := by
  obtain ⟨hn, hz⟩ := h
  refine ct_intro ttE_ok 1 rfl Tryz.func29 rfl rfl rfl ?_
  repeat ((try conv => whnf); first | (refine stpQ ?_))
  refine loop_of Nat (fun i => ⟨[(0, .sl 2 z), (1, .sl 2 z), (5, .int .i64 (i : Int))], [], 1⟩) (fun i => i ≤ z.length) (fun i => z.length - i) 0 (Nat.zero_le _) ?_ ?_
  · (refine le_auto (by rfl) ?_ ?_) <;> (repeat' (first | (exact eqA) | (refine And.intro ?_ ?_) | ((fail_if_success (with_reducible (show _ = _))); (show _ = _)))) <;> first | rfl | decide
  · intro i hi
    by_cases hlt : i < z.length
    · have hi2 : (i : Int) < (z.length : Int) := by omega
      have gi : z[i]? = some z[i] := List.getElem?_eq_getElem hlt
      have hf := hz _ (List.getElem_mem hlt)
      generalize z[i] = e at hf gi
      obtain ⟨n0, s1, rfl, -⟩ := fits_Note hf
      have cE := c_eqNote [.int .i64 n0, .str s1] hf
      repeat ((try conv => whnf); first | (refine i_at gi ?_) | (refine ccA ([]) (cE) ?_) | (refine stpQ ?_))
      refine ⟨i + 1, hlt, by omega, ?_⟩
      (refine le_auto (by rfl) ?_ ?_) <;> (repeat' (first | (exact eqA) | (refine And.intro ?_ ?_) | ((fail_if_success (with_reducible (show _ = _))); (show _ = _))))
    · obtain rfl : i = z.length := by omega
      repeat ((try conv => whnf); first | (refine stpQ ?_))
      (refine ans_auto (by rfl) ?_ ?_ (by rfl)) <;> (repeat' (first | (exact eqA) | (refine And.intro ?_ ?_) | ((fail_if_success (with_reducible (show _ = _))); (show _ = _))))
set_option maxRecDepth 100000 in
set_option maxHeartbeats 1000000 in
theorem c_eqGivenS (z : List (List T)) (h : z.length ≤ 1048576 ∧ ∀ e ∈ z, Fits 1048576 sh_Given e) : CT Tryz.prog 30 [] [.sl 7 z, .sl 7 z] (.bool true) [] := by
  obtain ⟨hn, hz⟩ := h
  refine ct_intro ttE_ok 1 rfl Tryz.func30 rfl rfl rfl ?_
  repeat ((try conv => whnf); first | (refine stpQ ?_))
  refine loop_of Nat (fun i => ⟨[(0, .sl 7 z), (1, .sl 7 z), (5, .int .i64 (i : Int))], [], 1⟩) (fun i => i ≤ z.length) (fun i => z.length - i) 0 (Nat.zero_le _) ?_ ?_
  · (refine le_auto (by rfl) ?_ ?_) <;> (repeat' (first | (exact eqA) | (refine And.intro ?_ ?_) | ((fail_if_success (with_reducible (show _ = _))); (show _ = _)))) <;> first | rfl | decide
  · intro i hi
    by_cases hlt : i < z.length
    · have hi2 : (i : Int) < (z.length : Int) := by omega
      have gi : z[i]? = some z[i] := List.getElem?_eq_getElem hlt
      have hf := hz _ (List.getElem_mem hlt)
      generalize z[i] = e at hf gi
      obtain ⟨n0, n1, n2, n3, z4, z5, z6, rfl, -⟩ := fits_Given hf
      have cE := c_eqGiven [.int .i64 n0, .int .i64 n1, .int .i64 n2, .int .i64 n3, .sl 1 z4, .sl 1 z5, .sl 1 z6] hf
      repeat ((try conv => whnf); first | (refine i_at gi ?_) | (refine ccA ([]) (cE) ?_) | (refine stpQ ?_))
      refine ⟨i + 1, hlt, by omega, ?_⟩
      (refine le_auto (by rfl) ?_ ?_) <;> (repeat' (first | (exact eqA) | (refine And.intro ?_ ?_) | ((fail_if_success (with_reducible (show _ = _))); (show _ = _))))
    · obtain rfl : i = z.length := by omega
      repeat ((try conv => whnf); first | (refine stpQ ?_))
      (refine ans_auto (by rfl) ?_ ?_ (by rfl)) <;> (repeat' (first | (exact eqA) | (refine And.intro ?_ ?_) | ((fail_if_success (with_reducible (show _ = _))); (show _ = _))))
set_option maxRecDepth 100000 in
set_option maxHeartbeats 2000000 in
theorem c_eqWorld (e : List T) (h : Fits 1048576 sh_World e) : CT Tryz.prog 8 [] [.agg e, .agg e] (.bool true) [] := by
  obtain ⟨z0, z1, z2, z3, z4, z5, rfl, qz0, qz1, qz2, qz3, qz4, qz5, -⟩ := fits_World h
  clear h
  have c0 := c_eqHouseS z0 qz0
  have c1 := c_eqAuditorS z1 qz1
  have c2 := c_eqNoteS z2 qz2
  have c3 := c_eqGivenS z3 qz3
  have c4 := c_eqBoolS z4 qz4
  have c5 := c_eqIntS z5 qz5
  refine ct_intro ttE_ok 1 rfl Tryz.func8 rfl rfl rfl ?_
  repeat ((try conv => whnf); first | (refine ccA ([]) (c0) ?_) | (refine ccA ([]) (c1) ?_) | (refine ccA ([]) (c2) ?_) | (refine ccA ([]) (c3) ?_) | (refine ccA ([]) (c4) ?_) | (refine ccA ([]) (c5) ?_) | (refine cb_nf rfl ?_) | (refine And.intro (by kernel_rfl) ?_) | (refine stpQ ?_))
  (refine ans_auto (by rfl) ?_ ?_ (by rfl)) <;> (repeat' (first | (exact eqA) | (refine And.intro ?_ ?_) | ((fail_if_success (with_reducible (show _ = _))); (show _ = _))))
end Go.Proofs.YtfgfkhmldlpmkaaGreatDoor
