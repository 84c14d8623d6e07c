/- Functions by content: the parts of a line, by the reference (a byte that may not stand there). The parts of a line, by the program and by the reference. -/
import Derived.Test.YtkgfidphcpklhaaDoorPtl
import Derived.Test.YtkgfidphcpklhaaDoorPts
import Derived.Test.YtkgfidphcpklhaaDoorPtb
import Derived.Test.YtkgfidphcpklhaaDoorPtt
namespace Go.Proofs.YtkgfidphcpklhaaDoor
open Go.RowKit Pl
set_option linter.unusedVariables false
set_option linter.unusedSimpArgs false

section
attribute [local irreducible] CondB CallP LoopW AnsP LeP W
attribute [local irreducible] gK frI prF prS
set_option maxRecDepth 100000 in
set_option maxHeartbeats 4000000 in
theorem c_sPartsOf_bad (l : Bs) (hl : l.length ≤ 600) (j : Nat) (hj : j < l.length) (hb : okP (l.getD j 0) = false) (hp : ∀ i, i < j → okP (l.getD i 0) = true) : CT Tryd.prog 20 [] [.str l] (.tup [.ref 1, .bool (partsB l)]) [.row 1 (strE (prt l))] := by
  have hB : partsB l = false := by rw [partsB, all_no hj hb]; simp
  have hgood : ∀ k, k < j → 32 ≤ (l.getD k 0).toNat ∧ (l.getD k 0).toNat ≤ 126 := fun k hk => okP_in (hp k hk)
  have ho := okP_out hb
  unfold prt
  rw [hB]
  clear hp hb hB
  refine ct_intro tt_ok 1 rfl Tryd.func20 rfl rfl rfl ?_
  conv => arg 6; whnf
  repeat ((try conv => whnf); first | (with_reducible (refine wo_seq (fun Qs hN hE hR => ?_))) | (with_reducible (refine wi_reg ?_)) | (with_reducible (refine wo_block (fun Qb kN kE kX kR => ?_))) | (with_reducible (refine wi_regd ?_)) | (with_reducible (refine wi_skip ?_)) | (with_reducible (refine wi_ret ?_)) | (with_reducible (refine wi_exit ?_)) | (with_reducible (refine wi_loop ?_)) | (with_reducible (show W _ _ _ (.cond _ _ _) _ _); refine wi_cond rfl ?_) | (with_reducible (refine hN _ ?_); (try clear hN hE hR Qs)) | (with_reducible (refine hE _ _ ?_); (try clear hN hE hR Qs)) | (with_reducible (refine hR _ ?_); (try clear hN hE hR Qs)) | (with_reducible (refine kN _ ?_); (try clear kN kE kX kR Qb)) | (with_reducible (refine kE _ ?_); (try clear kN kE kX kR Qb)) | (with_reducible (refine kX _ _ rfl ?_); (try clear kN kE kX kR Qb)) | (with_reducible (refine kR _ ?_); (try clear kN kE kX kR Qb)) | (refine stpQ ?_))
  refine loop_op Nat (fun k => ⟨[(0, .str l), (4, .ref 1), (5, .int .i64 ((k - (gK l k).2.length : Nat) : Int)), (6, .int .i64 (k : Int))], [(1, some (.row 1 (strE (gK l k).1)))], 2⟩) (fun k => k ≤ j) (fun k => j - k) 0 (by omega) ?_ ?_
  · (refine le_auto (by rfl) ?_ ?_) <;> (repeat' (first | (exact eqA) | (refine And.intro ?_ ?_) | ((fail_if_success (with_reducible (show _ = _))); (show _ = _)))) <;> first | rfl | decide | exact (st0 l).symm | exact (st0 l) | exact (st1 l).symm | exact (st1 l) | exact (st2 l).symm | exact (st2 l)
  · intro Q1 hQ1 k hk
    have hkn : k ≤ l.length := by omega
    have f1 : (k : Int) ≤ (l.length : Int) := by omega
    obtain ⟨h1, h2, h3⟩ := gK_at hkn
    have hlo := strE_len (gK l k).1
    by_cases hkj : k = j
    · subst hkj
      have hbl := (l.getD k 0).toNat_lt
      have f2 : (k : Int) < (l.length : Int) := by omega
      clear h1 h2 h3
      rcases ho with ho | ho
      · have g1 : ((l.getD k 0).toNat : Int) < 32 := by omega
        clear ho
        repeat ((try conv => whnf); first | (with_reducible (refine wo_seq (fun Qs hN hE hR => ?_))) | (with_reducible (refine wi_reg ?_)) | (with_reducible (refine wo_block (fun Qb kN kE kX kR => ?_))) | (with_reducible (refine wi_regd ?_)) | (with_reducible (refine wi_skip ?_)) | (with_reducible (refine wi_ret ?_)) | (with_reducible (refine wi_exit ?_)) | (with_reducible (refine wi_loop ?_)) | (with_reducible (show W _ _ _ (.cond _ _ _) _ _); refine wi_cond rfl ?_) | (with_reducible (refine hN _ ?_); (try clear hN hE hR Qs)) | (with_reducible (refine hE _ _ ?_); (try clear hN hE hR Qs)) | (with_reducible (refine hR _ ?_); (try clear hN hE hR Qs)) | (with_reducible (refine kN _ ?_); (try clear kN kE kX kR Qb)) | (with_reducible (refine kE _ ?_); (try clear kN kE kX kR Qb)) | (with_reducible (refine kX _ _ rfl ?_); (try clear kN kE kX kR Qb)) | (with_reducible (refine kR _ ?_); (try clear kN kE kX kR Qb)) | (refine cb_dt f1 ?_) | (refine cb_dt f2 ?_) | (refine i_lt hj ?_) | (refine cb_dt g1 ?_) | (refine stpQ ?_))
        refine hQ1 _ _ ?_
        clear hQ1 Q1
        repeat ((try conv => whnf); first | (with_reducible (refine wo_seq (fun Qs hN hE hR => ?_))) | (with_reducible (refine wi_reg ?_)) | (with_reducible (refine wo_block (fun Qb kN kE kX kR => ?_))) | (with_reducible (refine wi_regd ?_)) | (with_reducible (refine wi_skip ?_)) | (with_reducible (refine wi_ret ?_)) | (with_reducible (refine wi_exit ?_)) | (with_reducible (refine wi_loop ?_)) | (with_reducible (show W _ _ _ (.cond _ _ _) _ _); refine wi_cond rfl ?_) | (with_reducible (refine hN _ ?_); (try clear hN hE hR Qs)) | (with_reducible (refine hE _ _ ?_); (try clear hN hE hR Qs)) | (with_reducible (refine hR _ ?_); (try clear hN hE hR Qs)) | (with_reducible (refine kN _ ?_); (try clear kN kE kX kR Qb)) | (with_reducible (refine kE _ ?_); (try clear kN kE kX kR Qb)) | (with_reducible (refine kX _ _ rfl ?_); (try clear kN kE kX kR Qb)) | (with_reducible (refine kR _ ?_); (try clear kN kE kX kR Qb)) | (refine stpQ ?_))
        (refine ans_auto (by rfl) ?_ ?_ (by rfl)) <;> (repeat' (first | (exact eqA) | (refine And.intro ?_ ?_) | ((fail_if_success (with_reducible (show _ = _))); (show _ = _)))) <;> first | rfl | decide
      · have g1 : ¬ ((l.getD k 0).toNat : Int) < 32 := by omega
        have g2 : ((l.getD k 0).toNat : Int) > 126 := by omega
        clear ho
        repeat ((try conv => whnf); first | (with_reducible (refine wo_seq (fun Qs hN hE hR => ?_))) | (with_reducible (refine wi_reg ?_)) | (with_reducible (refine wo_block (fun Qb kN kE kX kR => ?_))) | (with_reducible (refine wi_regd ?_)) | (with_reducible (refine wi_skip ?_)) | (with_reducible (refine wi_ret ?_)) | (with_reducible (refine wi_exit ?_)) | (with_reducible (refine wi_loop ?_)) | (with_reducible (show W _ _ _ (.cond _ _ _) _ _); refine wi_cond rfl ?_) | (with_reducible (refine hN _ ?_); (try clear hN hE hR Qs)) | (with_reducible (refine hE _ _ ?_); (try clear hN hE hR Qs)) | (with_reducible (refine hR _ ?_); (try clear hN hE hR Qs)) | (with_reducible (refine kN _ ?_); (try clear kN kE kX kR Qb)) | (with_reducible (refine kE _ ?_); (try clear kN kE kX kR Qb)) | (with_reducible (refine kX _ _ rfl ?_); (try clear kN kE kX kR Qb)) | (with_reducible (refine kR _ ?_); (try clear kN kE kX kR Qb)) | (refine cb_dt f1 ?_) | (refine cb_dt f2 ?_) | (refine i_lt hj ?_) | (refine cb_df g1 ?_) | (refine cb_dt g2 ?_) | (refine stpQ ?_))
        refine hQ1 _ _ ?_
        clear hQ1 Q1
        repeat ((try conv => whnf); first | (with_reducible (refine wo_seq (fun Qs hN hE hR => ?_))) | (with_reducible (refine wi_reg ?_)) | (with_reducible (refine wo_block (fun Qb kN kE kX kR => ?_))) | (with_reducible (refine wi_regd ?_)) | (with_reducible (refine wi_skip ?_)) | (with_reducible (refine wi_ret ?_)) | (with_reducible (refine wi_exit ?_)) | (with_reducible (refine wi_loop ?_)) | (with_reducible (show W _ _ _ (.cond _ _ _) _ _); refine wi_cond rfl ?_) | (with_reducible (refine hN _ ?_); (try clear hN hE hR Qs)) | (with_reducible (refine hE _ _ ?_); (try clear hN hE hR Qs)) | (with_reducible (refine hR _ ?_); (try clear hN hE hR Qs)) | (with_reducible (refine kN _ ?_); (try clear kN kE kX kR Qb)) | (with_reducible (refine kE _ ?_); (try clear kN kE kX kR Qb)) | (with_reducible (refine kX _ _ rfl ?_); (try clear kN kE kX kR Qb)) | (with_reducible (refine kR _ ?_); (try clear kN kE kX kR Qb)) | (refine stpQ ?_))
        (refine ans_auto (by rfl) ?_ ?_ (by rfl)) <;> (repeat' (first | (exact eqA) | (refine And.intro ?_ ?_) | ((fail_if_success (with_reducible (show _ = _))); (show _ = _)))) <;> first | rfl | decide
    · clear ho
      have hkj2 : k < j := by omega
      clear hkj hk
      by_cases h32 : k = l.length ∨ (l.getD k 0).toNat = 32
      · have hn := gK_blank hkn h32
        by_cases hc : (gK l k).2 = []
        · rw [if_pos hc] at hn
          rw [hc]
          have f5 : ¬ ((k - ([] : Bs).length : Nat) : Int) < (k : Int) := by simp
          clear h1 h2 h3
          by_cases hkl : k = l.length
          · have f2 : ¬ (k : Int) < (l.length : Int) := by omega
            clear h32
            repeat ((try conv => whnf); first | (with_reducible (refine wo_seq (fun Qs hN hE hR => ?_))) | (with_reducible (refine wi_reg ?_)) | (with_reducible (refine wo_block (fun Qb kN kE kX kR => ?_))) | (with_reducible (refine wi_regd ?_)) | (with_reducible (refine wi_skip ?_)) | (with_reducible (refine wi_ret ?_)) | (with_reducible (refine wi_exit ?_)) | (with_reducible (refine wi_loop ?_)) | (with_reducible (show W _ _ _ (.cond _ _ _) _ _); refine wi_cond rfl ?_) | (with_reducible (refine hN _ ?_); (try clear hN hE hR Qs)) | (with_reducible (refine hE _ _ ?_); (try clear hN hE hR Qs)) | (with_reducible (refine hR _ ?_); (try clear hN hE hR Qs)) | (with_reducible (refine kN _ ?_); (try clear kN kE kX kR Qb)) | (with_reducible (refine kE _ ?_); (try clear kN kE kX kR Qb)) | (with_reducible (refine kX _ _ rfl ?_); (try clear kN kE kX kR Qb)) | (with_reducible (refine kR _ ?_); (try clear kN kE kX kR Qb)) | (refine cb_dt f1 ?_) | (refine cb_df f2 ?_) | (refine cb_df f5 ?_) | (refine stpQ ?_))
            refine ⟨k + 1, by omega, by omega, ?_⟩
            rw [hn]
            (refine le_auto (by rfl) ?_ ?_) <;> (repeat' (first | (exact eqA) | (refine And.intro ?_ ?_) | ((fail_if_success (with_reducible (show _ = _))); (show _ = _)))) <;> first | rfl | exact hs.symm | exact hs
          · have f2 : (k : Int) < (l.length : Int) := by omega
            have f4 : k < l.length := by omega
            have f3 : ((l.getD k 0).toNat : Int) = 32 := by have := h32.resolve_left hkl; omega
            have g1 : ¬ ((l.getD k 0).toNat : Int) < 32 := by omega
            have g2 : ¬ ((l.getD k 0).toNat : Int) > 126 := by omega
            clear h32 hkl
            repeat ((try conv => whnf); first | (with_reducible (refine wo_seq (fun Qs hN hE hR => ?_))) | (with_reducible (refine wi_reg ?_)) | (with_reducible (refine wo_block (fun Qb kN kE kX kR => ?_))) | (with_reducible (refine wi_regd ?_)) | (with_reducible (refine wi_skip ?_)) | (with_reducible (refine wi_ret ?_)) | (with_reducible (refine wi_exit ?_)) | (with_reducible (refine wi_loop ?_)) | (with_reducible (show W _ _ _ (.cond _ _ _) _ _); refine wi_cond rfl ?_) | (with_reducible (refine hN _ ?_); (try clear hN hE hR Qs)) | (with_reducible (refine hE _ _ ?_); (try clear hN hE hR Qs)) | (with_reducible (refine hR _ ?_); (try clear hN hE hR Qs)) | (with_reducible (refine kN _ ?_); (try clear kN kE kX kR Qb)) | (with_reducible (refine kE _ ?_); (try clear kN kE kX kR Qb)) | (with_reducible (refine kX _ _ rfl ?_); (try clear kN kE kX kR Qb)) | (with_reducible (refine kR _ ?_); (try clear kN kE kX kR Qb)) | (refine cb_dt f1 ?_) | (refine cb_dt f2 ?_) | (refine i_lt f4 ?_) | (refine cb_df g1 ?_) | (refine cb_df g2 ?_) | (refine cb_nf f3 ?_) | (refine cb_df f5 ?_) | (refine stpQ ?_))
            refine ⟨k + 1, by omega, by omega, ?_⟩
            rw [hn]
            (refine le_auto (by rfl) ?_ ?_) <;> (repeat' (first | (exact eqA) | (refine And.intro ?_ ?_) | ((fail_if_success (with_reducible (show _ = _))); (show _ = _)))) <;> first | rfl | exact hs.symm | exact hs
        · rw [if_neg hc] at hn
          have hs := strE_cut (o := (gK l k).1) h3
          have hcl : 0 < (gK l k).2.length := List.length_pos_iff.2 hc
          have f5 : ((k - (gK l k).2.length : Nat) : Int) < (k : Int) := by omega
          have f6 : k - (gK l k).2.length ≤ k ∧ k ≤ l.length := ⟨by omega, hkn⟩
          clear h3 hcl hc
          generalize gK l k = x at *
          clear h2
          by_cases hkl : k = l.length
          · have f2 : ¬ (k : Int) < (l.length : Int) := by omega
            clear h32
            repeat ((try conv => whnf); first | (with_reducible (refine wo_seq (fun Qs hN hE hR => ?_))) | (with_reducible (refine wi_reg ?_)) | (with_reducible (refine wo_block (fun Qb kN kE kX kR => ?_))) | (with_reducible (refine wi_regd ?_)) | (with_reducible (refine wi_skip ?_)) | (with_reducible (refine wi_ret ?_)) | (with_reducible (refine wi_exit ?_)) | (with_reducible (refine wi_loop ?_)) | (with_reducible (show W _ _ _ (.cond _ _ _) _ _); refine wi_cond rfl ?_) | (with_reducible (refine hN _ ?_); (try clear hN hE hR Qs)) | (with_reducible (refine hE _ _ ?_); (try clear hN hE hR Qs)) | (with_reducible (refine hR _ ?_); (try clear hN hE hR Qs)) | (with_reducible (refine kN _ ?_); (try clear kN kE kX kR Qb)) | (with_reducible (refine kE _ ?_); (try clear kN kE kX kR Qb)) | (with_reducible (refine kX _ _ rfl ?_); (try clear kN kE kX kR Qb)) | (with_reducible (refine kR _ ?_); (try clear kN kE kX kR Qb)) | (refine cb_dt f1 ?_) | (refine cb_df f2 ?_) | (refine cb_dt f5 ?_) | (refine i_cut f6 ?_) | (refine And.intro (by simp only [List.length_append, List.length_set, List.length_replicate]; omega) ?_) | (refine stpQ ?_))
            refine ⟨k + 1, by omega, by omega, ?_⟩
            rw [hn]
            (refine le_auto (by rfl) ?_ ?_) <;> (repeat' (first | (exact eqA) | (refine And.intro ?_ ?_) | ((fail_if_success (with_reducible (show _ = _))); (show _ = _)))) <;> first | rfl | exact hs.symm | exact hs
          · have f2 : (k : Int) < (l.length : Int) := by omega
            have f4 : k < l.length := by omega
            have f3 : ((l.getD k 0).toNat : Int) = 32 := by have := h32.resolve_left hkl; omega
            have g1 : ¬ ((l.getD k 0).toNat : Int) < 32 := by omega
            have g2 : ¬ ((l.getD k 0).toNat : Int) > 126 := by omega
            clear h32 hkl
            repeat ((try conv => whnf); first | (with_reducible (refine wo_seq (fun Qs hN hE hR => ?_))) | (with_reducible (refine wi_reg ?_)) | (with_reducible (refine wo_block (fun Qb kN kE kX kR => ?_))) | (with_reducible (refine wi_regd ?_)) | (with_reducible (refine wi_skip ?_)) | (with_reducible (refine wi_ret ?_)) | (with_reducible (refine wi_exit ?_)) | (with_reducible (refine wi_loop ?_)) | (with_reducible (show W _ _ _ (.cond _ _ _) _ _); refine wi_cond rfl ?_) | (with_reducible (refine hN _ ?_); (try clear hN hE hR Qs)) | (with_reducible (refine hE _ _ ?_); (try clear hN hE hR Qs)) | (with_reducible (refine hR _ ?_); (try clear hN hE hR Qs)) | (with_reducible (refine kN _ ?_); (try clear kN kE kX kR Qb)) | (with_reducible (refine kE _ ?_); (try clear kN kE kX kR Qb)) | (with_reducible (refine kX _ _ rfl ?_); (try clear kN kE kX kR Qb)) | (with_reducible (refine kR _ ?_); (try clear kN kE kX kR Qb)) | (refine cb_dt f1 ?_) | (refine cb_dt f2 ?_) | (refine i_lt f4 ?_) | (refine cb_df g1 ?_) | (refine cb_df g2 ?_) | (refine cb_nf f3 ?_) | (refine cb_dt f5 ?_) | (refine i_cut f6 ?_) | (refine And.intro (by simp only [List.length_append, List.length_set, List.length_replicate]; omega) ?_) | (refine stpQ ?_))
            refine ⟨k + 1, by omega, by omega, ?_⟩
            rw [hn]
            (refine le_auto (by rfl) ?_ ?_) <;> (repeat' (first | (exact eqA) | (refine And.intro ?_ ?_) | ((fail_if_success (with_reducible (show _ = _))); (show _ = _)))) <;> first | rfl | exact hs.symm | exact hs
      · have f4 : k < l.length := by omega
        have f2 : (k : Int) < (l.length : Int) := by omega
        have h32' : ¬ (l.getD k 0).toNat = 32 := fun c => h32 (.inr c)
        have f3 : ¬ ((l.getD k 0).toNat : Int) = 32 := by omega
        have hin := hgood k (by omega)
        have g1 : ¬ ((l.getD k 0).toNat : Int) < 32 := by omega
        have g2 : ¬ ((l.getD k 0).toNat : Int) > 126 := by omega
        have hn := gK_byte f4 h32'
        have hf : k + 1 - ((gK l k).2 ++ [l.getD k 0]).length = k - (gK l k).2.length := by rw [List.length_append, List.length_singleton]; omega
        clear h32 h32' h3 h1 h2 hlo
        repeat ((try conv => whnf); first | (with_reducible (refine wo_seq (fun Qs hN hE hR => ?_))) | (with_reducible (refine wi_reg ?_)) | (with_reducible (refine wo_block (fun Qb kN kE kX kR => ?_))) | (with_reducible (refine wi_regd ?_)) | (with_reducible (refine wi_skip ?_)) | (with_reducible (refine wi_ret ?_)) | (with_reducible (refine wi_exit ?_)) | (with_reducible (refine wi_loop ?_)) | (with_reducible (show W _ _ _ (.cond _ _ _) _ _); refine wi_cond rfl ?_) | (with_reducible (refine hN _ ?_); (try clear hN hE hR Qs)) | (with_reducible (refine hE _ _ ?_); (try clear hN hE hR Qs)) | (with_reducible (refine hR _ ?_); (try clear hN hE hR Qs)) | (with_reducible (refine kN _ ?_); (try clear kN kE kX kR Qb)) | (with_reducible (refine kE _ ?_); (try clear kN kE kX kR Qb)) | (with_reducible (refine kX _ _ rfl ?_); (try clear kN kE kX kR Qb)) | (with_reducible (refine kR _ ?_); (try clear kN kE kX kR Qb)) | (refine cb_dt f1 ?_) | (refine cb_dt f2 ?_) | (refine i_lt f4 ?_) | (refine cb_df g1 ?_) | (refine cb_df g2 ?_) | (refine cb_nt f3 ?_) | (refine stpQ ?_))
        refine ⟨k + 1, by omega, by omega, ?_⟩
        rw [hn, hf]
        (refine le_auto (by rfl) ?_ ?_) <;> (repeat' (first | (exact eqA) | (refine And.intro ?_ ?_) | ((fail_if_success (with_reducible (show _ = _))); (show _ = _)))) <;> first | rfl | exact hs.symm | exact hs
set_option maxRecDepth 100000 in
set_option maxHeartbeats 4000000 in
theorem c_sPartsOf_long (l : Bs) (hl : ¬ l.length ≤ 600) : CT Tryd.prog 20 [] [.str l] (.tup [.ref 1, .bool (partsB l)]) [.row 1 (strE (prt l))] := by
  have hB : partsB l = false := by rw [partsB, decide_eq_false hl]; rfl
  unfold prt
  rw [hB]
  refine ct_intro tt_ok 1 rfl Tryd.func20 rfl rfl rfl ?_
  conv => arg 6; whnf
  repeat ((try conv => whnf); first | (with_reducible (refine wo_seq (fun Qs hN hE hR => ?_))) | (with_reducible (refine wi_reg ?_)) | (with_reducible (refine wo_block (fun Qb kN kE kX kR => ?_))) | (with_reducible (refine wi_regd ?_)) | (with_reducible (refine wi_skip ?_)) | (with_reducible (refine wi_ret ?_)) | (with_reducible (refine wi_exit ?_)) | (with_reducible (refine wi_loop ?_)) | (with_reducible (show W _ _ _ (.cond _ _ _) _ _); refine wi_cond rfl ?_) | (with_reducible (refine hN _ ?_); (try clear hN hE hR Qs)) | (with_reducible (refine hE _ _ ?_); (try clear hN hE hR Qs)) | (with_reducible (refine hR _ ?_); (try clear hN hE hR Qs)) | (with_reducible (refine kN _ ?_); (try clear kN kE kX kR Qb)) | (with_reducible (refine kE _ ?_); (try clear kN kE kX kR Qb)) | (with_reducible (refine kX _ _ rfl ?_); (try clear kN kE kX kR Qb)) | (with_reducible (refine kR _ ?_); (try clear kN kE kX kR Qb)) | (refine stpQ ?_))
  (refine ans_auto (by rfl) ?_ ?_ (by rfl)) <;> (repeat' (first | (exact eqA) | (refine And.intro ?_ ?_) | ((fail_if_success (with_reducible (show _ = _))); (show _ = _)))) <;> first | rfl | decide
end
end Go.Proofs.YtkgfidphcpklhaaDoor
namespace Go.Proofs.YtkgfidphcpklhaaDoor
open Go.RowKit Pl
theorem c_PartsOf (l : Bs) : CT Tryd.prog 14 [] [.str l] (.tup [.ref 1, .bool (partsB l)]) [.row 1 (strE (prt l))] := by
  by_cases hl : l.length ≤ 600
  · rcases bad_first okP l with ha | ⟨j, hj, hb, hp⟩
    · exact c_PartsOf_all l hl ha
    · exact c_PartsOf_bad l hl j hj hb hp
  · exact c_PartsOf_long l hl
theorem c_sPartsOf (l : Bs) : CT Tryd.prog 20 [] [.str l] (.tup [.ref 1, .bool (partsB l)]) [.row 1 (strE (prt l))] := by
  by_cases hl : l.length ≤ 600
  · rcases bad_first okP l with ha | ⟨j, hj, hb, hp⟩
    · exact c_sPartsOf_all l hl ha
    · exact c_sPartsOf_bad l hl j hj hb hp
  · exact c_sPartsOf_long l hl
end Go.Proofs.YtkgfidphcpklhaaDoor
