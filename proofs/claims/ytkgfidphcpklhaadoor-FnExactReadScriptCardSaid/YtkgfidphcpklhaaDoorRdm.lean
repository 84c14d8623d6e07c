/- Functions by content: a move's line, read by the program. -/
import Derived.Test.YtkgfidphcpklhaaDoorNua
import Derived.Test.YtkgfidphcpklhaaDoorVQ
namespace Go.Proofs.YtkgfidphcpklhaaDoor
open Go.RowKit Pl
set_option linter.unusedVariables false
set_option linter.unusedSimpArgs false

theorem g_cell {p : List Bs} {i : Nat} (h : i < p.length) : (strE p)[i]? = some [.str (pt p i)] := by rw [strE, List.getElem?_map, pt_at h]; rfl
theorem mvW_ne {j x : Nat} {w : Bs} (hj : j < 10) (hw : mvL.getD j [] = w) (h1 : 1 ≤ x) (h2 : x < j + 1) : ¬ mvW.getD x [] = w := by
  have h := mv_ne j hj (x - 1) (by omega)
  rw [← mvW_mvL (x - 1) (by omega), show x - 1 + 1 = x by omega, hw] at h
  exact h
section
attribute [local irreducible] CondB CallP LoopW AnsP LeP W
set_option maxRecDepth 100000 in
set_option maxHeartbeats 2000000 in
theorem c_rm_no (p : List Bs) (h0 : 0 < p.length) (hn : ∀ j, j < 10 → ¬ mvL.getD j [] = pt p 0) : CT Tryd.prog 56 [] [.sl 1 (strE p)] (.tup [.agg (evC {}), .bool false]) [] := by
  have g0 := g_cell h0
  have hskip : ∀ x, 1 ≤ x → x < 11 → ¬ mvW.getD x [] = pt p 0 := fun x h1 h2 => by
    have h := hn (x - 1) (by omega)
    rw [← mvW_mvL (x - 1) (by omega), show x - 1 + 1 = x by omega] at h
    exact h
  clear hn h0
  generalize pt p 0 = w at *
  generalize strE p = z at *
  refine ct_intro ttS_ok 1 rfl Tryd.func56 rfl rfl rfl ?_
  conv => arg 6; whnf
  repeat ((try conv => whnf); first | (with_reducible (refine wo_seq (fun Qs hN hE hR => ?_))) | (with_reducible (refine wi_reg ?_)) | (with_reducible (refine wo_block (fun Qb kN kE kX kR => ?_))) | (with_reducible (refine wi_regd ?_)) | (with_reducible (refine wi_skip ?_)) | (with_reducible (refine wi_ret ?_)) | (with_reducible (refine wi_exit ?_)) | (with_reducible (refine wi_loop ?_)) | (with_reducible (show W _ _ _ (.cond _ _ _) _ _); refine wi_cond rfl ?_) | (with_reducible (refine hN _ ?_); (try clear hN hE hR Qs)) | (with_reducible (refine hE _ _ ?_); (try clear hN hE hR Qs)) | (with_reducible (refine hR _ ?_); (try clear hN hE hR Qs)) | (with_reducible (refine kN _ ?_); (try clear kN kE kX kR Qb)) | (with_reducible (refine kE _ ?_); (try clear kN kE kX kR Qb)) | (with_reducible (refine kX _ _ rfl ?_); (try clear kN kE kX kR Qb)) | (with_reducible (refine kR _ ?_); (try clear kN kE kX kR Qb)) | (refine stpQ ?_))
  refine loop_op Nat (fun x => ⟨[(0, .sl 1 z), (2, .ptr 1 0 0), (4, .ptr 2 0 0), (5, .int .i64 (x : Int))], [(1, some (.box zEv)), (2, some (.box [.sl 1 z, .bool false]))], 3⟩) (fun x => 1 ≤ x ∧ x ≤ 11) (fun x => 11 + 1 - x) 1 (by omega) ?_ ?_
  · (refine le_auto (by rfl) ?_ ?_) <;> (repeat' (first | (exact eqA) | (refine And.intro ?_ ?_) | ((fail_if_success (with_reducible (show _ = _))); (show _ = _)))) <;> first | rfl | decide
  · intro Q1 hQ1 x hx
    obtain ⟨hx1, hx2⟩ := hx
    by_cases hxj : x < 11
    · have f1 : (x : Int) ≤ 10 := by omega
      have i1 : x < 11 := by omega
      have gx := mvW_at x i1
      have hne := hskip x hx1 hxj
      clear hskip
      repeat ((try conv => whnf); first | (with_reducible (refine wo_seq (fun Qs hN hE hR => ?_))) | (with_reducible (refine wi_reg ?_)) | (with_reducible (refine wo_block (fun Qb kN kE kX kR => ?_))) | (with_reducible (refine wi_regd ?_)) | (with_reducible (refine wi_skip ?_)) | (with_reducible (refine wi_ret ?_)) | (with_reducible (refine wi_exit ?_)) | (with_reducible (refine wi_loop ?_)) | (with_reducible (show W _ _ _ (.cond _ _ _) _ _); refine wi_cond rfl ?_) | (with_reducible (refine hN _ ?_); (try clear hN hE hR Qs)) | (with_reducible (refine hE _ _ ?_); (try clear hN hE hR Qs)) | (with_reducible (refine hR _ ?_); (try clear hN hE hR Qs)) | (with_reducible (refine kN _ ?_); (try clear kN kE kX kR Qb)) | (with_reducible (refine kE _ ?_); (try clear kN kE kX kR Qb)) | (with_reducible (refine kX _ _ rfl ?_); (try clear kN kE kX kR Qb)) | (with_reducible (refine kR _ ?_); (try clear kN kE kX kR Qb)) | (refine cb_dt f1 ?_) | (refine i_lt i1 ?_) | (refine Exists.intro _ (And.intro gx ?_)) | (refine i_at g0 ?_) | (refine And.intro (by kernel_rfl) ?_) | (refine cb_nt hne ?_) | (refine stpQ ?_))
      refine ⟨x + 1, by omega, by omega, ?_⟩
      (refine le_auto (by rfl) ?_ ?_) <;> (repeat' (first | (exact eqA) | (refine And.intro ?_ ?_) | ((fail_if_success (with_reducible (show _ = _))); (show _ = _))))
    · obtain rfl : x = 11 := by omega
      have f1 : ¬ ((11 : Nat) : Int) ≤ 10 := by omega
      clear hskip
      repeat ((try conv => whnf); first | (with_reducible (refine wo_seq (fun Qs hN hE hR => ?_))) | (with_reducible (refine wi_reg ?_)) | (with_reducible (refine wo_block (fun Qb kN kE kX kR => ?_))) | (with_reducible (refine wi_regd ?_)) | (with_reducible (refine wi_skip ?_)) | (with_reducible (refine wi_ret ?_)) | (with_reducible (refine wi_exit ?_)) | (with_reducible (refine wi_loop ?_)) | (with_reducible (show W _ _ _ (.cond _ _ _) _ _); refine wi_cond rfl ?_) | (with_reducible (refine hN _ ?_); (try clear hN hE hR Qs)) | (with_reducible (refine hE _ _ ?_); (try clear hN hE hR Qs)) | (with_reducible (refine hR _ ?_); (try clear hN hE hR Qs)) | (with_reducible (refine kN _ ?_); (try clear kN kE kX kR Qb)) | (with_reducible (refine kE _ ?_); (try clear kN kE kX kR Qb)) | (with_reducible (refine kX _ _ rfl ?_); (try clear kN kE kX kR Qb)) | (with_reducible (refine kR _ ?_); (try clear kN kE kX kR Qb)) | (refine cb_df f1 ?_) | (refine stpQ ?_))
      refine hQ1 _ _ ?_
      clear hQ1 Q1
      repeat ((try conv => whnf); first | (with_reducible (refine wo_seq (fun Qs hN hE hR => ?_))) | (with_reducible (refine wi_reg ?_)) | (with_reducible (refine wo_block (fun Qb kN kE kX kR => ?_))) | (with_reducible (refine wi_regd ?_)) | (with_reducible (refine wi_skip ?_)) | (with_reducible (refine wi_ret ?_)) | (with_reducible (refine wi_exit ?_)) | (with_reducible (refine wi_loop ?_)) | (with_reducible (show W _ _ _ (.cond _ _ _) _ _); refine wi_cond rfl ?_) | (with_reducible (refine hN _ ?_); (try clear hN hE hR Qs)) | (with_reducible (refine hE _ _ ?_); (try clear hN hE hR Qs)) | (with_reducible (refine hR _ ?_); (try clear hN hE hR Qs)) | (with_reducible (refine kN _ ?_); (try clear kN kE kX kR Qb)) | (with_reducible (refine kE _ ?_); (try clear kN kE kX kR Qb)) | (with_reducible (refine kX _ _ rfl ?_); (try clear kN kE kX kR Qb)) | (with_reducible (refine kR _ ?_); (try clear kN kE kX kR Qb)) | (refine stpQ ?_))
      (refine ans_auto (by rfl) ?_ ?_ (by rfl)) <;> (repeat' (first | (exact eqA) | (refine And.intro ?_ ?_) | ((fail_if_success (with_reducible (show _ = _))); (show _ = _))))
set_option maxRecDepth 100000 in
set_option maxHeartbeats 2000000 in
theorem c_rm_len (p : List Bs) (j : Nat) (hj : j < 10) (h0 : 0 < p.length) (hw : mvL.getD j [] = pt p 0) (hl : ¬ p.length = mvN j) : CT Tryd.prog 56 [] [.sl 1 (strE p)] (.tup [.agg (evC {}), .bool false]) [] := by
  have g0 := g_cell h0
  have hskip : ∀ x, 1 ≤ x → x < j + 1 → ¬ mvW.getD x [] = pt p 0 := fun x h1 h2 => mvW_ne hj hw h1 h2
  have he : mvW.getD (j + 1) [] = pt p 0 := by rw [mvW_mvL j hj, hw]
  have hcl : (strE p).length = p.length := strE_len _
  generalize pt p 0 = w at *
  generalize strE p = z at *
  refine ct_intro ttS_ok 1 rfl Tryd.func56 rfl rfl rfl ?_
  conv => arg 6; whnf
  repeat ((try conv => whnf); first | (with_reducible (refine wo_seq (fun Qs hN hE hR => ?_))) | (with_reducible (refine wi_reg ?_)) | (with_reducible (refine wo_block (fun Qb kN kE kX kR => ?_))) | (with_reducible (refine wi_regd ?_)) | (with_reducible (refine wi_skip ?_)) | (with_reducible (refine wi_ret ?_)) | (with_reducible (refine wi_exit ?_)) | (with_reducible (refine wi_loop ?_)) | (with_reducible (show W _ _ _ (.cond _ _ _) _ _); refine wi_cond rfl ?_) | (with_reducible (refine hN _ ?_); (try clear hN hE hR Qs)) | (with_reducible (refine hE _ _ ?_); (try clear hN hE hR Qs)) | (with_reducible (refine hR _ ?_); (try clear hN hE hR Qs)) | (with_reducible (refine kN _ ?_); (try clear kN kE kX kR Qb)) | (with_reducible (refine kE _ ?_); (try clear kN kE kX kR Qb)) | (with_reducible (refine kX _ _ rfl ?_); (try clear kN kE kX kR Qb)) | (with_reducible (refine kR _ ?_); (try clear kN kE kX kR Qb)) | (refine stpQ ?_))
  refine loop_op Nat (fun x => ⟨[(0, .sl 1 z), (2, .ptr 1 0 0), (4, .ptr 2 0 0), (5, .int .i64 (x : Int))], [(1, some (.box zEv)), (2, some (.box [.sl 1 z, .bool false]))], 3⟩) (fun x => 1 ≤ x ∧ x ≤ j + 1) (fun x => j + 1 + 1 - x) 1 (by omega) ?_ ?_
  · (refine le_auto (by rfl) ?_ ?_) <;> (repeat' (first | (exact eqA) | (refine And.intro ?_ ?_) | ((fail_if_success (with_reducible (show _ = _))); (show _ = _)))) <;> first | rfl | decide
  · intro Q1 hQ1 x hx
    obtain ⟨hx1, hx2⟩ := hx
    by_cases hxj : x < j + 1
    · have f1 : (x : Int) ≤ 10 := by omega
      have i1 : x < 11 := by omega
      have gx := mvW_at x i1
      have hne := hskip x hx1 hxj
      clear hskip
      repeat ((try conv => whnf); first | (with_reducible (refine wo_seq (fun Qs hN hE hR => ?_))) | (with_reducible (refine wi_reg ?_)) | (with_reducible (refine wo_block (fun Qb kN kE kX kR => ?_))) | (with_reducible (refine wi_regd ?_)) | (with_reducible (refine wi_skip ?_)) | (with_reducible (refine wi_ret ?_)) | (with_reducible (refine wi_exit ?_)) | (with_reducible (refine wi_loop ?_)) | (with_reducible (show W _ _ _ (.cond _ _ _) _ _); refine wi_cond rfl ?_) | (with_reducible (refine hN _ ?_); (try clear hN hE hR Qs)) | (with_reducible (refine hE _ _ ?_); (try clear hN hE hR Qs)) | (with_reducible (refine hR _ ?_); (try clear hN hE hR Qs)) | (with_reducible (refine kN _ ?_); (try clear kN kE kX kR Qb)) | (with_reducible (refine kE _ ?_); (try clear kN kE kX kR Qb)) | (with_reducible (refine kX _ _ rfl ?_); (try clear kN kE kX kR Qb)) | (with_reducible (refine kR _ ?_); (try clear kN kE kX kR Qb)) | (refine cb_dt f1 ?_) | (refine i_lt i1 ?_) | (refine Exists.intro _ (And.intro gx ?_)) | (refine i_at g0 ?_) | (refine And.intro (by kernel_rfl) ?_) | (refine cb_nt hne ?_) | (refine stpQ ?_))
      refine ⟨x + 1, by omega, by omega, ?_⟩
      (refine le_auto (by rfl) ?_ ?_) <;> (repeat' (first | (exact eqA) | (refine And.intro ?_ ?_) | ((fail_if_success (with_reducible (show _ = _))); (show _ = _))))
    · obtain rfl : x = j + 1 := by omega
      have f1 : ((j + 1 : Nat) : Int) ≤ 10 := by omega
      have i1 : j + 1 < 11 := by omega
      have gx := mvW_at (j + 1) i1
      clear hskip hxj hx1 hx2
      by_cases k0 : j = 0
      · subst k0
        have hn : ¬ (z.length : Int) = 5 := by rw [hcl]; unfold mvN at hl; intro c; apply hl; rw [if_pos rfl]; omega
        repeat ((try conv => whnf); first | (with_reducible (refine wo_seq (fun Qs hN hE hR => ?_))) | (with_reducible (refine wi_reg ?_)) | (with_reducible (refine wo_block (fun Qb kN kE kX kR => ?_))) | (with_reducible (refine wi_regd ?_)) | (with_reducible (refine wi_skip ?_)) | (with_reducible (refine wi_ret ?_)) | (with_reducible (refine wi_exit ?_)) | (with_reducible (refine wi_loop ?_)) | (with_reducible (show W _ _ _ (.cond _ _ _) _ _); refine wi_cond rfl ?_) | (with_reducible (refine hN _ ?_); (try clear hN hE hR Qs)) | (with_reducible (refine hE _ _ ?_); (try clear hN hE hR Qs)) | (with_reducible (refine hR _ ?_); (try clear hN hE hR Qs)) | (with_reducible (refine kN _ ?_); (try clear kN kE kX kR Qb)) | (with_reducible (refine kE _ ?_); (try clear kN kE kX kR Qb)) | (with_reducible (refine kX _ _ rfl ?_); (try clear kN kE kX kR Qb)) | (with_reducible (refine kR _ ?_); (try clear kN kE kX kR Qb)) | (refine cb_dt f1 ?_) | (refine i_lt i1 ?_) | (refine Exists.intro _ (And.intro gx ?_)) | (refine i_at g0 ?_) | (refine And.intro (by kernel_rfl) ?_) | (refine cb_nf he ?_) | (refine cb_nt hn ?_) | (refine stpQ ?_))
        refine hQ1 _ _ ?_
        clear hQ1 Q1
        repeat ((try conv => whnf); first | (with_reducible (refine wo_seq (fun Qs hN hE hR => ?_))) | (with_reducible (refine wi_reg ?_)) | (with_reducible (refine wo_block (fun Qb kN kE kX kR => ?_))) | (with_reducible (refine wi_regd ?_)) | (with_reducible (refine wi_skip ?_)) | (with_reducible (refine wi_ret ?_)) | (with_reducible (refine wi_exit ?_)) | (with_reducible (refine wi_loop ?_)) | (with_reducible (show W _ _ _ (.cond _ _ _) _ _); refine wi_cond rfl ?_) | (with_reducible (refine hN _ ?_); (try clear hN hE hR Qs)) | (with_reducible (refine hE _ _ ?_); (try clear hN hE hR Qs)) | (with_reducible (refine hR _ ?_); (try clear hN hE hR Qs)) | (with_reducible (refine kN _ ?_); (try clear kN kE kX kR Qb)) | (with_reducible (refine kE _ ?_); (try clear kN kE kX kR Qb)) | (with_reducible (refine kX _ _ rfl ?_); (try clear kN kE kX kR Qb)) | (with_reducible (refine kR _ ?_); (try clear kN kE kX kR Qb)) | (refine stpQ ?_))
        (refine ans_auto (by rfl) ?_ ?_ (by rfl)) <;> (repeat' (first | (exact eqA) | (refine And.intro ?_ ?_) | ((fail_if_success (with_reducible (show _ = _))); (show _ = _))))
      by_cases k1 : j = 1
      · subst k1
        have hn : ¬ (z.length : Int) = 2 := by rw [hcl]; unfold mvN at hl; intro c; apply hl; rw [if_neg (by decide), if_pos (by decide)]; omega
        repeat ((try conv => whnf); first | (with_reducible (refine wo_seq (fun Qs hN hE hR => ?_))) | (with_reducible (refine wi_reg ?_)) | (with_reducible (refine wo_block (fun Qb kN kE kX kR => ?_))) | (with_reducible (refine wi_regd ?_)) | (with_reducible (refine wi_skip ?_)) | (with_reducible (refine wi_ret ?_)) | (with_reducible (refine wi_exit ?_)) | (with_reducible (refine wi_loop ?_)) | (with_reducible (show W _ _ _ (.cond _ _ _) _ _); refine wi_cond rfl ?_) | (with_reducible (refine hN _ ?_); (try clear hN hE hR Qs)) | (with_reducible (refine hE _ _ ?_); (try clear hN hE hR Qs)) | (with_reducible (refine hR _ ?_); (try clear hN hE hR Qs)) | (with_reducible (refine kN _ ?_); (try clear kN kE kX kR Qb)) | (with_reducible (refine kE _ ?_); (try clear kN kE kX kR Qb)) | (with_reducible (refine kX _ _ rfl ?_); (try clear kN kE kX kR Qb)) | (with_reducible (refine kR _ ?_); (try clear kN kE kX kR Qb)) | (refine cb_dt f1 ?_) | (refine i_lt i1 ?_) | (refine Exists.intro _ (And.intro gx ?_)) | (refine i_at g0 ?_) | (refine And.intro (by kernel_rfl) ?_) | (refine cb_nf he ?_) | (refine cb_nt hn ?_) | (refine stpQ ?_))
        refine hQ1 _ _ ?_
        clear hQ1 Q1
        repeat ((try conv => whnf); first | (with_reducible (refine wo_seq (fun Qs hN hE hR => ?_))) | (with_reducible (refine wi_reg ?_)) | (with_reducible (refine wo_block (fun Qb kN kE kX kR => ?_))) | (with_reducible (refine wi_regd ?_)) | (with_reducible (refine wi_skip ?_)) | (with_reducible (refine wi_ret ?_)) | (with_reducible (refine wi_exit ?_)) | (with_reducible (refine wi_loop ?_)) | (with_reducible (show W _ _ _ (.cond _ _ _) _ _); refine wi_cond rfl ?_) | (with_reducible (refine hN _ ?_); (try clear hN hE hR Qs)) | (with_reducible (refine hE _ _ ?_); (try clear hN hE hR Qs)) | (with_reducible (refine hR _ ?_); (try clear hN hE hR Qs)) | (with_reducible (refine kN _ ?_); (try clear kN kE kX kR Qb)) | (with_reducible (refine kE _ ?_); (try clear kN kE kX kR Qb)) | (with_reducible (refine kX _ _ rfl ?_); (try clear kN kE kX kR Qb)) | (with_reducible (refine kR _ ?_); (try clear kN kE kX kR Qb)) | (refine stpQ ?_))
        (refine ans_auto (by rfl) ?_ ?_ (by rfl)) <;> (repeat' (first | (exact eqA) | (refine And.intro ?_ ?_) | ((fail_if_success (with_reducible (show _ = _))); (show _ = _))))
      by_cases k2 : j = 2
      · subst k2
        have hn : ¬ (z.length : Int) = 2 := by rw [hcl]; unfold mvN at hl; intro c; apply hl; rw [if_neg (by decide), if_pos (by decide)]; omega
        repeat ((try conv => whnf); first | (with_reducible (refine wo_seq (fun Qs hN hE hR => ?_))) | (with_reducible (refine wi_reg ?_)) | (with_reducible (refine wo_block (fun Qb kN kE kX kR => ?_))) | (with_reducible (refine wi_regd ?_)) | (with_reducible (refine wi_skip ?_)) | (with_reducible (refine wi_ret ?_)) | (with_reducible (refine wi_exit ?_)) | (with_reducible (refine wi_loop ?_)) | (with_reducible (show W _ _ _ (.cond _ _ _) _ _); refine wi_cond rfl ?_) | (with_reducible (refine hN _ ?_); (try clear hN hE hR Qs)) | (with_reducible (refine hE _ _ ?_); (try clear hN hE hR Qs)) | (with_reducible (refine hR _ ?_); (try clear hN hE hR Qs)) | (with_reducible (refine kN _ ?_); (try clear kN kE kX kR Qb)) | (with_reducible (refine kE _ ?_); (try clear kN kE kX kR Qb)) | (with_reducible (refine kX _ _ rfl ?_); (try clear kN kE kX kR Qb)) | (with_reducible (refine kR _ ?_); (try clear kN kE kX kR Qb)) | (refine cb_dt f1 ?_) | (refine i_lt i1 ?_) | (refine Exists.intro _ (And.intro gx ?_)) | (refine i_at g0 ?_) | (refine And.intro (by kernel_rfl) ?_) | (refine cb_nf he ?_) | (refine cb_nt hn ?_) | (refine stpQ ?_))
        refine hQ1 _ _ ?_
        clear hQ1 Q1
        repeat ((try conv => whnf); first | (with_reducible (refine wo_seq (fun Qs hN hE hR => ?_))) | (with_reducible (refine wi_reg ?_)) | (with_reducible (refine wo_block (fun Qb kN kE kX kR => ?_))) | (with_reducible (refine wi_regd ?_)) | (with_reducible (refine wi_skip ?_)) | (with_reducible (refine wi_ret ?_)) | (with_reducible (refine wi_exit ?_)) | (with_reducible (refine wi_loop ?_)) | (with_reducible (show W _ _ _ (.cond _ _ _) _ _); refine wi_cond rfl ?_) | (with_reducible (refine hN _ ?_); (try clear hN hE hR Qs)) | (with_reducible (refine hE _ _ ?_); (try clear hN hE hR Qs)) | (with_reducible (refine hR _ ?_); (try clear hN hE hR Qs)) | (with_reducible (refine kN _ ?_); (try clear kN kE kX kR Qb)) | (with_reducible (refine kE _ ?_); (try clear kN kE kX kR Qb)) | (with_reducible (refine kX _ _ rfl ?_); (try clear kN kE kX kR Qb)) | (with_reducible (refine kR _ ?_); (try clear kN kE kX kR Qb)) | (refine stpQ ?_))
        (refine ans_auto (by rfl) ?_ ?_ (by rfl)) <;> (repeat' (first | (exact eqA) | (refine And.intro ?_ ?_) | ((fail_if_success (with_reducible (show _ = _))); (show _ = _))))
      by_cases k3 : j = 3
      · subst k3
        have hn : ¬ (z.length : Int) = 2 := by rw [hcl]; unfold mvN at hl; intro c; apply hl; rw [if_neg (by decide), if_pos (by decide)]; omega
        repeat ((try conv => whnf); first | (with_reducible (refine wo_seq (fun Qs hN hE hR => ?_))) | (with_reducible (refine wi_reg ?_)) | (with_reducible (refine wo_block (fun Qb kN kE kX kR => ?_))) | (with_reducible (refine wi_regd ?_)) | (with_reducible (refine wi_skip ?_)) | (with_reducible (refine wi_ret ?_)) | (with_reducible (refine wi_exit ?_)) | (with_reducible (refine wi_loop ?_)) | (with_reducible (show W _ _ _ (.cond _ _ _) _ _); refine wi_cond rfl ?_) | (with_reducible (refine hN _ ?_); (try clear hN hE hR Qs)) | (with_reducible (refine hE _ _ ?_); (try clear hN hE hR Qs)) | (with_reducible (refine hR _ ?_); (try clear hN hE hR Qs)) | (with_reducible (refine kN _ ?_); (try clear kN kE kX kR Qb)) | (with_reducible (refine kE _ ?_); (try clear kN kE kX kR Qb)) | (with_reducible (refine kX _ _ rfl ?_); (try clear kN kE kX kR Qb)) | (with_reducible (refine kR _ ?_); (try clear kN kE kX kR Qb)) | (refine cb_dt f1 ?_) | (refine i_lt i1 ?_) | (refine Exists.intro _ (And.intro gx ?_)) | (refine i_at g0 ?_) | (refine And.intro (by kernel_rfl) ?_) | (refine cb_nf he ?_) | (refine cb_nt hn ?_) | (refine stpQ ?_))
        refine hQ1 _ _ ?_
        clear hQ1 Q1
        repeat ((try conv => whnf); first | (with_reducible (refine wo_seq (fun Qs hN hE hR => ?_))) | (with_reducible (refine wi_reg ?_)) | (with_reducible (refine wo_block (fun Qb kN kE kX kR => ?_))) | (with_reducible (refine wi_regd ?_)) | (with_reducible (refine wi_skip ?_)) | (with_reducible (refine wi_ret ?_)) | (with_reducible (refine wi_exit ?_)) | (with_reducible (refine wi_loop ?_)) | (with_reducible (show W _ _ _ (.cond _ _ _) _ _); refine wi_cond rfl ?_) | (with_reducible (refine hN _ ?_); (try clear hN hE hR Qs)) | (with_reducible (refine hE _ _ ?_); (try clear hN hE hR Qs)) | (with_reducible (refine hR _ ?_); (try clear hN hE hR Qs)) | (with_reducible (refine kN _ ?_); (try clear kN kE kX kR Qb)) | (with_reducible (refine kE _ ?_); (try clear kN kE kX kR Qb)) | (with_reducible (refine kX _ _ rfl ?_); (try clear kN kE kX kR Qb)) | (with_reducible (refine kR _ ?_); (try clear kN kE kX kR Qb)) | (refine stpQ ?_))
        (refine ans_auto (by rfl) ?_ ?_ (by rfl)) <;> (repeat' (first | (exact eqA) | (refine And.intro ?_ ?_) | ((fail_if_success (with_reducible (show _ = _))); (show _ = _))))
      by_cases k8 : j = 8
      · subst k8
        have hn : ¬ (z.length : Int) = 4 := by rw [hcl]; unfold mvN at hl; intro c; apply hl; rw [if_neg (by decide), if_neg (by decide), if_pos rfl]; omega
        repeat ((try conv => whnf); first | (with_reducible (refine wo_seq (fun Qs hN hE hR => ?_))) | (with_reducible (refine wi_reg ?_)) | (with_reducible (refine wo_block (fun Qb kN kE kX kR => ?_))) | (with_reducible (refine wi_regd ?_)) | (with_reducible (refine wi_skip ?_)) | (with_reducible (refine wi_ret ?_)) | (with_reducible (refine wi_exit ?_)) | (with_reducible (refine wi_loop ?_)) | (with_reducible (show W _ _ _ (.cond _ _ _) _ _); refine wi_cond rfl ?_) | (with_reducible (refine hN _ ?_); (try clear hN hE hR Qs)) | (with_reducible (refine hE _ _ ?_); (try clear hN hE hR Qs)) | (with_reducible (refine hR _ ?_); (try clear hN hE hR Qs)) | (with_reducible (refine kN _ ?_); (try clear kN kE kX kR Qb)) | (with_reducible (refine kE _ ?_); (try clear kN kE kX kR Qb)) | (with_reducible (refine kX _ _ rfl ?_); (try clear kN kE kX kR Qb)) | (with_reducible (refine kR _ ?_); (try clear kN kE kX kR Qb)) | (refine cb_dt f1 ?_) | (refine i_lt i1 ?_) | (refine Exists.intro _ (And.intro gx ?_)) | (refine i_at g0 ?_) | (refine And.intro (by kernel_rfl) ?_) | (refine cb_nf he ?_) | (refine cb_nt hn ?_) | (refine stpQ ?_))
        refine hQ1 _ _ ?_
        clear hQ1 Q1
        repeat ((try conv => whnf); first | (with_reducible (refine wo_seq (fun Qs hN hE hR => ?_))) | (with_reducible (refine wi_reg ?_)) | (with_reducible (refine wo_block (fun Qb kN kE kX kR => ?_))) | (with_reducible (refine wi_regd ?_)) | (with_reducible (refine wi_skip ?_)) | (with_reducible (refine wi_ret ?_)) | (with_reducible (refine wi_exit ?_)) | (with_reducible (refine wi_loop ?_)) | (with_reducible (show W _ _ _ (.cond _ _ _) _ _); refine wi_cond rfl ?_) | (with_reducible (refine hN _ ?_); (try clear hN hE hR Qs)) | (with_reducible (refine hE _ _ ?_); (try clear hN hE hR Qs)) | (with_reducible (refine hR _ ?_); (try clear hN hE hR Qs)) | (with_reducible (refine kN _ ?_); (try clear kN kE kX kR Qb)) | (with_reducible (refine kE _ ?_); (try clear kN kE kX kR Qb)) | (with_reducible (refine kX _ _ rfl ?_); (try clear kN kE kX kR Qb)) | (with_reducible (refine kR _ ?_); (try clear kN kE kX kR Qb)) | (refine stpQ ?_))
        (refine ans_auto (by rfl) ?_ ?_ (by rfl)) <;> (repeat' (first | (exact eqA) | (refine And.intro ?_ ?_) | ((fail_if_success (with_reducible (show _ = _))); (show _ = _))))
      have hn : ¬ (z.length : Int) = 3 := by rw [hcl]; unfold mvN at hl; intro c; apply hl; rw [if_neg k0, if_neg (by omega), if_neg k8]; omega
      repeat ((try conv => whnf); first | (with_reducible (refine wo_seq (fun Qs hN hE hR => ?_))) | (with_reducible (refine wi_reg ?_)) | (with_reducible (refine wo_block (fun Qb kN kE kX kR => ?_))) | (with_reducible (refine wi_regd ?_)) | (with_reducible (refine wi_skip ?_)) | (with_reducible (refine wi_ret ?_)) | (with_reducible (refine wi_exit ?_)) | (with_reducible (refine wi_loop ?_)) | (with_reducible (show W _ _ _ (.cond _ _ _) _ _); refine wi_cond rfl ?_) | (with_reducible (refine hN _ ?_); (try clear hN hE hR Qs)) | (with_reducible (refine hE _ _ ?_); (try clear hN hE hR Qs)) | (with_reducible (refine hR _ ?_); (try clear hN hE hR Qs)) | (with_reducible (refine kN _ ?_); (try clear kN kE kX kR Qb)) | (with_reducible (refine kE _ ?_); (try clear kN kE kX kR Qb)) | (with_reducible (refine kX _ _ rfl ?_); (try clear kN kE kX kR Qb)) | (with_reducible (refine kR _ ?_); (try clear kN kE kX kR Qb)) | (refine cb_dt f1 ?_) | (refine i_lt i1 ?_) | (refine Exists.intro _ (And.intro gx ?_)) | (refine i_at g0 ?_) | (refine And.intro (by kernel_rfl) ?_) | (refine cb_nf he ?_) | (refine cb_nt hn ?_) | (refine stpQ ?_))
      refine hQ1 _ _ ?_
      clear hQ1 Q1
      repeat ((try conv => whnf); first | (with_reducible (refine wo_seq (fun Qs hN hE hR => ?_))) | (with_reducible (refine wi_reg ?_)) | (with_reducible (refine wo_block (fun Qb kN kE kX kR => ?_))) | (with_reducible (refine wi_regd ?_)) | (with_reducible (refine wi_skip ?_)) | (with_reducible (refine wi_ret ?_)) | (with_reducible (refine wi_exit ?_)) | (with_reducible (refine wi_loop ?_)) | (with_reducible (show W _ _ _ (.cond _ _ _) _ _); refine wi_cond rfl ?_) | (with_reducible (refine hN _ ?_); (try clear hN hE hR Qs)) | (with_reducible (refine hE _ _ ?_); (try clear hN hE hR Qs)) | (with_reducible (refine hR _ ?_); (try clear hN hE hR Qs)) | (with_reducible (refine kN _ ?_); (try clear kN kE kX kR Qb)) | (with_reducible (refine kE _ ?_); (try clear kN kE kX kR Qb)) | (with_reducible (refine kX _ _ rfl ?_); (try clear kN kE kX kR Qb)) | (with_reducible (refine kR _ ?_); (try clear kN kE kX kR Qb)) | (refine stpQ ?_))
      (refine ans_auto (by rfl) ?_ ?_ (by rfl)) <;> (repeat' (first | (exact eqA) | (refine And.intro ?_ ?_) | ((fail_if_success (with_reducible (show _ = _))); (show _ = _))))
set_option maxRecDepth 100000 in
set_option maxHeartbeats 2000000 in
theorem c_rm_def (p : List Bs) (j : Nat) (hj : 4 ≤ j ∧ j ≤ 7) (hw : mvL.getD j [] = pt p 0) (hl : p.length = mvN j) (hb : (pt p 3).length ≤ 600 ∧ (pt p 4).length ≤ 600) :
    CT Tryd.prog 56 [] [.sl 1 (strE p)] (.tup [.agg (evC (mvE j p)), .bool (mvB j p && evOk (mvE j p))]) [] := by
  have hj10 : j < 10 := by omega
  have hl : p.length = 3 := hl.trans (by rw [mvN, if_neg (by omega), if_neg (by omega), if_neg (by omega)])
  have g0 := g_cell (p := p) (i := 0) (by omega)
  have g1 := g_cell (p := p) (i := 1) (by omega)
  have g2 := g_cell (p := p) (i := 2) (by omega)
  have hcl : (strE p).length = 3 := by rw [strE_len]; exact hl
  have n2 := c_numA p 2 (pt p 2) (pt_at (by omega)) (false)
  have n1 := c_numA p 1 (pt p 1) (pt_at (by omega)) (false || !isB (pt p 2))
  have hM : mvB j p = (isB (pt p 1) && isB (pt p 2)) := by simp [mvB, show j = 0 ∨ 4 ≤ j from .inr hj.1, show ¬ j = 8 by omega]
  have hE : mvE j p = { k := 1, h := decV (pt p 1), mk := ((j + 1 : Nat) : Int), ma := decV (pt p 2) } := by simp [mvE, show ¬ j = 0 by omega, show ¬ 8 ≤ j by omega, show ¬ j = 8 by omega, hj]
  rw [hM, hE]
  have ce := c_EventOk { k := 1, h := decV (pt p 1), mk := ((j + 1 : Nat) : Int), ma := decV (pt p 2) } ⟨by simp, by simp⟩
  generalize hq : evOk { k := 1, h := decV (pt p 1), mk := ((j + 1 : Nat) : Int), ma := decV (pt p 2) } = q at ce ⊢
  clear hq hE hM hl
  generalize (decV (pt p 2) : Int) = v2 at *
  generalize isB (pt p 2) = b2 at *
  generalize (decV (pt p 1) : Int) = v1 at *
  generalize isB (pt p 1) = b1 at *
  have hskip : ∀ x, 1 ≤ x → x < j + 1 → ¬ mvW.getD x [] = pt p 0 := fun x h1 h2 => mvW_ne hj10 hw h1 h2
  have he : mvW.getD (j + 1) [] = pt p 0 := by rw [mvW_mvL j hj10, hw]
  generalize pt p 0 = w at *
  generalize strE p = z at *
  clear hw hb
  refine ct_intro ttS_ok 1 rfl Tryd.func56 rfl rfl rfl ?_
  conv => arg 6; whnf
  repeat ((try conv => whnf); first | (with_reducible (refine wo_seq (fun Qs hN hE hR => ?_))) | (with_reducible (refine wi_reg ?_)) | (with_reducible (refine wo_block (fun Qb kN kE kX kR => ?_))) | (with_reducible (refine wi_regd ?_)) | (with_reducible (refine wi_skip ?_)) | (with_reducible (refine wi_ret ?_)) | (with_reducible (refine wi_exit ?_)) | (with_reducible (refine wi_loop ?_)) | (with_reducible (show W _ _ _ (.cond _ _ _) _ _); refine wi_cond rfl ?_) | (with_reducible (refine hN _ ?_); (try clear hN hE hR Qs)) | (with_reducible (refine hE _ _ ?_); (try clear hN hE hR Qs)) | (with_reducible (refine hR _ ?_); (try clear hN hE hR Qs)) | (with_reducible (refine kN _ ?_); (try clear kN kE kX kR Qb)) | (with_reducible (refine kE _ ?_); (try clear kN kE kX kR Qb)) | (with_reducible (refine kX _ _ rfl ?_); (try clear kN kE kX kR Qb)) | (with_reducible (refine kR _ ?_); (try clear kN kE kX kR Qb)) | (refine stpQ ?_))
  refine loop_op Nat (fun x => ⟨[(0, .sl 1 z), (2, .ptr 1 0 0), (4, .ptr 2 0 0), (5, .int .i64 (x : Int))], [(1, some (.box zEv)), (2, some (.box [.sl 1 z, .bool false]))], 3⟩) (fun x => 1 ≤ x ∧ x ≤ j + 1) (fun x => j + 1 + 1 - x) 1 (by omega) ?_ ?_
  · (refine le_auto (by rfl) ?_ ?_) <;> (repeat' (first | (exact eqA) | (refine And.intro ?_ ?_) | ((fail_if_success (with_reducible (show _ = _))); (show _ = _)))) <;> first | rfl | decide
  · intro Q1 hQ1 x hx
    obtain ⟨hx1, hx2⟩ := hx
    by_cases hxj : x < j + 1
    · have f1 : (x : Int) ≤ 10 := by omega
      have i1 : x < 11 := by omega
      have gx := mvW_at x i1
      have hne := hskip x hx1 hxj
      clear hskip
      repeat ((try conv => whnf); first | (with_reducible (refine wo_seq (fun Qs hN hE hR => ?_))) | (with_reducible (refine wi_reg ?_)) | (with_reducible (refine wo_block (fun Qb kN kE kX kR => ?_))) | (with_reducible (refine wi_regd ?_)) | (with_reducible (refine wi_skip ?_)) | (with_reducible (refine wi_ret ?_)) | (with_reducible (refine wi_exit ?_)) | (with_reducible (refine wi_loop ?_)) | (with_reducible (show W _ _ _ (.cond _ _ _) _ _); refine wi_cond rfl ?_) | (with_reducible (refine hN _ ?_); (try clear hN hE hR Qs)) | (with_reducible (refine hE _ _ ?_); (try clear hN hE hR Qs)) | (with_reducible (refine hR _ ?_); (try clear hN hE hR Qs)) | (with_reducible (refine kN _ ?_); (try clear kN kE kX kR Qb)) | (with_reducible (refine kE _ ?_); (try clear kN kE kX kR Qb)) | (with_reducible (refine kX _ _ rfl ?_); (try clear kN kE kX kR Qb)) | (with_reducible (refine kR _ ?_); (try clear kN kE kX kR Qb)) | (refine cb_dt f1 ?_) | (refine i_lt i1 ?_) | (refine Exists.intro _ (And.intro gx ?_)) | (refine i_at g0 ?_) | (refine And.intro (by kernel_rfl) ?_) | (refine cb_nt hne ?_) | (refine stpQ ?_))
      refine ⟨x + 1, by omega, by omega, ?_⟩
      (refine le_auto (by rfl) ?_ ?_) <;> (repeat' (first | (exact eqA) | (refine And.intro ?_ ?_) | ((fail_if_success (with_reducible (show _ = _))); (show _ = _))))
    · obtain rfl : x = j + 1 := by omega
      have f1 : ((j + 1 : Nat) : Int) ≤ 10 := by omega
      have i1 : j + 1 < 11 := by omega
      have gx := mvW_at (j + 1) i1
      have fn : (z.length : Int) = 3 := by omega
      clear hskip hxj hx1 hx2
      cases hall : (b1 && b2)
      · have hB : (!((false || !b2) || !b1)) = false := by revert hall; cases b2 <;> cases b1 <;> decide
        repeat ((try conv => whnf); first | (with_reducible (refine wo_seq (fun Qs hN hE hR => ?_))) | (with_reducible (refine wi_reg ?_)) | (with_reducible (refine wo_block (fun Qb kN kE kX kR => ?_))) | (with_reducible (refine wi_regd ?_)) | (with_reducible (refine wi_skip ?_)) | (with_reducible (refine wi_ret ?_)) | (with_reducible (refine wi_exit ?_)) | (with_reducible (refine wi_loop ?_)) | (with_reducible (show W _ _ _ (.cond _ _ _) _ _); refine wi_cond rfl ?_) | (with_reducible (refine hN _ ?_); (try clear hN hE hR Qs)) | (with_reducible (refine hE _ _ ?_); (try clear hN hE hR Qs)) | (with_reducible (refine hR _ ?_); (try clear hN hE hR Qs)) | (with_reducible (refine kN _ ?_); (try clear kN kE kX kR Qb)) | (with_reducible (refine kE _ ?_); (try clear kN kE kX kR Qb)) | (with_reducible (refine kX _ _ rfl ?_); (try clear kN kE kX kR Qb)) | (with_reducible (refine kR _ ?_); (try clear kN kE kX kR Qb)) | (refine cb_dt f1 ?_) | (refine i_lt i1 ?_) | (refine Exists.intro _ (And.intro gx ?_)) | (refine i_at g0 ?_) | (refine And.intro (by kernel_rfl) ?_) | (refine cb_nf he ?_) | (refine cb_nf fn ?_) | (refine ccB ([2]) (n2) ?_) | (refine ccB ([2]) (n1) ?_) | (refine ccA ([]) (ce) ?_) | (refine cb_f hB ?_) | (refine stpQ ?_))
        refine hQ1 _ _ ?_
        clear hQ1 Q1
        repeat ((try conv => whnf); first | (with_reducible (refine wo_seq (fun Qs hN hE hR => ?_))) | (with_reducible (refine wi_reg ?_)) | (with_reducible (refine wo_block (fun Qb kN kE kX kR => ?_))) | (with_reducible (refine wi_regd ?_)) | (with_reducible (refine wi_skip ?_)) | (with_reducible (refine wi_ret ?_)) | (with_reducible (refine wi_exit ?_)) | (with_reducible (refine wi_loop ?_)) | (with_reducible (show W _ _ _ (.cond _ _ _) _ _); refine wi_cond rfl ?_) | (with_reducible (refine hN _ ?_); (try clear hN hE hR Qs)) | (with_reducible (refine hE _ _ ?_); (try clear hN hE hR Qs)) | (with_reducible (refine hR _ ?_); (try clear hN hE hR Qs)) | (with_reducible (refine kN _ ?_); (try clear kN kE kX kR Qb)) | (with_reducible (refine kE _ ?_); (try clear kN kE kX kR Qb)) | (with_reducible (refine kX _ _ rfl ?_); (try clear kN kE kX kR Qb)) | (with_reducible (refine kR _ ?_); (try clear kN kE kX kR Qb)) | (refine stpQ ?_))
        (refine ans_auto (by rfl) ?_ ?_ (by rfl)) <;> (repeat' (first | (exact eqA) | (refine And.intro ?_ ?_) | ((fail_if_success (with_reducible (show _ = _))); (show _ = _)))) <;> first | (rw [hall]; done) | (rw [hall]; rfl)
      · have hB : (!((false || !b2) || !b1)) = true := by revert hall; cases b2 <;> cases b1 <;> decide
        repeat ((try conv => whnf); first | (with_reducible (refine wo_seq (fun Qs hN hE hR => ?_))) | (with_reducible (refine wi_reg ?_)) | (with_reducible (refine wo_block (fun Qb kN kE kX kR => ?_))) | (with_reducible (refine wi_regd ?_)) | (with_reducible (refine wi_skip ?_)) | (with_reducible (refine wi_ret ?_)) | (with_reducible (refine wi_exit ?_)) | (with_reducible (refine wi_loop ?_)) | (with_reducible (show W _ _ _ (.cond _ _ _) _ _); refine wi_cond rfl ?_) | (with_reducible (refine hN _ ?_); (try clear hN hE hR Qs)) | (with_reducible (refine hE _ _ ?_); (try clear hN hE hR Qs)) | (with_reducible (refine hR _ ?_); (try clear hN hE hR Qs)) | (with_reducible (refine kN _ ?_); (try clear kN kE kX kR Qb)) | (with_reducible (refine kE _ ?_); (try clear kN kE kX kR Qb)) | (with_reducible (refine kX _ _ rfl ?_); (try clear kN kE kX kR Qb)) | (with_reducible (refine kR _ ?_); (try clear kN kE kX kR Qb)) | (refine cb_dt f1 ?_) | (refine i_lt i1 ?_) | (refine Exists.intro _ (And.intro gx ?_)) | (refine i_at g0 ?_) | (refine And.intro (by kernel_rfl) ?_) | (refine cb_nf he ?_) | (refine cb_nf fn ?_) | (refine ccB ([2]) (n2) ?_) | (refine ccB ([2]) (n1) ?_) | (refine ccA ([]) (ce) ?_) | (refine cb_t hB ?_) | (refine stpQ ?_))
        refine hQ1 _ _ ?_
        clear hQ1 Q1
        repeat ((try conv => whnf); first | (with_reducible (refine wo_seq (fun Qs hN hE hR => ?_))) | (with_reducible (refine wi_reg ?_)) | (with_reducible (refine wo_block (fun Qb kN kE kX kR => ?_))) | (with_reducible (refine wi_regd ?_)) | (with_reducible (refine wi_skip ?_)) | (with_reducible (refine wi_ret ?_)) | (with_reducible (refine wi_exit ?_)) | (with_reducible (refine wi_loop ?_)) | (with_reducible (show W _ _ _ (.cond _ _ _) _ _); refine wi_cond rfl ?_) | (with_reducible (refine hN _ ?_); (try clear hN hE hR Qs)) | (with_reducible (refine hE _ _ ?_); (try clear hN hE hR Qs)) | (with_reducible (refine hR _ ?_); (try clear hN hE hR Qs)) | (with_reducible (refine kN _ ?_); (try clear kN kE kX kR Qb)) | (with_reducible (refine kE _ ?_); (try clear kN kE kX kR Qb)) | (with_reducible (refine kX _ _ rfl ?_); (try clear kN kE kX kR Qb)) | (with_reducible (refine kR _ ?_); (try clear kN kE kX kR Qb)) | (refine stpQ ?_))
        (refine ans_auto (by rfl) ?_ ?_ (by rfl)) <;> (repeat' (first | (exact eqA) | (refine And.intro ?_ ?_) | ((fail_if_success (with_reducible (show _ = _))); (show _ = _)))) <;> first | (rw [hall]; done) | (rw [hall]; rfl)
set_option maxRecDepth 100000 in
set_option maxHeartbeats 2000000 in
theorem c_rm_k1 (p : List Bs) (j : Nat) (hj : j = 1) (hw : mvL.getD j [] = pt p 0) (hl : p.length = mvN j) (hb : (pt p 3).length ≤ 600 ∧ (pt p 4).length ≤ 600) :
    CT Tryd.prog 56 [] [.sl 1 (strE p)] (.tup [.agg (evC (mvE 1 p)), .bool (mvB j p && evOk (mvE 1 p))]) [] := by
  have hj10 : j < 10 := by omega
  subst hj
  have hl : p.length = 2 := hl.trans (by rfl)
  have g0 := g_cell (p := p) (i := 0) (by omega)
  have g1 := g_cell (p := p) (i := 1) (by omega)
  have hcl : (strE p).length = 2 := by rw [strE_len]; exact hl
  have n1 := c_numA p 1 (pt p 1) (pt_at (by omega)) (false)
  have hM : mvB 1 p = (isB (pt p 1)) := by simp [mvB]
  have hE : mvE 1 p = { k := 1, h := decV (pt p 1), mk := ((1 + 1 : Nat) : Int) } := by simp [mvE]
  rw [hM, hE]
  have ce := c_EventOk { k := 1, h := decV (pt p 1), mk := ((1 + 1 : Nat) : Int) } ⟨by simp, by simp⟩
  generalize hq : evOk { k := 1, h := decV (pt p 1), mk := ((1 + 1 : Nat) : Int) } = q at ce ⊢
  clear hq hE hM hl
  generalize (decV (pt p 1) : Int) = v1 at *
  generalize isB (pt p 1) = b1 at *
  have hskip : ∀ x, 1 ≤ x → x < 1 + 1 → ¬ mvW.getD x [] = pt p 0 := fun x h1 h2 => mvW_ne hj10 hw h1 h2
  have he : mvW.getD (1 + 1) [] = pt p 0 := by rw [mvW_mvL 1 hj10, hw]
  generalize pt p 0 = w at *
  generalize strE p = z at *
  clear hw hb
  refine ct_intro ttS_ok 1 rfl Tryd.func56 rfl rfl rfl ?_
  conv => arg 6; whnf
  repeat ((try conv => whnf); first | (with_reducible (refine wo_seq (fun Qs hN hE hR => ?_))) | (with_reducible (refine wi_reg ?_)) | (with_reducible (refine wo_block (fun Qb kN kE kX kR => ?_))) | (with_reducible (refine wi_regd ?_)) | (with_reducible (refine wi_skip ?_)) | (with_reducible (refine wi_ret ?_)) | (with_reducible (refine wi_exit ?_)) | (with_reducible (refine wi_loop ?_)) | (with_reducible (show W _ _ _ (.cond _ _ _) _ _); refine wi_cond rfl ?_) | (with_reducible (refine hN _ ?_); (try clear hN hE hR Qs)) | (with_reducible (refine hE _ _ ?_); (try clear hN hE hR Qs)) | (with_reducible (refine hR _ ?_); (try clear hN hE hR Qs)) | (with_reducible (refine kN _ ?_); (try clear kN kE kX kR Qb)) | (with_reducible (refine kE _ ?_); (try clear kN kE kX kR Qb)) | (with_reducible (refine kX _ _ rfl ?_); (try clear kN kE kX kR Qb)) | (with_reducible (refine kR _ ?_); (try clear kN kE kX kR Qb)) | (refine stpQ ?_))
  refine loop_op Nat (fun x => ⟨[(0, .sl 1 z), (2, .ptr 1 0 0), (4, .ptr 2 0 0), (5, .int .i64 (x : Int))], [(1, some (.box zEv)), (2, some (.box [.sl 1 z, .bool false]))], 3⟩) (fun x => 1 ≤ x ∧ x ≤ 1 + 1) (fun x => 1 + 1 + 1 - x) 1 (by omega) ?_ ?_
  · (refine le_auto (by rfl) ?_ ?_) <;> (repeat' (first | (exact eqA) | (refine And.intro ?_ ?_) | ((fail_if_success (with_reducible (show _ = _))); (show _ = _)))) <;> first | rfl | decide
  · intro Q1 hQ1 x hx
    obtain ⟨hx1, hx2⟩ := hx
    by_cases hxj : x < 1 + 1
    · have f1 : (x : Int) ≤ 10 := by omega
      have i1 : x < 11 := by omega
      have gx := mvW_at x i1
      have hne := hskip x hx1 hxj
      clear hskip
      repeat ((try conv => whnf); first | (with_reducible (refine wo_seq (fun Qs hN hE hR => ?_))) | (with_reducible (refine wi_reg ?_)) | (with_reducible (refine wo_block (fun Qb kN kE kX kR => ?_))) | (with_reducible (refine wi_regd ?_)) | (with_reducible (refine wi_skip ?_)) | (with_reducible (refine wi_ret ?_)) | (with_reducible (refine wi_exit ?_)) | (with_reducible (refine wi_loop ?_)) | (with_reducible (show W _ _ _ (.cond _ _ _) _ _); refine wi_cond rfl ?_) | (with_reducible (refine hN _ ?_); (try clear hN hE hR Qs)) | (with_reducible (refine hE _ _ ?_); (try clear hN hE hR Qs)) | (with_reducible (refine hR _ ?_); (try clear hN hE hR Qs)) | (with_reducible (refine kN _ ?_); (try clear kN kE kX kR Qb)) | (with_reducible (refine kE _ ?_); (try clear kN kE kX kR Qb)) | (with_reducible (refine kX _ _ rfl ?_); (try clear kN kE kX kR Qb)) | (with_reducible (refine kR _ ?_); (try clear kN kE kX kR Qb)) | (refine cb_dt f1 ?_) | (refine i_lt i1 ?_) | (refine Exists.intro _ (And.intro gx ?_)) | (refine i_at g0 ?_) | (refine And.intro (by kernel_rfl) ?_) | (refine cb_nt hne ?_) | (refine stpQ ?_))
      refine ⟨x + 1, by omega, by omega, ?_⟩
      (refine le_auto (by rfl) ?_ ?_) <;> (repeat' (first | (exact eqA) | (refine And.intro ?_ ?_) | ((fail_if_success (with_reducible (show _ = _))); (show _ = _))))
    · obtain rfl : x = 1 + 1 := by omega
      have f1 : ((1 + 1 : Nat) : Int) ≤ 10 := by omega
      have i1 : 1 + 1 < 11 := by omega
      have gx := mvW_at (1 + 1) i1
      have fn : (z.length : Int) = 2 := by omega
      clear hskip hxj hx1 hx2
      cases hall : (b1)
      · have hB : (!(false || !b1)) = false := by revert hall; cases b1 <;> decide
        repeat ((try conv => whnf); first | (with_reducible (refine wo_seq (fun Qs hN hE hR => ?_))) | (with_reducible (refine wi_reg ?_)) | (with_reducible (refine wo_block (fun Qb kN kE kX kR => ?_))) | (with_reducible (refine wi_regd ?_)) | (with_reducible (refine wi_skip ?_)) | (with_reducible (refine wi_ret ?_)) | (with_reducible (refine wi_exit ?_)) | (with_reducible (refine wi_loop ?_)) | (with_reducible (show W _ _ _ (.cond _ _ _) _ _); refine wi_cond rfl ?_) | (with_reducible (refine hN _ ?_); (try clear hN hE hR Qs)) | (with_reducible (refine hE _ _ ?_); (try clear hN hE hR Qs)) | (with_reducible (refine hR _ ?_); (try clear hN hE hR Qs)) | (with_reducible (refine kN _ ?_); (try clear kN kE kX kR Qb)) | (with_reducible (refine kE _ ?_); (try clear kN kE kX kR Qb)) | (with_reducible (refine kX _ _ rfl ?_); (try clear kN kE kX kR Qb)) | (with_reducible (refine kR _ ?_); (try clear kN kE kX kR Qb)) | (refine cb_dt f1 ?_) | (refine i_lt i1 ?_) | (refine Exists.intro _ (And.intro gx ?_)) | (refine i_at g0 ?_) | (refine And.intro (by kernel_rfl) ?_) | (refine cb_nf he ?_) | (refine cb_nf fn ?_) | (refine ccB ([2]) (n1) ?_) | (refine ccA ([]) (ce) ?_) | (refine cb_f hB ?_) | (refine stpQ ?_))
        refine hQ1 _ _ ?_
        clear hQ1 Q1
        repeat ((try conv => whnf); first | (with_reducible (refine wo_seq (fun Qs hN hE hR => ?_))) | (with_reducible (refine wi_reg ?_)) | (with_reducible (refine wo_block (fun Qb kN kE kX kR => ?_))) | (with_reducible (refine wi_regd ?_)) | (with_reducible (refine wi_skip ?_)) | (with_reducible (refine wi_ret ?_)) | (with_reducible (refine wi_exit ?_)) | (with_reducible (refine wi_loop ?_)) | (with_reducible (show W _ _ _ (.cond _ _ _) _ _); refine wi_cond rfl ?_) | (with_reducible (refine hN _ ?_); (try clear hN hE hR Qs)) | (with_reducible (refine hE _ _ ?_); (try clear hN hE hR Qs)) | (with_reducible (refine hR _ ?_); (try clear hN hE hR Qs)) | (with_reducible (refine kN _ ?_); (try clear kN kE kX kR Qb)) | (with_reducible (refine kE _ ?_); (try clear kN kE kX kR Qb)) | (with_reducible (refine kX _ _ rfl ?_); (try clear kN kE kX kR Qb)) | (with_reducible (refine kR _ ?_); (try clear kN kE kX kR Qb)) | (refine stpQ ?_))
        (refine ans_auto (by rfl) ?_ ?_ (by rfl)) <;> (repeat' (first | (exact eqA) | (refine And.intro ?_ ?_) | ((fail_if_success (with_reducible (show _ = _))); (show _ = _)))) <;> first | (rw [hall]; done) | (rw [hall]; rfl)
      · have hB : (!(false || !b1)) = true := by revert hall; cases b1 <;> decide
        repeat ((try conv => whnf); first | (with_reducible (refine wo_seq (fun Qs hN hE hR => ?_))) | (with_reducible (refine wi_reg ?_)) | (with_reducible (refine wo_block (fun Qb kN kE kX kR => ?_))) | (with_reducible (refine wi_regd ?_)) | (with_reducible (refine wi_skip ?_)) | (with_reducible (refine wi_ret ?_)) | (with_reducible (refine wi_exit ?_)) | (with_reducible (refine wi_loop ?_)) | (with_reducible (show W _ _ _ (.cond _ _ _) _ _); refine wi_cond rfl ?_) | (with_reducible (refine hN _ ?_); (try clear hN hE hR Qs)) | (with_reducible (refine hE _ _ ?_); (try clear hN hE hR Qs)) | (with_reducible (refine hR _ ?_); (try clear hN hE hR Qs)) | (with_reducible (refine kN _ ?_); (try clear kN kE kX kR Qb)) | (with_reducible (refine kE _ ?_); (try clear kN kE kX kR Qb)) | (with_reducible (refine kX _ _ rfl ?_); (try clear kN kE kX kR Qb)) | (with_reducible (refine kR _ ?_); (try clear kN kE kX kR Qb)) | (refine cb_dt f1 ?_) | (refine i_lt i1 ?_) | (refine Exists.intro _ (And.intro gx ?_)) | (refine i_at g0 ?_) | (refine And.intro (by kernel_rfl) ?_) | (refine cb_nf he ?_) | (refine cb_nf fn ?_) | (refine ccB ([2]) (n1) ?_) | (refine ccA ([]) (ce) ?_) | (refine cb_t hB ?_) | (refine stpQ ?_))
        refine hQ1 _ _ ?_
        clear hQ1 Q1
        repeat ((try conv => whnf); first | (with_reducible (refine wo_seq (fun Qs hN hE hR => ?_))) | (with_reducible (refine wi_reg ?_)) | (with_reducible (refine wo_block (fun Qb kN kE kX kR => ?_))) | (with_reducible (refine wi_regd ?_)) | (with_reducible (refine wi_skip ?_)) | (with_reducible (refine wi_ret ?_)) | (with_reducible (refine wi_exit ?_)) | (with_reducible (refine wi_loop ?_)) | (with_reducible (show W _ _ _ (.cond _ _ _) _ _); refine wi_cond rfl ?_) | (with_reducible (refine hN _ ?_); (try clear hN hE hR Qs)) | (with_reducible (refine hE _ _ ?_); (try clear hN hE hR Qs)) | (with_reducible (refine hR _ ?_); (try clear hN hE hR Qs)) | (with_reducible (refine kN _ ?_); (try clear kN kE kX kR Qb)) | (with_reducible (refine kE _ ?_); (try clear kN kE kX kR Qb)) | (with_reducible (refine kX _ _ rfl ?_); (try clear kN kE kX kR Qb)) | (with_reducible (refine kR _ ?_); (try clear kN kE kX kR Qb)) | (refine stpQ ?_))
        (refine ans_auto (by rfl) ?_ ?_ (by rfl)) <;> (repeat' (first | (exact eqA) | (refine And.intro ?_ ?_) | ((fail_if_success (with_reducible (show _ = _))); (show _ = _)))) <;> first | (rw [hall]; done) | (rw [hall]; rfl)
set_option maxRecDepth 100000 in
set_option maxHeartbeats 2000000 in
theorem c_rm_k2 (p : List Bs) (j : Nat) (hj : j = 2) (hw : mvL.getD j [] = pt p 0) (hl : p.length = mvN j) (hb : (pt p 3).length ≤ 600 ∧ (pt p 4).length ≤ 600) :
    CT Tryd.prog 56 [] [.sl 1 (strE p)] (.tup [.agg (evC (mvE 2 p)), .bool (mvB j p && evOk (mvE 2 p))]) [] := by
  have hj10 : j < 10 := by omega
  subst hj
  have hl : p.length = 2 := hl.trans (by rfl)
  have g0 := g_cell (p := p) (i := 0) (by omega)
  have g1 := g_cell (p := p) (i := 1) (by omega)
  have hcl : (strE p).length = 2 := by rw [strE_len]; exact hl
  have n1 := c_numA p 1 (pt p 1) (pt_at (by omega)) (false)
  have hM : mvB 2 p = (isB (pt p 1)) := by simp [mvB]
  have hE : mvE 2 p = { k := 1, h := decV (pt p 1), mk := ((2 + 1 : Nat) : Int) } := by simp [mvE]
  rw [hM, hE]
  have ce := c_EventOk { k := 1, h := decV (pt p 1), mk := ((2 + 1 : Nat) : Int) } ⟨by simp, by simp⟩
  generalize hq : evOk { k := 1, h := decV (pt p 1), mk := ((2 + 1 : Nat) : Int) } = q at ce ⊢
  clear hq hE hM hl
  generalize (decV (pt p 1) : Int) = v1 at *
  generalize isB (pt p 1) = b1 at *
  have hskip : ∀ x, 1 ≤ x → x < 2 + 1 → ¬ mvW.getD x [] = pt p 0 := fun x h1 h2 => mvW_ne hj10 hw h1 h2
  have he : mvW.getD (2 + 1) [] = pt p 0 := by rw [mvW_mvL 2 hj10, hw]
  generalize pt p 0 = w at *
  generalize strE p = z at *
  clear hw hb
  refine ct_intro ttS_ok 1 rfl Tryd.func56 rfl rfl rfl ?_
  conv => arg 6; whnf
  repeat ((try conv => whnf); first | (with_reducible (refine wo_seq (fun Qs hN hE hR => ?_))) | (with_reducible (refine wi_reg ?_)) | (with_reducible (refine wo_block (fun Qb kN kE kX kR => ?_))) | (with_reducible (refine wi_regd ?_)) | (with_reducible (refine wi_skip ?_)) | (with_reducible (refine wi_ret ?_)) | (with_reducible (refine wi_exit ?_)) | (with_reducible (refine wi_loop ?_)) | (with_reducible (show W _ _ _ (.cond _ _ _) _ _); refine wi_cond rfl ?_) | (with_reducible (refine hN _ ?_); (try clear hN hE hR Qs)) | (with_reducible (refine hE _ _ ?_); (try clear hN hE hR Qs)) | (with_reducible (refine hR _ ?_); (try clear hN hE hR Qs)) | (with_reducible (refine kN _ ?_); (try clear kN kE kX kR Qb)) | (with_reducible (refine kE _ ?_); (try clear kN kE kX kR Qb)) | (with_reducible (refine kX _ _ rfl ?_); (try clear kN kE kX kR Qb)) | (with_reducible (refine kR _ ?_); (try clear kN kE kX kR Qb)) | (refine stpQ ?_))
  refine loop_op Nat (fun x => ⟨[(0, .sl 1 z), (2, .ptr 1 0 0), (4, .ptr 2 0 0), (5, .int .i64 (x : Int))], [(1, some (.box zEv)), (2, some (.box [.sl 1 z, .bool false]))], 3⟩) (fun x => 1 ≤ x ∧ x ≤ 2 + 1) (fun x => 2 + 1 + 1 - x) 1 (by omega) ?_ ?_
  · (refine le_auto (by rfl) ?_ ?_) <;> (repeat' (first | (exact eqA) | (refine And.intro ?_ ?_) | ((fail_if_success (with_reducible (show _ = _))); (show _ = _)))) <;> first | rfl | decide
  · intro Q1 hQ1 x hx
    obtain ⟨hx1, hx2⟩ := hx
    by_cases hxj : x < 2 + 1
    · have f1 : (x : Int) ≤ 10 := by omega
      have i1 : x < 11 := by omega
      have gx := mvW_at x i1
      have hne := hskip x hx1 hxj
      clear hskip
      repeat ((try conv => whnf); first | (with_reducible (refine wo_seq (fun Qs hN hE hR => ?_))) | (with_reducible (refine wi_reg ?_)) | (with_reducible (refine wo_block (fun Qb kN kE kX kR => ?_))) | (with_reducible (refine wi_regd ?_)) | (with_reducible (refine wi_skip ?_)) | (with_reducible (refine wi_ret ?_)) | (with_reducible (refine wi_exit ?_)) | (with_reducible (refine wi_loop ?_)) | (with_reducible (show W _ _ _ (.cond _ _ _) _ _); refine wi_cond rfl ?_) | (with_reducible (refine hN _ ?_); (try clear hN hE hR Qs)) | (with_reducible (refine hE _ _ ?_); (try clear hN hE hR Qs)) | (with_reducible (refine hR _ ?_); (try clear hN hE hR Qs)) | (with_reducible (refine kN _ ?_); (try clear kN kE kX kR Qb)) | (with_reducible (refine kE _ ?_); (try clear kN kE kX kR Qb)) | (with_reducible (refine kX _ _ rfl ?_); (try clear kN kE kX kR Qb)) | (with_reducible (refine kR _ ?_); (try clear kN kE kX kR Qb)) | (refine cb_dt f1 ?_) | (refine i_lt i1 ?_) | (refine Exists.intro _ (And.intro gx ?_)) | (refine i_at g0 ?_) | (refine And.intro (by kernel_rfl) ?_) | (refine cb_nt hne ?_) | (refine stpQ ?_))
      refine ⟨x + 1, by omega, by omega, ?_⟩
      (refine le_auto (by rfl) ?_ ?_) <;> (repeat' (first | (exact eqA) | (refine And.intro ?_ ?_) | ((fail_if_success (with_reducible (show _ = _))); (show _ = _))))
    · obtain rfl : x = 2 + 1 := by omega
      have f1 : ((2 + 1 : Nat) : Int) ≤ 10 := by omega
      have i1 : 2 + 1 < 11 := by omega
      have gx := mvW_at (2 + 1) i1
      have fn : (z.length : Int) = 2 := by omega
      clear hskip hxj hx1 hx2
      cases hall : (b1)
      · have hB : (!(false || !b1)) = false := by revert hall; cases b1 <;> decide
        repeat ((try conv => whnf); first | (with_reducible (refine wo_seq (fun Qs hN hE hR => ?_))) | (with_reducible (refine wi_reg ?_)) | (with_reducible (refine wo_block (fun Qb kN kE kX kR => ?_))) | (with_reducible (refine wi_regd ?_)) | (with_reducible (refine wi_skip ?_)) | (with_reducible (refine wi_ret ?_)) | (with_reducible (refine wi_exit ?_)) | (with_reducible (refine wi_loop ?_)) | (with_reducible (show W _ _ _ (.cond _ _ _) _ _); refine wi_cond rfl ?_) | (with_reducible (refine hN _ ?_); (try clear hN hE hR Qs)) | (with_reducible (refine hE _ _ ?_); (try clear hN hE hR Qs)) | (with_reducible (refine hR _ ?_); (try clear hN hE hR Qs)) | (with_reducible (refine kN _ ?_); (try clear kN kE kX kR Qb)) | (with_reducible (refine kE _ ?_); (try clear kN kE kX kR Qb)) | (with_reducible (refine kX _ _ rfl ?_); (try clear kN kE kX kR Qb)) | (with_reducible (refine kR _ ?_); (try clear kN kE kX kR Qb)) | (refine cb_dt f1 ?_) | (refine i_lt i1 ?_) | (refine Exists.intro _ (And.intro gx ?_)) | (refine i_at g0 ?_) | (refine And.intro (by kernel_rfl) ?_) | (refine cb_nf he ?_) | (refine cb_nf fn ?_) | (refine ccB ([2]) (n1) ?_) | (refine ccA ([]) (ce) ?_) | (refine cb_f hB ?_) | (refine stpQ ?_))
        refine hQ1 _ _ ?_
        clear hQ1 Q1
        repeat ((try conv => whnf); first | (with_reducible (refine wo_seq (fun Qs hN hE hR => ?_))) | (with_reducible (refine wi_reg ?_)) | (with_reducible (refine wo_block (fun Qb kN kE kX kR => ?_))) | (with_reducible (refine wi_regd ?_)) | (with_reducible (refine wi_skip ?_)) | (with_reducible (refine wi_ret ?_)) | (with_reducible (refine wi_exit ?_)) | (with_reducible (refine wi_loop ?_)) | (with_reducible (show W _ _ _ (.cond _ _ _) _ _); refine wi_cond rfl ?_) | (with_reducible (refine hN _ ?_); (try clear hN hE hR Qs)) | (with_reducible (refine hE _ _ ?_); (try clear hN hE hR Qs)) | (with_reducible (refine hR _ ?_); (try clear hN hE hR Qs)) | (with_reducible (refine kN _ ?_); (try clear kN kE kX kR Qb)) | (with_reducible (refine kE _ ?_); (try clear kN kE kX kR Qb)) | (with_reducible (refine kX _ _ rfl ?_); (try clear kN kE kX kR Qb)) | (with_reducible (refine kR _ ?_); (try clear kN kE kX kR Qb)) | (refine stpQ ?_))
        (refine ans_auto (by rfl) ?_ ?_ (by rfl)) <;> (repeat' (first | (exact eqA) | (refine And.intro ?_ ?_) | ((fail_if_success (with_reducible (show _ = _))); (show _ = _)))) <;> first | (rw [hall]; done) | (rw [hall]; rfl)
      · have hB : (!(false || !b1)) = true := by revert hall; cases b1 <;> decide
        repeat ((try conv => whnf); first | (with_reducible (refine wo_seq (fun Qs hN hE hR => ?_))) | (with_reducible (refine wi_reg ?_)) | (with_reducible (refine wo_block (fun Qb kN kE kX kR => ?_))) | (with_reducible (refine wi_regd ?_)) | (with_reducible (refine wi_skip ?_)) | (with_reducible (refine wi_ret ?_)) | (with_reducible (refine wi_exit ?_)) | (with_reducible (refine wi_loop ?_)) | (with_reducible (show W _ _ _ (.cond _ _ _) _ _); refine wi_cond rfl ?_) | (with_reducible (refine hN _ ?_); (try clear hN hE hR Qs)) | (with_reducible (refine hE _ _ ?_); (try clear hN hE hR Qs)) | (with_reducible (refine hR _ ?_); (try clear hN hE hR Qs)) | (with_reducible (refine kN _ ?_); (try clear kN kE kX kR Qb)) | (with_reducible (refine kE _ ?_); (try clear kN kE kX kR Qb)) | (with_reducible (refine kX _ _ rfl ?_); (try clear kN kE kX kR Qb)) | (with_reducible (refine kR _ ?_); (try clear kN kE kX kR Qb)) | (refine cb_dt f1 ?_) | (refine i_lt i1 ?_) | (refine Exists.intro _ (And.intro gx ?_)) | (refine i_at g0 ?_) | (refine And.intro (by kernel_rfl) ?_) | (refine cb_nf he ?_) | (refine cb_nf fn ?_) | (refine ccB ([2]) (n1) ?_) | (refine ccA ([]) (ce) ?_) | (refine cb_t hB ?_) | (refine stpQ ?_))
        refine hQ1 _ _ ?_
        clear hQ1 Q1
        repeat ((try conv => whnf); first | (with_reducible (refine wo_seq (fun Qs hN hE hR => ?_))) | (with_reducible (refine wi_reg ?_)) | (with_reducible (refine wo_block (fun Qb kN kE kX kR => ?_))) | (with_reducible (refine wi_regd ?_)) | (with_reducible (refine wi_skip ?_)) | (with_reducible (refine wi_ret ?_)) | (with_reducible (refine wi_exit ?_)) | (with_reducible (refine wi_loop ?_)) | (with_reducible (show W _ _ _ (.cond _ _ _) _ _); refine wi_cond rfl ?_) | (with_reducible (refine hN _ ?_); (try clear hN hE hR Qs)) | (with_reducible (refine hE _ _ ?_); (try clear hN hE hR Qs)) | (with_reducible (refine hR _ ?_); (try clear hN hE hR Qs)) | (with_reducible (refine kN _ ?_); (try clear kN kE kX kR Qb)) | (with_reducible (refine kE _ ?_); (try clear kN kE kX kR Qb)) | (with_reducible (refine kX _ _ rfl ?_); (try clear kN kE kX kR Qb)) | (with_reducible (refine kR _ ?_); (try clear kN kE kX kR Qb)) | (refine stpQ ?_))
        (refine ans_auto (by rfl) ?_ ?_ (by rfl)) <;> (repeat' (first | (exact eqA) | (refine And.intro ?_ ?_) | ((fail_if_success (with_reducible (show _ = _))); (show _ = _)))) <;> first | (rw [hall]; done) | (rw [hall]; rfl)
set_option maxRecDepth 100000 in
set_option maxHeartbeats 2000000 in
theorem c_rm_k3 (p : List Bs) (j : Nat) (hj : j = 3) (hw : mvL.getD j [] = pt p 0) (hl : p.length = mvN j) (hb : (pt p 3).length ≤ 600 ∧ (pt p 4).length ≤ 600) :
    CT Tryd.prog 56 [] [.sl 1 (strE p)] (.tup [.agg (evC (mvE 3 p)), .bool (mvB j p && evOk (mvE 3 p))]) [] := by
  have hj10 : j < 10 := by omega
  subst hj
  have hl : p.length = 2 := hl.trans (by rfl)
  have g0 := g_cell (p := p) (i := 0) (by omega)
  have g1 := g_cell (p := p) (i := 1) (by omega)
  have hcl : (strE p).length = 2 := by rw [strE_len]; exact hl
  have n1 := c_numA p 1 (pt p 1) (pt_at (by omega)) (false)
  have hM : mvB 3 p = (isB (pt p 1)) := by simp [mvB]
  have hE : mvE 3 p = { k := 1, h := decV (pt p 1), mk := ((3 + 1 : Nat) : Int) } := by simp [mvE]
  rw [hM, hE]
  have ce := c_EventOk { k := 1, h := decV (pt p 1), mk := ((3 + 1 : Nat) : Int) } ⟨by simp, by simp⟩
  generalize hq : evOk { k := 1, h := decV (pt p 1), mk := ((3 + 1 : Nat) : Int) } = q at ce ⊢
  clear hq hE hM hl
  generalize (decV (pt p 1) : Int) = v1 at *
  generalize isB (pt p 1) = b1 at *
  have hskip : ∀ x, 1 ≤ x → x < 3 + 1 → ¬ mvW.getD x [] = pt p 0 := fun x h1 h2 => mvW_ne hj10 hw h1 h2
  have he : mvW.getD (3 + 1) [] = pt p 0 := by rw [mvW_mvL 3 hj10, hw]
  generalize pt p 0 = w at *
  generalize strE p = z at *
  clear hw hb
  refine ct_intro ttS_ok 1 rfl Tryd.func56 rfl rfl rfl ?_
  conv => arg 6; whnf
  repeat ((try conv => whnf); first | (with_reducible (refine wo_seq (fun Qs hN hE hR => ?_))) | (with_reducible (refine wi_reg ?_)) | (with_reducible (refine wo_block (fun Qb kN kE kX kR => ?_))) | (with_reducible (refine wi_regd ?_)) | (with_reducible (refine wi_skip ?_)) | (with_reducible (refine wi_ret ?_)) | (with_reducible (refine wi_exit ?_)) | (with_reducible (refine wi_loop ?_)) | (with_reducible (show W _ _ _ (.cond _ _ _) _ _); refine wi_cond rfl ?_) | (with_reducible (refine hN _ ?_); (try clear hN hE hR Qs)) | (with_reducible (refine hE _ _ ?_); (try clear hN hE hR Qs)) | (with_reducible (refine hR _ ?_); (try clear hN hE hR Qs)) | (with_reducible (refine kN _ ?_); (try clear kN kE kX kR Qb)) | (with_reducible (refine kE _ ?_); (try clear kN kE kX kR Qb)) | (with_reducible (refine kX _ _ rfl ?_); (try clear kN kE kX kR Qb)) | (with_reducible (refine kR _ ?_); (try clear kN kE kX kR Qb)) | (refine stpQ ?_))
  refine loop_op Nat (fun x => ⟨[(0, .sl 1 z), (2, .ptr 1 0 0), (4, .ptr 2 0 0), (5, .int .i64 (x : Int))], [(1, some (.box zEv)), (2, some (.box [.sl 1 z, .bool false]))], 3⟩) (fun x => 1 ≤ x ∧ x ≤ 3 + 1) (fun x => 3 + 1 + 1 - x) 1 (by omega) ?_ ?_
  · (refine le_auto (by rfl) ?_ ?_) <;> (repeat' (first | (exact eqA) | (refine And.intro ?_ ?_) | ((fail_if_success (with_reducible (show _ = _))); (show _ = _)))) <;> first | rfl | decide
  · intro Q1 hQ1 x hx
    obtain ⟨hx1, hx2⟩ := hx
    by_cases hxj : x < 3 + 1
    · have f1 : (x : Int) ≤ 10 := by omega
      have i1 : x < 11 := by omega
      have gx := mvW_at x i1
      have hne := hskip x hx1 hxj
      clear hskip
      repeat ((try conv => whnf); first | (with_reducible (refine wo_seq (fun Qs hN hE hR => ?_))) | (with_reducible (refine wi_reg ?_)) | (with_reducible (refine wo_block (fun Qb kN kE kX kR => ?_))) | (with_reducible (refine wi_regd ?_)) | (with_reducible (refine wi_skip ?_)) | (with_reducible (refine wi_ret ?_)) | (with_reducible (refine wi_exit ?_)) | (with_reducible (refine wi_loop ?_)) | (with_reducible (show W _ _ _ (.cond _ _ _) _ _); refine wi_cond rfl ?_) | (with_reducible (refine hN _ ?_); (try clear hN hE hR Qs)) | (with_reducible (refine hE _ _ ?_); (try clear hN hE hR Qs)) | (with_reducible (refine hR _ ?_); (try clear hN hE hR Qs)) | (with_reducible (refine kN _ ?_); (try clear kN kE kX kR Qb)) | (with_reducible (refine kE _ ?_); (try clear kN kE kX kR Qb)) | (with_reducible (refine kX _ _ rfl ?_); (try clear kN kE kX kR Qb)) | (with_reducible (refine kR _ ?_); (try clear kN kE kX kR Qb)) | (refine cb_dt f1 ?_) | (refine i_lt i1 ?_) | (refine Exists.intro _ (And.intro gx ?_)) | (refine i_at g0 ?_) | (refine And.intro (by kernel_rfl) ?_) | (refine cb_nt hne ?_) | (refine stpQ ?_))
      refine ⟨x + 1, by omega, by omega, ?_⟩
      (refine le_auto (by rfl) ?_ ?_) <;> (repeat' (first | (exact eqA) | (refine And.intro ?_ ?_) | ((fail_if_success (with_reducible (show _ = _))); (show _ = _))))
    · obtain rfl : x = 3 + 1 := by omega
      have f1 : ((3 + 1 : Nat) : Int) ≤ 10 := by omega
      have i1 : 3 + 1 < 11 := by omega
      have gx := mvW_at (3 + 1) i1
      have fn : (z.length : Int) = 2 := by omega
      clear hskip hxj hx1 hx2
      cases hall : (b1)
      · have hB : (!(false || !b1)) = false := by revert hall; cases b1 <;> decide
        repeat ((try conv => whnf); first | (with_reducible (refine wo_seq (fun Qs hN hE hR => ?_))) | (with_reducible (refine wi_reg ?_)) | (with_reducible (refine wo_block (fun Qb kN kE kX kR => ?_))) | (with_reducible (refine wi_regd ?_)) | (with_reducible (refine wi_skip ?_)) | (with_reducible (refine wi_ret ?_)) | (with_reducible (refine wi_exit ?_)) | (with_reducible (refine wi_loop ?_)) | (with_reducible (show W _ _ _ (.cond _ _ _) _ _); refine wi_cond rfl ?_) | (with_reducible (refine hN _ ?_); (try clear hN hE hR Qs)) | (with_reducible (refine hE _ _ ?_); (try clear hN hE hR Qs)) | (with_reducible (refine hR _ ?_); (try clear hN hE hR Qs)) | (with_reducible (refine kN _ ?_); (try clear kN kE kX kR Qb)) | (with_reducible (refine kE _ ?_); (try clear kN kE kX kR Qb)) | (with_reducible (refine kX _ _ rfl ?_); (try clear kN kE kX kR Qb)) | (with_reducible (refine kR _ ?_); (try clear kN kE kX kR Qb)) | (refine cb_dt f1 ?_) | (refine i_lt i1 ?_) | (refine Exists.intro _ (And.intro gx ?_)) | (refine i_at g0 ?_) | (refine And.intro (by kernel_rfl) ?_) | (refine cb_nf he ?_) | (refine cb_nf fn ?_) | (refine ccB ([2]) (n1) ?_) | (refine ccA ([]) (ce) ?_) | (refine cb_f hB ?_) | (refine stpQ ?_))
        refine hQ1 _ _ ?_
        clear hQ1 Q1
        repeat ((try conv => whnf); first | (with_reducible (refine wo_seq (fun Qs hN hE hR => ?_))) | (with_reducible (refine wi_reg ?_)) | (with_reducible (refine wo_block (fun Qb kN kE kX kR => ?_))) | (with_reducible (refine wi_regd ?_)) | (with_reducible (refine wi_skip ?_)) | (with_reducible (refine wi_ret ?_)) | (with_reducible (refine wi_exit ?_)) | (with_reducible (refine wi_loop ?_)) | (with_reducible (show W _ _ _ (.cond _ _ _) _ _); refine wi_cond rfl ?_) | (with_reducible (refine hN _ ?_); (try clear hN hE hR Qs)) | (with_reducible (refine hE _ _ ?_); (try clear hN hE hR Qs)) | (with_reducible (refine hR _ ?_); (try clear hN hE hR Qs)) | (with_reducible (refine kN _ ?_); (try clear kN kE kX kR Qb)) | (with_reducible (refine kE _ ?_); (try clear kN kE kX kR Qb)) | (with_reducible (refine kX _ _ rfl ?_); (try clear kN kE kX kR Qb)) | (with_reducible (refine kR _ ?_); (try clear kN kE kX kR Qb)) | (refine stpQ ?_))
        (refine ans_auto (by rfl) ?_ ?_ (by rfl)) <;> (repeat' (first | (exact eqA) | (refine And.intro ?_ ?_) | ((fail_if_success (with_reducible (show _ = _))); (show _ = _)))) <;> first | (rw [hall]; done) | (rw [hall]; rfl)
      · have hB : (!(false || !b1)) = true := by revert hall; cases b1 <;> decide
        repeat ((try conv => whnf); first | (with_reducible (refine wo_seq (fun Qs hN hE hR => ?_))) | (with_reducible (refine wi_reg ?_)) | (with_reducible (refine wo_block (fun Qb kN kE kX kR => ?_))) | (with_reducible (refine wi_regd ?_)) | (with_reducible (refine wi_skip ?_)) | (with_reducible (refine wi_ret ?_)) | (with_reducible (refine wi_exit ?_)) | (with_reducible (refine wi_loop ?_)) | (with_reducible (show W _ _ _ (.cond _ _ _) _ _); refine wi_cond rfl ?_) | (with_reducible (refine hN _ ?_); (try clear hN hE hR Qs)) | (with_reducible (refine hE _ _ ?_); (try clear hN hE hR Qs)) | (with_reducible (refine hR _ ?_); (try clear hN hE hR Qs)) | (with_reducible (refine kN _ ?_); (try clear kN kE kX kR Qb)) | (with_reducible (refine kE _ ?_); (try clear kN kE kX kR Qb)) | (with_reducible (refine kX _ _ rfl ?_); (try clear kN kE kX kR Qb)) | (with_reducible (refine kR _ ?_); (try clear kN kE kX kR Qb)) | (refine cb_dt f1 ?_) | (refine i_lt i1 ?_) | (refine Exists.intro _ (And.intro gx ?_)) | (refine i_at g0 ?_) | (refine And.intro (by kernel_rfl) ?_) | (refine cb_nf he ?_) | (refine cb_nf fn ?_) | (refine ccB ([2]) (n1) ?_) | (refine ccA ([]) (ce) ?_) | (refine cb_t hB ?_) | (refine stpQ ?_))
        refine hQ1 _ _ ?_
        clear hQ1 Q1
        repeat ((try conv => whnf); first | (with_reducible (refine wo_seq (fun Qs hN hE hR => ?_))) | (with_reducible (refine wi_reg ?_)) | (with_reducible (refine wo_block (fun Qb kN kE kX kR => ?_))) | (with_reducible (refine wi_regd ?_)) | (with_reducible (refine wi_skip ?_)) | (with_reducible (refine wi_ret ?_)) | (with_reducible (refine wi_exit ?_)) | (with_reducible (refine wi_loop ?_)) | (with_reducible (show W _ _ _ (.cond _ _ _) _ _); refine wi_cond rfl ?_) | (with_reducible (refine hN _ ?_); (try clear hN hE hR Qs)) | (with_reducible (refine hE _ _ ?_); (try clear hN hE hR Qs)) | (with_reducible (refine hR _ ?_); (try clear hN hE hR Qs)) | (with_reducible (refine kN _ ?_); (try clear kN kE kX kR Qb)) | (with_reducible (refine kE _ ?_); (try clear kN kE kX kR Qb)) | (with_reducible (refine kX _ _ rfl ?_); (try clear kN kE kX kR Qb)) | (with_reducible (refine kR _ ?_); (try clear kN kE kX kR Qb)) | (refine stpQ ?_))
        (refine ans_auto (by rfl) ?_ ?_ (by rfl)) <;> (repeat' (first | (exact eqA) | (refine And.intro ?_ ?_) | ((fail_if_success (with_reducible (show _ = _))); (show _ = _)))) <;> first | (rw [hall]; done) | (rw [hall]; rfl)
set_option maxRecDepth 100000 in
set_option maxHeartbeats 2000000 in
theorem c_rm_k8 (p : List Bs) (j : Nat) (hj : j = 8) (hw : mvL.getD j [] = pt p 0) (hl : p.length = mvN j) (hb : (pt p 3).length ≤ 600 ∧ (pt p 4).length ≤ 600) :
    CT Tryd.prog 56 [] [.sl 1 (strE p)] (.tup [.agg (evC (mvE j p)), .bool (mvB j p && evOk (mvE j p))]) [] := by
  have hj10 : j < 10 := by omega
  subst hj
  have hl : p.length = 4 := hl.trans (by rfl)
  have g0 := g_cell (p := p) (i := 0) (by omega)
  have g1 := g_cell (p := p) (i := 1) (by omega)
  have g2 := g_cell (p := p) (i := 2) (by omega)
  have g3 := g_cell (p := p) (i := 3) (by omega)
  have hcl : (strE p).length = 4 := by rw [strE_len]; exact hl
  have n2 := c_numA p 2 (pt p 2) (pt_at (by omega)) (false)
  have n3 := c_numA p 3 (pt p 3) (pt_at (by omega)) (false || !isB (pt p 2))
  have n1 := c_numA p 1 (pt p 1) (pt_at (by omega)) ((false || !isB (pt p 2)) || !isB (pt p 3))
  have hM : mvB 8 p = (isB (pt p 1) && (isB (pt p 2) && isB (pt p 3))) := by simp [mvB]
  have hE : mvE 8 p = { k := 1, h := decV (pt p 1), mk := ((8 + 1 : Nat) : Int), mn := decV (pt p 2), ma := decV (pt p 3) } := by simp [mvE]
  rw [hM, hE]
  have ce := c_EventOk { k := 1, h := decV (pt p 1), mk := ((8 + 1 : Nat) : Int), mn := decV (pt p 2), ma := decV (pt p 3) } ⟨by simp, by simp⟩
  generalize hq : evOk { k := 1, h := decV (pt p 1), mk := ((8 + 1 : Nat) : Int), mn := decV (pt p 2), ma := decV (pt p 3) } = q at ce ⊢
  clear hq hE hM hl
  generalize (decV (pt p 2) : Int) = v2 at *
  generalize isB (pt p 2) = b2 at *
  generalize (decV (pt p 3) : Int) = v3 at *
  generalize isB (pt p 3) = b3 at *
  generalize (decV (pt p 1) : Int) = v1 at *
  generalize isB (pt p 1) = b1 at *
  have hskip : ∀ x, 1 ≤ x → x < 8 + 1 → ¬ mvW.getD x [] = pt p 0 := fun x h1 h2 => mvW_ne hj10 hw h1 h2
  have he : mvW.getD (8 + 1) [] = pt p 0 := by rw [mvW_mvL 8 hj10, hw]
  generalize pt p 0 = w at *
  generalize strE p = z at *
  clear hw hb
  refine ct_intro ttS_ok 1 rfl Tryd.func56 rfl rfl rfl ?_
  conv => arg 6; whnf
  repeat ((try conv => whnf); first | (with_reducible (refine wo_seq (fun Qs hN hE hR => ?_))) | (with_reducible (refine wi_reg ?_)) | (with_reducible (refine wo_block (fun Qb kN kE kX kR => ?_))) | (with_reducible (refine wi_regd ?_)) | (with_reducible (refine wi_skip ?_)) | (with_reducible (refine wi_ret ?_)) | (with_reducible (refine wi_exit ?_)) | (with_reducible (refine wi_loop ?_)) | (with_reducible (show W _ _ _ (.cond _ _ _) _ _); refine wi_cond rfl ?_) | (with_reducible (refine hN _ ?_); (try clear hN hE hR Qs)) | (with_reducible (refine hE _ _ ?_); (try clear hN hE hR Qs)) | (with_reducible (refine hR _ ?_); (try clear hN hE hR Qs)) | (with_reducible (refine kN _ ?_); (try clear kN kE kX kR Qb)) | (with_reducible (refine kE _ ?_); (try clear kN kE kX kR Qb)) | (with_reducible (refine kX _ _ rfl ?_); (try clear kN kE kX kR Qb)) | (with_reducible (refine kR _ ?_); (try clear kN kE kX kR Qb)) | (refine stpQ ?_))
  refine loop_op Nat (fun x => ⟨[(0, .sl 1 z), (2, .ptr 1 0 0), (4, .ptr 2 0 0), (5, .int .i64 (x : Int))], [(1, some (.box zEv)), (2, some (.box [.sl 1 z, .bool false]))], 3⟩) (fun x => 1 ≤ x ∧ x ≤ 8 + 1) (fun x => 8 + 1 + 1 - x) 1 (by omega) ?_ ?_
  · (refine le_auto (by rfl) ?_ ?_) <;> (repeat' (first | (exact eqA) | (refine And.intro ?_ ?_) | ((fail_if_success (with_reducible (show _ = _))); (show _ = _)))) <;> first | rfl | decide
  · intro Q1 hQ1 x hx
    obtain ⟨hx1, hx2⟩ := hx
    by_cases hxj : x < 8 + 1
    · have f1 : (x : Int) ≤ 10 := by omega
      have i1 : x < 11 := by omega
      have gx := mvW_at x i1
      have hne := hskip x hx1 hxj
      clear hskip
      repeat ((try conv => whnf); first | (with_reducible (refine wo_seq (fun Qs hN hE hR => ?_))) | (with_reducible (refine wi_reg ?_)) | (with_reducible (refine wo_block (fun Qb kN kE kX kR => ?_))) | (with_reducible (refine wi_regd ?_)) | (with_reducible (refine wi_skip ?_)) | (with_reducible (refine wi_ret ?_)) | (with_reducible (refine wi_exit ?_)) | (with_reducible (refine wi_loop ?_)) | (with_reducible (show W _ _ _ (.cond _ _ _) _ _); refine wi_cond rfl ?_) | (with_reducible (refine hN _ ?_); (try clear hN hE hR Qs)) | (with_reducible (refine hE _ _ ?_); (try clear hN hE hR Qs)) | (with_reducible (refine hR _ ?_); (try clear hN hE hR Qs)) | (with_reducible (refine kN _ ?_); (try clear kN kE kX kR Qb)) | (with_reducible (refine kE _ ?_); (try clear kN kE kX kR Qb)) | (with_reducible (refine kX _ _ rfl ?_); (try clear kN kE kX kR Qb)) | (with_reducible (refine kR _ ?_); (try clear kN kE kX kR Qb)) | (refine cb_dt f1 ?_) | (refine i_lt i1 ?_) | (refine Exists.intro _ (And.intro gx ?_)) | (refine i_at g0 ?_) | (refine And.intro (by kernel_rfl) ?_) | (refine cb_nt hne ?_) | (refine stpQ ?_))
      refine ⟨x + 1, by omega, by omega, ?_⟩
      (refine le_auto (by rfl) ?_ ?_) <;> (repeat' (first | (exact eqA) | (refine And.intro ?_ ?_) | ((fail_if_success (with_reducible (show _ = _))); (show _ = _))))
    · obtain rfl : x = 8 + 1 := by omega
      have f1 : ((8 + 1 : Nat) : Int) ≤ 10 := by omega
      have i1 : 8 + 1 < 11 := by omega
      have gx := mvW_at (8 + 1) i1
      have fn : (z.length : Int) = 4 := by omega
      clear hskip hxj hx1 hx2
      cases hall : (b1 && (b2 && b3))
      · have hB : (!(((false || !b2) || !b3) || !b1)) = false := by revert hall; cases b2 <;> cases b3 <;> cases b1 <;> decide
        repeat ((try conv => whnf); first | (with_reducible (refine wo_seq (fun Qs hN hE hR => ?_))) | (with_reducible (refine wi_reg ?_)) | (with_reducible (refine wo_block (fun Qb kN kE kX kR => ?_))) | (with_reducible (refine wi_regd ?_)) | (with_reducible (refine wi_skip ?_)) | (with_reducible (refine wi_ret ?_)) | (with_reducible (refine wi_exit ?_)) | (with_reducible (refine wi_loop ?_)) | (with_reducible (show W _ _ _ (.cond _ _ _) _ _); refine wi_cond rfl ?_) | (with_reducible (refine hN _ ?_); (try clear hN hE hR Qs)) | (with_reducible (refine hE _ _ ?_); (try clear hN hE hR Qs)) | (with_reducible (refine hR _ ?_); (try clear hN hE hR Qs)) | (with_reducible (refine kN _ ?_); (try clear kN kE kX kR Qb)) | (with_reducible (refine kE _ ?_); (try clear kN kE kX kR Qb)) | (with_reducible (refine kX _ _ rfl ?_); (try clear kN kE kX kR Qb)) | (with_reducible (refine kR _ ?_); (try clear kN kE kX kR Qb)) | (refine cb_dt f1 ?_) | (refine i_lt i1 ?_) | (refine Exists.intro _ (And.intro gx ?_)) | (refine i_at g0 ?_) | (refine And.intro (by kernel_rfl) ?_) | (refine cb_nf he ?_) | (refine cb_nf fn ?_) | (refine ccB ([2]) (n2) ?_) | (refine ccB ([2]) (n3) ?_) | (refine ccB ([2]) (n1) ?_) | (refine ccA ([]) (ce) ?_) | (refine cb_f hB ?_) | (refine stpQ ?_))
        refine hQ1 _ _ ?_
        clear hQ1 Q1
        repeat ((try conv => whnf); first | (with_reducible (refine wo_seq (fun Qs hN hE hR => ?_))) | (with_reducible (refine wi_reg ?_)) | (with_reducible (refine wo_block (fun Qb kN kE kX kR => ?_))) | (with_reducible (refine wi_regd ?_)) | (with_reducible (refine wi_skip ?_)) | (with_reducible (refine wi_ret ?_)) | (with_reducible (refine wi_exit ?_)) | (with_reducible (refine wi_loop ?_)) | (with_reducible (show W _ _ _ (.cond _ _ _) _ _); refine wi_cond rfl ?_) | (with_reducible (refine hN _ ?_); (try clear hN hE hR Qs)) | (with_reducible (refine hE _ _ ?_); (try clear hN hE hR Qs)) | (with_reducible (refine hR _ ?_); (try clear hN hE hR Qs)) | (with_reducible (refine kN _ ?_); (try clear kN kE kX kR Qb)) | (with_reducible (refine kE _ ?_); (try clear kN kE kX kR Qb)) | (with_reducible (refine kX _ _ rfl ?_); (try clear kN kE kX kR Qb)) | (with_reducible (refine kR _ ?_); (try clear kN kE kX kR Qb)) | (refine stpQ ?_))
        (refine ans_auto (by rfl) ?_ ?_ (by rfl)) <;> (repeat' (first | (exact eqA) | (refine And.intro ?_ ?_) | ((fail_if_success (with_reducible (show _ = _))); (show _ = _)))) <;> first | (rw [hall]; done) | (rw [hall]; rfl)
      · have hB : (!(((false || !b2) || !b3) || !b1)) = true := by revert hall; cases b2 <;> cases b3 <;> cases b1 <;> decide
        repeat ((try conv => whnf); first | (with_reducible (refine wo_seq (fun Qs hN hE hR => ?_))) | (with_reducible (refine wi_reg ?_)) | (with_reducible (refine wo_block (fun Qb kN kE kX kR => ?_))) | (with_reducible (refine wi_regd ?_)) | (with_reducible (refine wi_skip ?_)) | (with_reducible (refine wi_ret ?_)) | (with_reducible (refine wi_exit ?_)) | (with_reducible (refine wi_loop ?_)) | (with_reducible (show W _ _ _ (.cond _ _ _) _ _); refine wi_cond rfl ?_) | (with_reducible (refine hN _ ?_); (try clear hN hE hR Qs)) | (with_reducible (refine hE _ _ ?_); (try clear hN hE hR Qs)) | (with_reducible (refine hR _ ?_); (try clear hN hE hR Qs)) | (with_reducible (refine kN _ ?_); (try clear kN kE kX kR Qb)) | (with_reducible (refine kE _ ?_); (try clear kN kE kX kR Qb)) | (with_reducible (refine kX _ _ rfl ?_); (try clear kN kE kX kR Qb)) | (with_reducible (refine kR _ ?_); (try clear kN kE kX kR Qb)) | (refine cb_dt f1 ?_) | (refine i_lt i1 ?_) | (refine Exists.intro _ (And.intro gx ?_)) | (refine i_at g0 ?_) | (refine And.intro (by kernel_rfl) ?_) | (refine cb_nf he ?_) | (refine cb_nf fn ?_) | (refine ccB ([2]) (n2) ?_) | (refine ccB ([2]) (n3) ?_) | (refine ccB ([2]) (n1) ?_) | (refine ccA ([]) (ce) ?_) | (refine cb_t hB ?_) | (refine stpQ ?_))
        refine hQ1 _ _ ?_
        clear hQ1 Q1
        repeat ((try conv => whnf); first | (with_reducible (refine wo_seq (fun Qs hN hE hR => ?_))) | (with_reducible (refine wi_reg ?_)) | (with_reducible (refine wo_block (fun Qb kN kE kX kR => ?_))) | (with_reducible (refine wi_regd ?_)) | (with_reducible (refine wi_skip ?_)) | (with_reducible (refine wi_ret ?_)) | (with_reducible (refine wi_exit ?_)) | (with_reducible (refine wi_loop ?_)) | (with_reducible (show W _ _ _ (.cond _ _ _) _ _); refine wi_cond rfl ?_) | (with_reducible (refine hN _ ?_); (try clear hN hE hR Qs)) | (with_reducible (refine hE _ _ ?_); (try clear hN hE hR Qs)) | (with_reducible (refine hR _ ?_); (try clear hN hE hR Qs)) | (with_reducible (refine kN _ ?_); (try clear kN kE kX kR Qb)) | (with_reducible (refine kE _ ?_); (try clear kN kE kX kR Qb)) | (with_reducible (refine kX _ _ rfl ?_); (try clear kN kE kX kR Qb)) | (with_reducible (refine kR _ ?_); (try clear kN kE kX kR Qb)) | (refine stpQ ?_))
        (refine ans_auto (by rfl) ?_ ?_ (by rfl)) <;> (repeat' (first | (exact eqA) | (refine And.intro ?_ ?_) | ((fail_if_success (with_reducible (show _ = _))); (show _ = _)))) <;> first | (rw [hall]; done) | (rw [hall]; rfl)
set_option maxRecDepth 100000 in
set_option maxHeartbeats 2000000 in
theorem c_rm_k9 (p : List Bs) (j : Nat) (hj : j = 9) (hw : mvL.getD j [] = pt p 0) (hl : p.length = mvN j) (hb : (pt p 3).length ≤ 600 ∧ (pt p 4).length ≤ 600) :
    CT Tryd.prog 56 [] [.sl 1 (strE p)] (.tup [.agg (evC (mvE j p)), .bool (mvB j p && evOk (mvE j p))]) [] := by
  have hj10 : j < 10 := by omega
  subst hj
  have hl : p.length = 3 := hl.trans (by rfl)
  have g0 := g_cell (p := p) (i := 0) (by omega)
  have g1 := g_cell (p := p) (i := 1) (by omega)
  have g2 := g_cell (p := p) (i := 2) (by omega)
  have hcl : (strE p).length = 3 := by rw [strE_len]; exact hl
  have n2 := c_numA p 2 (pt p 2) (pt_at (by omega)) (false)
  have n1 := c_numA p 1 (pt p 1) (pt_at (by omega)) (false || !isB (pt p 2))
  have hM : mvB 9 p = (isB (pt p 1) && isB (pt p 2)) := by simp [mvB]
  have hE : mvE 9 p = { k := 1, h := decV (pt p 1), mk := ((9 + 1 : Nat) : Int), mn := decV (pt p 2) } := by simp [mvE]
  rw [hM, hE]
  have ce := c_EventOk { k := 1, h := decV (pt p 1), mk := ((9 + 1 : Nat) : Int), mn := decV (pt p 2) } ⟨by simp, by simp⟩
  generalize hq : evOk { k := 1, h := decV (pt p 1), mk := ((9 + 1 : Nat) : Int), mn := decV (pt p 2) } = q at ce ⊢
  clear hq hE hM hl
  generalize (decV (pt p 2) : Int) = v2 at *
  generalize isB (pt p 2) = b2 at *
  generalize (decV (pt p 1) : Int) = v1 at *
  generalize isB (pt p 1) = b1 at *
  have hskip : ∀ x, 1 ≤ x → x < 9 + 1 → ¬ mvW.getD x [] = pt p 0 := fun x h1 h2 => mvW_ne hj10 hw h1 h2
  have he : mvW.getD (9 + 1) [] = pt p 0 := by rw [mvW_mvL 9 hj10, hw]
  generalize pt p 0 = w at *
  generalize strE p = z at *
  clear hw hb
  refine ct_intro ttS_ok 1 rfl Tryd.func56 rfl rfl rfl ?_
  conv => arg 6; whnf
  repeat ((try conv => whnf); first | (with_reducible (refine wo_seq (fun Qs hN hE hR => ?_))) | (with_reducible (refine wi_reg ?_)) | (with_reducible (refine wo_block (fun Qb kN kE kX kR => ?_))) | (with_reducible (refine wi_regd ?_)) | (with_reducible (refine wi_skip ?_)) | (with_reducible (refine wi_ret ?_)) | (with_reducible (refine wi_exit ?_)) | (with_reducible (refine wi_loop ?_)) | (with_reducible (show W _ _ _ (.cond _ _ _) _ _); refine wi_cond rfl ?_) | (with_reducible (refine hN _ ?_); (try clear hN hE hR Qs)) | (with_reducible (refine hE _ _ ?_); (try clear hN hE hR Qs)) | (with_reducible (refine hR _ ?_); (try clear hN hE hR Qs)) | (with_reducible (refine kN _ ?_); (try clear kN kE kX kR Qb)) | (with_reducible (refine kE _ ?_); (try clear kN kE kX kR Qb)) | (with_reducible (refine kX _ _ rfl ?_); (try clear kN kE kX kR Qb)) | (with_reducible (refine kR _ ?_); (try clear kN kE kX kR Qb)) | (refine stpQ ?_))
  refine loop_op Nat (fun x => ⟨[(0, .sl 1 z), (2, .ptr 1 0 0), (4, .ptr 2 0 0), (5, .int .i64 (x : Int))], [(1, some (.box zEv)), (2, some (.box [.sl 1 z, .bool false]))], 3⟩) (fun x => 1 ≤ x ∧ x ≤ 9 + 1) (fun x => 9 + 1 + 1 - x) 1 (by omega) ?_ ?_
  · (refine le_auto (by rfl) ?_ ?_) <;> (repeat' (first | (exact eqA) | (refine And.intro ?_ ?_) | ((fail_if_success (with_reducible (show _ = _))); (show _ = _)))) <;> first | rfl | decide
  · intro Q1 hQ1 x hx
    obtain ⟨hx1, hx2⟩ := hx
    by_cases hxj : x < 9 + 1
    · have f1 : (x : Int) ≤ 10 := by omega
      have i1 : x < 11 := by omega
      have gx := mvW_at x i1
      have hne := hskip x hx1 hxj
      clear hskip
      repeat ((try conv => whnf); first | (with_reducible (refine wo_seq (fun Qs hN hE hR => ?_))) | (with_reducible (refine wi_reg ?_)) | (with_reducible (refine wo_block (fun Qb kN kE kX kR => ?_))) | (with_reducible (refine wi_regd ?_)) | (with_reducible (refine wi_skip ?_)) | (with_reducible (refine wi_ret ?_)) | (with_reducible (refine wi_exit ?_)) | (with_reducible (refine wi_loop ?_)) | (with_reducible (show W _ _ _ (.cond _ _ _) _ _); refine wi_cond rfl ?_) | (with_reducible (refine hN _ ?_); (try clear hN hE hR Qs)) | (with_reducible (refine hE _ _ ?_); (try clear hN hE hR Qs)) | (with_reducible (refine hR _ ?_); (try clear hN hE hR Qs)) | (with_reducible (refine kN _ ?_); (try clear kN kE kX kR Qb)) | (with_reducible (refine kE _ ?_); (try clear kN kE kX kR Qb)) | (with_reducible (refine kX _ _ rfl ?_); (try clear kN kE kX kR Qb)) | (with_reducible (refine kR _ ?_); (try clear kN kE kX kR Qb)) | (refine cb_dt f1 ?_) | (refine i_lt i1 ?_) | (refine Exists.intro _ (And.intro gx ?_)) | (refine i_at g0 ?_) | (refine And.intro (by kernel_rfl) ?_) | (refine cb_nt hne ?_) | (refine stpQ ?_))
      refine ⟨x + 1, by omega, by omega, ?_⟩
      (refine le_auto (by rfl) ?_ ?_) <;> (repeat' (first | (exact eqA) | (refine And.intro ?_ ?_) | ((fail_if_success (with_reducible (show _ = _))); (show _ = _))))
    · obtain rfl : x = 9 + 1 := by omega
      have f1 : ((9 + 1 : Nat) : Int) ≤ 10 := by omega
      have i1 : 9 + 1 < 11 := by omega
      have gx := mvW_at (9 + 1) i1
      have fn : (z.length : Int) = 3 := by omega
      clear hskip hxj hx1 hx2
      cases hall : (b1 && b2)
      · have hB : (!((false || !b2) || !b1)) = false := by revert hall; cases b2 <;> cases b1 <;> decide
        repeat ((try conv => whnf); first | (with_reducible (refine wo_seq (fun Qs hN hE hR => ?_))) | (with_reducible (refine wi_reg ?_)) | (with_reducible (refine wo_block (fun Qb kN kE kX kR => ?_))) | (with_reducible (refine wi_regd ?_)) | (with_reducible (refine wi_skip ?_)) | (with_reducible (refine wi_ret ?_)) | (with_reducible (refine wi_exit ?_)) | (with_reducible (refine wi_loop ?_)) | (with_reducible (show W _ _ _ (.cond _ _ _) _ _); refine wi_cond rfl ?_) | (with_reducible (refine hN _ ?_); (try clear hN hE hR Qs)) | (with_reducible (refine hE _ _ ?_); (try clear hN hE hR Qs)) | (with_reducible (refine hR _ ?_); (try clear hN hE hR Qs)) | (with_reducible (refine kN _ ?_); (try clear kN kE kX kR Qb)) | (with_reducible (refine kE _ ?_); (try clear kN kE kX kR Qb)) | (with_reducible (refine kX _ _ rfl ?_); (try clear kN kE kX kR Qb)) | (with_reducible (refine kR _ ?_); (try clear kN kE kX kR Qb)) | (refine cb_dt f1 ?_) | (refine i_lt i1 ?_) | (refine Exists.intro _ (And.intro gx ?_)) | (refine i_at g0 ?_) | (refine And.intro (by kernel_rfl) ?_) | (refine cb_nf he ?_) | (refine cb_nf fn ?_) | (refine ccB ([2]) (n2) ?_) | (refine ccB ([2]) (n1) ?_) | (refine ccA ([]) (ce) ?_) | (refine cb_f hB ?_) | (refine stpQ ?_))
        refine hQ1 _ _ ?_
        clear hQ1 Q1
        repeat ((try conv => whnf); first | (with_reducible (refine wo_seq (fun Qs hN hE hR => ?_))) | (with_reducible (refine wi_reg ?_)) | (with_reducible (refine wo_block (fun Qb kN kE kX kR => ?_))) | (with_reducible (refine wi_regd ?_)) | (with_reducible (refine wi_skip ?_)) | (with_reducible (refine wi_ret ?_)) | (with_reducible (refine wi_exit ?_)) | (with_reducible (refine wi_loop ?_)) | (with_reducible (show W _ _ _ (.cond _ _ _) _ _); refine wi_cond rfl ?_) | (with_reducible (refine hN _ ?_); (try clear hN hE hR Qs)) | (with_reducible (refine hE _ _ ?_); (try clear hN hE hR Qs)) | (with_reducible (refine hR _ ?_); (try clear hN hE hR Qs)) | (with_reducible (refine kN _ ?_); (try clear kN kE kX kR Qb)) | (with_reducible (refine kE _ ?_); (try clear kN kE kX kR Qb)) | (with_reducible (refine kX _ _ rfl ?_); (try clear kN kE kX kR Qb)) | (with_reducible (refine kR _ ?_); (try clear kN kE kX kR Qb)) | (refine stpQ ?_))
        (refine ans_auto (by rfl) ?_ ?_ (by rfl)) <;> (repeat' (first | (exact eqA) | (refine And.intro ?_ ?_) | ((fail_if_success (with_reducible (show _ = _))); (show _ = _)))) <;> first | (rw [hall]; done) | (rw [hall]; rfl)
      · have hB : (!((false || !b2) || !b1)) = true := by revert hall; cases b2 <;> cases b1 <;> decide
        repeat ((try conv => whnf); first | (with_reducible (refine wo_seq (fun Qs hN hE hR => ?_))) | (with_reducible (refine wi_reg ?_)) | (with_reducible (refine wo_block (fun Qb kN kE kX kR => ?_))) | (with_reducible (refine wi_regd ?_)) | (with_reducible (refine wi_skip ?_)) | (with_reducible (refine wi_ret ?_)) | (with_reducible (refine wi_exit ?_)) | (with_reducible (refine wi_loop ?_)) | (with_reducible (show W _ _ _ (.cond _ _ _) _ _); refine wi_cond rfl ?_) | (with_reducible (refine hN _ ?_); (try clear hN hE hR Qs)) | (with_reducible (refine hE _ _ ?_); (try clear hN hE hR Qs)) | (with_reducible (refine hR _ ?_); (try clear hN hE hR Qs)) | (with_reducible (refine kN _ ?_); (try clear kN kE kX kR Qb)) | (with_reducible (refine kE _ ?_); (try clear kN kE kX kR Qb)) | (with_reducible (refine kX _ _ rfl ?_); (try clear kN kE kX kR Qb)) | (with_reducible (refine kR _ ?_); (try clear kN kE kX kR Qb)) | (refine cb_dt f1 ?_) | (refine i_lt i1 ?_) | (refine Exists.intro _ (And.intro gx ?_)) | (refine i_at g0 ?_) | (refine And.intro (by kernel_rfl) ?_) | (refine cb_nf he ?_) | (refine cb_nf fn ?_) | (refine ccB ([2]) (n2) ?_) | (refine ccB ([2]) (n1) ?_) | (refine ccA ([]) (ce) ?_) | (refine cb_t hB ?_) | (refine stpQ ?_))
        refine hQ1 _ _ ?_
        clear hQ1 Q1
        repeat ((try conv => whnf); first | (with_reducible (refine wo_seq (fun Qs hN hE hR => ?_))) | (with_reducible (refine wi_reg ?_)) | (with_reducible (refine wo_block (fun Qb kN kE kX kR => ?_))) | (with_reducible (refine wi_regd ?_)) | (with_reducible (refine wi_skip ?_)) | (with_reducible (refine wi_ret ?_)) | (with_reducible (refine wi_exit ?_)) | (with_reducible (refine wi_loop ?_)) | (with_reducible (show W _ _ _ (.cond _ _ _) _ _); refine wi_cond rfl ?_) | (with_reducible (refine hN _ ?_); (try clear hN hE hR Qs)) | (with_reducible (refine hE _ _ ?_); (try clear hN hE hR Qs)) | (with_reducible (refine hR _ ?_); (try clear hN hE hR Qs)) | (with_reducible (refine kN _ ?_); (try clear kN kE kX kR Qb)) | (with_reducible (refine kE _ ?_); (try clear kN kE kX kR Qb)) | (with_reducible (refine kX _ _ rfl ?_); (try clear kN kE kX kR Qb)) | (with_reducible (refine kR _ ?_); (try clear kN kE kX kR Qb)) | (refine stpQ ?_))
        (refine ans_auto (by rfl) ?_ ?_ (by rfl)) <;> (repeat' (first | (exact eqA) | (refine And.intro ?_ ?_) | ((fail_if_success (with_reducible (show _ = _))); (show _ = _)))) <;> first | (rw [hall]; done) | (rw [hall]; rfl)
set_option maxRecDepth 100000 in
set_option maxHeartbeats 2000000 in
theorem c_rm_k0y (p : List Bs) (j : Nat) (hj : j = 0) (h4 : pt p 4 = [45]) (hw : mvL.getD j [] = pt p 0) (hl : p.length = mvN j) (hb : (pt p 3).length ≤ 600 ∧ (pt p 4).length ≤ 600) :
    CT Tryd.prog 56 [] [.sl 1 (strE p)] (.tup [.agg (evC (mvE j p)), .bool (mvB j p && evOk (mvE j p))]) [] := by
  have hj10 : j < 10 := by omega
  subst hj
  have hl : p.length = 5 := hl.trans (by rfl)
  have g0 := g_cell (p := p) (i := 0) (by omega)
  have g1 := g_cell (p := p) (i := 1) (by omega)
  have g2 := g_cell (p := p) (i := 2) (by omega)
  have g3 := g_cell (p := p) (i := 3) (by omega)
  have g4 := g_cell (p := p) (i := 4) (by omega)
  have hcl : (strE p).length = 5 := by rw [strE_len]; exact hl
  have n2 := c_numA p 2 (pt p 2) (pt_at (by omega)) (false)
  have n1 := c_numA p 1 (pt p 1) (pt_at (by omega)) (false || !isB (pt p 2))
  have hM : mvB 0 p = (isB (pt p 1) && isB (pt p 2)) := by simp [mvB]
  have hE : mvE 0 p = { k := 1, h := decV (pt p 1), mk := ((0 + 1 : Nat) : Int), ci := decV (pt p 2), cn := pt p 3 } := by simp [mvE, h4]
  rw [hM, hE]
  have ce := c_EventOk { k := 1, h := decV (pt p 1), mk := ((0 + 1 : Nat) : Int), ci := decV (pt p 2), cn := pt p 3 } ⟨by (have := hb.1; show ((pt p 3).length : Int) ≤ 1000000000; omega), by simp⟩
  generalize hq : evOk { k := 1, h := decV (pt p 1), mk := ((0 + 1 : Nat) : Int), ci := decV (pt p 2), cn := pt p 3 } = q at ce ⊢
  clear hq hE hM hl
  generalize (decV (pt p 2) : Int) = v2 at *
  generalize isB (pt p 2) = b2 at *
  generalize (decV (pt p 1) : Int) = v1 at *
  generalize isB (pt p 1) = b1 at *
  generalize pt p 3 = s3 at *
  generalize pt p 4 = s4 at *
  have hskip : ∀ x, 1 ≤ x → x < 0 + 1 → ¬ mvW.getD x [] = pt p 0 := fun x h1 h2 => mvW_ne hj10 hw h1 h2
  have he : mvW.getD (0 + 1) [] = pt p 0 := by rw [mvW_mvL 0 hj10, hw]
  generalize pt p 0 = w at *
  generalize strE p = z at *
  clear hw hb
  refine ct_intro ttS_ok 1 rfl Tryd.func56 rfl rfl rfl ?_
  conv => arg 6; whnf
  repeat ((try conv => whnf); first | (with_reducible (refine wo_seq (fun Qs hN hE hR => ?_))) | (with_reducible (refine wi_reg ?_)) | (with_reducible (refine wo_block (fun Qb kN kE kX kR => ?_))) | (with_reducible (refine wi_regd ?_)) | (with_reducible (refine wi_skip ?_)) | (with_reducible (refine wi_ret ?_)) | (with_reducible (refine wi_exit ?_)) | (with_reducible (refine wi_loop ?_)) | (with_reducible (show W _ _ _ (.cond _ _ _) _ _); refine wi_cond rfl ?_) | (with_reducible (refine hN _ ?_); (try clear hN hE hR Qs)) | (with_reducible (refine hE _ _ ?_); (try clear hN hE hR Qs)) | (with_reducible (refine hR _ ?_); (try clear hN hE hR Qs)) | (with_reducible (refine kN _ ?_); (try clear kN kE kX kR Qb)) | (with_reducible (refine kE _ ?_); (try clear kN kE kX kR Qb)) | (with_reducible (refine kX _ _ rfl ?_); (try clear kN kE kX kR Qb)) | (with_reducible (refine kR _ ?_); (try clear kN kE kX kR Qb)) | (refine stpQ ?_))
  refine loop_op Nat (fun x => ⟨[(0, .sl 1 z), (2, .ptr 1 0 0), (4, .ptr 2 0 0), (5, .int .i64 (x : Int))], [(1, some (.box zEv)), (2, some (.box [.sl 1 z, .bool false]))], 3⟩) (fun x => 1 ≤ x ∧ x ≤ 0 + 1) (fun x => 0 + 1 + 1 - x) 1 (by omega) ?_ ?_
  · (refine le_auto (by rfl) ?_ ?_) <;> (repeat' (first | (exact eqA) | (refine And.intro ?_ ?_) | ((fail_if_success (with_reducible (show _ = _))); (show _ = _)))) <;> first | rfl | decide
  · intro Q1 hQ1 x hx
    obtain ⟨hx1, hx2⟩ := hx
    by_cases hxj : x < 0 + 1
    · have f1 : (x : Int) ≤ 10 := by omega
      have i1 : x < 11 := by omega
      have gx := mvW_at x i1
      have hne := hskip x hx1 hxj
      clear hskip
      repeat ((try conv => whnf); first | (with_reducible (refine wo_seq (fun Qs hN hE hR => ?_))) | (with_reducible (refine wi_reg ?_)) | (with_reducible (refine wo_block (fun Qb kN kE kX kR => ?_))) | (with_reducible (refine wi_regd ?_)) | (with_reducible (refine wi_skip ?_)) | (with_reducible (refine wi_ret ?_)) | (with_reducible (refine wi_exit ?_)) | (with_reducible (refine wi_loop ?_)) | (with_reducible (show W _ _ _ (.cond _ _ _) _ _); refine wi_cond rfl ?_) | (with_reducible (refine hN _ ?_); (try clear hN hE hR Qs)) | (with_reducible (refine hE _ _ ?_); (try clear hN hE hR Qs)) | (with_reducible (refine hR _ ?_); (try clear hN hE hR Qs)) | (with_reducible (refine kN _ ?_); (try clear kN kE kX kR Qb)) | (with_reducible (refine kE _ ?_); (try clear kN kE kX kR Qb)) | (with_reducible (refine kX _ _ rfl ?_); (try clear kN kE kX kR Qb)) | (with_reducible (refine kR _ ?_); (try clear kN kE kX kR Qb)) | (refine cb_dt f1 ?_) | (refine i_lt i1 ?_) | (refine Exists.intro _ (And.intro gx ?_)) | (refine i_at g0 ?_) | (refine And.intro (by kernel_rfl) ?_) | (refine cb_nt hne ?_) | (refine stpQ ?_))
      refine ⟨x + 1, by omega, by omega, ?_⟩
      (refine le_auto (by rfl) ?_ ?_) <;> (repeat' (first | (exact eqA) | (refine And.intro ?_ ?_) | ((fail_if_success (with_reducible (show _ = _))); (show _ = _))))
    · obtain rfl : x = 0 + 1 := by omega
      have f1 : ((0 + 1 : Nat) : Int) ≤ 10 := by omega
      have i1 : 0 + 1 < 11 := by omega
      have gx := mvW_at (0 + 1) i1
      have fn : (z.length : Int) = 5 := by omega
      clear hskip hxj hx1 hx2
      cases hall : (b1 && b2)
      · have hB : (!((false || !b2) || !b1)) = false := by revert hall; cases b2 <;> cases b1 <;> decide
        repeat ((try conv => whnf); first | (with_reducible (refine wo_seq (fun Qs hN hE hR => ?_))) | (with_reducible (refine wi_reg ?_)) | (with_reducible (refine wo_block (fun Qb kN kE kX kR => ?_))) | (with_reducible (refine wi_regd ?_)) | (with_reducible (refine wi_skip ?_)) | (with_reducible (refine wi_ret ?_)) | (with_reducible (refine wi_exit ?_)) | (with_reducible (refine wi_loop ?_)) | (with_reducible (show W _ _ _ (.cond _ _ _) _ _); refine wi_cond rfl ?_) | (with_reducible (refine hN _ ?_); (try clear hN hE hR Qs)) | (with_reducible (refine hE _ _ ?_); (try clear hN hE hR Qs)) | (with_reducible (refine hR _ ?_); (try clear hN hE hR Qs)) | (with_reducible (refine kN _ ?_); (try clear kN kE kX kR Qb)) | (with_reducible (refine kE _ ?_); (try clear kN kE kX kR Qb)) | (with_reducible (refine kX _ _ rfl ?_); (try clear kN kE kX kR Qb)) | (with_reducible (refine kR _ ?_); (try clear kN kE kX kR Qb)) | (refine cb_dt f1 ?_) | (refine i_lt i1 ?_) | (refine Exists.intro _ (And.intro gx ?_)) | (refine i_at g0 ?_) | (refine i_at g3 ?_) | (refine i_at g4 ?_) | (refine And.intro (by kernel_rfl) ?_) | (refine cb_nf he ?_) | (refine cb_nf fn ?_) | (refine ccB ([2]) (n2) ?_) | (refine ccB ([2]) (n1) ?_) | (refine ccA ([]) (ce) ?_) | (refine cb_f hB ?_) | (refine cb_dt h4 ?_) | (refine stpQ ?_))
        refine hQ1 _ _ ?_
        clear hQ1 Q1
        repeat ((try conv => whnf); first | (with_reducible (refine wo_seq (fun Qs hN hE hR => ?_))) | (with_reducible (refine wi_reg ?_)) | (with_reducible (refine wo_block (fun Qb kN kE kX kR => ?_))) | (with_reducible (refine wi_regd ?_)) | (with_reducible (refine wi_skip ?_)) | (with_reducible (refine wi_ret ?_)) | (with_reducible (refine wi_exit ?_)) | (with_reducible (refine wi_loop ?_)) | (with_reducible (show W _ _ _ (.cond _ _ _) _ _); refine wi_cond rfl ?_) | (with_reducible (refine hN _ ?_); (try clear hN hE hR Qs)) | (with_reducible (refine hE _ _ ?_); (try clear hN hE hR Qs)) | (with_reducible (refine hR _ ?_); (try clear hN hE hR Qs)) | (with_reducible (refine kN _ ?_); (try clear kN kE kX kR Qb)) | (with_reducible (refine kE _ ?_); (try clear kN kE kX kR Qb)) | (with_reducible (refine kX _ _ rfl ?_); (try clear kN kE kX kR Qb)) | (with_reducible (refine kR _ ?_); (try clear kN kE kX kR Qb)) | (refine stpQ ?_))
        (refine ans_auto (by rfl) ?_ ?_ (by rfl)) <;> (repeat' (first | (exact eqA) | (refine And.intro ?_ ?_) | ((fail_if_success (with_reducible (show _ = _))); (show _ = _)))) <;> first | (rw [hall]; done) | (rw [hall]; rfl)
      · have hB : (!((false || !b2) || !b1)) = true := by revert hall; cases b2 <;> cases b1 <;> decide
        repeat ((try conv => whnf); first | (with_reducible (refine wo_seq (fun Qs hN hE hR => ?_))) | (with_reducible (refine wi_reg ?_)) | (with_reducible (refine wo_block (fun Qb kN kE kX kR => ?_))) | (with_reducible (refine wi_regd ?_)) | (with_reducible (refine wi_skip ?_)) | (with_reducible (refine wi_ret ?_)) | (with_reducible (refine wi_exit ?_)) | (with_reducible (refine wi_loop ?_)) | (with_reducible (show W _ _ _ (.cond _ _ _) _ _); refine wi_cond rfl ?_) | (with_reducible (refine hN _ ?_); (try clear hN hE hR Qs)) | (with_reducible (refine hE _ _ ?_); (try clear hN hE hR Qs)) | (with_reducible (refine hR _ ?_); (try clear hN hE hR Qs)) | (with_reducible (refine kN _ ?_); (try clear kN kE kX kR Qb)) | (with_reducible (refine kE _ ?_); (try clear kN kE kX kR Qb)) | (with_reducible (refine kX _ _ rfl ?_); (try clear kN kE kX kR Qb)) | (with_reducible (refine kR _ ?_); (try clear kN kE kX kR Qb)) | (refine cb_dt f1 ?_) | (refine i_lt i1 ?_) | (refine Exists.intro _ (And.intro gx ?_)) | (refine i_at g0 ?_) | (refine i_at g3 ?_) | (refine i_at g4 ?_) | (refine And.intro (by kernel_rfl) ?_) | (refine cb_nf he ?_) | (refine cb_nf fn ?_) | (refine ccB ([2]) (n2) ?_) | (refine ccB ([2]) (n1) ?_) | (refine ccA ([]) (ce) ?_) | (refine cb_t hB ?_) | (refine cb_dt h4 ?_) | (refine stpQ ?_))
        refine hQ1 _ _ ?_
        clear hQ1 Q1
        repeat ((try conv => whnf); first | (with_reducible (refine wo_seq (fun Qs hN hE hR => ?_))) | (with_reducible (refine wi_reg ?_)) | (with_reducible (refine wo_block (fun Qb kN kE kX kR => ?_))) | (with_reducible (refine wi_regd ?_)) | (with_reducible (refine wi_skip ?_)) | (with_reducible (refine wi_ret ?_)) | (with_reducible (refine wi_exit ?_)) | (with_reducible (refine wi_loop ?_)) | (with_reducible (show W _ _ _ (.cond _ _ _) _ _); refine wi_cond rfl ?_) | (with_reducible (refine hN _ ?_); (try clear hN hE hR Qs)) | (with_reducible (refine hE _ _ ?_); (try clear hN hE hR Qs)) | (with_reducible (refine hR _ ?_); (try clear hN hE hR Qs)) | (with_reducible (refine kN _ ?_); (try clear kN kE kX kR Qb)) | (with_reducible (refine kE _ ?_); (try clear kN kE kX kR Qb)) | (with_reducible (refine kX _ _ rfl ?_); (try clear kN kE kX kR Qb)) | (with_reducible (refine kR _ ?_); (try clear kN kE kX kR Qb)) | (refine stpQ ?_))
        (refine ans_auto (by rfl) ?_ ?_ (by rfl)) <;> (repeat' (first | (exact eqA) | (refine And.intro ?_ ?_) | ((fail_if_success (with_reducible (show _ = _))); (show _ = _)))) <;> first | (rw [hall]; done) | (rw [hall]; rfl)
set_option maxRecDepth 100000 in
set_option maxHeartbeats 2000000 in
theorem c_rm_k0n (p : List Bs) (j : Nat) (hj : j = 0) (h4 : ¬ pt p 4 = [45]) (hw : mvL.getD j [] = pt p 0) (hl : p.length = mvN j) (hb : (pt p 3).length ≤ 600 ∧ (pt p 4).length ≤ 600) :
    CT Tryd.prog 56 [] [.sl 1 (strE p)] (.tup [.agg (evC (mvE j p)), .bool (mvB j p && evOk (mvE j p))]) [] := by
  have hj10 : j < 10 := by omega
  subst hj
  have hl : p.length = 5 := hl.trans (by rfl)
  have g0 := g_cell (p := p) (i := 0) (by omega)
  have g1 := g_cell (p := p) (i := 1) (by omega)
  have g2 := g_cell (p := p) (i := 2) (by omega)
  have g3 := g_cell (p := p) (i := 3) (by omega)
  have g4 := g_cell (p := p) (i := 4) (by omega)
  have hcl : (strE p).length = 5 := by rw [strE_len]; exact hl
  have n2 := c_numA p 2 (pt p 2) (pt_at (by omega)) (false)
  have n1 := c_numA p 1 (pt p 1) (pt_at (by omega)) (false || !isB (pt p 2))
  have hM : mvB 0 p = (isB (pt p 1) && isB (pt p 2)) := by simp [mvB]
  have hE : mvE 0 p = { k := 1, h := decV (pt p 1), mk := ((0 + 1 : Nat) : Int), ci := decV (pt p 2), cn := pt p 3, cv := pt p 4 } := by simp [mvE, h4]
  rw [hM, hE]
  have ce := c_EventOk { k := 1, h := decV (pt p 1), mk := ((0 + 1 : Nat) : Int), ci := decV (pt p 2), cn := pt p 3, cv := pt p 4 } ⟨by (have := hb.1; show ((pt p 3).length : Int) ≤ 1000000000; omega), by (have := hb.2; show ((pt p 4).length : Int) ≤ 1000000000; omega)⟩
  generalize hq : evOk { k := 1, h := decV (pt p 1), mk := ((0 + 1 : Nat) : Int), ci := decV (pt p 2), cn := pt p 3, cv := pt p 4 } = q at ce ⊢
  clear hq hE hM hl
  generalize (decV (pt p 2) : Int) = v2 at *
  generalize isB (pt p 2) = b2 at *
  generalize (decV (pt p 1) : Int) = v1 at *
  generalize isB (pt p 1) = b1 at *
  generalize pt p 3 = s3 at *
  generalize pt p 4 = s4 at *
  have hskip : ∀ x, 1 ≤ x → x < 0 + 1 → ¬ mvW.getD x [] = pt p 0 := fun x h1 h2 => mvW_ne hj10 hw h1 h2
  have he : mvW.getD (0 + 1) [] = pt p 0 := by rw [mvW_mvL 0 hj10, hw]
  generalize pt p 0 = w at *
  generalize strE p = z at *
  clear hw hb
  refine ct_intro ttS_ok 1 rfl Tryd.func56 rfl rfl rfl ?_
  conv => arg 6; whnf
  repeat ((try conv => whnf); first | (with_reducible (refine wo_seq (fun Qs hN hE hR => ?_))) | (with_reducible (refine wi_reg ?_)) | (with_reducible (refine wo_block (fun Qb kN kE kX kR => ?_))) | (with_reducible (refine wi_regd ?_)) | (with_reducible (refine wi_skip ?_)) | (with_reducible (refine wi_ret ?_)) | (with_reducible (refine wi_exit ?_)) | (with_reducible (refine wi_loop ?_)) | (with_reducible (show W _ _ _ (.cond _ _ _) _ _); refine wi_cond rfl ?_) | (with_reducible (refine hN _ ?_); (try clear hN hE hR Qs)) | (with_reducible (refine hE _ _ ?_); (try clear hN hE hR Qs)) | (with_reducible (refine hR _ ?_); (try clear hN hE hR Qs)) | (with_reducible (refine kN _ ?_); (try clear kN kE kX kR Qb)) | (with_reducible (refine kE _ ?_); (try clear kN kE kX kR Qb)) | (with_reducible (refine kX _ _ rfl ?_); (try clear kN kE kX kR Qb)) | (with_reducible (refine kR _ ?_); (try clear kN kE kX kR Qb)) | (refine stpQ ?_))
  refine loop_op Nat (fun x => ⟨[(0, .sl 1 z), (2, .ptr 1 0 0), (4, .ptr 2 0 0), (5, .int .i64 (x : Int))], [(1, some (.box zEv)), (2, some (.box [.sl 1 z, .bool false]))], 3⟩) (fun x => 1 ≤ x ∧ x ≤ 0 + 1) (fun x => 0 + 1 + 1 - x) 1 (by omega) ?_ ?_
  · (refine le_auto (by rfl) ?_ ?_) <;> (repeat' (first | (exact eqA) | (refine And.intro ?_ ?_) | ((fail_if_success (with_reducible (show _ = _))); (show _ = _)))) <;> first | rfl | decide
  · intro Q1 hQ1 x hx
    obtain ⟨hx1, hx2⟩ := hx
    by_cases hxj : x < 0 + 1
    · have f1 : (x : Int) ≤ 10 := by omega
      have i1 : x < 11 := by omega
      have gx := mvW_at x i1
      have hne := hskip x hx1 hxj
      clear hskip
      repeat ((try conv => whnf); first | (with_reducible (refine wo_seq (fun Qs hN hE hR => ?_))) | (with_reducible (refine wi_reg ?_)) | (with_reducible (refine wo_block (fun Qb kN kE kX kR => ?_))) | (with_reducible (refine wi_regd ?_)) | (with_reducible (refine wi_skip ?_)) | (with_reducible (refine wi_ret ?_)) | (with_reducible (refine wi_exit ?_)) | (with_reducible (refine wi_loop ?_)) | (with_reducible (show W _ _ _ (.cond _ _ _) _ _); refine wi_cond rfl ?_) | (with_reducible (refine hN _ ?_); (try clear hN hE hR Qs)) | (with_reducible (refine hE _ _ ?_); (try clear hN hE hR Qs)) | (with_reducible (refine hR _ ?_); (try clear hN hE hR Qs)) | (with_reducible (refine kN _ ?_); (try clear kN kE kX kR Qb)) | (with_reducible (refine kE _ ?_); (try clear kN kE kX kR Qb)) | (with_reducible (refine kX _ _ rfl ?_); (try clear kN kE kX kR Qb)) | (with_reducible (refine kR _ ?_); (try clear kN kE kX kR Qb)) | (refine cb_dt f1 ?_) | (refine i_lt i1 ?_) | (refine Exists.intro _ (And.intro gx ?_)) | (refine i_at g0 ?_) | (refine And.intro (by kernel_rfl) ?_) | (refine cb_nt hne ?_) | (refine stpQ ?_))
      refine ⟨x + 1, by omega, by omega, ?_⟩
      (refine le_auto (by rfl) ?_ ?_) <;> (repeat' (first | (exact eqA) | (refine And.intro ?_ ?_) | ((fail_if_success (with_reducible (show _ = _))); (show _ = _))))
    · obtain rfl : x = 0 + 1 := by omega
      have f1 : ((0 + 1 : Nat) : Int) ≤ 10 := by omega
      have i1 : 0 + 1 < 11 := by omega
      have gx := mvW_at (0 + 1) i1
      have fn : (z.length : Int) = 5 := by omega
      clear hskip hxj hx1 hx2
      cases hall : (b1 && b2)
      · have hB : (!((false || !b2) || !b1)) = false := by revert hall; cases b2 <;> cases b1 <;> decide
        repeat ((try conv => whnf); first | (with_reducible (refine wo_seq (fun Qs hN hE hR => ?_))) | (with_reducible (refine wi_reg ?_)) | (with_reducible (refine wo_block (fun Qb kN kE kX kR => ?_))) | (with_reducible (refine wi_regd ?_)) | (with_reducible (refine wi_skip ?_)) | (with_reducible (refine wi_ret ?_)) | (with_reducible (refine wi_exit ?_)) | (with_reducible (refine wi_loop ?_)) | (with_reducible (show W _ _ _ (.cond _ _ _) _ _); refine wi_cond rfl ?_) | (with_reducible (refine hN _ ?_); (try clear hN hE hR Qs)) | (with_reducible (refine hE _ _ ?_); (try clear hN hE hR Qs)) | (with_reducible (refine hR _ ?_); (try clear hN hE hR Qs)) | (with_reducible (refine kN _ ?_); (try clear kN kE kX kR Qb)) | (with_reducible (refine kE _ ?_); (try clear kN kE kX kR Qb)) | (with_reducible (refine kX _ _ rfl ?_); (try clear kN kE kX kR Qb)) | (with_reducible (refine kR _ ?_); (try clear kN kE kX kR Qb)) | (refine cb_dt f1 ?_) | (refine i_lt i1 ?_) | (refine Exists.intro _ (And.intro gx ?_)) | (refine i_at g0 ?_) | (refine i_at g3 ?_) | (refine i_at g4 ?_) | (refine And.intro (by kernel_rfl) ?_) | (refine cb_nf he ?_) | (refine cb_nf fn ?_) | (refine ccB ([2]) (n2) ?_) | (refine ccB ([2]) (n1) ?_) | (refine ccA ([]) (ce) ?_) | (refine cb_f hB ?_) | (refine cb_df h4 ?_) | (refine stpQ ?_))
        refine hQ1 _ _ ?_
        clear hQ1 Q1
        repeat ((try conv => whnf); first | (with_reducible (refine wo_seq (fun Qs hN hE hR => ?_))) | (with_reducible (refine wi_reg ?_)) | (with_reducible (refine wo_block (fun Qb kN kE kX kR => ?_))) | (with_reducible (refine wi_regd ?_)) | (with_reducible (refine wi_skip ?_)) | (with_reducible (refine wi_ret ?_)) | (with_reducible (refine wi_exit ?_)) | (with_reducible (refine wi_loop ?_)) | (with_reducible (show W _ _ _ (.cond _ _ _) _ _); refine wi_cond rfl ?_) | (with_reducible (refine hN _ ?_); (try clear hN hE hR Qs)) | (with_reducible (refine hE _ _ ?_); (try clear hN hE hR Qs)) | (with_reducible (refine hR _ ?_); (try clear hN hE hR Qs)) | (with_reducible (refine kN _ ?_); (try clear kN kE kX kR Qb)) | (with_reducible (refine kE _ ?_); (try clear kN kE kX kR Qb)) | (with_reducible (refine kX _ _ rfl ?_); (try clear kN kE kX kR Qb)) | (with_reducible (refine kR _ ?_); (try clear kN kE kX kR Qb)) | (refine stpQ ?_))
        (refine ans_auto (by rfl) ?_ ?_ (by rfl)) <;> (repeat' (first | (exact eqA) | (refine And.intro ?_ ?_) | ((fail_if_success (with_reducible (show _ = _))); (show _ = _)))) <;> first | (rw [hall]; done) | (rw [hall]; rfl)
      · have hB : (!((false || !b2) || !b1)) = true := by revert hall; cases b2 <;> cases b1 <;> decide
        repeat ((try conv => whnf); first | (with_reducible (refine wo_seq (fun Qs hN hE hR => ?_))) | (with_reducible (refine wi_reg ?_)) | (with_reducible (refine wo_block (fun Qb kN kE kX kR => ?_))) | (with_reducible (refine wi_regd ?_)) | (with_reducible (refine wi_skip ?_)) | (with_reducible (refine wi_ret ?_)) | (with_reducible (refine wi_exit ?_)) | (with_reducible (refine wi_loop ?_)) | (with_reducible (show W _ _ _ (.cond _ _ _) _ _); refine wi_cond rfl ?_) | (with_reducible (refine hN _ ?_); (try clear hN hE hR Qs)) | (with_reducible (refine hE _ _ ?_); (try clear hN hE hR Qs)) | (with_reducible (refine hR _ ?_); (try clear hN hE hR Qs)) | (with_reducible (refine kN _ ?_); (try clear kN kE kX kR Qb)) | (with_reducible (refine kE _ ?_); (try clear kN kE kX kR Qb)) | (with_reducible (refine kX _ _ rfl ?_); (try clear kN kE kX kR Qb)) | (with_reducible (refine kR _ ?_); (try clear kN kE kX kR Qb)) | (refine cb_dt f1 ?_) | (refine i_lt i1 ?_) | (refine Exists.intro _ (And.intro gx ?_)) | (refine i_at g0 ?_) | (refine i_at g3 ?_) | (refine i_at g4 ?_) | (refine And.intro (by kernel_rfl) ?_) | (refine cb_nf he ?_) | (refine cb_nf fn ?_) | (refine ccB ([2]) (n2) ?_) | (refine ccB ([2]) (n1) ?_) | (refine ccA ([]) (ce) ?_) | (refine cb_t hB ?_) | (refine cb_df h4 ?_) | (refine stpQ ?_))
        refine hQ1 _ _ ?_
        clear hQ1 Q1
        repeat ((try conv => whnf); first | (with_reducible (refine wo_seq (fun Qs hN hE hR => ?_))) | (with_reducible (refine wi_reg ?_)) | (with_reducible (refine wo_block (fun Qb kN kE kX kR => ?_))) | (with_reducible (refine wi_regd ?_)) | (with_reducible (refine wi_skip ?_)) | (with_reducible (refine wi_ret ?_)) | (with_reducible (refine wi_exit ?_)) | (with_reducible (refine wi_loop ?_)) | (with_reducible (show W _ _ _ (.cond _ _ _) _ _); refine wi_cond rfl ?_) | (with_reducible (refine hN _ ?_); (try clear hN hE hR Qs)) | (with_reducible (refine hE _ _ ?_); (try clear hN hE hR Qs)) | (with_reducible (refine hR _ ?_); (try clear hN hE hR Qs)) | (with_reducible (refine kN _ ?_); (try clear kN kE kX kR Qb)) | (with_reducible (refine kE _ ?_); (try clear kN kE kX kR Qb)) | (with_reducible (refine kX _ _ rfl ?_); (try clear kN kE kX kR Qb)) | (with_reducible (refine kR _ ?_); (try clear kN kE kX kR Qb)) | (refine stpQ ?_))
        (refine ans_auto (by rfl) ?_ ?_ (by rfl)) <;> (repeat' (first | (exact eqA) | (refine And.intro ?_ ?_) | ((fail_if_success (with_reducible (show _ = _))); (show _ = _)))) <;> first | (rw [hall]; done) | (rw [hall]; rfl)
theorem c_readMove (p : List Bs) (h0 : 0 < p.length) (hb : ∀ i, (pt p i).length ≤ 600) :
    CT Tryd.prog 56 [] [.sl 1 (strE p)] (.tup [.agg (evC (evR (rawM p))), .bool (okR (rawM p) && evOk (evR (rawM p)))]) [] := by
  rcases mv_idx (w := pt p 0) with ⟨j, hj, hw, hi⟩ | ⟨hi, hn⟩
  · by_cases hl : p.length = mvN j
    · have hr : rawM p = some (mvE j p, mvB j p) := by rw [rawM, hi, if_pos ⟨hj, hl⟩]
      rw [hr]
      show CT _ _ _ _ (.tup [.agg (evC (mvE j p)), .bool (mvB j p && evOk (mvE j p))]) _
      by_cases k0 : j = 0
      · by_cases h4 : pt p 4 = [45]
        · exact c_rm_k0y p j k0 h4 hw hl ⟨hb 3, hb 4⟩
        · exact c_rm_k0n p j k0 h4 hw hl ⟨hb 3, hb 4⟩
      by_cases k1 : j = 1
      · subst k1; exact c_rm_k1 p _ rfl hw hl ⟨hb 3, hb 4⟩
      by_cases k2 : j = 2
      · subst k2; exact c_rm_k2 p _ rfl hw hl ⟨hb 3, hb 4⟩
      by_cases k3 : j = 3
      · subst k3; exact c_rm_k3 p _ rfl hw hl ⟨hb 3, hb 4⟩
      by_cases k8 : j = 8
      · subst k8; exact c_rm_k8 p _ rfl hw hl ⟨hb 3, hb 4⟩
      by_cases k9 : j = 9
      · subst k9; exact c_rm_k9 p _ rfl hw hl ⟨hb 3, hb 4⟩
      exact c_rm_def p j ⟨by omega, by omega⟩ hw hl ⟨hb 3, hb 4⟩
    · have hr : rawM p = none := by rw [rawM, hi, if_neg (fun c => hl c.2)]
      rw [hr]
      exact c_rm_len p j hj h0 hw hl
  · have hr : rawM p = none := by rw [rawM, hi, if_neg (fun c => by have := c.1; omega)]
    rw [hr]
    exact c_rm_no p h0 hn
end
end Go.Proofs.YtkgfidphcpklhaaDoor
