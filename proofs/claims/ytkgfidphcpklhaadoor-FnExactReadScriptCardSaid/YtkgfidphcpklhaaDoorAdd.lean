/- Functions by content: one line more of a script, by the program. -/
import Derived.Test.YtkgfidphcpklhaaDoorRde
import Derived.Test.YtkgfidphcpklhaaDoorPlE
namespace Go.Proofs.YtkgfidphcpklhaaDoor
open Go.RowKit Pl
set_option linter.unusedVariables false
set_option linter.unusedSimpArgs false

def scH (x : Sc) : List Ent := [.box [.int .i64 x.n, .int .i64 x.k, .ref 2, .bool x.ca, .ref 3], .row 10 (evE x.ev), .row 3 (akE x.ak)]
def scHa (x : Sc) : List Ent := [.box [.int .i64 x.n, .int .i64 x.k, .ref 2, .bool x.ca, .ref 4], .row 10 (evE x.ev), .row 0 [], .row 3 (akE x.ak)]
def scHe (x : Sc) : List Ent := [.box [.int .i64 x.n, .int .i64 x.k, .ref 4, .bool x.ca, .ref 3], .row 0 [], .row 3 (akE x.ak), .row 10 (evE x.ev)]
theorem ak_next (l : List (Int × Bs × Int)) (a b : Int) (s : Bs) : akE (l ++ [(a, s, b)]) = akE l ++ [[.int .i64 a, .str s, .int .i64 b]] := ak_app _ _
theorem ev_next (l : List Evt) (e : Evt) : evE (l ++ [e]) = evE l ++ [evC e] := ev_app _ _
section
attribute [local irreducible] CondB CallP LoopW AnsP LeP W
set_option maxRecDepth 100000 in
set_option maxHeartbeats 2000000 in
theorem c_add_calm (x : Sc) (p : List Bs) (hl : p.length = 1) (hw : pt p 0 = wCalm) : CT Tryd.prog 18 (scH x) [.ptr 1 0 0, .sl 1 (strE p)] (.bool true) (scH { x with ca := true }) := by
  have g0 := g_cell (p := p) (i := 0) (by omega)
  have fl : ((strE p).length : Int) = 1 := by rw [strE_len, hl]; rfl
  unfold wCalm at hw
  unfold scH
  generalize pt p 0 = w at *
  generalize strE p = z at *
  refine ct_intro ttS_ok 4 rfl Tryd.func18 rfl rfl rfl ?_
  conv => arg 6; whnf
  repeat ((try conv => whnf); first | (with_reducible (refine wo_seq (fun Qs hN hE hR => ?_))) | (with_reducible (refine wi_reg ?_)) | (with_reducible (refine wo_block (fun Qb kN kE kX kR => ?_))) | (with_reducible (refine wi_regd ?_)) | (with_reducible (refine wi_skip ?_)) | (with_reducible (refine wi_ret ?_)) | (with_reducible (refine wi_exit ?_)) | (with_reducible (refine wi_loop ?_)) | (with_reducible (show W _ _ _ (.cond _ _ _) _ _); refine wi_cond rfl ?_) | (with_reducible (refine hN _ ?_); (try clear hN hE hR Qs)) | (with_reducible (refine hE _ _ ?_); (try clear hN hE hR Qs)) | (with_reducible (refine hR _ ?_); (try clear hN hE hR Qs)) | (with_reducible (refine kN _ ?_); (try clear kN kE kX kR Qb)) | (with_reducible (refine kE _ ?_); (try clear kN kE kX kR Qb)) | (with_reducible (refine kX _ _ rfl ?_); (try clear kN kE kX kR Qb)) | (with_reducible (refine kR _ ?_); (try clear kN kE kX kR Qb)) | (refine cb_dt fl ?_) | (refine i_at g0 ?_) | (refine cb_dt hw ?_) | (refine stpQ ?_))
  (refine ans_auto (by rfl) ?_ ?_ (by rfl)) <;> (repeat' (first | (exact eqA) | (refine And.intro ?_ ?_) | ((fail_if_success (with_reducible (show _ = _))); (show _ = _))))
set_option maxRecDepth 100000 in
set_option maxHeartbeats 2000000 in
theorem c_add_askB (x : Sc) (p : List Bs) (hl : p.length = 4) (hw : pt p 0 = wAsk) (hx : ScOk x) (hb : (isB (pt p 1) && isB (pt p 3)) = false) : CT Tryd.prog 18 (scH x) [.ptr 1 0 0, .sl 1 (strE p)] (.bool false) (scH x) := by
  have g0 := g_cell (p := p) (i := 0) (by omega)
  have g2 := g_cell (p := p) (i := 2) (by omega)
  have f1 : ¬ ((strE p).length : Int) = 1 := by rw [strE_len, hl]; decide
  have fl : ((strE p).length : Int) = 4 := by rw [strE_len, hl]; rfl
  have n1 := c_numA p 1 (pt p 1) (pt_at (by omega)) false
  have n3 := c_numA p 3 (pt p 3) (pt_at (by omega)) (false || !isB (pt p 1))
  have hal := ak_len x.ak
  have hak := hx.2
  unfold wAsk at hw
  unfold scH
  generalize (decV (pt p 1) : Int) = v1 at *
  generalize (decV (pt p 3) : Int) = v3 at *
  generalize isB (pt p 1) = b1 at *
  generalize isB (pt p 3) = b3 at *
  generalize pt p 0 = w at *
  generalize pt p 2 = s2 at *
  generalize strE p = z at *
  have hB : ((false || !b1) || !b3) = true := by revert hb; cases b1 <;> cases b3 <;> decide
  refine ct_intro ttS_ok 4 rfl Tryd.func18 rfl rfl rfl ?_
  conv => arg 6; whnf
  repeat ((try conv => whnf); first | (with_reducible (refine wo_seq (fun Qs hN hE hR => ?_))) | (with_reducible (refine wi_reg ?_)) | (with_reducible (refine wo_block (fun Qb kN kE kX kR => ?_))) | (with_reducible (refine wi_regd ?_)) | (with_reducible (refine wi_skip ?_)) | (with_reducible (refine wi_ret ?_)) | (with_reducible (refine wi_exit ?_)) | (with_reducible (refine wi_loop ?_)) | (with_reducible (show W _ _ _ (.cond _ _ _) _ _); refine wi_cond rfl ?_) | (with_reducible (refine hN _ ?_); (try clear hN hE hR Qs)) | (with_reducible (refine hE _ _ ?_); (try clear hN hE hR Qs)) | (with_reducible (refine hR _ ?_); (try clear hN hE hR Qs)) | (with_reducible (refine kN _ ?_); (try clear kN kE kX kR Qb)) | (with_reducible (refine kE _ ?_); (try clear kN kE kX kR Qb)) | (with_reducible (refine kX _ _ rfl ?_); (try clear kN kE kX kR Qb)) | (with_reducible (refine kR _ ?_); (try clear kN kE kX kR Qb)) | (refine cb_df f1 ?_) | (refine cb_dt fl ?_) | (refine i_at g0 ?_) | (refine i_at g2 ?_) | (refine cb_dt hw ?_) | (refine And.intro (by kernel_rfl) ?_) | (refine ccB ([_]) (n1) ?_) | (refine ccB ([_]) (n3) ?_) | (refine cb_t hB ?_) | (refine stpQ ?_))
  (refine ans_auto (by rfl) ?_ ?_ (by rfl)) <;> (repeat' (first | (exact eqA) | (refine And.intro ?_ ?_) | ((fail_if_success (with_reducible (show _ = _))); (show _ = _))))
set_option maxRecDepth 100000 in
set_option maxHeartbeats 2000000 in
theorem c_add_askF (x : Sc) (p : List Bs) (hl : p.length = 4) (hw : pt p 0 = wAsk) (hx : ScOk x) (hb : (isB (pt p 1) && isB (pt p 3)) = true) (hf : ¬ x.ak.length < 10) : CT Tryd.prog 18 (scH x) [.ptr 1 0 0, .sl 1 (strE p)] (.bool false) (scH x) := by
  have g0 := g_cell (p := p) (i := 0) (by omega)
  have g2 := g_cell (p := p) (i := 2) (by omega)
  have f1 : ¬ ((strE p).length : Int) = 1 := by rw [strE_len, hl]; decide
  have fl : ((strE p).length : Int) = 4 := by rw [strE_len, hl]; rfl
  have n1 := c_numA p 1 (pt p 1) (pt_at (by omega)) false
  have n3 := c_numA p 3 (pt p 3) (pt_at (by omega)) (false || !isB (pt p 1))
  have hal := ak_len x.ak
  have hak := hx.2
  unfold wAsk at hw
  unfold scH
  generalize (decV (pt p 1) : Int) = v1 at *
  generalize (decV (pt p 3) : Int) = v3 at *
  generalize isB (pt p 1) = b1 at *
  generalize isB (pt p 3) = b3 at *
  generalize pt p 0 = w at *
  generalize pt p 2 = s2 at *
  generalize strE p = z at *
  have hB : ((false || !b1) || !b3) = false := by revert hb; cases b1 <;> cases b3 <;> decide
  have hF : ((akE x.ak).length : Int) ≥ 10 := by omega
  refine ct_intro ttS_ok 4 rfl Tryd.func18 rfl rfl rfl ?_
  conv => arg 6; whnf
  repeat ((try conv => whnf); first | (with_reducible (refine wo_seq (fun Qs hN hE hR => ?_))) | (with_reducible (refine wi_reg ?_)) | (with_reducible (refine wo_block (fun Qb kN kE kX kR => ?_))) | (with_reducible (refine wi_regd ?_)) | (with_reducible (refine wi_skip ?_)) | (with_reducible (refine wi_ret ?_)) | (with_reducible (refine wi_exit ?_)) | (with_reducible (refine wi_loop ?_)) | (with_reducible (show W _ _ _ (.cond _ _ _) _ _); refine wi_cond rfl ?_) | (with_reducible (refine hN _ ?_); (try clear hN hE hR Qs)) | (with_reducible (refine hE _ _ ?_); (try clear hN hE hR Qs)) | (with_reducible (refine hR _ ?_); (try clear hN hE hR Qs)) | (with_reducible (refine kN _ ?_); (try clear kN kE kX kR Qb)) | (with_reducible (refine kE _ ?_); (try clear kN kE kX kR Qb)) | (with_reducible (refine kX _ _ rfl ?_); (try clear kN kE kX kR Qb)) | (with_reducible (refine kR _ ?_); (try clear kN kE kX kR Qb)) | (refine cb_df f1 ?_) | (refine cb_dt fl ?_) | (refine i_at g0 ?_) | (refine i_at g2 ?_) | (refine cb_dt hw ?_) | (refine And.intro (by kernel_rfl) ?_) | (refine ccB ([_]) (n1) ?_) | (refine ccB ([_]) (n3) ?_) | (refine cb_f hB ?_) | (refine cb_dt hF ?_) | (refine stpQ ?_))
  (refine ans_auto (by rfl) ?_ ?_ (by rfl)) <;> (repeat' (first | (exact eqA) | (refine And.intro ?_ ?_) | ((fail_if_success (with_reducible (show _ = _))); (show _ = _))))
set_option maxRecDepth 100000 in
set_option maxHeartbeats 2000000 in
theorem c_add_askY (x : Sc) (p : List Bs) (hl : p.length = 4) (hw : pt p 0 = wAsk) (hx : ScOk x) (hb : (isB (pt p 1) && isB (pt p 3)) = true) (hf : x.ak.length < 10) : CT Tryd.prog 18 (scH x) [.ptr 1 0 0, .sl 1 (strE p)] (.bool true) (scHa { x with ak := x.ak ++ [askOf p] }) := by
  have g0 := g_cell (p := p) (i := 0) (by omega)
  have g2 := g_cell (p := p) (i := 2) (by omega)
  have f1 : ¬ ((strE p).length : Int) = 1 := by rw [strE_len, hl]; decide
  have fl : ((strE p).length : Int) = 4 := by rw [strE_len, hl]; rfl
  have n1 := c_numA p 1 (pt p 1) (pt_at (by omega)) false
  have n3 := c_numA p 3 (pt p 3) (pt_at (by omega)) (false || !isB (pt p 1))
  have hal := ak_len x.ak
  have hak := hx.2
  unfold wAsk at hw
  unfold scH scHa
  have hs := ak_next x.ak (decV (pt p 1)) (decV (pt p 3)) (pt p 2)
  show CT _ _ _ _ _ [.box [.int .i64 x.n, .int .i64 x.k, .ref 2, .bool x.ca, .ref 4], .row 10 (evE x.ev), .row 0 [], .row 3 (akE (x.ak ++ [((decV (pt p 1) : Int), pt p 2, (decV (pt p 3) : Int))]))]
  rw [hs]
  clear hs
  generalize (decV (pt p 1) : Int) = v1 at *
  generalize (decV (pt p 3) : Int) = v3 at *
  generalize isB (pt p 1) = b1 at *
  generalize isB (pt p 3) = b3 at *
  generalize pt p 0 = w at *
  generalize pt p 2 = s2 at *
  generalize strE p = z at *
  have hB : ((false || !b1) || !b3) = false := by revert hb; cases b1 <;> cases b3 <;> decide
  have hF : ¬ ((akE x.ak).length : Int) ≥ 10 := by omega
  refine ct_intro ttS_ok 4 rfl Tryd.func18 rfl rfl rfl ?_
  conv => arg 6; whnf
  repeat ((try conv => whnf); first | (with_reducible (refine wo_seq (fun Qs hN hE hR => ?_))) | (with_reducible (refine wi_reg ?_)) | (with_reducible (refine wo_block (fun Qb kN kE kX kR => ?_))) | (with_reducible (refine wi_regd ?_)) | (with_reducible (refine wi_skip ?_)) | (with_reducible (refine wi_ret ?_)) | (with_reducible (refine wi_exit ?_)) | (with_reducible (refine wi_loop ?_)) | (with_reducible (show W _ _ _ (.cond _ _ _) _ _); refine wi_cond rfl ?_) | (with_reducible (refine hN _ ?_); (try clear hN hE hR Qs)) | (with_reducible (refine hE _ _ ?_); (try clear hN hE hR Qs)) | (with_reducible (refine hR _ ?_); (try clear hN hE hR Qs)) | (with_reducible (refine kN _ ?_); (try clear kN kE kX kR Qb)) | (with_reducible (refine kE _ ?_); (try clear kN kE kX kR Qb)) | (with_reducible (refine kX _ _ rfl ?_); (try clear kN kE kX kR Qb)) | (with_reducible (refine kR _ ?_); (try clear kN kE kX kR Qb)) | (refine cb_df f1 ?_) | (refine cb_dt fl ?_) | (refine i_at g0 ?_) | (refine i_at g2 ?_) | (refine cb_dt hw ?_) | (refine And.intro (by kernel_rfl) ?_) | (refine ccB ([_]) (n1) ?_) | (refine ccB ([_]) (n3) ?_) | (refine cb_f hB ?_) | (refine cb_df hF ?_) | (refine And.intro (by simp only [List.length_append, List.length_set, List.length_replicate]; omega) ?_) | (refine stpQ ?_))
  (refine ans_auto (by rfl) ?_ ?_ (by rfl)) <;> (repeat' (first | (exact eqA) | (refine And.intro ?_ ?_) | ((fail_if_success (with_reducible (show _ = _))); (show _ = _)))) <;> rfl
set_option maxRecDepth 100000 in
set_option maxHeartbeats 2000000 in
theorem c_add_evN (x : Sc) (p : List Bs) (h0 : 0 < p.length) (hbd : ∀ i, (pt p i).length ≤ 600) (hc : ¬ (p.length = 1 ∧ pt p 0 = wCalm)) (ha : ¬ (p.length = 4 ∧ pt p 0 = wAsk)) (hx : ScOk x) (hq : (okR (rawE p) && evOk (evR (rawE p))) = false) :
    CT Tryd.prog 18 (scH x) [.ptr 1 0 0, .sl 1 (strE p)] (.bool false) (scH x) := by
  have g0 := g_cell (p := p) h0
  have hcl : (strE p).length = p.length := strE_len p
  have cr := c_readEvent p h0 hbd
  have hel := ev_len x.ev
  have hev := hx.1
  unfold wCalm at hc
  unfold wAsk at ha
  unfold scH
  generalize evR (rawE p) = e at *
  rw [hq] at cr
  clear hq
  obtain ⟨k, h, a, mk, mn, ma, ci, cn, cv, tx⟩ := e
  unfold evC at *
  simp only at cr ⊢
  clear h0 hbd
  generalize pt p 0 = w at *
  generalize strE p = z at *
  generalize p.length = n at *
  by_cases l1 : n = 1
  · have fl : (z.length : Int) = 1 := by omega
    have f4 : ¬ (z.length : Int) = 4 := by omega
    have u := fun c => hc ⟨l1, c⟩
    clear hc ha
    refine ct_intro ttS_ok 4 rfl Tryd.func18 rfl rfl rfl ?_
    conv => arg 6; whnf
    repeat ((try conv => whnf); first | (with_reducible (refine wo_seq (fun Qs hN hE hR => ?_))) | (with_reducible (refine wi_reg ?_)) | (with_reducible (refine wo_block (fun Qb kN kE kX kR => ?_))) | (with_reducible (refine wi_regd ?_)) | (with_reducible (refine wi_skip ?_)) | (with_reducible (refine wi_ret ?_)) | (with_reducible (refine wi_exit ?_)) | (with_reducible (refine wi_loop ?_)) | (with_reducible (show W _ _ _ (.cond _ _ _) _ _); refine wi_cond rfl ?_) | (with_reducible (refine hN _ ?_); (try clear hN hE hR Qs)) | (with_reducible (refine hE _ _ ?_); (try clear hN hE hR Qs)) | (with_reducible (refine hR _ ?_); (try clear hN hE hR Qs)) | (with_reducible (refine kN _ ?_); (try clear kN kE kX kR Qb)) | (with_reducible (refine kE _ ?_); (try clear kN kE kX kR Qb)) | (with_reducible (refine kX _ _ rfl ?_); (try clear kN kE kX kR Qb)) | (with_reducible (refine kR _ ?_); (try clear kN kE kX kR Qb)) | (refine cb_dt fl ?_) | (refine cb_df f4 ?_) | (refine cb_df u ?_) | (refine i_at g0 ?_) | (refine And.intro (by kernel_rfl) ?_) | (refine ccA ([]) (cr) ?_) | (refine stpQ ?_))
    (refine ans_auto (by rfl) ?_ ?_ (by rfl)) <;> (repeat' (first | (exact eqA) | (refine And.intro ?_ ?_) | ((fail_if_success (with_reducible (show _ = _))); (show _ = _))))
  by_cases l4 : n = 4
  · have fl : (z.length : Int) = 4 := by omega
    have f1 : ¬ (z.length : Int) = 1 := by omega
    have u := fun c => ha ⟨l4, c⟩
    clear hc ha
    refine ct_intro ttS_ok 4 rfl Tryd.func18 rfl rfl rfl ?_
    conv => arg 6; whnf
    repeat ((try conv => whnf); first | (with_reducible (refine wo_seq (fun Qs hN hE hR => ?_))) | (with_reducible (refine wi_reg ?_)) | (with_reducible (refine wo_block (fun Qb kN kE kX kR => ?_))) | (with_reducible (refine wi_regd ?_)) | (with_reducible (refine wi_skip ?_)) | (with_reducible (refine wi_ret ?_)) | (with_reducible (refine wi_exit ?_)) | (with_reducible (refine wi_loop ?_)) | (with_reducible (show W _ _ _ (.cond _ _ _) _ _); refine wi_cond rfl ?_) | (with_reducible (refine hN _ ?_); (try clear hN hE hR Qs)) | (with_reducible (refine hE _ _ ?_); (try clear hN hE hR Qs)) | (with_reducible (refine hR _ ?_); (try clear hN hE hR Qs)) | (with_reducible (refine kN _ ?_); (try clear kN kE kX kR Qb)) | (with_reducible (refine kE _ ?_); (try clear kN kE kX kR Qb)) | (with_reducible (refine kX _ _ rfl ?_); (try clear kN kE kX kR Qb)) | (with_reducible (refine kR _ ?_); (try clear kN kE kX kR Qb)) | (refine cb_dt fl ?_) | (refine cb_df f1 ?_) | (refine cb_df u ?_) | (refine i_at g0 ?_) | (refine And.intro (by kernel_rfl) ?_) | (refine ccA ([]) (cr) ?_) | (refine stpQ ?_))
    (refine ans_auto (by rfl) ?_ ?_ (by rfl)) <;> (repeat' (first | (exact eqA) | (refine And.intro ?_ ?_) | ((fail_if_success (with_reducible (show _ = _))); (show _ = _))))
  · have f4 : ¬ (z.length : Int) = 4 := by omega
    have f1 : ¬ (z.length : Int) = 1 := by omega
    clear hc ha
    refine ct_intro ttS_ok 4 rfl Tryd.func18 rfl rfl rfl ?_
    conv => arg 6; whnf
    repeat ((try conv => whnf); first | (with_reducible (refine wo_seq (fun Qs hN hE hR => ?_))) | (with_reducible (refine wi_reg ?_)) | (with_reducible (refine wo_block (fun Qb kN kE kX kR => ?_))) | (with_reducible (refine wi_regd ?_)) | (with_reducible (refine wi_skip ?_)) | (with_reducible (refine wi_ret ?_)) | (with_reducible (refine wi_exit ?_)) | (with_reducible (refine wi_loop ?_)) | (with_reducible (show W _ _ _ (.cond _ _ _) _ _); refine wi_cond rfl ?_) | (with_reducible (refine hN _ ?_); (try clear hN hE hR Qs)) | (with_reducible (refine hE _ _ ?_); (try clear hN hE hR Qs)) | (with_reducible (refine hR _ ?_); (try clear hN hE hR Qs)) | (with_reducible (refine kN _ ?_); (try clear kN kE kX kR Qb)) | (with_reducible (refine kE _ ?_); (try clear kN kE kX kR Qb)) | (with_reducible (refine kX _ _ rfl ?_); (try clear kN kE kX kR Qb)) | (with_reducible (refine kR _ ?_); (try clear kN kE kX kR Qb)) | (refine cb_df f1 ?_) | (refine cb_df f4 ?_) | (refine i_at g0 ?_) | (refine And.intro (by kernel_rfl) ?_) | (refine ccA ([]) (cr) ?_) | (refine stpQ ?_))
    (refine ans_auto (by rfl) ?_ ?_ (by rfl)) <;> (repeat' (first | (exact eqA) | (refine And.intro ?_ ?_) | ((fail_if_success (with_reducible (show _ = _))); (show _ = _))))
set_option maxRecDepth 100000 in
set_option maxHeartbeats 2000000 in
theorem c_add_evF (x : Sc) (p : List Bs) (h0 : 0 < p.length) (hbd : ∀ i, (pt p i).length ≤ 600) (hc : ¬ (p.length = 1 ∧ pt p 0 = wCalm)) (ha : ¬ (p.length = 4 ∧ pt p 0 = wAsk)) (hx : ScOk x) (hq : (okR (rawE p) && evOk (evR (rawE p))) = true) (hf : ¬ x.ev.length < 90) :
    CT Tryd.prog 18 (scH x) [.ptr 1 0 0, .sl 1 (strE p)] (.bool false) (scH x) := by
  have g0 := g_cell (p := p) h0
  have hcl : (strE p).length = p.length := strE_len p
  have cr := c_readEvent p h0 hbd
  have hel := ev_len x.ev
  have hev := hx.1
  unfold wCalm at hc
  unfold wAsk at ha
  unfold scH
  generalize evR (rawE p) = e at *
  rw [hq] at cr
  clear hq
  obtain ⟨k, h, a, mk, mn, ma, ci, cn, cv, tx⟩ := e
  unfold evC at *
  simp only at cr ⊢
  clear h0 hbd
  generalize pt p 0 = w at *
  generalize strE p = z at *
  generalize p.length = n at *
  have hF : ((evE x.ev).length : Int) ≥ 90 := by omega
  by_cases l1 : n = 1
  · have fl : (z.length : Int) = 1 := by omega
    have f4 : ¬ (z.length : Int) = 4 := by omega
    have u := fun c => hc ⟨l1, c⟩
    clear hc ha
    refine ct_intro ttS_ok 4 rfl Tryd.func18 rfl rfl rfl ?_
    conv => arg 6; whnf
    repeat ((try conv => whnf); first | (with_reducible (refine wo_seq (fun Qs hN hE hR => ?_))) | (with_reducible (refine wi_reg ?_)) | (with_reducible (refine wo_block (fun Qb kN kE kX kR => ?_))) | (with_reducible (refine wi_regd ?_)) | (with_reducible (refine wi_skip ?_)) | (with_reducible (refine wi_ret ?_)) | (with_reducible (refine wi_exit ?_)) | (with_reducible (refine wi_loop ?_)) | (with_reducible (show W _ _ _ (.cond _ _ _) _ _); refine wi_cond rfl ?_) | (with_reducible (refine hN _ ?_); (try clear hN hE hR Qs)) | (with_reducible (refine hE _ _ ?_); (try clear hN hE hR Qs)) | (with_reducible (refine hR _ ?_); (try clear hN hE hR Qs)) | (with_reducible (refine kN _ ?_); (try clear kN kE kX kR Qb)) | (with_reducible (refine kE _ ?_); (try clear kN kE kX kR Qb)) | (with_reducible (refine kX _ _ rfl ?_); (try clear kN kE kX kR Qb)) | (with_reducible (refine kR _ ?_); (try clear kN kE kX kR Qb)) | (refine cb_dt fl ?_) | (refine cb_df f4 ?_) | (refine cb_df u ?_) | (refine i_at g0 ?_) | (refine And.intro (by kernel_rfl) ?_) | (refine ccA ([]) (cr) ?_) | (refine cb_dt hF ?_) | (refine stpQ ?_))
    (refine ans_auto (by rfl) ?_ ?_ (by rfl)) <;> (repeat' (first | (exact eqA) | (refine And.intro ?_ ?_) | ((fail_if_success (with_reducible (show _ = _))); (show _ = _))))
  by_cases l4 : n = 4
  · have fl : (z.length : Int) = 4 := by omega
    have f1 : ¬ (z.length : Int) = 1 := by omega
    have u := fun c => ha ⟨l4, c⟩
    clear hc ha
    refine ct_intro ttS_ok 4 rfl Tryd.func18 rfl rfl rfl ?_
    conv => arg 6; whnf
    repeat ((try conv => whnf); first | (with_reducible (refine wo_seq (fun Qs hN hE hR => ?_))) | (with_reducible (refine wi_reg ?_)) | (with_reducible (refine wo_block (fun Qb kN kE kX kR => ?_))) | (with_reducible (refine wi_regd ?_)) | (with_reducible (refine wi_skip ?_)) | (with_reducible (refine wi_ret ?_)) | (with_reducible (refine wi_exit ?_)) | (with_reducible (refine wi_loop ?_)) | (with_reducible (show W _ _ _ (.cond _ _ _) _ _); refine wi_cond rfl ?_) | (with_reducible (refine hN _ ?_); (try clear hN hE hR Qs)) | (with_reducible (refine hE _ _ ?_); (try clear hN hE hR Qs)) | (with_reducible (refine hR _ ?_); (try clear hN hE hR Qs)) | (with_reducible (refine kN _ ?_); (try clear kN kE kX kR Qb)) | (with_reducible (refine kE _ ?_); (try clear kN kE kX kR Qb)) | (with_reducible (refine kX _ _ rfl ?_); (try clear kN kE kX kR Qb)) | (with_reducible (refine kR _ ?_); (try clear kN kE kX kR Qb)) | (refine cb_dt fl ?_) | (refine cb_df f1 ?_) | (refine cb_df u ?_) | (refine i_at g0 ?_) | (refine And.intro (by kernel_rfl) ?_) | (refine ccA ([]) (cr) ?_) | (refine cb_dt hF ?_) | (refine stpQ ?_))
    (refine ans_auto (by rfl) ?_ ?_ (by rfl)) <;> (repeat' (first | (exact eqA) | (refine And.intro ?_ ?_) | ((fail_if_success (with_reducible (show _ = _))); (show _ = _))))
  · have f4 : ¬ (z.length : Int) = 4 := by omega
    have f1 : ¬ (z.length : Int) = 1 := by omega
    clear hc ha
    refine ct_intro ttS_ok 4 rfl Tryd.func18 rfl rfl rfl ?_
    conv => arg 6; whnf
    repeat ((try conv => whnf); first | (with_reducible (refine wo_seq (fun Qs hN hE hR => ?_))) | (with_reducible (refine wi_reg ?_)) | (with_reducible (refine wo_block (fun Qb kN kE kX kR => ?_))) | (with_reducible (refine wi_regd ?_)) | (with_reducible (refine wi_skip ?_)) | (with_reducible (refine wi_ret ?_)) | (with_reducible (refine wi_exit ?_)) | (with_reducible (refine wi_loop ?_)) | (with_reducible (show W _ _ _ (.cond _ _ _) _ _); refine wi_cond rfl ?_) | (with_reducible (refine hN _ ?_); (try clear hN hE hR Qs)) | (with_reducible (refine hE _ _ ?_); (try clear hN hE hR Qs)) | (with_reducible (refine hR _ ?_); (try clear hN hE hR Qs)) | (with_reducible (refine kN _ ?_); (try clear kN kE kX kR Qb)) | (with_reducible (refine kE _ ?_); (try clear kN kE kX kR Qb)) | (with_reducible (refine kX _ _ rfl ?_); (try clear kN kE kX kR Qb)) | (with_reducible (refine kR _ ?_); (try clear kN kE kX kR Qb)) | (refine cb_df f1 ?_) | (refine cb_df f4 ?_) | (refine i_at g0 ?_) | (refine And.intro (by kernel_rfl) ?_) | (refine ccA ([]) (cr) ?_) | (refine cb_dt hF ?_) | (refine stpQ ?_))
    (refine ans_auto (by rfl) ?_ ?_ (by rfl)) <;> (repeat' (first | (exact eqA) | (refine And.intro ?_ ?_) | ((fail_if_success (with_reducible (show _ = _))); (show _ = _))))
set_option maxRecDepth 100000 in
set_option maxHeartbeats 2000000 in
theorem c_add_evY (x : Sc) (p : List Bs) (h0 : 0 < p.length) (hbd : ∀ i, (pt p i).length ≤ 600) (hc : ¬ (p.length = 1 ∧ pt p 0 = wCalm)) (ha : ¬ (p.length = 4 ∧ pt p 0 = wAsk)) (hx : ScOk x) (hq : (okR (rawE p) && evOk (evR (rawE p))) = true) (hf : x.ev.length < 90) :
    CT Tryd.prog 18 (scH x) [.ptr 1 0 0, .sl 1 (strE p)] (.bool true) (scHe { x with ev := x.ev ++ [evR (rawE p)] }) := by
  have g0 := g_cell (p := p) h0
  have hcl : (strE p).length = p.length := strE_len p
  have cr := c_readEvent p h0 hbd
  have hel := ev_len x.ev
  have hev := hx.1
  unfold wCalm at hc
  unfold wAsk at ha
  unfold scH scHe
  show CT _ _ _ _ _ [.box [.int .i64 x.n, .int .i64 x.k, .ref 4, .bool x.ca, .ref 3], .row 0 [], .row 3 (akE x.ak), .row 10 (evE (x.ev ++ [evR (rawE p)]))]
  rw [ev_next]
  generalize evR (rawE p) = e at *
  rw [hq] at cr
  clear hq
  obtain ⟨k, h, a, mk, mn, ma, ci, cn, cv, tx⟩ := e
  unfold evC at *
  simp only at cr ⊢
  clear h0 hbd
  generalize pt p 0 = w at *
  generalize strE p = z at *
  generalize p.length = n at *
  have hF : ¬ ((evE x.ev).length : Int) ≥ 90 := by omega
  by_cases l1 : n = 1
  · have fl : (z.length : Int) = 1 := by omega
    have f4 : ¬ (z.length : Int) = 4 := by omega
    have u := fun c => hc ⟨l1, c⟩
    clear hc ha
    refine ct_intro ttS_ok 4 rfl Tryd.func18 rfl rfl rfl ?_
    conv => arg 6; whnf
    repeat ((try conv => whnf); first | (with_reducible (refine wo_seq (fun Qs hN hE hR => ?_))) | (with_reducible (refine wi_reg ?_)) | (with_reducible (refine wo_block (fun Qb kN kE kX kR => ?_))) | (with_reducible (refine wi_regd ?_)) | (with_reducible (refine wi_skip ?_)) | (with_reducible (refine wi_ret ?_)) | (with_reducible (refine wi_exit ?_)) | (with_reducible (refine wi_loop ?_)) | (with_reducible (show W _ _ _ (.cond _ _ _) _ _); refine wi_cond rfl ?_) | (with_reducible (refine hN _ ?_); (try clear hN hE hR Qs)) | (with_reducible (refine hE _ _ ?_); (try clear hN hE hR Qs)) | (with_reducible (refine hR _ ?_); (try clear hN hE hR Qs)) | (with_reducible (refine kN _ ?_); (try clear kN kE kX kR Qb)) | (with_reducible (refine kE _ ?_); (try clear kN kE kX kR Qb)) | (with_reducible (refine kX _ _ rfl ?_); (try clear kN kE kX kR Qb)) | (with_reducible (refine kR _ ?_); (try clear kN kE kX kR Qb)) | (refine cb_dt fl ?_) | (refine cb_df f4 ?_) | (refine cb_df u ?_) | (refine i_at g0 ?_) | (refine And.intro (by kernel_rfl) ?_) | (refine ccA ([]) (cr) ?_) | (refine cb_df hF ?_) | (refine And.intro (by simp only [List.length_append, List.length_set, List.length_replicate]; omega) ?_) | (refine stpQ ?_))
    (refine ans_auto (by rfl) ?_ ?_ (by rfl)) <;> (repeat' (first | (exact eqA) | (refine And.intro ?_ ?_) | ((fail_if_success (with_reducible (show _ = _))); (show _ = _)))) <;> rfl
  by_cases l4 : n = 4
  · have fl : (z.length : Int) = 4 := by omega
    have f1 : ¬ (z.length : Int) = 1 := by omega
    have u := fun c => ha ⟨l4, c⟩
    clear hc ha
    refine ct_intro ttS_ok 4 rfl Tryd.func18 rfl rfl rfl ?_
    conv => arg 6; whnf
    repeat ((try conv => whnf); first | (with_reducible (refine wo_seq (fun Qs hN hE hR => ?_))) | (with_reducible (refine wi_reg ?_)) | (with_reducible (refine wo_block (fun Qb kN kE kX kR => ?_))) | (with_reducible (refine wi_regd ?_)) | (with_reducible (refine wi_skip ?_)) | (with_reducible (refine wi_ret ?_)) | (with_reducible (refine wi_exit ?_)) | (with_reducible (refine wi_loop ?_)) | (with_reducible (show W _ _ _ (.cond _ _ _) _ _); refine wi_cond rfl ?_) | (with_reducible (refine hN _ ?_); (try clear hN hE hR Qs)) | (with_reducible (refine hE _ _ ?_); (try clear hN hE hR Qs)) | (with_reducible (refine hR _ ?_); (try clear hN hE hR Qs)) | (with_reducible (refine kN _ ?_); (try clear kN kE kX kR Qb)) | (with_reducible (refine kE _ ?_); (try clear kN kE kX kR Qb)) | (with_reducible (refine kX _ _ rfl ?_); (try clear kN kE kX kR Qb)) | (with_reducible (refine kR _ ?_); (try clear kN kE kX kR Qb)) | (refine cb_dt fl ?_) | (refine cb_df f1 ?_) | (refine cb_df u ?_) | (refine i_at g0 ?_) | (refine And.intro (by kernel_rfl) ?_) | (refine ccA ([]) (cr) ?_) | (refine cb_df hF ?_) | (refine And.intro (by simp only [List.length_append, List.length_set, List.length_replicate]; omega) ?_) | (refine stpQ ?_))
    (refine ans_auto (by rfl) ?_ ?_ (by rfl)) <;> (repeat' (first | (exact eqA) | (refine And.intro ?_ ?_) | ((fail_if_success (with_reducible (show _ = _))); (show _ = _)))) <;> rfl
  · have f4 : ¬ (z.length : Int) = 4 := by omega
    have f1 : ¬ (z.length : Int) = 1 := by omega
    clear hc ha
    refine ct_intro ttS_ok 4 rfl Tryd.func18 rfl rfl rfl ?_
    conv => arg 6; whnf
    repeat ((try conv => whnf); first | (with_reducible (refine wo_seq (fun Qs hN hE hR => ?_))) | (with_reducible (refine wi_reg ?_)) | (with_reducible (refine wo_block (fun Qb kN kE kX kR => ?_))) | (with_reducible (refine wi_regd ?_)) | (with_reducible (refine wi_skip ?_)) | (with_reducible (refine wi_ret ?_)) | (with_reducible (refine wi_exit ?_)) | (with_reducible (refine wi_loop ?_)) | (with_reducible (show W _ _ _ (.cond _ _ _) _ _); refine wi_cond rfl ?_) | (with_reducible (refine hN _ ?_); (try clear hN hE hR Qs)) | (with_reducible (refine hE _ _ ?_); (try clear hN hE hR Qs)) | (with_reducible (refine hR _ ?_); (try clear hN hE hR Qs)) | (with_reducible (refine kN _ ?_); (try clear kN kE kX kR Qb)) | (with_reducible (refine kE _ ?_); (try clear kN kE kX kR Qb)) | (with_reducible (refine kX _ _ rfl ?_); (try clear kN kE kX kR Qb)) | (with_reducible (refine kR _ ?_); (try clear kN kE kX kR Qb)) | (refine cb_df f1 ?_) | (refine cb_df f4 ?_) | (refine i_at g0 ?_) | (refine And.intro (by kernel_rfl) ?_) | (refine ccA ([]) (cr) ?_) | (refine cb_df hF ?_) | (refine And.intro (by simp only [List.length_append, List.length_set, List.length_replicate]; omega) ?_) | (refine stpQ ?_))
    (refine ans_auto (by rfl) ?_ ?_ (by rfl)) <;> (repeat' (first | (exact eqA) | (refine And.intro ?_ ?_) | ((fail_if_success (with_reducible (show _ = _))); (show _ = _)))) <;> rfl
end
end Go.Proofs.YtkgfidphcpklhaaDoor
