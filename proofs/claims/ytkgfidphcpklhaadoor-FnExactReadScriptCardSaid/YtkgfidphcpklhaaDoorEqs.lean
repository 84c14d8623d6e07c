/- Functions by content: scripts compared, marked, and looked at again by the law. -/
import Derived.Test.YtkgfidphcpklhaaDoorPlE
import Derived.Test.YtkgfidphcpklhaaDoorVQ
namespace Go.Proofs.YtkgfidphcpklhaaDoor
open Go.RowKit Pl
set_option linter.unusedVariables false
set_option linter.unusedSimpArgs false

theorem ccO {P : Program} {f : FuncId} {xs ts : List T} {H : Hp} {id : Nat} {K : List Nat → Kon} {He He' : List Ent} {r : T} (σ : List Nat) (hc : CT P f He ts r He') (ho : own2 r ∧ ∀ e ∈ He', ownE e)
    (hk : K σ (ren2 (rho σ id) r) (callU (rho σ id) He' 1)) (h1 : AM σ H xs ts := by ((repeat' (first | (exact trivial) | (exact rfl) | (decide) | (refine And.intro ?_ ?_))); first | done | fail)) (h2 : HM σ H He.length σ He := by ((repeat' (first | (exact trivial) | (exact rfl) | (decide) | (refine And.intro ?_ ?_))); first | done | fail)) (h3 : σ.Nodup ∧ 0 ∉ σ := by decide)
    (h4 : (Nat.ble He.length He'.length && Nat.ble He'.length (He.length + 16) && scope2 He'.length r && He'.all (scopeE He'.length)) = true := by rfl) : CallP P f xs H id K :=
  c_call σ hc h1 h2 h3 h4 (.inr ho) hk
theorem own_evS (l : List Evt) : ownE (.row 10 (evE l)) := by
  intro e he c hc
  simp only [evE, List.mem_map] at he
  obtain ⟨x, _, rfl⟩ := he
  simp only [evC, List.mem_cons, List.not_mem_nil, or_false] at hc
  rcases hc with rfl | rfl | rfl | rfl | rfl | rfl | rfl | rfl | rfl | rfl <;> trivial
theorem own_akS (l : List (Int × Bs × Int)) : ownE (.row 3 (akE l)) := by
  intro e he c hc
  simp only [akE, List.mem_map] at he
  obtain ⟨x, _, rfl⟩ := he
  simp only [akC, List.mem_cons, List.not_mem_nil, or_false] at hc
  rcases hc with rfl | rfl | rfl <;> trivial
/-- What a marked event, a marked question holds. -/
def mkE (n : Nat) : Evt := { k := (n : Int), h := ((n + 1 : Nat) : Int), a := ((n + 1 + 1 : Nat) : Int), mk := ((n + 1 + 1 + 1 : Nat) : Int), mn := ((n + 1 + 1 + 1 + 1 : Nat) : Int), ma := ((n + 1 + 1 + 1 + 1 + 1 : Nat) : Int), ci := ((n + 1 + 1 + 1 + 1 + 1 + 1 : Nat) : Int), cn := markText (n + 1 + 1 + 1 + 1 + 1 + 1 + 1), cv := markText (n + 1 + 1 + 1 + 1 + 1 + 1 + 1 + 1), tx := markText (n + 1 + 1 + 1 + 1 + 1 + 1 + 1 + 1 + 1) }
def mkA (n : Nat) : Int × Bs × Int := ((n : Int), markText (n + 1), ((n + 1 + 1 : Nat) : Int))
def mkEs (k n : Nat) : List Evt := (List.range n).map fun i => mkE (k + 10 * i)
def mkAs (k n : Nat) : List (Int × Bs × Int) := (List.range n).map fun i => mkA (k + 3 * i)
theorem mkEs_len (k n : Nat) : (mkEs k n).length = n := by simp [mkEs]
theorem mkAs_len (k n : Nat) : (mkAs k n).length = n := by simp [mkAs]
theorem mkEs_at {k n i : Nat} (h : i < n) : (evE (mkEs k n))[i]? = some (evC (mkE (k + 10 * i))) := by simp [evE, mkEs, h]
theorem mkAs_at {k n i : Nat} (h : i < n) : (akE (mkAs k n))[i]? = some (akC (mkA (k + 3 * i))) := by simp [akE, mkAs, h]
theorem set_mid {α : Type} (a : List α) (l : List α) (i : Nat) (x : α) (ha : a.length = i) (h : i < l.length) : (a ++ l.drop i).set i x = (a ++ [x]) ++ l.drop (i + 1) := by
  rw [List.set_append_right _ _ (by omega), ha, Nat.sub_self, List.drop_eq_getElem_cons h, List.set_cons_zero, List.append_assoc]
  rfl
theorem at_mid {α : Type} (a : List α) (l : List α) (i : Nat) (ha : a.length = i) (h : i < l.length) : (a ++ l.drop i)[i]? = some l[i] := by
  rw [List.getElem?_append_right (by omega), ha, Nat.sub_self, List.drop_eq_getElem_cons h]
  simp
def rwE (k : Nat) (l : List Evt) (i : Nat) : List (List T) := evE (mkEs k i) ++ (evE l).drop i
def rwA (k : Nat) (l : List (Int × Bs × Int)) (i : Nat) : List (List T) := akE (mkAs k i) ++ (akE l).drop i
theorem rwE_next {k : Nat} {l : List Evt} {i : Nat} (h : i < l.length) : (rwE k l i).set i (evC (mkE (k + 10 * i))) = rwE k l (i + 1) := by
  rw [rwE, set_mid _ _ _ _ (by rw [ev_len, mkEs_len]) (by rw [ev_len]; exact h), rwE]
  congr 1
  simp [evE, mkEs, List.range_succ]
theorem rwA_next {k : Nat} {l : List (Int × Bs × Int)} {i : Nat} (h : i < l.length) : (rwA k l i).set i (akC (mkA (k + 3 * i))) = rwA k l (i + 1) := by
  rw [rwA, set_mid _ _ _ _ (by rw [ak_len, mkAs_len]) (by rw [ak_len]; exact h), rwA]
  congr 1
  simp [akE, mkAs, List.range_succ]
theorem rwE_at {k : Nat} {l : List Evt} {i : Nat} (h : i < l.length) : ∃ e : Evt, (rwE k l i)[i]? = some (evC e) :=
  ⟨l[i], by rw [rwE, at_mid _ _ _ (by rw [ev_len, mkEs_len]) (by rw [ev_len]; exact h)]; simp [evE]⟩
theorem rwA_at {k : Nat} {l : List (Int × Bs × Int)} {i : Nat} (h : i < l.length) : ∃ e, (rwA k l i)[i]? = some (akC e) :=
  ⟨l[i], by rw [rwA, at_mid _ _ _ (by rw [ak_len, mkAs_len]) (by rw [ak_len]; exact h)]; simp [akE]⟩
theorem rwE_len {k : Nat} {l : List Evt} {i : Nat} (h : i ≤ l.length) : (rwE k l i).length = l.length := by rw [rwE, List.length_append, List.length_drop, ev_len, ev_len, mkEs_len]; omega
theorem rwA_len {k : Nat} {l : List (Int × Bs × Int)} {i : Nat} (h : i ≤ l.length) : (rwA k l i).length = l.length := by rw [rwA, List.length_append, List.length_drop, ak_len, ak_len, mkAs_len]; omega
theorem rwE_zero (k : Nat) (l : List Evt) : rwE k l 0 = evE l := rfl
theorem rwA_zero (k : Nat) (l : List (Int × Bs × Int)) : rwA k l 0 = akE l := rfl
theorem rwE_end (k : Nat) (l : List Evt) : rwE k l l.length = evE (mkEs k l.length) := by rw [rwE, List.drop_of_length_le (by rw [ev_len]; exact Nat.le_refl _), List.append_nil]
theorem rwA_end (k : Nat) (l : List (Int × Bs × Int)) : rwA k l l.length = akE (mkAs k l.length) := by rw [rwA, List.drop_of_length_le (by rw [ak_len]; exact Nat.le_refl _), List.append_nil]
section
attribute [local irreducible] CondB CallP LoopW AnsP LeP W
set_option maxRecDepth 100000 in
set_option maxHeartbeats 2000000 in
theorem c_markTextS (n : Nat) (hn : 0 < n) (hb : (n : Int) ≤ 1000000000) : CT Tryd.prog 46 [] [.int .i64 (n : Int)] (.str (markText n)) [] := by
  have f0 : ¬ (n : Int) ≤ 0 := by omega
  have hm : markText n = [109] ++ decG n [] := by rw [markText, if_neg (by omega)]; rfl
  rw [hm]
  clear hm
  refine ct_intro ttS_ok 1 rfl Tryd.func46 rfl rfl rfl ?_
  conv => arg 6; whnf
  repeat ((try conv => whnf); first | (with_reducible (refine wo_seq (fun Qs hN hE hR => ?_))) | (with_reducible (refine wi_reg ?_)) | (with_reducible (refine wo_block (fun Qb kN kE kX kR => ?_))) | (with_reducible (refine wi_regd ?_)) | (with_reducible (refine wi_skip ?_)) | (with_reducible (refine wi_ret ?_)) | (with_reducible (refine wi_exit ?_)) | (with_reducible (refine wi_loop ?_)) | (with_reducible (show W _ _ _ (.cond _ _ _) _ _); refine wi_cond rfl ?_) | (with_reducible (refine hN _ ?_); (try clear hN hE hR Qs)) | (with_reducible (refine hE _ _ ?_); (try clear hN hE hR Qs)) | (with_reducible (refine hR _ ?_); (try clear hN hE hR Qs)) | (with_reducible (refine kN _ ?_); (try clear kN kE kX kR Qb)) | (with_reducible (refine kE _ ?_); (try clear kN kE kX kR Qb)) | (with_reducible (refine kX _ _ rfl ?_); (try clear kN kE kX kR Qb)) | (with_reducible (refine kR _ ?_); (try clear kN kE kX kR Qb)) | (refine cb_df f0 ?_) | (refine stpQ ?_))
  refine loop_cut 0 ⟨[(3, .str (decG n []))], [], 2⟩ (Nat × Bs) (fun x => ⟨[(0, .int .i64 (x.1 : Int)), (3, .str x.2)], [], 2⟩) (fun x => decG x.1 x.2 = decG n [] ∧ (x.2.length : Int) + x.1 ≤ 1000000000) (fun x => x.1) (n, []) ⟨rfl, by simp; omega⟩ ?_ ?_ ?_
  · (refine le_auto (by rfl) ?_ ?_) <;> (repeat' (first | (exact eqA) | (refine And.intro ?_ ?_) | ((fail_if_success (with_reducible (show _ = _))); (show _ = _)))) <;> first | rfl | decide
  · intro x hx
    obtain ⟨m, out⟩ := x
    have h1 : decG m out = decG n [] := hx.1
    have h2 : (out.length : Int) + m ≤ 1000000000 := hx.2
    clear hx
    by_cases hm : m = 0
    · subst hm
      rw [decG_zero] at h1
      repeat ((try conv => whnf); first | (with_reducible (refine wo_seq (fun Qs hN hE hR => ?_))) | (with_reducible (refine wi_reg ?_)) | (with_reducible (refine wo_block (fun Qb kN kE kX kR => ?_))) | (with_reducible (refine wi_regd ?_)) | (with_reducible (refine wi_skip ?_)) | (with_reducible (refine wi_ret ?_)) | (with_reducible (refine wi_exit ?_)) | (with_reducible (refine wi_loop ?_)) | (with_reducible (show W _ _ _ (.cond _ _ _) _ _); refine wi_cond rfl ?_) | (with_reducible (refine hN _ ?_); (try clear hN hE hR Qs)) | (with_reducible (refine hE _ _ ?_); (try clear hN hE hR Qs)) | (with_reducible (refine hR _ ?_); (try clear hN hE hR Qs)) | (with_reducible (refine kN _ ?_); (try clear kN kE kX kR Qb)) | (with_reducible (refine kE _ ?_); (try clear kN kE kX kR Qb)) | (with_reducible (refine kX _ _ rfl ?_); (try clear kN kE kX kR Qb)) | (with_reducible (refine kR _ ?_); (try clear kN kE kX kR Qb)) | (refine stpQ ?_))
      (refine le_auto (by rfl) ?_ ?_) <;> (repeat' (first | (exact eqA) | (refine And.intro ?_ ?_) | ((fail_if_success (with_reducible (show _ = _))); (show _ = _)))) <;> exact h1
    · have hd : m / 10 < m := Nat.div_lt_self (by omega) (by omega)
      have fm : (m : Int) > 0 := by omega
      repeat ((try conv => whnf); first | (with_reducible (refine wo_seq (fun Qs hN hE hR => ?_))) | (with_reducible (refine wi_reg ?_)) | (with_reducible (refine wo_block (fun Qb kN kE kX kR => ?_))) | (with_reducible (refine wi_regd ?_)) | (with_reducible (refine wi_skip ?_)) | (with_reducible (refine wi_ret ?_)) | (with_reducible (refine wi_exit ?_)) | (with_reducible (refine wi_loop ?_)) | (with_reducible (show W _ _ _ (.cond _ _ _) _ _); refine wi_cond rfl ?_) | (with_reducible (refine hN _ ?_); (try clear hN hE hR Qs)) | (with_reducible (refine hE _ _ ?_); (try clear hN hE hR Qs)) | (with_reducible (refine hR _ ?_); (try clear hN hE hR Qs)) | (with_reducible (refine kN _ ?_); (try clear kN kE kX kR Qb)) | (with_reducible (refine kE _ ?_); (try clear kN kE kX kR Qb)) | (with_reducible (refine kX _ _ rfl ?_); (try clear kN kE kX kR Qb)) | (with_reducible (refine kR _ ?_); (try clear kN kE kX kR Qb)) | (refine cb_dt fm ?_) | (refine r_remn (n := nat_lit 10) ?_) | (refine w_addl (by omega) ?_) | (refine w_u8 ?_) | (refine w_quon (n := nat_lit 10) (by omega) ?_) | (refine Exists.intro [UInt8.ofNat (48 + m % 10)] (And.intro rfl ?_)) | (refine And.intro (by simp only [List.length_cons, List.length_nil]; omega) ?_) | (refine stpQ ?_))
      refine ⟨(m / 10, UInt8.ofNat (48 + m % 10) :: out), ⟨by show decG (m / 10) _ = _; rw [← h1, decG_step hm], ?_⟩, hd, ?_⟩
      · show (((UInt8.ofNat (48 + m % 10) :: out).length : Nat) : Int) + ((m / 10 : Nat) : Int) ≤ 1000000000
        rw [List.length_cons]; omega
      · (refine le_auto (by rfl) ?_ ?_) <;> (repeat' (first | (exact eqA) | (refine And.intro ?_ ?_) | ((fail_if_success (with_reducible (show _ = _))); (show _ = _)))) <;> rfl
  · have hle : ((decG n []).length : Int) ≤ 1000000 := by
      have := cntB_len (n : Int) (by omega)
      rw [cntB, Int.toNat_natCast, decM, if_neg (by omega)] at this
      omega
    generalize decG n [] = o at *
    repeat ((try conv => whnf); first | (with_reducible (refine wo_seq (fun Qs hN hE hR => ?_))) | (with_reducible (refine wi_reg ?_)) | (with_reducible (refine wo_block (fun Qb kN kE kX kR => ?_))) | (with_reducible (refine wi_regd ?_)) | (with_reducible (refine wi_skip ?_)) | (with_reducible (refine wi_ret ?_)) | (with_reducible (refine wi_exit ?_)) | (with_reducible (refine wi_loop ?_)) | (with_reducible (show W _ _ _ (.cond _ _ _) _ _); refine wi_cond rfl ?_) | (with_reducible (refine hN _ ?_); (try clear hN hE hR Qs)) | (with_reducible (refine hE _ _ ?_); (try clear hN hE hR Qs)) | (with_reducible (refine hR _ ?_); (try clear hN hE hR Qs)) | (with_reducible (refine kN _ ?_); (try clear kN kE kX kR Qb)) | (with_reducible (refine kE _ ?_); (try clear kN kE kX kR Qb)) | (with_reducible (refine kX _ _ rfl ?_); (try clear kN kE kX kR Qb)) | (with_reducible (refine kR _ ?_); (try clear kN kE kX kR Qb)) | (refine And.intro (by simp only [List.length_cons, List.length_nil]; omega) ?_) | (refine stpQ ?_))
    (refine ans_auto (by rfl) ?_ ?_ (by rfl)) <;> (repeat' (first | (exact eqA) | (refine And.intro ?_ ?_) | ((fail_if_success (with_reducible (show _ = _))); (show _ = _))))
set_option maxRecDepth 100000 in
set_option maxHeartbeats 2000000 in
theorem c_eqChangeS (a : Int) (s t : Bs) : CT Tryd.prog 74 [] [.agg [.int .i64 a, .str s, .str t], .agg [.int .i64 a, .str s, .str t]] (.bool true) [] := by
  have f0 : a = a := rfl
  have f1 : s = s := rfl
  have f2 : t = t := rfl
  refine ct_intro ttS_ok 1 rfl Tryd.func74 rfl rfl rfl ?_
  conv => arg 6; whnf
  repeat ((try conv => whnf); first | (with_reducible (refine wo_seq (fun Qs hN hE hR => ?_))) | (with_reducible (refine wi_reg ?_)) | (with_reducible (refine wo_block (fun Qb kN kE kX kR => ?_))) | (with_reducible (refine wi_regd ?_)) | (with_reducible (refine wi_skip ?_)) | (with_reducible (refine wi_ret ?_)) | (with_reducible (refine wi_exit ?_)) | (with_reducible (refine wi_loop ?_)) | (with_reducible (show W _ _ _ (.cond _ _ _) _ _); refine wi_cond rfl ?_) | (with_reducible (refine hN _ ?_); (try clear hN hE hR Qs)) | (with_reducible (refine hE _ _ ?_); (try clear hN hE hR Qs)) | (with_reducible (refine hR _ ?_); (try clear hN hE hR Qs)) | (with_reducible (refine kN _ ?_); (try clear kN kE kX kR Qb)) | (with_reducible (refine kE _ ?_); (try clear kN kE kX kR Qb)) | (with_reducible (refine kX _ _ rfl ?_); (try clear kN kE kX kR Qb)) | (with_reducible (refine kR _ ?_); (try clear kN kE kX kR Qb)) | (refine cb_nf f0 ?_) | (refine cb_nf f1 ?_) | (refine cb_nf f2 ?_) | (refine stpQ ?_))
  (refine ans_auto (by rfl) ?_ ?_ (by rfl)) <;> (repeat' (first | (exact eqA) | (refine And.intro ?_ ?_) | ((fail_if_success (with_reducible (show _ = _))); (show _ = _))))
set_option maxRecDepth 100000 in
set_option maxHeartbeats 2000000 in
theorem c_eqMoveS (a b c d : Int) (s t : Bs) : CT Tryd.prog 60 [] [.agg [.int .i64 a, .int .i64 b, .int .i64 c, .int .i64 d, .str s, .str t], .agg [.int .i64 a, .int .i64 b, .int .i64 c, .int .i64 d, .str s, .str t]] (.bool true) [] := by
  have f0 : a = a := rfl
  have f1 : b = b := rfl
  have f2 : c = c := rfl
  have c1 := c_eqChangeS d s t
  refine ct_intro ttS_ok 1 rfl Tryd.func60 rfl rfl rfl ?_
  conv => arg 6; whnf
  repeat ((try conv => whnf); first | (with_reducible (refine wo_seq (fun Qs hN hE hR => ?_))) | (with_reducible (refine wi_reg ?_)) | (with_reducible (refine wo_block (fun Qb kN kE kX kR => ?_))) | (with_reducible (refine wi_regd ?_)) | (with_reducible (refine wi_skip ?_)) | (with_reducible (refine wi_ret ?_)) | (with_reducible (refine wi_exit ?_)) | (with_reducible (refine wi_loop ?_)) | (with_reducible (show W _ _ _ (.cond _ _ _) _ _); refine wi_cond rfl ?_) | (with_reducible (refine hN _ ?_); (try clear hN hE hR Qs)) | (with_reducible (refine hE _ _ ?_); (try clear hN hE hR Qs)) | (with_reducible (refine hR _ ?_); (try clear hN hE hR Qs)) | (with_reducible (refine kN _ ?_); (try clear kN kE kX kR Qb)) | (with_reducible (refine kE _ ?_); (try clear kN kE kX kR Qb)) | (with_reducible (refine kX _ _ rfl ?_); (try clear kN kE kX kR Qb)) | (with_reducible (refine kR _ ?_); (try clear kN kE kX kR Qb)) | (refine cb_nf f0 ?_) | (refine cb_nf f1 ?_) | (refine cb_nf f2 ?_) | (refine ccA ([]) (c1) ?_) | (refine stpQ ?_))
  (refine ans_auto (by rfl) ?_ ?_ (by rfl)) <;> (repeat' (first | (exact eqA) | (refine And.intro ?_ ?_) | ((fail_if_success (with_reducible (show _ = _))); (show _ = _))))
set_option maxRecDepth 100000 in
set_option maxHeartbeats 2000000 in
theorem c_eqEvent (e : Evt) : CT Tryd.prog 44 [] [.agg (evC e), .agg (evC e)] (.bool true) [] := by
  obtain ⟨k, h, a, mk, mn, ma, ci, cn, cv, tx⟩ := e
  unfold evC
  simp only
  have f0 : k = k := rfl
  have f1 : h = h := rfl
  have f2 : a = a := rfl
  have f3 : tx = tx := rfl
  have c1 := c_eqMoveS mk mn ma ci cn cv
  refine ct_intro ttS_ok 1 rfl Tryd.func44 rfl rfl rfl ?_
  conv => arg 6; whnf
  repeat ((try conv => whnf); first | (with_reducible (refine wo_seq (fun Qs hN hE hR => ?_))) | (with_reducible (refine wi_reg ?_)) | (with_reducible (refine wo_block (fun Qb kN kE kX kR => ?_))) | (with_reducible (refine wi_regd ?_)) | (with_reducible (refine wi_skip ?_)) | (with_reducible (refine wi_ret ?_)) | (with_reducible (refine wi_exit ?_)) | (with_reducible (refine wi_loop ?_)) | (with_reducible (show W _ _ _ (.cond _ _ _) _ _); refine wi_cond rfl ?_) | (with_reducible (refine hN _ ?_); (try clear hN hE hR Qs)) | (with_reducible (refine hE _ _ ?_); (try clear hN hE hR Qs)) | (with_reducible (refine hR _ ?_); (try clear hN hE hR Qs)) | (with_reducible (refine kN _ ?_); (try clear kN kE kX kR Qb)) | (with_reducible (refine kE _ ?_); (try clear kN kE kX kR Qb)) | (with_reducible (refine kX _ _ rfl ?_); (try clear kN kE kX kR Qb)) | (with_reducible (refine kR _ ?_); (try clear kN kE kX kR Qb)) | (refine cb_nf f0 ?_) | (refine cb_nf f1 ?_) | (refine cb_nf f2 ?_) | (refine cb_nf f3 ?_) | (refine ccA ([]) (c1) ?_) | (refine stpQ ?_))
  (refine ans_auto (by rfl) ?_ ?_ (by rfl)) <;> (repeat' (first | (exact eqA) | (refine And.intro ?_ ?_) | ((fail_if_success (with_reducible (show _ = _))); (show _ = _))))
set_option maxRecDepth 100000 in
set_option maxHeartbeats 2000000 in
theorem c_eqAsk (e : Int × Bs × Int) : CT Tryd.prog 45 [] [.agg (akC e), .agg (akC e)] (.bool true) [] := by
  obtain ⟨a, s, b⟩ := e
  unfold akC
  simp only
  have f0 : a = a := rfl
  have f1 : s = s := rfl
  have f2 : b = b := rfl
  refine ct_intro ttS_ok 1 rfl Tryd.func45 rfl rfl rfl ?_
  conv => arg 6; whnf
  repeat ((try conv => whnf); first | (with_reducible (refine wo_seq (fun Qs hN hE hR => ?_))) | (with_reducible (refine wi_reg ?_)) | (with_reducible (refine wo_block (fun Qb kN kE kX kR => ?_))) | (with_reducible (refine wi_regd ?_)) | (with_reducible (refine wi_skip ?_)) | (with_reducible (refine wi_ret ?_)) | (with_reducible (refine wi_exit ?_)) | (with_reducible (refine wi_loop ?_)) | (with_reducible (show W _ _ _ (.cond _ _ _) _ _); refine wi_cond rfl ?_) | (with_reducible (refine hN _ ?_); (try clear hN hE hR Qs)) | (with_reducible (refine hE _ _ ?_); (try clear hN hE hR Qs)) | (with_reducible (refine hR _ ?_); (try clear hN hE hR Qs)) | (with_reducible (refine kN _ ?_); (try clear kN kE kX kR Qb)) | (with_reducible (refine kE _ ?_); (try clear kN kE kX kR Qb)) | (with_reducible (refine kX _ _ rfl ?_); (try clear kN kE kX kR Qb)) | (with_reducible (refine kR _ ?_); (try clear kN kE kX kR Qb)) | (refine cb_nf f0 ?_) | (refine cb_nf f1 ?_) | (refine cb_nf f2 ?_) | (refine stpQ ?_))
  (refine ans_auto (by rfl) ?_ ?_ (by rfl)) <;> (repeat' (first | (exact eqA) | (refine And.intro ?_ ?_) | ((fail_if_success (with_reducible (show _ = _))); (show _ = _))))
set_option maxRecDepth 100000 in
set_option maxHeartbeats 2000000 in
theorem c_eqEventS (l : List Evt) (hl : l.length ≤ 1000) : CT Tryd.prog 22 [.row 10 (evE l), .row 10 (evE l)] [.ref 1, .ref 2] (.bool true) [.row 10 (evE l), .row 10 (evE l)] := by
  have hcl := ev_len l
  have f0 : ((evE l).length : Int) = ((evE l).length : Int) := rfl
  refine ct_intro ttS_ok 3 rfl Tryd.func22 rfl rfl rfl ?_
  conv => arg 6; whnf
  repeat ((try conv => whnf); first | (with_reducible (refine wo_seq (fun Qs hN hE hR => ?_))) | (with_reducible (refine wi_reg ?_)) | (with_reducible (refine wo_block (fun Qb kN kE kX kR => ?_))) | (with_reducible (refine wi_regd ?_)) | (with_reducible (refine wi_skip ?_)) | (with_reducible (refine wi_ret ?_)) | (with_reducible (refine wi_exit ?_)) | (with_reducible (refine wi_loop ?_)) | (with_reducible (show W _ _ _ (.cond _ _ _) _ _); refine wi_cond rfl ?_) | (with_reducible (refine hN _ ?_); (try clear hN hE hR Qs)) | (with_reducible (refine hE _ _ ?_); (try clear hN hE hR Qs)) | (with_reducible (refine hR _ ?_); (try clear hN hE hR Qs)) | (with_reducible (refine kN _ ?_); (try clear kN kE kX kR Qb)) | (with_reducible (refine kE _ ?_); (try clear kN kE kX kR Qb)) | (with_reducible (refine kX _ _ rfl ?_); (try clear kN kE kX kR Qb)) | (with_reducible (refine kR _ ?_); (try clear kN kE kX kR Qb)) | (refine cb_nf f0 ?_) | (refine stpQ ?_))
  refine loop_op Nat (fun i => ⟨[(0, .ref 1), (1, .ref 2), (5, .int .i64 (i : Int))], [(1, some (.row 10 (evE l))), (2, some (.row 10 (evE l)))], 3⟩) (fun i => i ≤ l.length) (fun i => l.length - i) 0 (by omega) ?_ ?_
  · (refine le_auto (by rfl) ?_ ?_) <;> (repeat' (first | (exact eqA) | (refine And.intro ?_ ?_) | ((fail_if_success (with_reducible (show _ = _))); (show _ = _)))) <;> first | rfl | decide
  · intro Q1 hQ1 i hi
    by_cases hlt : i < l.length
    · have f1 : (i : Int) < ((evE l).length : Int) := by omega
      have i1 : i < (evE l).length := by omega
      have g : (evE l)[i]? = some (evC l[i]) := by rw [evE, List.getElem?_map, List.getElem?_eq_getElem hlt]; rfl
      have c1 := c_eqEvent l[i]
      generalize l[i] = e at *
      obtain ⟨k, h, a, mk, mn, ma, ci, cn, cv, tx⟩ := e
      unfold evC at *
      simp only at g c1
      repeat ((try conv => whnf); first | (with_reducible (refine wo_seq (fun Qs hN hE hR => ?_))) | (with_reducible (refine wi_reg ?_)) | (with_reducible (refine wo_block (fun Qb kN kE kX kR => ?_))) | (with_reducible (refine wi_regd ?_)) | (with_reducible (refine wi_skip ?_)) | (with_reducible (refine wi_ret ?_)) | (with_reducible (refine wi_exit ?_)) | (with_reducible (refine wi_loop ?_)) | (with_reducible (show W _ _ _ (.cond _ _ _) _ _); refine wi_cond rfl ?_) | (with_reducible (refine hN _ ?_); (try clear hN hE hR Qs)) | (with_reducible (refine hE _ _ ?_); (try clear hN hE hR Qs)) | (with_reducible (refine hR _ ?_); (try clear hN hE hR Qs)) | (with_reducible (refine kN _ ?_); (try clear kN kE kX kR Qb)) | (with_reducible (refine kE _ ?_); (try clear kN kE kX kR Qb)) | (with_reducible (refine kX _ _ rfl ?_); (try clear kN kE kX kR Qb)) | (with_reducible (refine kR _ ?_); (try clear kN kE kX kR Qb)) | (refine cb_dt f1 ?_) | (refine And.intro i1 ?_) | (refine Exists.intro _ (And.intro g ?_)) | (refine And.intro (by kernel_rfl) ?_) | (refine ccA ([]) (c1) ?_) | (refine stpQ ?_))
      refine ⟨i + 1, by omega, by omega, ?_⟩
      (refine le_auto (by rfl) ?_ ?_) <;> (repeat' (first | (exact eqA) | (refine And.intro ?_ ?_) | ((fail_if_success (with_reducible (show _ = _))); (show _ = _))))
    · have f1 : ¬ (i : Int) < ((evE l).length : Int) := by omega
      repeat ((try conv => whnf); first | (with_reducible (refine wo_seq (fun Qs hN hE hR => ?_))) | (with_reducible (refine wi_reg ?_)) | (with_reducible (refine wo_block (fun Qb kN kE kX kR => ?_))) | (with_reducible (refine wi_regd ?_)) | (with_reducible (refine wi_skip ?_)) | (with_reducible (refine wi_ret ?_)) | (with_reducible (refine wi_exit ?_)) | (with_reducible (refine wi_loop ?_)) | (with_reducible (show W _ _ _ (.cond _ _ _) _ _); refine wi_cond rfl ?_) | (with_reducible (refine hN _ ?_); (try clear hN hE hR Qs)) | (with_reducible (refine hE _ _ ?_); (try clear hN hE hR Qs)) | (with_reducible (refine hR _ ?_); (try clear hN hE hR Qs)) | (with_reducible (refine kN _ ?_); (try clear kN kE kX kR Qb)) | (with_reducible (refine kE _ ?_); (try clear kN kE kX kR Qb)) | (with_reducible (refine kX _ _ rfl ?_); (try clear kN kE kX kR Qb)) | (with_reducible (refine kR _ ?_); (try clear kN kE kX kR Qb)) | (refine cb_df f1 ?_) | (refine stpQ ?_))
      refine hQ1 _ _ ?_
      clear hQ1 Q1
      repeat ((try conv => whnf); first | (with_reducible (refine wo_seq (fun Qs hN hE hR => ?_))) | (with_reducible (refine wi_reg ?_)) | (with_reducible (refine wo_block (fun Qb kN kE kX kR => ?_))) | (with_reducible (refine wi_regd ?_)) | (with_reducible (refine wi_skip ?_)) | (with_reducible (refine wi_ret ?_)) | (with_reducible (refine wi_exit ?_)) | (with_reducible (refine wi_loop ?_)) | (with_reducible (show W _ _ _ (.cond _ _ _) _ _); refine wi_cond rfl ?_) | (with_reducible (refine hN _ ?_); (try clear hN hE hR Qs)) | (with_reducible (refine hE _ _ ?_); (try clear hN hE hR Qs)) | (with_reducible (refine hR _ ?_); (try clear hN hE hR Qs)) | (with_reducible (refine kN _ ?_); (try clear kN kE kX kR Qb)) | (with_reducible (refine kE _ ?_); (try clear kN kE kX kR Qb)) | (with_reducible (refine kX _ _ rfl ?_); (try clear kN kE kX kR Qb)) | (with_reducible (refine kR _ ?_); (try clear kN kE kX kR Qb)) | (refine stpQ ?_))
      (refine ans_auto (by rfl) ?_ ?_ (by rfl)) <;> (repeat' (first | (exact eqA) | (refine And.intro ?_ ?_) | ((fail_if_success (with_reducible (show _ = _))); (show _ = _))))
set_option maxRecDepth 100000 in
set_option maxHeartbeats 2000000 in
theorem c_eqAskS (l : List (Int × Bs × Int)) (hl : l.length ≤ 1000) : CT Tryd.prog 23 [.row 3 (akE l), .row 3 (akE l)] [.ref 1, .ref 2] (.bool true) [.row 3 (akE l), .row 3 (akE l)] := by
  have hcl := ak_len l
  have f0 : ((akE l).length : Int) = ((akE l).length : Int) := rfl
  refine ct_intro ttS_ok 3 rfl Tryd.func23 rfl rfl rfl ?_
  conv => arg 6; whnf
  repeat ((try conv => whnf); first | (with_reducible (refine wo_seq (fun Qs hN hE hR => ?_))) | (with_reducible (refine wi_reg ?_)) | (with_reducible (refine wo_block (fun Qb kN kE kX kR => ?_))) | (with_reducible (refine wi_regd ?_)) | (with_reducible (refine wi_skip ?_)) | (with_reducible (refine wi_ret ?_)) | (with_reducible (refine wi_exit ?_)) | (with_reducible (refine wi_loop ?_)) | (with_reducible (show W _ _ _ (.cond _ _ _) _ _); refine wi_cond rfl ?_) | (with_reducible (refine hN _ ?_); (try clear hN hE hR Qs)) | (with_reducible (refine hE _ _ ?_); (try clear hN hE hR Qs)) | (with_reducible (refine hR _ ?_); (try clear hN hE hR Qs)) | (with_reducible (refine kN _ ?_); (try clear kN kE kX kR Qb)) | (with_reducible (refine kE _ ?_); (try clear kN kE kX kR Qb)) | (with_reducible (refine kX _ _ rfl ?_); (try clear kN kE kX kR Qb)) | (with_reducible (refine kR _ ?_); (try clear kN kE kX kR Qb)) | (refine cb_nf f0 ?_) | (refine stpQ ?_))
  refine loop_op Nat (fun i => ⟨[(0, .ref 1), (1, .ref 2), (5, .int .i64 (i : Int))], [(1, some (.row 3 (akE l))), (2, some (.row 3 (akE l)))], 3⟩) (fun i => i ≤ l.length) (fun i => l.length - i) 0 (by omega) ?_ ?_
  · (refine le_auto (by rfl) ?_ ?_) <;> (repeat' (first | (exact eqA) | (refine And.intro ?_ ?_) | ((fail_if_success (with_reducible (show _ = _))); (show _ = _)))) <;> first | rfl | decide
  · intro Q1 hQ1 i hi
    by_cases hlt : i < l.length
    · have f1 : (i : Int) < ((akE l).length : Int) := by omega
      have i1 : i < (akE l).length := by omega
      have g : (akE l)[i]? = some (akC l[i]) := by rw [akE, List.getElem?_map, List.getElem?_eq_getElem hlt]; rfl
      have c1 := c_eqAsk l[i]
      generalize l[i] = e at *
      obtain ⟨a, s, b⟩ := e
      unfold akC at *
      simp only at g c1
      repeat ((try conv => whnf); first | (with_reducible (refine wo_seq (fun Qs hN hE hR => ?_))) | (with_reducible (refine wi_reg ?_)) | (with_reducible (refine wo_block (fun Qb kN kE kX kR => ?_))) | (with_reducible (refine wi_regd ?_)) | (with_reducible (refine wi_skip ?_)) | (with_reducible (refine wi_ret ?_)) | (with_reducible (refine wi_exit ?_)) | (with_reducible (refine wi_loop ?_)) | (with_reducible (show W _ _ _ (.cond _ _ _) _ _); refine wi_cond rfl ?_) | (with_reducible (refine hN _ ?_); (try clear hN hE hR Qs)) | (with_reducible (refine hE _ _ ?_); (try clear hN hE hR Qs)) | (with_reducible (refine hR _ ?_); (try clear hN hE hR Qs)) | (with_reducible (refine kN _ ?_); (try clear kN kE kX kR Qb)) | (with_reducible (refine kE _ ?_); (try clear kN kE kX kR Qb)) | (with_reducible (refine kX _ _ rfl ?_); (try clear kN kE kX kR Qb)) | (with_reducible (refine kR _ ?_); (try clear kN kE kX kR Qb)) | (refine cb_dt f1 ?_) | (refine And.intro i1 ?_) | (refine Exists.intro _ (And.intro g ?_)) | (refine And.intro (by kernel_rfl) ?_) | (refine ccA ([]) (c1) ?_) | (refine stpQ ?_))
      refine ⟨i + 1, by omega, by omega, ?_⟩
      (refine le_auto (by rfl) ?_ ?_) <;> (repeat' (first | (exact eqA) | (refine And.intro ?_ ?_) | ((fail_if_success (with_reducible (show _ = _))); (show _ = _))))
    · have f1 : ¬ (i : Int) < ((akE l).length : Int) := by omega
      repeat ((try conv => whnf); first | (with_reducible (refine wo_seq (fun Qs hN hE hR => ?_))) | (with_reducible (refine wi_reg ?_)) | (with_reducible (refine wo_block (fun Qb kN kE kX kR => ?_))) | (with_reducible (refine wi_regd ?_)) | (with_reducible (refine wi_skip ?_)) | (with_reducible (refine wi_ret ?_)) | (with_reducible (refine wi_exit ?_)) | (with_reducible (refine wi_loop ?_)) | (with_reducible (show W _ _ _ (.cond _ _ _) _ _); refine wi_cond rfl ?_) | (with_reducible (refine hN _ ?_); (try clear hN hE hR Qs)) | (with_reducible (refine hE _ _ ?_); (try clear hN hE hR Qs)) | (with_reducible (refine hR _ ?_); (try clear hN hE hR Qs)) | (with_reducible (refine kN _ ?_); (try clear kN kE kX kR Qb)) | (with_reducible (refine kE _ ?_); (try clear kN kE kX kR Qb)) | (with_reducible (refine kX _ _ rfl ?_); (try clear kN kE kX kR Qb)) | (with_reducible (refine kR _ ?_); (try clear kN kE kX kR Qb)) | (refine cb_df f1 ?_) | (refine stpQ ?_))
      refine hQ1 _ _ ?_
      clear hQ1 Q1
      repeat ((try conv => whnf); first | (with_reducible (refine wo_seq (fun Qs hN hE hR => ?_))) | (with_reducible (refine wi_reg ?_)) | (with_reducible (refine wo_block (fun Qb kN kE kX kR => ?_))) | (with_reducible (refine wi_regd ?_)) | (with_reducible (refine wi_skip ?_)) | (with_reducible (refine wi_ret ?_)) | (with_reducible (refine wi_exit ?_)) | (with_reducible (refine wi_loop ?_)) | (with_reducible (show W _ _ _ (.cond _ _ _) _ _); refine wi_cond rfl ?_) | (with_reducible (refine hN _ ?_); (try clear hN hE hR Qs)) | (with_reducible (refine hE _ _ ?_); (try clear hN hE hR Qs)) | (with_reducible (refine hR _ ?_); (try clear hN hE hR Qs)) | (with_reducible (refine kN _ ?_); (try clear kN kE kX kR Qb)) | (with_reducible (refine kE _ ?_); (try clear kN kE kX kR Qb)) | (with_reducible (refine kX _ _ rfl ?_); (try clear kN kE kX kR Qb)) | (with_reducible (refine kR _ ?_); (try clear kN kE kX kR Qb)) | (refine stpQ ?_))
      (refine ans_auto (by rfl) ?_ ?_ (by rfl)) <;> (repeat' (first | (exact eqA) | (refine And.intro ?_ ?_) | ((fail_if_success (with_reducible (show _ = _))); (show _ = _))))
set_option maxRecDepth 100000 in
set_option maxHeartbeats 2000000 in
theorem c_eqScript (x : Sc) (hx : ScOk x) :
    CT Tryd.prog 9 [.row 10 (evE x.ev), .row 3 (akE x.ak), .row 10 (evE x.ev), .row 3 (akE x.ak)] [.agg [.int .i64 x.n, .int .i64 x.k, .ref 1, .bool x.ca, .ref 2], .agg [.int .i64 x.n, .int .i64 x.k, .ref 3, .bool x.ca, .ref 4]] (.bool true) [.row 10 (evE x.ev), .row 3 (akE x.ak), .row 10 (evE x.ev), .row 3 (akE x.ak)] := by
  have c1 := c_eqEventS x.ev (by have := hx.1; omega)
  have c2 := c_eqAskS x.ak (by have := hx.2; omega)
  have o1 : own2 (.bool true) ∧ ∀ e ∈ [Ent.row 10 (evE x.ev), Ent.row 10 (evE x.ev)], ownE e := ⟨trivial, fun e he => by
    simp only [List.mem_cons, List.not_mem_nil, or_false, or_self] at he
    subst he
    exact own_evS _⟩
  have o2 : own2 (.bool true) ∧ ∀ e ∈ [Ent.row 3 (akE x.ak), Ent.row 3 (akE x.ak)], ownE e := ⟨trivial, fun e he => by
    simp only [List.mem_cons, List.not_mem_nil, or_false, or_self] at he
    subst he
    exact own_akS _⟩
  have f0 : x.n = x.n := rfl
  have f1 : x.k = x.k := rfl
  have f2 : x.ca = x.ca := rfl
  generalize evE x.ev = z at *
  generalize akE x.ak = y at *
  generalize x.n = n at *
  generalize x.k = k at *
  generalize x.ca = ca at *
  refine ct_intro ttS_ok 5 rfl Tryd.func9 rfl rfl rfl ?_
  conv => arg 6; whnf
  repeat ((try conv => whnf); first | (with_reducible (refine wo_seq (fun Qs hN hE hR => ?_))) | (with_reducible (refine wi_reg ?_)) | (with_reducible (refine wo_block (fun Qb kN kE kX kR => ?_))) | (with_reducible (refine wi_regd ?_)) | (with_reducible (refine wi_skip ?_)) | (with_reducible (refine wi_ret ?_)) | (with_reducible (refine wi_exit ?_)) | (with_reducible (refine wi_loop ?_)) | (with_reducible (show W _ _ _ (.cond _ _ _) _ _); refine wi_cond rfl ?_) | (with_reducible (refine hN _ ?_); (try clear hN hE hR Qs)) | (with_reducible (refine hE _ _ ?_); (try clear hN hE hR Qs)) | (with_reducible (refine hR _ ?_); (try clear hN hE hR Qs)) | (with_reducible (refine kN _ ?_); (try clear kN kE kX kR Qb)) | (with_reducible (refine kE _ ?_); (try clear kN kE kX kR Qb)) | (with_reducible (refine kX _ _ rfl ?_); (try clear kN kE kX kR Qb)) | (with_reducible (refine kR _ ?_); (try clear kN kE kX kR Qb)) | (refine cb_nf f0 ?_) | (refine cb_nf f1 ?_) | (refine cb_nf f2 ?_) | (refine ccO [1, 3] c1 o1 ?_) | (refine ccO [2, 4] c2 o2 ?_) | (refine stpQ ?_))
  (refine ans_auto (by rfl) ?_ ?_ (by rfl)) <;> (repeat' (first | (exact eqA) | (refine And.intro ?_ ?_) | ((fail_if_success (with_reducible (show _ = _))); (show _ = _))))
set_option maxRecDepth 100000 in
set_option maxHeartbeats 2000000 in
theorem c_markEventS (l : List Evt) (k : Nat) (hk : 0 < k) (hb : k + 10 * l.length ≤ 100000) : CT Tryd.prog 24 [.row 10 (evE l)] [.ref 1, .int .i64 (k : Int)] (.int .i64 ((k + 10 * l.length : Nat) : Int)) [.row 10 (evE (mkEs k l.length))] := by
  refine ct_intro ttS_ok 2 rfl Tryd.func24 rfl rfl rfl ?_
  conv => arg 6; whnf
  repeat ((try conv => whnf); first | (with_reducible (refine wo_seq (fun Qs hN hE hR => ?_))) | (with_reducible (refine wi_reg ?_)) | (with_reducible (refine wo_block (fun Qb kN kE kX kR => ?_))) | (with_reducible (refine wi_regd ?_)) | (with_reducible (refine wi_skip ?_)) | (with_reducible (refine wi_ret ?_)) | (with_reducible (refine wi_exit ?_)) | (with_reducible (refine wi_loop ?_)) | (with_reducible (show W _ _ _ (.cond _ _ _) _ _); refine wi_cond rfl ?_) | (with_reducible (refine hN _ ?_); (try clear hN hE hR Qs)) | (with_reducible (refine hE _ _ ?_); (try clear hN hE hR Qs)) | (with_reducible (refine hR _ ?_); (try clear hN hE hR Qs)) | (with_reducible (refine kN _ ?_); (try clear kN kE kX kR Qb)) | (with_reducible (refine kE _ ?_); (try clear kN kE kX kR Qb)) | (with_reducible (refine kX _ _ rfl ?_); (try clear kN kE kX kR Qb)) | (with_reducible (refine kR _ ?_); (try clear kN kE kX kR Qb)) | (refine stpQ ?_))
  refine loop_cut 0 ⟨[(1, .int .i64 ((k + 10 * l.length : Nat) : Int))], [(1, some (.row 10 (rwE k l l.length)))], 2⟩ Nat (fun i => ⟨[(0, .ref 1), (1, .int .i64 ((k + 10 * i : Nat) : Int)), (5, .int .i64 (i : Int))], [(1, some (.row 10 (rwE k l i)))], 2⟩) (fun i => i ≤ l.length) (fun i => l.length - i) 0 (by omega) ?_ ?_ ?_
  · (refine le_auto (by rfl) ?_ ?_) <;> (repeat' (first | (exact eqA) | (refine And.intro ?_ ?_) | ((fail_if_success (with_reducible (show _ = _))); (show _ = _)))) <;> first | rfl | decide
  · intro i hi
    have hlen := rwE_len (k := k) hi
    by_cases hlt : i < l.length
    · have f1 : (i : Int) < ((rwE k l i).length : Int) := by omega
      have i1 : i < (rwE k l i).length := by omega
      obtain ⟨e, g⟩ := rwE_at (k := k) hlt
      have hnx := rwE_next (k := k) hlt
      have e10 : k + 10 * (i + 1) = (k + 10 * i) + 1 + 1 + 1 + 1 + 1 + 1 + 1 + 1 + 1 + 1 := by omega
      have hnb : k + 10 * i ≤ 100000 := by
        have : 10 * i ≤ 10 * l.length := Nat.mul_le_mul_left _ hi
        omega
      have hnp : 0 < k + 10 * i := by omega
      generalize rwE k l i = es at *
      generalize k + 10 * i = n at *
      clear hb hk
      obtain ⟨a0, a1, a2, a3, a4, a5, a6, a7, a8, a9⟩ := e
      unfold evC at *
      unfold mkE at hnx
      simp only at g hnx
      have m7 := c_markTextS (n + 1 + 1 + 1 + 1 + 1 + 1 + 1) (by omega) (by omega)
      generalize markText (n + 1 + 1 + 1 + 1 + 1 + 1 + 1) = t7 at *
      have m8 := c_markTextS (n + 1 + 1 + 1 + 1 + 1 + 1 + 1 + 1) (by omega) (by omega)
      generalize markText (n + 1 + 1 + 1 + 1 + 1 + 1 + 1 + 1) = t8 at *
      have m9 := c_markTextS (n + 1 + 1 + 1 + 1 + 1 + 1 + 1 + 1 + 1) (by omega) (by omega)
      generalize markText (n + 1 + 1 + 1 + 1 + 1 + 1 + 1 + 1 + 1) = t9 at *
      have h1 : ∀ X, i < (es.set i X).length := fun X => by rw [List.length_set]; exact i1
      have gs : ∀ X, (es.set i X)[i]? = some X := fun X => by rw [List.getElem?_set_self i1]
      repeat ((try conv => whnf); first | (with_reducible (refine wo_seq (fun Qs hN hE hR => ?_))) | (with_reducible (refine wi_reg ?_)) | (with_reducible (refine wo_block (fun Qb kN kE kX kR => ?_))) | (with_reducible (refine wi_regd ?_)) | (with_reducible (refine wi_skip ?_)) | (with_reducible (refine wi_ret ?_)) | (with_reducible (refine wi_exit ?_)) | (with_reducible (refine wi_loop ?_)) | (with_reducible (show W _ _ _ (.cond _ _ _) _ _); refine wi_cond rfl ?_) | (with_reducible (refine hN _ ?_); (try clear hN hE hR Qs)) | (with_reducible (refine hE _ _ ?_); (try clear hN hE hR Qs)) | (with_reducible (refine hR _ ?_); (try clear hN hE hR Qs)) | (with_reducible (refine kN _ ?_); (try clear kN kE kX kR Qb)) | (with_reducible (refine kE _ ?_); (try clear kN kE kX kR Qb)) | (with_reducible (refine kX _ _ rfl ?_); (try clear kN kE kX kR Qb)) | (with_reducible (refine kR _ ?_); (try clear kN kE kX kR Qb)) | (refine cb_dt f1 ?_) | (refine And.intro i1 ?_) | (refine And.intro (h1 _) ?_) | (refine Exists.intro _ (And.intro g ?_)) | (refine Exists.intro _ (And.intro (gs _) ?_)) | (refine ccA ([]) (m7) ?_) | (refine ccA ([]) (m8) ?_) | (refine ccA ([]) (m9) ?_) | (refine And.intro (by kernel_rfl) ?_) | (rw [List.set_set]) | (refine stpQ ?_))
      refine ⟨i + 1, by omega, by omega, ?_⟩
      rw [e10]
      (refine le_auto (by rfl) ?_ ?_) <;> (repeat' (first | (exact eqA) | (refine And.intro ?_ ?_) | ((fail_if_success (with_reducible (show _ = _))); (show _ = _)))) <;> first | rfl | exact hnx | (rw [List.set_set]; exact hnx)
    · have hie : i = l.length := by omega
      subst hie
      have f1 : ¬ (l.length : Int) < ((rwE k l l.length).length : Int) := by omega
      repeat ((try conv => whnf); first | (with_reducible (refine wo_seq (fun Qs hN hE hR => ?_))) | (with_reducible (refine wi_reg ?_)) | (with_reducible (refine wo_block (fun Qb kN kE kX kR => ?_))) | (with_reducible (refine wi_regd ?_)) | (with_reducible (refine wi_skip ?_)) | (with_reducible (refine wi_ret ?_)) | (with_reducible (refine wi_exit ?_)) | (with_reducible (refine wi_loop ?_)) | (with_reducible (show W _ _ _ (.cond _ _ _) _ _); refine wi_cond rfl ?_) | (with_reducible (refine hN _ ?_); (try clear hN hE hR Qs)) | (with_reducible (refine hE _ _ ?_); (try clear hN hE hR Qs)) | (with_reducible (refine hR _ ?_); (try clear hN hE hR Qs)) | (with_reducible (refine kN _ ?_); (try clear kN kE kX kR Qb)) | (with_reducible (refine kE _ ?_); (try clear kN kE kX kR Qb)) | (with_reducible (refine kX _ _ rfl ?_); (try clear kN kE kX kR Qb)) | (with_reducible (refine kR _ ?_); (try clear kN kE kX kR Qb)) | (refine cb_df f1 ?_) | (refine stpQ ?_))
      (refine le_auto (by rfl) ?_ ?_) <;> (repeat' (first | (exact eqA) | (refine And.intro ?_ ?_) | ((fail_if_success (with_reducible (show _ = _))); (show _ = _))))
  · rw [rwE_end]
    repeat ((try conv => whnf); first | (with_reducible (refine wo_seq (fun Qs hN hE hR => ?_))) | (with_reducible (refine wi_reg ?_)) | (with_reducible (refine wo_block (fun Qb kN kE kX kR => ?_))) | (with_reducible (refine wi_regd ?_)) | (with_reducible (refine wi_skip ?_)) | (with_reducible (refine wi_ret ?_)) | (with_reducible (refine wi_exit ?_)) | (with_reducible (refine wi_loop ?_)) | (with_reducible (show W _ _ _ (.cond _ _ _) _ _); refine wi_cond rfl ?_) | (with_reducible (refine hN _ ?_); (try clear hN hE hR Qs)) | (with_reducible (refine hE _ _ ?_); (try clear hN hE hR Qs)) | (with_reducible (refine hR _ ?_); (try clear hN hE hR Qs)) | (with_reducible (refine kN _ ?_); (try clear kN kE kX kR Qb)) | (with_reducible (refine kE _ ?_); (try clear kN kE kX kR Qb)) | (with_reducible (refine kX _ _ rfl ?_); (try clear kN kE kX kR Qb)) | (with_reducible (refine kR _ ?_); (try clear kN kE kX kR Qb)) | (refine stpQ ?_))
    (refine ans_auto (by rfl) ?_ ?_ (by rfl)) <;> (repeat' (first | (exact eqA) | (refine And.intro ?_ ?_) | ((fail_if_success (with_reducible (show _ = _))); (show _ = _))))
set_option maxRecDepth 100000 in
set_option maxHeartbeats 2000000 in
theorem c_heldEventS (n k : Nat) (hk : 0 < k) (hb : k + 10 * n ≤ 100000) : CT Tryd.prog 26 [.row 10 (evE (mkEs k n))] [.ref 1, .int .i64 (k : Int)] (.int .i64 ((k + 10 * n : Nat) : Int)) [.row 10 (evE (mkEs k n))] := by
  have hcl : (evE (mkEs k n)).length = n := by rw [ev_len, mkEs_len]
  refine ct_intro ttS_ok 2 rfl Tryd.func26 rfl rfl rfl ?_
  conv => arg 6; whnf
  repeat ((try conv => whnf); first | (with_reducible (refine wo_seq (fun Qs hN hE hR => ?_))) | (with_reducible (refine wi_reg ?_)) | (with_reducible (refine wo_block (fun Qb kN kE kX kR => ?_))) | (with_reducible (refine wi_regd ?_)) | (with_reducible (refine wi_skip ?_)) | (with_reducible (refine wi_ret ?_)) | (with_reducible (refine wi_exit ?_)) | (with_reducible (refine wi_loop ?_)) | (with_reducible (show W _ _ _ (.cond _ _ _) _ _); refine wi_cond rfl ?_) | (with_reducible (refine hN _ ?_); (try clear hN hE hR Qs)) | (with_reducible (refine hE _ _ ?_); (try clear hN hE hR Qs)) | (with_reducible (refine hR _ ?_); (try clear hN hE hR Qs)) | (with_reducible (refine kN _ ?_); (try clear kN kE kX kR Qb)) | (with_reducible (refine kE _ ?_); (try clear kN kE kX kR Qb)) | (with_reducible (refine kX _ _ rfl ?_); (try clear kN kE kX kR Qb)) | (with_reducible (refine kR _ ?_); (try clear kN kE kX kR Qb)) | (refine stpQ ?_))
  refine loop_op Nat (fun i => ⟨[(0, .ref 1), (1, .int .i64 ((k + 10 * i : Nat) : Int)), (5, .int .i64 (i : Int))], [(1, some (.row 10 (evE (mkEs k n))))], 2⟩) (fun i => i ≤ n) (fun i => n - i) 0 (by omega) ?_ ?_
  · (refine le_auto (by rfl) ?_ ?_) <;> (repeat' (first | (exact eqA) | (refine And.intro ?_ ?_) | ((fail_if_success (with_reducible (show _ = _))); (show _ = _)))) <;> first | rfl | decide
  · intro Q1 hQ1 i hi
    by_cases hlt : i < n
    · have f1 : (i : Int) < ((evE (mkEs k n)).length : Int) := by omega
      have i1 : i < (evE (mkEs k n)).length := by omega
      have g := mkEs_at (k := k) hlt
      have e10 : k + 10 * (i + 1) = (k + 10 * i) + 1 + 1 + 1 + 1 + 1 + 1 + 1 + 1 + 1 + 1 := by omega
      have hnb : k + 10 * i ≤ 100000 := by
        have : 10 * i ≤ 10 * n := Nat.mul_le_mul_left _ hi
        omega
      have hnp : 0 < k + 10 * i := by omega
      generalize evE (mkEs k n) = es at *
      generalize k + 10 * i = m at *
      clear hb hk
      unfold evC mkE at g
      simp only at g
      have m7 := c_markTextS (m + 1 + 1 + 1 + 1 + 1 + 1 + 1) (by omega) (by omega)
      generalize markText (m + 1 + 1 + 1 + 1 + 1 + 1 + 1) = t7 at *
      have r7 : t7 = t7 := rfl
      have m8 := c_markTextS (m + 1 + 1 + 1 + 1 + 1 + 1 + 1 + 1) (by omega) (by omega)
      generalize markText (m + 1 + 1 + 1 + 1 + 1 + 1 + 1 + 1) = t8 at *
      have r8 : t8 = t8 := rfl
      have m9 := c_markTextS (m + 1 + 1 + 1 + 1 + 1 + 1 + 1 + 1 + 1) (by omega) (by omega)
      generalize markText (m + 1 + 1 + 1 + 1 + 1 + 1 + 1 + 1 + 1) = t9 at *
      have r9 : t9 = t9 := rfl
      have q0 : ((m : Nat) : Int) = ((m : Nat) : Int) := rfl
      have q1 : ((m + 1 : Nat) : Int) = ((m + 1 : Nat) : Int) := rfl
      have q2 : ((m + 1 + 1 : Nat) : Int) = ((m + 1 + 1 : Nat) : Int) := rfl
      have q3 : ((m + 1 + 1 + 1 : Nat) : Int) = ((m + 1 + 1 + 1 : Nat) : Int) := rfl
      have q4 : ((m + 1 + 1 + 1 + 1 : Nat) : Int) = ((m + 1 + 1 + 1 + 1 : Nat) : Int) := rfl
      have q5 : ((m + 1 + 1 + 1 + 1 + 1 : Nat) : Int) = ((m + 1 + 1 + 1 + 1 + 1 : Nat) : Int) := rfl
      have q6 : ((m + 1 + 1 + 1 + 1 + 1 + 1 : Nat) : Int) = ((m + 1 + 1 + 1 + 1 + 1 + 1 : Nat) : Int) := rfl
      repeat ((try conv => whnf); first | (with_reducible (refine wo_seq (fun Qs hN hE hR => ?_))) | (with_reducible (refine wi_reg ?_)) | (with_reducible (refine wo_block (fun Qb kN kE kX kR => ?_))) | (with_reducible (refine wi_regd ?_)) | (with_reducible (refine wi_skip ?_)) | (with_reducible (refine wi_ret ?_)) | (with_reducible (refine wi_exit ?_)) | (with_reducible (refine wi_loop ?_)) | (with_reducible (show W _ _ _ (.cond _ _ _) _ _); refine wi_cond rfl ?_) | (with_reducible (refine hN _ ?_); (try clear hN hE hR Qs)) | (with_reducible (refine hE _ _ ?_); (try clear hN hE hR Qs)) | (with_reducible (refine hR _ ?_); (try clear hN hE hR Qs)) | (with_reducible (refine kN _ ?_); (try clear kN kE kX kR Qb)) | (with_reducible (refine kE _ ?_); (try clear kN kE kX kR Qb)) | (with_reducible (refine kX _ _ rfl ?_); (try clear kN kE kX kR Qb)) | (with_reducible (refine kR _ ?_); (try clear kN kE kX kR Qb)) | (refine cb_dt f1 ?_) | (refine And.intro i1 ?_) | (refine Exists.intro _ (And.intro g ?_)) | (refine ccA ([]) (m7) ?_) | (refine ccA ([]) (m8) ?_) | (refine ccA ([]) (m9) ?_) | (refine cb_nf r7 ?_) | (refine cb_nf r8 ?_) | (refine cb_nf r9 ?_) | (refine cb_nf q0 ?_) | (refine cb_nf q1 ?_) | (refine cb_nf q2 ?_) | (refine cb_nf q3 ?_) | (refine cb_nf q4 ?_) | (refine cb_nf q5 ?_) | (refine cb_nf q6 ?_) | (refine And.intro (by kernel_rfl) ?_) | (refine stpQ ?_))
      refine ⟨i + 1, by omega, by omega, ?_⟩
      rw [e10]
      (refine le_auto (by rfl) ?_ ?_) <;> (repeat' (first | (exact eqA) | (refine And.intro ?_ ?_) | ((fail_if_success (with_reducible (show _ = _))); (show _ = _))))
    · have hie : i = n := by omega
      subst hie
      have f1 : ¬ (i : Int) < ((evE (mkEs k i)).length : Int) := by omega
      repeat ((try conv => whnf); first | (with_reducible (refine wo_seq (fun Qs hN hE hR => ?_))) | (with_reducible (refine wi_reg ?_)) | (with_reducible (refine wo_block (fun Qb kN kE kX kR => ?_))) | (with_reducible (refine wi_regd ?_)) | (with_reducible (refine wi_skip ?_)) | (with_reducible (refine wi_ret ?_)) | (with_reducible (refine wi_exit ?_)) | (with_reducible (refine wi_loop ?_)) | (with_reducible (show W _ _ _ (.cond _ _ _) _ _); refine wi_cond rfl ?_) | (with_reducible (refine hN _ ?_); (try clear hN hE hR Qs)) | (with_reducible (refine hE _ _ ?_); (try clear hN hE hR Qs)) | (with_reducible (refine hR _ ?_); (try clear hN hE hR Qs)) | (with_reducible (refine kN _ ?_); (try clear kN kE kX kR Qb)) | (with_reducible (refine kE _ ?_); (try clear kN kE kX kR Qb)) | (with_reducible (refine kX _ _ rfl ?_); (try clear kN kE kX kR Qb)) | (with_reducible (refine kR _ ?_); (try clear kN kE kX kR Qb)) | (refine cb_df f1 ?_) | (refine stpQ ?_))
      refine hQ1 _ _ ?_
      clear hQ1 Q1
      repeat ((try conv => whnf); first | (with_reducible (refine wo_seq (fun Qs hN hE hR => ?_))) | (with_reducible (refine wi_reg ?_)) | (with_reducible (refine wo_block (fun Qb kN kE kX kR => ?_))) | (with_reducible (refine wi_regd ?_)) | (with_reducible (refine wi_skip ?_)) | (with_reducible (refine wi_ret ?_)) | (with_reducible (refine wi_exit ?_)) | (with_reducible (refine wi_loop ?_)) | (with_reducible (show W _ _ _ (.cond _ _ _) _ _); refine wi_cond rfl ?_) | (with_reducible (refine hN _ ?_); (try clear hN hE hR Qs)) | (with_reducible (refine hE _ _ ?_); (try clear hN hE hR Qs)) | (with_reducible (refine hR _ ?_); (try clear hN hE hR Qs)) | (with_reducible (refine kN _ ?_); (try clear kN kE kX kR Qb)) | (with_reducible (refine kE _ ?_); (try clear kN kE kX kR Qb)) | (with_reducible (refine kX _ _ rfl ?_); (try clear kN kE kX kR Qb)) | (with_reducible (refine kR _ ?_); (try clear kN kE kX kR Qb)) | (refine stpQ ?_))
      (refine ans_auto (by rfl) ?_ ?_ (by rfl)) <;> (repeat' (first | (exact eqA) | (refine And.intro ?_ ?_) | ((fail_if_success (with_reducible (show _ = _))); (show _ = _))))
set_option maxRecDepth 100000 in
set_option maxHeartbeats 2000000 in
theorem c_markAskS (l : List (Int × Bs × Int)) (k : Nat) (hk : 0 < k) (hb : k + 3 * l.length ≤ 100000) : CT Tryd.prog 25 [.row 3 (akE l)] [.ref 1, .int .i64 (k : Int)] (.int .i64 ((k + 3 * l.length : Nat) : Int)) [.row 3 (akE (mkAs k l.length))] := by
  refine ct_intro ttS_ok 2 rfl Tryd.func25 rfl rfl rfl ?_
  conv => arg 6; whnf
  repeat ((try conv => whnf); first | (with_reducible (refine wo_seq (fun Qs hN hE hR => ?_))) | (with_reducible (refine wi_reg ?_)) | (with_reducible (refine wo_block (fun Qb kN kE kX kR => ?_))) | (with_reducible (refine wi_regd ?_)) | (with_reducible (refine wi_skip ?_)) | (with_reducible (refine wi_ret ?_)) | (with_reducible (refine wi_exit ?_)) | (with_reducible (refine wi_loop ?_)) | (with_reducible (show W _ _ _ (.cond _ _ _) _ _); refine wi_cond rfl ?_) | (with_reducible (refine hN _ ?_); (try clear hN hE hR Qs)) | (with_reducible (refine hE _ _ ?_); (try clear hN hE hR Qs)) | (with_reducible (refine hR _ ?_); (try clear hN hE hR Qs)) | (with_reducible (refine kN _ ?_); (try clear kN kE kX kR Qb)) | (with_reducible (refine kE _ ?_); (try clear kN kE kX kR Qb)) | (with_reducible (refine kX _ _ rfl ?_); (try clear kN kE kX kR Qb)) | (with_reducible (refine kR _ ?_); (try clear kN kE kX kR Qb)) | (refine stpQ ?_))
  refine loop_cut 0 ⟨[(1, .int .i64 ((k + 3 * l.length : Nat) : Int))], [(1, some (.row 3 (rwA k l l.length)))], 2⟩ Nat (fun i => ⟨[(0, .ref 1), (1, .int .i64 ((k + 3 * i : Nat) : Int)), (5, .int .i64 (i : Int))], [(1, some (.row 3 (rwA k l i)))], 2⟩) (fun i => i ≤ l.length) (fun i => l.length - i) 0 (by omega) ?_ ?_ ?_
  · (refine le_auto (by rfl) ?_ ?_) <;> (repeat' (first | (exact eqA) | (refine And.intro ?_ ?_) | ((fail_if_success (with_reducible (show _ = _))); (show _ = _)))) <;> first | rfl | decide
  · intro i hi
    have hlen := rwA_len (k := k) hi
    by_cases hlt : i < l.length
    · have f1 : (i : Int) < ((rwA k l i).length : Int) := by omega
      have i1 : i < (rwA k l i).length := by omega
      obtain ⟨e, g⟩ := rwA_at (k := k) hlt
      have hnx := rwA_next (k := k) hlt
      have e10 : k + 3 * (i + 1) = (k + 3 * i) + 1 + 1 + 1 := by omega
      have hnb : k + 3 * i ≤ 100000 := by
        have : 3 * i ≤ 3 * l.length := Nat.mul_le_mul_left _ hi
        omega
      have hnp : 0 < k + 3 * i := by omega
      generalize rwA k l i = es at *
      generalize k + 3 * i = n at *
      clear hb hk
      obtain ⟨a0, a1, a2⟩ := e
      unfold akC at *
      unfold mkA at hnx
      simp only at g hnx
      have m1 := c_markTextS (n + 1) (by omega) (by omega)
      generalize markText (n + 1) = t1 at *
      have h1 : ∀ X, i < (es.set i X).length := fun X => by rw [List.length_set]; exact i1
      have gs : ∀ X, (es.set i X)[i]? = some X := fun X => by rw [List.getElem?_set_self i1]
      repeat ((try conv => whnf); first | (with_reducible (refine wo_seq (fun Qs hN hE hR => ?_))) | (with_reducible (refine wi_reg ?_)) | (with_reducible (refine wo_block (fun Qb kN kE kX kR => ?_))) | (with_reducible (refine wi_regd ?_)) | (with_reducible (refine wi_skip ?_)) | (with_reducible (refine wi_ret ?_)) | (with_reducible (refine wi_exit ?_)) | (with_reducible (refine wi_loop ?_)) | (with_reducible (show W _ _ _ (.cond _ _ _) _ _); refine wi_cond rfl ?_) | (with_reducible (refine hN _ ?_); (try clear hN hE hR Qs)) | (with_reducible (refine hE _ _ ?_); (try clear hN hE hR Qs)) | (with_reducible (refine hR _ ?_); (try clear hN hE hR Qs)) | (with_reducible (refine kN _ ?_); (try clear kN kE kX kR Qb)) | (with_reducible (refine kE _ ?_); (try clear kN kE kX kR Qb)) | (with_reducible (refine kX _ _ rfl ?_); (try clear kN kE kX kR Qb)) | (with_reducible (refine kR _ ?_); (try clear kN kE kX kR Qb)) | (refine cb_dt f1 ?_) | (refine And.intro i1 ?_) | (refine And.intro (h1 _) ?_) | (refine Exists.intro _ (And.intro g ?_)) | (refine Exists.intro _ (And.intro (gs _) ?_)) | (refine ccA ([]) (m1) ?_) | (refine And.intro (by kernel_rfl) ?_) | (rw [List.set_set]) | (refine stpQ ?_))
      refine ⟨i + 1, by omega, by omega, ?_⟩
      rw [e10]
      (refine le_auto (by rfl) ?_ ?_) <;> (repeat' (first | (exact eqA) | (refine And.intro ?_ ?_) | ((fail_if_success (with_reducible (show _ = _))); (show _ = _)))) <;> first | rfl | exact hnx | (rw [List.set_set]; exact hnx)
    · have hie : i = l.length := by omega
      subst hie
      have f1 : ¬ (l.length : Int) < ((rwA k l l.length).length : Int) := by omega
      repeat ((try conv => whnf); first | (with_reducible (refine wo_seq (fun Qs hN hE hR => ?_))) | (with_reducible (refine wi_reg ?_)) | (with_reducible (refine wo_block (fun Qb kN kE kX kR => ?_))) | (with_reducible (refine wi_regd ?_)) | (with_reducible (refine wi_skip ?_)) | (with_reducible (refine wi_ret ?_)) | (with_reducible (refine wi_exit ?_)) | (with_reducible (refine wi_loop ?_)) | (with_reducible (show W _ _ _ (.cond _ _ _) _ _); refine wi_cond rfl ?_) | (with_reducible (refine hN _ ?_); (try clear hN hE hR Qs)) | (with_reducible (refine hE _ _ ?_); (try clear hN hE hR Qs)) | (with_reducible (refine hR _ ?_); (try clear hN hE hR Qs)) | (with_reducible (refine kN _ ?_); (try clear kN kE kX kR Qb)) | (with_reducible (refine kE _ ?_); (try clear kN kE kX kR Qb)) | (with_reducible (refine kX _ _ rfl ?_); (try clear kN kE kX kR Qb)) | (with_reducible (refine kR _ ?_); (try clear kN kE kX kR Qb)) | (refine cb_df f1 ?_) | (refine stpQ ?_))
      (refine le_auto (by rfl) ?_ ?_) <;> (repeat' (first | (exact eqA) | (refine And.intro ?_ ?_) | ((fail_if_success (with_reducible (show _ = _))); (show _ = _))))
  · rw [rwA_end]
    repeat ((try conv => whnf); first | (with_reducible (refine wo_seq (fun Qs hN hE hR => ?_))) | (with_reducible (refine wi_reg ?_)) | (with_reducible (refine wo_block (fun Qb kN kE kX kR => ?_))) | (with_reducible (refine wi_regd ?_)) | (with_reducible (refine wi_skip ?_)) | (with_reducible (refine wi_ret ?_)) | (with_reducible (refine wi_exit ?_)) | (with_reducible (refine wi_loop ?_)) | (with_reducible (show W _ _ _ (.cond _ _ _) _ _); refine wi_cond rfl ?_) | (with_reducible (refine hN _ ?_); (try clear hN hE hR Qs)) | (with_reducible (refine hE _ _ ?_); (try clear hN hE hR Qs)) | (with_reducible (refine hR _ ?_); (try clear hN hE hR Qs)) | (with_reducible (refine kN _ ?_); (try clear kN kE kX kR Qb)) | (with_reducible (refine kE _ ?_); (try clear kN kE kX kR Qb)) | (with_reducible (refine kX _ _ rfl ?_); (try clear kN kE kX kR Qb)) | (with_reducible (refine kR _ ?_); (try clear kN kE kX kR Qb)) | (refine stpQ ?_))
    (refine ans_auto (by rfl) ?_ ?_ (by rfl)) <;> (repeat' (first | (exact eqA) | (refine And.intro ?_ ?_) | ((fail_if_success (with_reducible (show _ = _))); (show _ = _))))
set_option maxRecDepth 100000 in
set_option maxHeartbeats 2000000 in
theorem c_heldAskS (n k : Nat) (hk : 0 < k) (hb : k + 3 * n ≤ 100000) : CT Tryd.prog 27 [.row 3 (akE (mkAs k n))] [.ref 1, .int .i64 (k : Int)] (.int .i64 ((k + 3 * n : Nat) : Int)) [.row 3 (akE (mkAs k n))] := by
  have hcl : (akE (mkAs k n)).length = n := by rw [ak_len, mkAs_len]
  refine ct_intro ttS_ok 2 rfl Tryd.func27 rfl rfl rfl ?_
  conv => arg 6; whnf
  repeat ((try conv => whnf); first | (with_reducible (refine wo_seq (fun Qs hN hE hR => ?_))) | (with_reducible (refine wi_reg ?_)) | (with_reducible (refine wo_block (fun Qb kN kE kX kR => ?_))) | (with_reducible (refine wi_regd ?_)) | (with_reducible (refine wi_skip ?_)) | (with_reducible (refine wi_ret ?_)) | (with_reducible (refine wi_exit ?_)) | (with_reducible (refine wi_loop ?_)) | (with_reducible (show W _ _ _ (.cond _ _ _) _ _); refine wi_cond rfl ?_) | (with_reducible (refine hN _ ?_); (try clear hN hE hR Qs)) | (with_reducible (refine hE _ _ ?_); (try clear hN hE hR Qs)) | (with_reducible (refine hR _ ?_); (try clear hN hE hR Qs)) | (with_reducible (refine kN _ ?_); (try clear kN kE kX kR Qb)) | (with_reducible (refine kE _ ?_); (try clear kN kE kX kR Qb)) | (with_reducible (refine kX _ _ rfl ?_); (try clear kN kE kX kR Qb)) | (with_reducible (refine kR _ ?_); (try clear kN kE kX kR Qb)) | (refine stpQ ?_))
  refine loop_op Nat (fun i => ⟨[(0, .ref 1), (1, .int .i64 ((k + 3 * i : Nat) : Int)), (5, .int .i64 (i : Int))], [(1, some (.row 3 (akE (mkAs k n))))], 2⟩) (fun i => i ≤ n) (fun i => n - i) 0 (by omega) ?_ ?_
  · (refine le_auto (by rfl) ?_ ?_) <;> (repeat' (first | (exact eqA) | (refine And.intro ?_ ?_) | ((fail_if_success (with_reducible (show _ = _))); (show _ = _)))) <;> first | rfl | decide
  · intro Q1 hQ1 i hi
    by_cases hlt : i < n
    · have f1 : (i : Int) < ((akE (mkAs k n)).length : Int) := by omega
      have i1 : i < (akE (mkAs k n)).length := by omega
      have g := mkAs_at (k := k) hlt
      have e10 : k + 3 * (i + 1) = (k + 3 * i) + 1 + 1 + 1 := by omega
      have hnb : k + 3 * i ≤ 100000 := by
        have : 3 * i ≤ 3 * n := Nat.mul_le_mul_left _ hi
        omega
      have hnp : 0 < k + 3 * i := by omega
      generalize akE (mkAs k n) = es at *
      generalize k + 3 * i = m at *
      clear hb hk
      unfold akC mkA at g
      simp only at g
      have m1 := c_markTextS (m + 1) (by omega) (by omega)
      generalize markText (m + 1) = t1 at *
      have r1 : t1 = t1 := rfl
      have q0 : ((m : Nat) : Int) = ((m : Nat) : Int) := rfl
      have q2 : ((m + 1 + 1 : Nat) : Int) = ((m + 1 + 1 : Nat) : Int) := rfl
      repeat ((try conv => whnf); first | (with_reducible (refine wo_seq (fun Qs hN hE hR => ?_))) | (with_reducible (refine wi_reg ?_)) | (with_reducible (refine wo_block (fun Qb kN kE kX kR => ?_))) | (with_reducible (refine wi_regd ?_)) | (with_reducible (refine wi_skip ?_)) | (with_reducible (refine wi_ret ?_)) | (with_reducible (refine wi_exit ?_)) | (with_reducible (refine wi_loop ?_)) | (with_reducible (show W _ _ _ (.cond _ _ _) _ _); refine wi_cond rfl ?_) | (with_reducible (refine hN _ ?_); (try clear hN hE hR Qs)) | (with_reducible (refine hE _ _ ?_); (try clear hN hE hR Qs)) | (with_reducible (refine hR _ ?_); (try clear hN hE hR Qs)) | (with_reducible (refine kN _ ?_); (try clear kN kE kX kR Qb)) | (with_reducible (refine kE _ ?_); (try clear kN kE kX kR Qb)) | (with_reducible (refine kX _ _ rfl ?_); (try clear kN kE kX kR Qb)) | (with_reducible (refine kR _ ?_); (try clear kN kE kX kR Qb)) | (refine cb_dt f1 ?_) | (refine And.intro i1 ?_) | (refine Exists.intro _ (And.intro g ?_)) | (refine ccA ([]) (m1) ?_) | (refine cb_nf r1 ?_) | (refine cb_nf q0 ?_) | (refine cb_nf q2 ?_) | (refine And.intro (by kernel_rfl) ?_) | (refine stpQ ?_))
      refine ⟨i + 1, by omega, by omega, ?_⟩
      rw [e10]
      (refine le_auto (by rfl) ?_ ?_) <;> (repeat' (first | (exact eqA) | (refine And.intro ?_ ?_) | ((fail_if_success (with_reducible (show _ = _))); (show _ = _))))
    · have hie : i = n := by omega
      subst hie
      have f1 : ¬ (i : Int) < ((akE (mkAs k i)).length : Int) := by omega
      repeat ((try conv => whnf); first | (with_reducible (refine wo_seq (fun Qs hN hE hR => ?_))) | (with_reducible (refine wi_reg ?_)) | (with_reducible (refine wo_block (fun Qb kN kE kX kR => ?_))) | (with_reducible (refine wi_regd ?_)) | (with_reducible (refine wi_skip ?_)) | (with_reducible (refine wi_ret ?_)) | (with_reducible (refine wi_exit ?_)) | (with_reducible (refine wi_loop ?_)) | (with_reducible (show W _ _ _ (.cond _ _ _) _ _); refine wi_cond rfl ?_) | (with_reducible (refine hN _ ?_); (try clear hN hE hR Qs)) | (with_reducible (refine hE _ _ ?_); (try clear hN hE hR Qs)) | (with_reducible (refine hR _ ?_); (try clear hN hE hR Qs)) | (with_reducible (refine kN _ ?_); (try clear kN kE kX kR Qb)) | (with_reducible (refine kE _ ?_); (try clear kN kE kX kR Qb)) | (with_reducible (refine kX _ _ rfl ?_); (try clear kN kE kX kR Qb)) | (with_reducible (refine kR _ ?_); (try clear kN kE kX kR Qb)) | (refine cb_df f1 ?_) | (refine stpQ ?_))
      refine hQ1 _ _ ?_
      clear hQ1 Q1
      repeat ((try conv => whnf); first | (with_reducible (refine wo_seq (fun Qs hN hE hR => ?_))) | (with_reducible (refine wi_reg ?_)) | (with_reducible (refine wo_block (fun Qb kN kE kX kR => ?_))) | (with_reducible (refine wi_regd ?_)) | (with_reducible (refine wi_skip ?_)) | (with_reducible (refine wi_ret ?_)) | (with_reducible (refine wi_exit ?_)) | (with_reducible (refine wi_loop ?_)) | (with_reducible (show W _ _ _ (.cond _ _ _) _ _); refine wi_cond rfl ?_) | (with_reducible (refine hN _ ?_); (try clear hN hE hR Qs)) | (with_reducible (refine hE _ _ ?_); (try clear hN hE hR Qs)) | (with_reducible (refine hR _ ?_); (try clear hN hE hR Qs)) | (with_reducible (refine kN _ ?_); (try clear kN kE kX kR Qb)) | (with_reducible (refine kE _ ?_); (try clear kN kE kX kR Qb)) | (with_reducible (refine kX _ _ rfl ?_); (try clear kN kE kX kR Qb)) | (with_reducible (refine kR _ ?_); (try clear kN kE kX kR Qb)) | (refine stpQ ?_))
      (refine ans_auto (by rfl) ?_ ?_ (by rfl)) <;> (repeat' (first | (exact eqA) | (refine And.intro ?_ ?_) | ((fail_if_success (with_reducible (show _ = _))); (show _ = _))))
set_option maxRecDepth 100000 in
set_option maxHeartbeats 2000000 in
theorem c_markScript (x : Sc) (hx : ScOk x) (k : Nat) (hk : 0 < k) (hb : k ≤ 1000) :
    CT Tryd.prog 10 [.row 10 (evE x.ev), .row 3 (akE x.ak)] [.agg [.int .i64 x.n, .int .i64 x.k, .ref 1, .bool x.ca, .ref 2], .int .i64 (k : Int)] (.int .i64 ((k + 10 * x.ev.length + 3 * x.ak.length : Nat) : Int)) [.row 10 (evE (mkEs k x.ev.length)), .row 3 (akE (mkAs (k + 10 * x.ev.length) x.ak.length))] := by
  obtain ⟨h1, h2⟩ := hx
  have c1 := c_markEventS x.ev k hk (by omega)
  have c2 := c_markAskS x.ak (k + 10 * x.ev.length) (by omega) (by omega)
  have o1 : own2 (.int .i64 ((k + 10 * x.ev.length : Nat) : Int)) ∧ ∀ e ∈ [Ent.row 10 (evE (mkEs k x.ev.length))], ownE e := ⟨trivial, fun e he => by
    rw [List.mem_singleton] at he
    subst he
    exact own_evS _⟩
  have o2 : own2 (.int .i64 ((k + 10 * x.ev.length + 3 * x.ak.length : Nat) : Int)) ∧ ∀ e ∈ [Ent.row 3 (akE (mkAs (k + 10 * x.ev.length) x.ak.length))], ownE e := ⟨trivial, fun e he => by
    rw [List.mem_singleton] at he
    subst he
    exact own_akS _⟩
  refine ct_intro ttS_ok 3 rfl Tryd.func10 rfl rfl rfl ?_
  conv => arg 6; whnf
  repeat ((try conv => whnf); first | (with_reducible (refine wo_seq (fun Qs hN hE hR => ?_))) | (with_reducible (refine wi_reg ?_)) | (with_reducible (refine wo_block (fun Qb kN kE kX kR => ?_))) | (with_reducible (refine wi_regd ?_)) | (with_reducible (refine wi_skip ?_)) | (with_reducible (refine wi_ret ?_)) | (with_reducible (refine wi_exit ?_)) | (with_reducible (refine wi_loop ?_)) | (with_reducible (show W _ _ _ (.cond _ _ _) _ _); refine wi_cond rfl ?_) | (with_reducible (refine hN _ ?_); (try clear hN hE hR Qs)) | (with_reducible (refine hE _ _ ?_); (try clear hN hE hR Qs)) | (with_reducible (refine hR _ ?_); (try clear hN hE hR Qs)) | (with_reducible (refine kN _ ?_); (try clear kN kE kX kR Qb)) | (with_reducible (refine kE _ ?_); (try clear kN kE kX kR Qb)) | (with_reducible (refine kX _ _ rfl ?_); (try clear kN kE kX kR Qb)) | (with_reducible (refine kR _ ?_); (try clear kN kE kX kR Qb)) | (refine ccO [1] c1 o1 ?_) | (refine ccO [2] c2 o2 ?_) | (refine stpQ ?_))
  (refine ans_auto (by rfl) ?_ ?_ (by rfl)) <;> (repeat' (first | (exact eqA) | (refine And.intro ?_ ?_) | ((fail_if_success (with_reducible (show _ = _))); (show _ = _))))
set_option maxRecDepth 100000 in
set_option maxHeartbeats 2000000 in
theorem c_heldScript (x : Sc) (ne na k : Nat) (hk : 0 < k) (hb : k ≤ 1000) (h1 : ne ≤ 90) (h2 : na ≤ 10) :
    CT Tryd.prog 11 [.row 10 (evE (mkEs k ne)), .row 3 (akE (mkAs (k + 10 * ne) na))] [.agg [.int .i64 x.n, .int .i64 x.k, .ref 1, .bool x.ca, .ref 2], .int .i64 (k : Int)] (.int .i64 ((k + 10 * ne + 3 * na : Nat) : Int)) [.row 10 (evE (mkEs k ne)), .row 3 (akE (mkAs (k + 10 * ne) na))] := by
  have c1 := c_heldEventS ne k hk (by omega)
  have c2 := c_heldAskS na (k + 10 * ne) (by omega) (by omega)
  have o1 : own2 (.int .i64 ((k + 10 * ne : Nat) : Int)) ∧ ∀ e ∈ [Ent.row 10 (evE (mkEs k ne))], ownE e := ⟨trivial, fun e he => by
    rw [List.mem_singleton] at he
    subst he
    exact own_evS _⟩
  have o2 : own2 (.int .i64 ((k + 10 * ne + 3 * na : Nat) : Int)) ∧ ∀ e ∈ [Ent.row 3 (akE (mkAs (k + 10 * ne) na))], ownE e := ⟨trivial, fun e he => by
    rw [List.mem_singleton] at he
    subst he
    exact own_akS _⟩
  have f1 : ¬ ((k + 10 * ne : Nat) : Int) < 0 := by omega
  have f2 : ¬ ((k + 10 * ne + 3 * na : Nat) : Int) < 0 := by omega
  refine ct_intro ttS_ok 3 rfl Tryd.func11 rfl rfl rfl ?_
  conv => arg 6; whnf
  repeat ((try conv => whnf); first | (with_reducible (refine wo_seq (fun Qs hN hE hR => ?_))) | (with_reducible (refine wi_reg ?_)) | (with_reducible (refine wo_block (fun Qb kN kE kX kR => ?_))) | (with_reducible (refine wi_regd ?_)) | (with_reducible (refine wi_skip ?_)) | (with_reducible (refine wi_ret ?_)) | (with_reducible (refine wi_exit ?_)) | (with_reducible (refine wi_loop ?_)) | (with_reducible (show W _ _ _ (.cond _ _ _) _ _); refine wi_cond rfl ?_) | (with_reducible (refine hN _ ?_); (try clear hN hE hR Qs)) | (with_reducible (refine hE _ _ ?_); (try clear hN hE hR Qs)) | (with_reducible (refine hR _ ?_); (try clear hN hE hR Qs)) | (with_reducible (refine kN _ ?_); (try clear kN kE kX kR Qb)) | (with_reducible (refine kE _ ?_); (try clear kN kE kX kR Qb)) | (with_reducible (refine kX _ _ rfl ?_); (try clear kN kE kX kR Qb)) | (with_reducible (refine kR _ ?_); (try clear kN kE kX kR Qb)) | (refine ccO [1] c1 o1 ?_) | (refine ccO [2] c2 o2 ?_) | (refine cb_df f1 ?_) | (refine cb_df f2 ?_) | (refine stpQ ?_))
  (refine ans_auto (by rfl) ?_ ?_ (by rfl)) <;> (repeat' (first | (exact eqA) | (refine And.intro ?_ ?_) | ((fail_if_success (with_reducible (show _ = _))); (show _ = _))))
end
end Go.Proofs.YtkgfidphcpklhaaDoor
