/- Functions by content: who is blamed, by the reference. -/
import Derived.Test.YtfgfkhmldlpmkaaGreatDoorShs
import Derived.Test.YtfgfkhmldlpmkaaGreatDoorPlainBl
namespace Go.Proofs.YtfgfkhmldlpmkaaGreatDoor
open Go.RowKit Pl
set_option linter.unusedVariables false
set_option linter.unusedSimpArgs false

def PrAt (z : List (List T)) (hd : Nat → Int) (k : Nat) : Prop := ∃ (p1 : Int) (p2 p3 : Bs) (p4 : Int) (p5 p6 p7 : List (List T)) (p8 p9 : Int) (p10 p11 : Bs) (p12 : Int) (p13 p14 p15 : List (List T)), z[k]? = some [.int .i64 (hd k), .int .i64 p1, .str p2, .str p3, .int .i64 p4, .sl 1 p5, .sl 1 p6, .sl 1 p7, .int .i64 p8, .int .i64 p9, .str p10, .str p11, .int .i64 p12, .sl 1 p13, .sl 1 p14, .sl 1 p15]
def hdL (hd : Nat → Int) (k : Nat) : List Int := (List.range k).map hd
theorem hdL_next (hd : Nat → Int) (k : Nat) : hdL hd (k + 1) = hdL hd k ++ [hd k] := by simp [hdL, List.range_succ]
theorem hdL_len (hd : Nat → Int) (k : Nat) : (hdL hd k).length = k := by simp [hdL]
theorem tkE_app (a b : List Int) : tkE (a ++ b) = tkE a ++ tkE b := by simp [tkE]
theorem tkE_get {l : List Int} {j : Nat} (h : j < l.length) : (tkE l)[j]? = some [.int .i64 l[j]] := by simp [tkE, List.getElem?_eq_getElem h]
theorem tk_next {l : List Int} {j : Nat} (h : j < l.length) : l.take (j + 1) = l.take j ++ [l[j]] := by rw [List.take_add_one, List.getElem?_eq_getElem h]; rfl
section
attribute [local irreducible] CondB CallP LoopW AnsP LeP
set_option maxRecDepth 100000 in
set_option maxHeartbeats 8000000 in
theorem c_sBlamedIn (z : List (List T)) (hd : Nat → Int) (hz : z.length ≤ 1048576) (hp : ∀ k, k < z.length → PrAt z hd k) :
    CT Tryz.prog 40 [] [.sl 16 z] (.sl 1 (tkE (insHs (hdL hd z.length)))) [] := by
  refine ct_intro ttE_ok 1 rfl Tryz.func40 rfl rfl rfl ?_
  repeat ((try conv => whnf); first | (refine stpQ ?_))
  refine loop_cut 0 ⟨[(3, .ref 1)], [(1, some (.row 1 (tkE (insHs (hdL hd z.length)))))], 2⟩ Nat (fun k => ⟨[(0, .sl 16 z), (3, .ref 1), (4, .int .i64 (k : Int))], [(1, some (.row 1 (tkE (insHs (hdL hd k)))))], 2⟩) (fun k => k ≤ z.length) (fun k => z.length - k) 0 (by omega) ?_ ?_ ?_
  · (refine le_auto (by rfl) ?_ ?_) <;> (repeat' (first | (exact eqA) | (refine And.intro ?_ ?_) | ((fail_if_success (with_reducible (show _ = _))); (show _ = _)))) <;> first | rfl | decide
  · intro k hk
    have hn := insHs_next (hdL hd k) (hd k)
    rw [← hdL_next] at hn
    have hSl := insHs_le (hdL hd k)
    rw [hdL_len] at hSl
    by_cases hlt : k < z.length
    · obtain ⟨p1, p2, p3, p4, p5, p6, p7, p8, p9, p10, p11, p12, p13, p14, p15, g⟩ := hp k hlt
      generalize insHs (hdL hd k) = S at hn hSl ⊢
      have hS1 := tk_len S
      unfold insH at hn
      generalize hd k = x at g hn
      repeat ((try conv => whnf); first | (refine i_at g ?_) | (refine stpQ ?_))
      refine loop_cut 2 ⟨[(0, .sl 16 z), (3, .ref 1), (4, .int .i64 (k : Int)), (5, .int .i64 x), (6, .ref 2)], [(1, some (.row 1 (tkE S))), (2, some (.row 1 (tkE (S.filter fun y => decide (y < x)))))], 3⟩ Nat (fun j => ⟨[(0, .sl 16 z), (3, .ref 1), (4, .int .i64 (k : Int)), (5, .int .i64 x), (6, .ref 2), (7, .int .i64 (j : Int))], [(1, some (.row 1 (tkE S))), (2, some (.row 1 (tkE ((S.take j).filter fun y => decide (y < x)))))], 3⟩) (fun j => j ≤ S.length) (fun j => S.length - j) 0 (by omega) ?_ ?_ ?_
      · (refine le_auto (by rfl) ?_ ?_) <;> (repeat' (first | (exact eqA) | (refine And.intro ?_ ?_) | ((fail_if_success (with_reducible (show _ = _))); (show _ = _)))) <;> first | rfl | decide
      · intro j hj
        by_cases hjl : j < S.length
        · have gj := tkE_get hjl
          have hnx := tk_next hjl
          have hfl : ((S.take j).filter fun y => decide (y < x)).length ≤ j := Nat.le_trans (List.length_filter_le _ _) (by rw [List.length_take]; omega)
          have hft := tk_len ((S.take j).filter fun y => decide (y < x))
          have hnf := congrArg (List.filter fun y => decide (y < x)) hnx
          rw [List.filter_append] at hnf
          generalize S[j] = y at gj hnf
          by_cases hy : y < x
          · rw [List.filter_cons_of_pos (by simpa using hy), List.filter_nil] at hnf
            have hnf := (congrArg tkE hnf).trans (tkE_app _ _)
            generalize (S.take j).filter (fun y => decide (y < x)) = F at hfl hft hnf ⊢
            have hbd : ∀ a : List T, (((tkE F) ++ ((List.replicate 1 [T.int .i64 0]).set 0 a)).length : Int) ≤ 1000000000 := fun a => by
              simp only [List.length_append, List.length_set, List.length_replicate]
              omega
            repeat ((try conv => whnf); first | (refine Exists.intro S.length (And.intro hS1 ?_)) | (refine i_at gj ?_) | (refine Exists.intro _ (And.intro gj ?_)) | (refine And.intro (hbd _) ?_) | (refine stpQ ?_))
            refine ⟨j + 1, by omega, by omega, ?_⟩
            (refine le_auto (by rfl) ?_ ?_) <;> (repeat' (first | (exact eqA) | (refine And.intro ?_ ?_) | ((fail_if_success (with_reducible (show _ = _))); (show _ = _))))
            all_goals first | exact hnf.symm | exact hnf | rfl
          · rw [List.filter_cons_of_neg (by simpa using hy), List.filter_nil, List.append_nil] at hnf
            repeat ((try conv => whnf); first | (refine Exists.intro S.length (And.intro hS1 ?_)) | (refine i_at gj ?_) | (refine Exists.intro _ (And.intro gj ?_)) | (refine stpQ ?_))
            refine ⟨j + 1, by omega, by omega, ?_⟩
            rw [hnf]
            (refine le_auto (by rfl) ?_ ?_) <;> (repeat' (first | (exact eqA) | (refine And.intro ?_ ?_) | ((fail_if_success (with_reducible (show _ = _))); (show _ = _))))
        · have hje : j = S.length := by omega
          subst hje
          rw [List.take_length]
          repeat ((try conv => whnf); first | (refine Exists.intro S.length (And.intro hS1 ?_)) | (refine stpQ ?_))
          (refine le_auto (by rfl) ?_ ?_) <;> (repeat' (first | (exact eqA) | (refine And.intro ?_ ?_) | ((fail_if_success (with_reducible (show _ = _))); (show _ = _))))
      · have hfl : (S.filter fun y => decide (y < x)).length ≤ S.length := List.length_filter_le _ _
        have hft := tk_len (S.filter fun y => decide (y < x))
        generalize (S.filter fun y => decide (y < x)) = F at hfl hft hn ⊢
        have hbd : ∀ a : List T, (((tkE F) ++ ((List.replicate 1 [T.int .i64 0]).set 0 a)).length : Int) ≤ 1000000000 := fun a => by
          simp only [List.length_append, List.length_set, List.length_replicate]
          omega
        repeat ((try conv => whnf); first | (refine And.intro (hbd _) ?_) | (refine stpQ ?_))
        have hst : tkE F ++ (List.replicate 1 [T.int .i64 0]).set 0 [T.int .i64 x] = tkE (F ++ x :: List.filter (fun y => decide (x < y)) (List.take 0 S)) := by
          rw [List.take_zero, List.filter_nil, tkE_app]
          rfl
        refine loop_cut 4 ⟨[(0, .sl 16 z), (4, .int .i64 (k : Int)), (6, .ref 1)], [(1, some (.row 1 (tkE (F ++ x :: S.filter fun y => decide (x < y)))))], 3⟩ Nat (fun j => ⟨[(0, .sl 16 z), (3, .ref 1), (4, .int .i64 (k : Int)), (5, .int .i64 x), (6, .ref 2), (8, .int .i64 (j : Int))], [(1, some (.row 1 (tkE S))), (2, some (.row 1 (tkE (F ++ x :: (S.take j).filter fun y => decide (x < y)))))], 3⟩) (fun j => j ≤ S.length) (fun j => S.length - j) 0 (by omega) ?_ ?_ ?_
        · (refine le_auto (by rfl) ?_ ?_) <;> (repeat' (first | (exact eqA) | (refine And.intro ?_ ?_) | ((fail_if_success (with_reducible (show _ = _))); (show _ = _)))) <;> first | (exact hst) | rfl | decide
        · intro j hj
          by_cases hjl : j < S.length
          · have gj := tkE_get hjl
            have hnx := tk_next hjl
            have hfl2 : ((S.take j).filter fun y => decide (x < y)).length ≤ j := Nat.le_trans (List.length_filter_le _ _) (by rw [List.length_take]; omega)
            have hnf := congrArg (List.filter fun y => decide (x < y)) hnx
            rw [List.filter_append] at hnf
            generalize S[j] = y at gj hnf
            by_cases hy : x < y
            · rw [List.filter_cons_of_pos (by simpa using hy), List.filter_nil] at hnf
              have hnf : tkE (F ++ x :: (S.take (j + 1)).filter fun y => decide (x < y)) = tkE (F ++ x :: (S.take j).filter fun y => decide (x < y)) ++ [[.int .i64 y]] := by
                rw [hnf, ← List.cons_append, ← List.append_assoc, tkE_app _ [y]]
                rfl
              have hGl : (F ++ x :: (S.take j).filter fun y => decide (x < y)).length ≤ 3000000 := by simp only [List.length_append, List.length_cons]; omega
              have hGt := tk_len (F ++ x :: (S.take j).filter fun y => decide (x < y))
              generalize (F ++ x :: (S.take j).filter fun y => decide (x < y)) = G at hGl hGt hnf ⊢
              have hbd : ∀ a : List T, (((tkE G) ++ ((List.replicate 1 [T.int .i64 0]).set 0 a)).length : Int) ≤ 1000000000 := fun a => by
                simp only [List.length_append, List.length_set, List.length_replicate]
                omega
              repeat ((try conv => whnf); first | (refine Exists.intro S.length (And.intro hS1 ?_)) | (refine i_at gj ?_) | (refine Exists.intro _ (And.intro gj ?_)) | (refine And.intro (hbd _) ?_) | (refine stpQ ?_))
              refine ⟨j + 1, by omega, by omega, ?_⟩
              (refine le_auto (by rfl) ?_ ?_) <;> (repeat' (first | (exact eqA) | (refine And.intro ?_ ?_) | ((fail_if_success (with_reducible (show _ = _))); (show _ = _))))
              all_goals first | exact hnf.symm | exact hnf | rfl
            · rw [List.filter_cons_of_neg (by simpa using hy), List.filter_nil, List.append_nil] at hnf
              repeat ((try conv => whnf); first | (refine Exists.intro S.length (And.intro hS1 ?_)) | (refine i_at gj ?_) | (refine Exists.intro _ (And.intro gj ?_)) | (refine stpQ ?_))
              refine ⟨j + 1, by omega, by omega, ?_⟩
              rw [hnf]
              (refine le_auto (by rfl) ?_ ?_) <;> (repeat' (first | (exact eqA) | (refine And.intro ?_ ?_) | ((fail_if_success (with_reducible (show _ = _))); (show _ = _))))
          · have hje : j = S.length := by omega
            subst hje
            rw [List.take_length]
            repeat ((try conv => whnf); first | (refine Exists.intro S.length (And.intro hS1 ?_)) | (refine stpQ ?_))
            (refine le_auto (by rfl) ?_ ?_) <;> (repeat' (first | (exact eqA) | (refine And.intro ?_ ?_) | ((fail_if_success (with_reducible (show _ = _))); (show _ = _))))
        · rw [← hn]
          repeat ((try conv => whnf); first | (refine stpQ ?_))
          refine ⟨k + 1, by omega, by omega, ?_⟩
          (refine le_auto (by rfl) ?_ ?_) <;> (repeat' (first | (exact eqA) | (refine And.intro ?_ ?_) | ((fail_if_success (with_reducible (show _ = _))); (show _ = _))))
    · have hke : k = z.length := by omega
      subst hke
      repeat ((try conv => whnf); first | (refine stpQ ?_))
      (refine le_auto (by rfl) ?_ ?_) <;> (repeat' (first | (exact eqA) | (refine And.intro ?_ ?_) | ((fail_if_success (with_reducible (show _ = _))); (show _ = _))))
  · repeat ((try conv => whnf); first | (refine And.intro (by kernel_rfl) ?_) | (refine stpQ ?_))
    (refine ans_auto (by rfl) ?_ ?_ (by rfl)) <;> (repeat' (first | (exact eqA) | (refine And.intro ?_ ?_) | ((fail_if_success (with_reducible (show _ = _))); (show _ = _))))
end
end Go.Proofs.YtfgfkhmldlpmkaaGreatDoor
