/- Functions by content: a provider written out, by the program and by the reference. -/
import Derived.Test.YtfgfkhmldlpmkaaGreatDoorShs
namespace Go.Proofs.YtfgfkhmldlpmkaaGreatDoor
open Go.RowKit Pl
set_option linter.unusedVariables false
set_option linter.unusedSimpArgs false

def WtAt (z : List (List T)) (w : Nat → Nat) (k : Nat) : Prop := ∃ (a K : Int) (up : Bool) (y3 : List (List T)) (ep : Int) (y5 y6 y7 : List (List T)) (re rt rk : Int) (W : List (List T)), z[k]? = some [.int .i64 a, .int .i64 K, .bool up, .sl 3 y3, .int .i64 ep, .sl 1 y5, .sl 1 y6, .sl 3 y7, .int .i64 re, .int .i64 rt, .int .i64 rk] ∧ W.length = w k ∧ w k ≤ 1048576 ∧
  CT Tryz.prog 37 [] [.agg [.int .i64 a, .int .i64 K, .bool up, .sl 3 y3, .int .i64 ep, .sl 1 y5, .sl 1 y6, .sl 3 y7, .int .i64 re, .int .i64 rt, .int .i64 rk]] (.sl 3 W) [] ∧
  CT Tryz.prog 46 [] [.agg [.int .i64 a, .int .i64 K, .bool up, .sl 3 y3, .int .i64 ep, .sl 1 y5, .sl 1 y6, .sl 3 y7, .int .i64 re, .int .i64 rt, .int .i64 rk]] (.sl 3 W) []
def SlAt (z : List (List T)) (ep : Nat → Int) (rt : Nat → Bs) (k : Nat) : Prop := ∃ (e0 : Int) (pv : Bs) (at_ : Int) (y5 y6 y7 : List (List T)), z[k]? = some [.int .i64 e0, .int .i64 (ep k), .str (rt k), .str pv, .int .i64 at_, .sl 1 y5, .sl 1 y6, .sl 1 y7] ∧ -9223372036854775808 ≤ ep k ∧ ep k ≤ 9223372036854775807
def sumW (w : Nat → Nat) : Nat → Nat
  | 0 => 0
  | k + 1 => sumW w k + w k
theorem sumW_le {z : List (List T)} {w : Nat → Nat} (hw : ∀ k, k < z.length → WtAt z w k) : ∀ k, k ≤ z.length → sumW w k ≤ 1048576 * k
  | 0, _ => by simp [sumW]
  | k + 1, h => by
    have h1 := sumW_le hw k (by omega)
    obtain ⟨_, _, _, _, _, _, _, _, _, _, _, _, _, _, h2, _⟩ := hw k (by omega)
    rw [sumW]
    omega
/-- Lines, one behind the other. -/
def lnF (f : Nat → Bs) : Nat → Bs
  | 0 => []
  | k + 1 => lnF f k ++ f k
def slB (ep : Nat → Int) (rt : Nat → Bs) (k : Nat) : Bs := cntB (ep k) ++ ([32] ++ (hexS ((rt k).take 4) ++ [10]))
theorem hex4_len (l : Bs) : (hexS (l.take 4)).length ≤ 8 := by rw [hexS_len, List.length_take]; omega
theorem lnF_le {z : List (List T)} {ep : Nat → Int} {rt : Nat → Bs} (hs : ∀ k, k < z.length → SlAt z ep rt k) : ∀ k, k ≤ z.length → (lnF (slB ep rt) k).length ≤ 31 * k
  | 0, _ => by simp [lnF]
  | k + 1, h => by
    have h1 := lnF_le hs k (by omega)
    obtain ⟨_, _, _, _, _, _, _, _, h2⟩ := hs k (by omega)
    have h3 := cntB_len (ep k) h2
    have h4 := hex4_len (rt k)
    rw [lnF, slB]
    simp only [List.length_append, List.length_cons, List.length_nil]
    omega
def shwB (n0 : Int) (n5 nw : Nat) (f : Nat → Bs) : Bs := ([104, 111, 117, 115, 101] ++ cntB n0 ++ [32, 101, 112, 111, 99, 104, 115, 32] ++ cntB (n5 : Int) ++ [32, 119, 97, 105, 116, 115, 32] ++ cntB (nw : Int) ++ [10]) ++ lnF f n5
section
attribute [local irreducible] CondB CallP LoopW AnsP LeP
set_option maxRecDepth 100000 in
set_option maxHeartbeats 8000000 in
theorem c_ShowHouse (n0 n1 : Int) (b2 : Bool) (z3 z4 z5 z6 : List (List T)) (n7 : Int) (b8 : Bool) (z9 z10 z11 z12 z13 : List (List T)) (w : Nat → Nat) (ep : Nat → Int) (rt : Nat → Bs) (h0 : -9223372036854775808 ≤ n0 ∧ n0 ≤ 9223372036854775807) (h5 : z5.length ≤ 1048576) (h11 : z11.length ≤ 1048576) (hw : ∀ k, k < z11.length → WtAt z11 w k) (hs : ∀ k, k < z5.length → SlAt z5 ep rt k) :
    CT Tryz.prog 24 [] [.agg [.int .i64 n0, .int .i64 n1, .bool b2, .sl 3 z3, .sl 1 z4, .sl 8 z5, .sl 1 z6, .int .i64 n7, .bool b8, .sl 1 z9, .sl 1 z10, .sl 11 z11, .sl 1 z12, .sl 1 z13]] (.str (shwB n0 z5.length (sumW w z11.length) (slB ep rt))) [] := by
  have hsum := sumW_le hw
  have hlns := lnF_le hs
  refine ct_intro ttE_ok 1 rfl Tryz.func24 rfl rfl rfl ?_
  unfold shwB
  obtain ⟨N, hN⟩ : ∃ N, N = sumW w z11.length := ⟨_, rfl⟩
  have hN9 : N ≤ 1048576 * 1048576 := by
    have := hsum z11.length (Nat.le_refl _)
    omega
  rw [← hN]
  repeat ((try conv => whnf); first | (refine stpQ ?_))
  refine loop_cut 0 ⟨[(1, .ptr 1 0 0), (3, .int .i64 (N : Int))], [(1, some (.box [.int .i64 n0, .int .i64 n1, .bool b2, .sl 3 z3, .sl 1 z4, .sl 8 z5, .sl 1 z6, .int .i64 n7, .bool b8, .sl 1 z9, .sl 1 z10, .sl 11 z11, .sl 1 z12, .sl 1 z13]))], 2⟩ Nat (fun k => ⟨[(1, .ptr 1 0 0), (3, .int .i64 ((sumW w k : Nat) : Int)), (10, .sl 11 z11), (11, .int .i64 (z11.length : Int)), (12, .int .i64 (k : Int))], [(1, some (.box [.int .i64 n0, .int .i64 n1, .bool b2, .sl 3 z3, .sl 1 z4, .sl 8 z5, .sl 1 z6, .int .i64 n7, .bool b8, .sl 1 z9, .sl 1 z10, .sl 11 z11, .sl 1 z12, .sl 1 z13]))], 2⟩) (fun k => k ≤ z11.length) (fun k => z11.length - k) 0 (by omega) ?_ ?_ ?_
  · (refine le_auto (by rfl) ?_ ?_) <;> (repeat' (first | (exact eqA) | (refine And.intro ?_ ?_) | ((fail_if_success (with_reducible (show _ = _))); (show _ = _)))) <;> first | rfl | decide
  · intro k hk
    have h1 := hsum k hk
    by_cases hlt : k < z11.length
    · obtain ⟨a, K, up, y3, e4, y5, y6, y7, re, r9, rk, W, g, hW, h2, cS, cI⟩ := hw k hlt
      have hx : sumW w (k + 1) = sumW w k + w k := rfl
      generalize sumW w k = s0 at h1 hx ⊢
      repeat ((try conv => whnf); first | (refine i_at g ?_) | (refine ccA ([]) (cI) ?_) | (refine Exists.intro (w k) (And.intro hW ?_)) | (refine stpQ ?_))
      refine ⟨k + 1, by omega, by omega, ?_⟩
      rw [hx]
      (refine le_auto (by rfl) ?_ ?_) <;> (repeat' (first | (exact eqA) | (refine And.intro ?_ ?_) | ((fail_if_success (with_reducible (show _ = _))); (show _ = _))))
    · have hke : k = z11.length := by omega
      subst hke
      rw [← hN]
      repeat ((try conv => whnf); first | (refine stpQ ?_))
      (refine le_auto (by rfl) ?_ ?_) <;> (repeat' (first | (exact eqA) | (refine And.intro ?_ ?_) | ((fail_if_success (with_reducible (show _ = _))); (show _ = _))))
  · have c0 := c_count n0 h0
    have l0 := cntB_len n0 h0.2
    have c1 : CT Tryz.prog 26 [] [.int .i64 (z5.length : Int)] (.str (cntB (z5.length : Int))) [] := (c_count (z5.length : Int) (by omega))
    have l1 := cntB_len (z5.length : Int) (by omega)
    have c2 : CT Tryz.prog 26 [] [.int .i64 (N : Int)] (.str (cntB (N : Int))) [] := (c_count (N : Int) (by omega))
    have l2 := cntB_len (N : Int) (by omega)
    generalize cntB n0 = C0 at c0 l0 ⊢
    generalize cntB (z5.length : Int) = C1 at c1 l1 ⊢
    generalize cntB (N : Int) = C2 at c2 l2 ⊢
    repeat ((try conv => whnf); first | (refine ccA ([]) (c0) ?_) | (refine ccA ([]) (c1) ?_) | (refine ccA ([]) (c2) ?_) | (refine And.intro (by simp only [List.length_append, List.length_cons, List.length_nil]; omega) ?_) | (refine stpQ ?_))
    refine loop_cut 2 ⟨[(1, .ptr 1 0 0), (6, .str (([104, 111, 117, 115, 101] ++ C0 ++ [32, 101, 112, 111, 99, 104, 115, 32] ++ C1 ++ [32, 119, 97, 105, 116, 115, 32] ++ C2 ++ [10]) ++ lnF (slB ep rt) z5.length))], [(1, some (.box [.int .i64 n0, .int .i64 n1, .bool b2, .sl 3 z3, .sl 1 z4, .sl 8 z5, .sl 1 z6, .int .i64 n7, .bool b8, .sl 1 z9, .sl 1 z10, .sl 11 z11, .sl 1 z12, .sl 1 z13]))], 2⟩ Nat (fun k => ⟨[(1, .ptr 1 0 0), (6, .str (([104, 111, 117, 115, 101] ++ C0 ++ [32, 101, 112, 111, 99, 104, 115, 32] ++ C1 ++ [32, 119, 97, 105, 116, 115, 32] ++ C2 ++ [10]) ++ lnF (slB ep rt) k)), (41, .sl 8 z5), (42, .int .i64 (z5.length : Int)), (43, .int .i64 (k : Int))], [(1, some (.box [.int .i64 n0, .int .i64 n1, .bool b2, .sl 3 z3, .sl 1 z4, .sl 8 z5, .sl 1 z6, .int .i64 n7, .bool b8, .sl 1 z9, .sl 1 z10, .sl 11 z11, .sl 1 z12, .sl 1 z13]))], 2⟩) (fun k => k ≤ z5.length) (fun k => z5.length - k) 0 (by omega) ?_ ?_ ?_
    · (refine le_auto (by rfl) ?_ ?_) <;> (repeat' (first | (exact eqA) | (refine And.intro ?_ ?_) | ((fail_if_success (with_reducible (show _ = _))); (show _ = _)))) <;> first | (simp only [lnF, List.append_nil]; done) | rfl | decide
    · intro k hk
      have h1 := hlns k hk
      by_cases hlt : k < z5.length
      · obtain ⟨e0, pv, at_, y5, y6, y7, g, h2, h3⟩ := hs k hlt
        have d1 := c_count (ep k) ⟨h2, h3⟩
        have l3 := cntB_len (ep k) h3
        have l4 := hex4_len (rt k)
        have hx : lnF (slB ep rt) (k + 1) = lnF (slB ep rt) k ++ (cntB (ep k) ++ ([32] ++ (hexS ((rt k).take 4) ++ [10]))) := rfl
        obtain ⟨q, hq1, hq2, hq3⟩ : ∃ q : Nat, q ≤ (rt k).length ∧ (rt k).take q = (rt k).take 4 ∧ ((q : Nat) : Int) = (if ((rt k).length : Int) < 4 then ((rt k).length : Int) else 4) := by
          by_cases h4 : (rt k).length < 4
          · exact ⟨(rt k).length, Nat.le_refl _, by rw [List.take_length, List.take_of_length_le (by omega)], by rw [if_pos (by omega)]⟩
          · exact ⟨4, by omega, rfl, by rw [if_neg (by omega)]; rfl⟩
        have d2 := c_hexI ((rt k).take q) (by rw [hq2, List.length_take]; omega)
        rw [hq2] at d2
        generalize cntB (ep k) = D1 at d1 l3 hx ⊢
        generalize lnF (slB ep rt) k = L at h1 hx ⊢
        generalize hexS ((rt k).take 4) = D2 at d2 l4 hx ⊢
        rw [← hq2] at d2
        repeat ((try conv => whnf); first | (refine i_at g ?_) | (refine ccA ([]) (d1) ?_) | (refine Exists.intro _ (And.intro hq3 ?_)) | (refine Exists.intro q (And.intro rfl (And.intro hq1 ?_))) | (refine ccA ([]) (d2) ?_) | (refine And.intro (by simp only [List.length_append, List.length_cons, List.length_nil]; omega) ?_) | (refine stpQ ?_))
        refine ⟨k + 1, by omega, by omega, ?_⟩
        (refine le_auto (by rfl) ?_ ?_) <;> (repeat' (first | (exact eqA) | (refine And.intro ?_ ?_) | ((fail_if_success (with_reducible (show _ = _))); (show _ = _))))
        all_goals (rw [hx]; simp only [List.append_assoc, List.cons_append, List.nil_append]; done)
      · have hke : k = z5.length := by omega
        subst hke
        repeat ((try conv => whnf); first | (refine stpQ ?_))
        (refine le_auto (by rfl) ?_ ?_) <;> (repeat' (first | (exact eqA) | (refine And.intro ?_ ?_) | ((fail_if_success (with_reducible (show _ = _))); (show _ = _))))
    · repeat ((try conv => whnf); first | (refine stpQ ?_))
      (refine ans_auto (by rfl) ?_ ?_ (by rfl)) <;> (repeat' (first | (exact eqA) | (refine And.intro ?_ ?_) | ((fail_if_success (with_reducible (show _ = _))); (show _ = _))))
set_option maxRecDepth 100000 in
set_option maxHeartbeats 8000000 in
theorem c_sShowHouse (n0 n1 : Int) (b2 : Bool) (z3 z4 z5 z6 : List (List T)) (n7 : Int) (b8 : Bool) (z9 z10 z11 z12 z13 : List (List T)) (w : Nat → Nat) (ep : Nat → Int) (rt : Nat → Bs) (h0 : -9223372036854775808 ≤ n0 ∧ n0 ≤ 9223372036854775807) (h5 : z5.length ≤ 1048576) (h11 : z11.length ≤ 1048576) (hw : ∀ k, k < z11.length → WtAt z11 w k) (hs : ∀ k, k < z5.length → SlAt z5 ep rt k) :
    CT Tryz.prog 15 [] [.agg [.int .i64 n0, .int .i64 n1, .bool b2, .sl 3 z3, .sl 1 z4, .sl 8 z5, .sl 1 z6, .int .i64 n7, .bool b8, .sl 1 z9, .sl 1 z10, .sl 11 z11, .sl 1 z12, .sl 1 z13]] (.str (shwB n0 z5.length (sumW w z11.length) (slB ep rt))) [] := by
  have hsum := sumW_le hw
  have hlns := lnF_le hs
  refine ct_intro ttE_ok 1 rfl Tryz.func15 rfl rfl rfl ?_
  unfold shwB
  obtain ⟨N, hN⟩ : ∃ N, N = sumW w z11.length := ⟨_, rfl⟩
  have hN9 : N ≤ 1048576 * 1048576 := by
    have := hsum z11.length (Nat.le_refl _)
    omega
  rw [← hN]
  repeat ((try conv => whnf); first | (refine stpQ ?_))
  refine loop_cut 0 ⟨[(1, .ptr 1 0 0), (3, .int .i64 (N : Int))], [(1, some (.box [.int .i64 n0, .int .i64 n1, .bool b2, .sl 3 z3, .sl 1 z4, .sl 8 z5, .sl 1 z6, .int .i64 n7, .bool b8, .sl 1 z9, .sl 1 z10, .sl 11 z11, .sl 1 z12, .sl 1 z13]))], 2⟩ Nat (fun k => ⟨[(1, .ptr 1 0 0), (3, .int .i64 ((sumW w k : Nat) : Int)), (4, .int .i64 (k : Int))], [(1, some (.box [.int .i64 n0, .int .i64 n1, .bool b2, .sl 3 z3, .sl 1 z4, .sl 8 z5, .sl 1 z6, .int .i64 n7, .bool b8, .sl 1 z9, .sl 1 z10, .sl 11 z11, .sl 1 z12, .sl 1 z13]))], 2⟩) (fun k => k ≤ z11.length) (fun k => z11.length - k) 0 (by omega) ?_ ?_ ?_
  · (refine le_auto (by rfl) ?_ ?_) <;> (repeat' (first | (exact eqA) | (refine And.intro ?_ ?_) | ((fail_if_success (with_reducible (show _ = _))); (show _ = _)))) <;> first | rfl | decide
  · intro k hk
    have h1 := hsum k hk
    by_cases hlt : k < z11.length
    · obtain ⟨a, K, up, y3, e4, y5, y6, y7, re, r9, rk, W, g, hW, h2, cS, cI⟩ := hw k hlt
      have hx : sumW w (k + 1) = sumW w k + w k := rfl
      generalize sumW w k = s0 at h1 hx ⊢
      repeat ((try conv => whnf); first | (refine i_at g ?_) | (refine ccA ([]) (cS) ?_) | (refine Exists.intro (w k) (And.intro hW ?_)) | (refine stpQ ?_))
      refine ⟨k + 1, by omega, by omega, ?_⟩
      rw [hx]
      (refine le_auto (by rfl) ?_ ?_) <;> (repeat' (first | (exact eqA) | (refine And.intro ?_ ?_) | ((fail_if_success (with_reducible (show _ = _))); (show _ = _))))
    · have hke : k = z11.length := by omega
      subst hke
      rw [← hN]
      repeat ((try conv => whnf); first | (refine stpQ ?_))
      (refine le_auto (by rfl) ?_ ?_) <;> (repeat' (first | (exact eqA) | (refine And.intro ?_ ?_) | ((fail_if_success (with_reducible (show _ = _))); (show _ = _))))
  · have c0 := c_l30Num n0 h0
    have l0 := cntB_len n0 h0.2
    have c1 : CT Tryz.prog 17 [] [.int .i64 (z5.length : Int)] (.str (cntB (z5.length : Int))) [] := (c_DecimalM z5.length (by omega))
    have l1 := cntB_len (z5.length : Int) (by omega)
    have c2 : CT Tryz.prog 17 [] [.int .i64 (N : Int)] (.str (cntB (N : Int))) [] := (c_DecimalM N (by omega))
    have l2 := cntB_len (N : Int) (by omega)
    generalize cntB n0 = C0 at c0 l0 ⊢
    generalize cntB (z5.length : Int) = C1 at c1 l1 ⊢
    generalize cntB (N : Int) = C2 at c2 l2 ⊢
    repeat ((try conv => whnf); first | (refine ccA ([]) (c0) ?_) | (refine ccA ([]) (c1) ?_) | (refine ccA ([]) (c2) ?_) | (refine And.intro (by simp only [List.length_append, List.length_cons, List.length_nil]; omega) ?_) | (refine stpQ ?_))
    refine loop_cut 2 ⟨[(1, .ptr 1 0 0), (5, .str (([104, 111, 117, 115, 101] ++ C0 ++ [32, 101, 112, 111, 99, 104, 115, 32] ++ C1 ++ [32, 119, 97, 105, 116, 115, 32] ++ C2 ++ [10]) ++ lnF (slB ep rt) z5.length))], [(1, some (.box [.int .i64 n0, .int .i64 n1, .bool b2, .sl 3 z3, .sl 1 z4, .sl 8 z5, .sl 1 z6, .int .i64 n7, .bool b8, .sl 1 z9, .sl 1 z10, .sl 11 z11, .sl 1 z12, .sl 1 z13]))], 2⟩ Nat (fun k => ⟨[(1, .ptr 1 0 0), (5, .str (([104, 111, 117, 115, 101] ++ C0 ++ [32, 101, 112, 111, 99, 104, 115, 32] ++ C1 ++ [32, 119, 97, 105, 116, 115, 32] ++ C2 ++ [10]) ++ lnF (slB ep rt) k)), (6, .int .i64 (k : Int))], [(1, some (.box [.int .i64 n0, .int .i64 n1, .bool b2, .sl 3 z3, .sl 1 z4, .sl 8 z5, .sl 1 z6, .int .i64 n7, .bool b8, .sl 1 z9, .sl 1 z10, .sl 11 z11, .sl 1 z12, .sl 1 z13]))], 2⟩) (fun k => k ≤ z5.length) (fun k => z5.length - k) 0 (by omega) ?_ ?_ ?_
    · (refine le_auto (by rfl) ?_ ?_) <;> (repeat' (first | (exact eqA) | (refine And.intro ?_ ?_) | ((fail_if_success (with_reducible (show _ = _))); (show _ = _)))) <;> first | (simp only [lnF, List.append_nil]; done) | rfl | decide
    · intro k hk
      have h1 := hlns k hk
      by_cases hlt : k < z5.length
      · obtain ⟨e0, pv, at_, y5, y6, y7, g, h2, h3⟩ := hs k hlt
        have d1 := c_l30Num (ep k) ⟨h2, h3⟩
        have l3 := cntB_len (ep k) h3
        have l4 := hex4_len (rt k)
        have hx : lnF (slB ep rt) (k + 1) = lnF (slB ep rt) k ++ (cntB (ep k) ++ ([32] ++ (hexS ((rt k).take 4) ++ [10]))) := rfl
        by_cases h4 : (rt k).length > 4
        · have d2 := c_sHex ((rt k).take 4) (by rw [List.length_take]; omega)
          generalize cntB (ep k) = D1 at d1 l3 hx ⊢
          generalize lnF (slB ep rt) k = L at h1 hx ⊢
          generalize hexS ((rt k).take 4) = D2 at d2 l4 hx ⊢
          repeat ((try conv => whnf); first | (refine i_at g ?_) | (refine ccA ([]) (d1) ?_) | (refine Exists.intro 4 (And.intro rfl (And.intro (by omega) ?_))) | (refine ccA ([]) (d2) ?_) | (refine And.intro (by simp only [List.length_append, List.length_cons, List.length_nil]; omega) ?_) | (refine stpQ ?_))
          refine ⟨k + 1, by omega, by omega, ?_⟩
          (refine le_auto (by rfl) ?_ ?_) <;> (repeat' (first | (exact eqA) | (refine And.intro ?_ ?_) | ((fail_if_success (with_reducible (show _ = _))); (show _ = _))))
          all_goals (rw [hx]; simp only [List.append_assoc, List.cons_append, List.nil_append]; done)
        · have h44 : (rt k).take 4 = rt k := List.take_of_length_le (by omega)
          have d2 := c_sHex (rt k) (by omega)
          rw [h44] at hx l4
          generalize cntB (ep k) = D1 at d1 l3 hx ⊢
          generalize lnF (slB ep rt) k = L at h1 hx ⊢
          generalize hexS (rt k) = D2 at d2 l4 hx ⊢
          repeat ((try conv => whnf); first | (refine i_at g ?_) | (refine ccA ([]) (d1) ?_) | (refine ccA ([]) (d2) ?_) | (refine And.intro (by simp only [List.length_append, List.length_cons, List.length_nil]; omega) ?_) | (refine stpQ ?_))
          refine ⟨k + 1, by omega, by omega, ?_⟩
          (refine le_auto (by rfl) ?_ ?_) <;> (repeat' (first | (exact eqA) | (refine And.intro ?_ ?_) | ((fail_if_success (with_reducible (show _ = _))); (show _ = _))))
          all_goals (rw [hx]; simp only [List.append_assoc, List.cons_append, List.nil_append]; done)
      · have hke : k = z5.length := by omega
        subst hke
        repeat ((try conv => whnf); first | (refine stpQ ?_))
        (refine le_auto (by rfl) ?_ ?_) <;> (repeat' (first | (exact eqA) | (refine And.intro ?_ ?_) | ((fail_if_success (with_reducible (show _ = _))); (show _ = _))))
    · repeat ((try conv => whnf); first | (refine stpQ ?_))
      (refine ans_auto (by rfl) ?_ ?_ (by rfl)) <;> (repeat' (first | (exact eqA) | (refine And.intro ?_ ?_) | ((fail_if_success (with_reducible (show _ = _))); (show _ = _))))
end
theorem alike_ShowHouse (e : List T) (q : Fits 1048576 sh_House e) : ∃ b : Bs, CT Tryz.prog 15 [] [.agg e] (.str b) [] ∧ CT Tryz.prog 24 [] [.agg e] (.str b) [] ∧ b.length ≤ 50000000 := by
  obtain ⟨n0, n1, b2, z3, z4, z5, z6, n7, b8, z9, z10, z11, z12, z13, rfl, h0, -, -, -, -, q5, -, -, -, -, -, q11, -, -, -⟩ := fits_House q
  have kw : ∀ k, ∃ x : Nat, k < z11.length → WtAt z11 (fun _ => x) k := fun k => by
    by_cases h : k < z11.length
    · have hq := q11.2 _ (List.getElem_mem h)
      have hg := List.getElem?_eq_getElem h
      generalize z11[k] = e at hq hg
      obtain ⟨a, K, up, y3, e4, y5, y6, y7, re, r9, rk, rfl, -, -, -, -, -, -, p6, p7, -, -, -, -⟩ := fits_Server hq
      obtain ⟨tk, rfl, -⟩ := tk_dec p6.2
      have a6 := p6.1
      rw [tk_len] at a6
      have hle := wt_le tk y7
      exact ⟨(wtE tk y7).length, fun _ => ⟨a, K, up, y3, e4, y5, _, y7, re, r9, rk, wtE tk y7, hg, rfl, by show (wtE tk y7).length ≤ 1048576; have := p7.1; omega, c_sWaitsOf a K up y3 e4 y5 tk y7 re r9 rk a6 p7.1 p7.2, c_WaitsOf a K up y3 e4 y5 tk y7 re r9 rk a6 p7.1⟩⟩
    · exact ⟨0, fun c => absurd c h⟩
  have ks : ∀ k, ∃ x : Int × Bs, k < z5.length → SlAt z5 (fun _ => x.1) (fun _ => x.2) k := fun k => by
    by_cases h : k < z5.length
    · have hq := q5.2 _ (List.getElem_mem h)
      have hg := List.getElem?_eq_getElem h
      generalize z5[k] = e at hq hg
      obtain ⟨e0, e1, s2, s3, e4, y5, y6, y7, rfl, -, p1, -, -, -, -, -, -, -⟩ := fits_Seal hq
      exact ⟨(e1, s2), fun _ => ⟨e0, s3, e4, y5, y6, y7, hg, p1.1, p1.2⟩⟩
    · exact ⟨(0, []), fun c => absurd c h⟩
  have hw : ∀ k, k < z11.length → WtAt z11 (fun k => Classical.choose (kw k)) k := fun k hk => Classical.choose_spec (kw k) hk
  have hs : ∀ k, k < z5.length → SlAt z5 (fun k => (Classical.choose (ks k)).1) (fun k => (Classical.choose (ks k)).2) k := fun k hk => Classical.choose_spec (ks k) hk
  generalize (fun k => Classical.choose (kw k)) = w at hw
  generalize (fun k => (Classical.choose (ks k)).1) = ep at hs
  generalize (fun k => (Classical.choose (ks k)).2) = rt at hs
  refine ⟨_, c_sShowHouse n0 n1 b2 z3 z4 z5 z6 n7 b8 z9 z10 z11 z12 z13 w ep rt h0 q5.1 q11.1 hw hs, c_ShowHouse n0 n1 b2 z3 z4 z5 z6 n7 b8 z9 z10 z11 z12 z13 w ep rt h0 q5.1 q11.1 hw hs, ?_⟩
  have l0 := cntB_len n0 h0.2
  have l1 := cntB_len (z5.length : Int) (by have := q5.1; omega)
  have l3 := sumW_le hw z11.length (Nat.le_refl _)
  have l2 := cntB_len (sumW w z11.length : Int) (by have := q11.1; omega)
  have l4 := lnF_le hs z5.length (Nat.le_refl _)
  have l5 := q5.1
  unfold shwB
  simp only [List.length_append, List.length_cons, List.length_nil]
  omega
end Go.Proofs.YtfgfkhmldlpmkaaGreatDoor
