/- Functions by content: a world written out, by the program and by the reference. -/
import Derived.Test.YtfgfkhmldlpmkaaGreatDoorSau
namespace Go.Proofs.YtfgfkhmldlpmkaaGreatDoor
open Go.RowKit Pl
set_option linter.unusedVariables false
set_option linter.unusedSimpArgs false

def HsAt (z : List (List T)) (f : Nat → Bs) (k : Nat) : Prop := ∃ (h0 h1 : Int) (h2 : Bool) (h3 h4 h5 h6 : List (List T)) (h7 : Int) (h8 : Bool) (h9 h10 h11 h12 h13 : List (List T)), z[k]? = some [.int .i64 h0, .int .i64 h1, .bool h2, .sl 3 h3, .sl 1 h4, .sl 8 h5, .sl 1 h6, .int .i64 h7, .bool h8, .sl 1 h9, .sl 1 h10, .sl 11 h11, .sl 1 h12, .sl 1 h13] ∧ (f k).length ≤ 50000000 ∧
  CT Tryz.prog 15 [] [.agg [.int .i64 h0, .int .i64 h1, .bool h2, .sl 3 h3, .sl 1 h4, .sl 8 h5, .sl 1 h6, .int .i64 h7, .bool h8, .sl 1 h9, .sl 1 h10, .sl 11 h11, .sl 1 h12, .sl 1 h13]] (.str (f k)) [] ∧ CT Tryz.prog 24 [] [.agg [.int .i64 h0, .int .i64 h1, .bool h2, .sl 3 h3, .sl 1 h4, .sl 8 h5, .sl 1 h6, .int .i64 h7, .bool h8, .sl 1 h9, .sl 1 h10, .sl 11 h11, .sl 1 h12, .sl 1 h13]] (.str (f k)) []
def AuAt (z : List (List T)) (f : Nat → Bs) (k : Nat) : Prop := ∃ (a0 : Int) (a1 : Bool) (a2 a3 a4 a5 : List (List T)), z[k]? = some [.int .i64 a0, .bool a1, .sl 3 a2, .sl 1 a3, .sl 8 a4, .sl 16 a5] ∧ (f k).length ≤ 50000000 ∧
  CT Tryz.prog 16 [] [.agg [.int .i64 a0, .bool a1, .sl 3 a2, .sl 1 a3, .sl 8 a4, .sl 16 a5]] (.str (f k)) [] ∧ CT Tryz.prog 25 [] [.agg [.int .i64 a0, .bool a1, .sl 3 a2, .sl 1 a3, .sl 8 a4, .sl 16 a5]] (.str (f k)) []
theorem lnH_le {z : List (List T)} {f : Nat → Bs} (h : ∀ k, k < z.length → HsAt z f k) : ∀ k, k ≤ z.length → (lnF f k).length ≤ 50000000 * k
  | 0, _ => by simp [lnF]
  | k + 1, hk => by
    have h1 := lnH_le h k (by omega)
    obtain ⟨_, _, _, _, _, _, _, _, _, _, _, _, _, _, _, h2, _⟩ := h k (by omega)
    rw [lnF, List.length_append]
    omega
theorem lnA_le {z : List (List T)} {f : Nat → Bs} (h : ∀ k, k < z.length → AuAt z f k) : ∀ k, k ≤ z.length → (lnF f k).length ≤ 50000000 * k
  | 0, _ => by simp [lnF]
  | k + 1, hk => by
    have h1 := lnA_le h k (by omega)
    obtain ⟨_, _, _, _, _, _, _, h2, _⟩ := h k (by omega)
    rw [lnF, List.length_append]
    omega
def shoB (f g : Nat → Bs) (n m : Nat) (k : Int) : Bs := (lnF f n ++ lnF g m) ++ [103, 105, 118, 101, 110, 32] ++ cntB k ++ [10]
section
attribute [local irreducible] CondB CallP LoopW AnsP LeP
set_option maxRecDepth 100000 in
set_option maxHeartbeats 8000000 in
theorem c_ShowWorld (z0 : List (List T)) (z1 : List (List T)) (z2 : List (List T)) (z3 : List (List T)) (z4 : List (List T)) (z5 : List (List T)) (f g : Nat → Bs) (h0 : z0.length ≤ 1048576) (h1 : z1.length ≤ 1048576) (h3 : z3.length ≤ 1048576) (hf : ∀ k, k < z0.length → HsAt z0 f k) (hg : ∀ k, k < z1.length → AuAt z1 g k) :
    CT Tryz.prog 7 [] [.agg [.sl 14 z0, .sl 6 z1, .sl 2 z2, .sl 7 z3, .sl 1 z4, .sl 1 z5]] (.str (shoB f g z0.length z1.length (z3.length : Int))) [] := by
  have hl1 := lnH_le hf
  have hl2 := lnA_le hg
  have hP1 := hl1 z0.length (Nat.le_refl _)
  have hP2 := hl2 z1.length (Nat.le_refl _)
  refine ct_intro ttE_ok 1 rfl Tryz.func7 rfl rfl rfl ?_
  unfold shoB
  have c1 : CT Tryz.prog 26 [] [.int .i64 (z3.length : Int)] (.str (cntB (z3.length : Int))) [] := c_count (z3.length : Int) (by omega)
  have l1 := cntB_len (z3.length : Int) (by omega)
  generalize cntB (z3.length : Int) = C1 at c1 l1 ⊢
  obtain ⟨P1, e1⟩ : ∃ P1, P1 = lnF f z0.length := ⟨_, rfl⟩
  obtain ⟨P2, e2⟩ : ∃ P2, P2 = lnF g z1.length := ⟨_, rfl⟩
  rw [← e1] at hP1
  rw [← e2] at hP2
  rw [← e1, ← e2]
  repeat ((try conv => whnf); first | (refine stpQ ?_))
  refine loop_cut 0 ⟨[(1, .ptr 1 0 0), (3, .str P1)], [(1, some (.box [.sl 14 z0, .sl 6 z1, .sl 2 z2, .sl 7 z3, .sl 1 z4, .sl 1 z5]))], 2⟩ Nat (fun k => ⟨[(1, .ptr 1 0 0), (3, .str (lnF f k)), (9, .sl 14 z0), (10, .int .i64 (z0.length : Int)), (11, .int .i64 (k : Int))], [(1, some (.box [.sl 14 z0, .sl 6 z1, .sl 2 z2, .sl 7 z3, .sl 1 z4, .sl 1 z5]))], 2⟩) (fun k => k ≤ z0.length) (fun k => z0.length - k) 0 (by omega) ?_ ?_ ?_
  · (refine le_auto (by rfl) ?_ ?_) <;> (repeat' (first | (exact eqA) | (refine And.intro ?_ ?_) | ((fail_if_success (with_reducible (show _ = _))); (show _ = _)))) <;> first | rfl | decide
  · intro k hk
    have h1 := hl1 k hk
    by_cases hlt : k < z0.length
    · obtain ⟨k0, k1, k2, k3, k4, k5, k6, k7, k8, k9, k10, k11, k12, k13, gk, h2, cS, cI⟩ := hf k hlt
      have hx : lnF f (k + 1) = lnF f k ++ f k := rfl
      generalize lnF f k = L at h1 hx ⊢
      generalize f k = D at h2 hx cS cI
      repeat ((try conv => whnf); first | (refine i_at gk ?_) | (refine ccA ([]) (cI) ?_) | (refine And.intro (by simp only [List.length_append, List.length_cons, List.length_nil]; omega) ?_) | (refine stpQ ?_))
      refine ⟨k + 1, by omega, by omega, ?_⟩
      rw [hx]
      (refine le_auto (by rfl) ?_ ?_) <;> (repeat' (first | (exact eqA) | (refine And.intro ?_ ?_) | ((fail_if_success (with_reducible (show _ = _))); (show _ = _))))
    · have hke : k = z0.length := by omega
      subst hke
      rw [← e1]
      repeat ((try conv => whnf); first | (refine stpQ ?_))
      (refine le_auto (by rfl) ?_ ?_) <;> (repeat' (first | (exact eqA) | (refine And.intro ?_ ?_) | ((fail_if_success (with_reducible (show _ = _))); (show _ = _))))
  · repeat ((try conv => whnf); first | (refine stpQ ?_))
    refine loop_cut 2 ⟨[(1, .ptr 1 0 0), (3, .str (P1 ++ P2))], [(1, some (.box [.sl 14 z0, .sl 6 z1, .sl 2 z2, .sl 7 z3, .sl 1 z4, .sl 1 z5]))], 2⟩ Nat (fun k => ⟨[(1, .ptr 1 0 0), (3, .str (P1 ++ lnF g k)), (21, .sl 6 z1), (22, .int .i64 (z1.length : Int)), (23, .int .i64 (k : Int))], [(1, some (.box [.sl 14 z0, .sl 6 z1, .sl 2 z2, .sl 7 z3, .sl 1 z4, .sl 1 z5]))], 2⟩) (fun k => k ≤ z1.length) (fun k => z1.length - k) 0 (by omega) ?_ ?_ ?_
    · (refine le_auto (by rfl) ?_ ?_) <;> (repeat' (first | (exact eqA) | (refine And.intro ?_ ?_) | ((fail_if_success (with_reducible (show _ = _))); (show _ = _)))) <;> first | (simp only [lnF, List.append_nil]; done) | rfl | decide
    · intro k hk
      have h1 := hl2 k hk
      by_cases hlt : k < z1.length
      · obtain ⟨k0, k1, k2, k3, k4, k5, gk, h2, cS, cI⟩ := hg k hlt
        have hx : lnF g (k + 1) = lnF g k ++ g k := rfl
        generalize lnF g k = L at h1 hx ⊢
        generalize g k = D at h2 hx cS cI
        repeat ((try conv => whnf); first | (refine i_at gk ?_) | (refine ccA ([]) (cI) ?_) | (refine And.intro (by simp only [List.length_append, List.length_cons, List.length_nil]; omega) ?_) | (refine stpQ ?_))
        refine ⟨k + 1, by omega, by omega, ?_⟩
        (refine le_auto (by rfl) ?_ ?_) <;> (repeat' (first | (exact eqA) | (refine And.intro ?_ ?_) | ((fail_if_success (with_reducible (show _ = _))); (show _ = _))))
        all_goals (rw [hx, List.append_assoc]; done)
      · have hke : k = z1.length := by omega
        subst hke
        rw [← e2]
        repeat ((try conv => whnf); first | (refine stpQ ?_))
        (refine le_auto (by rfl) ?_ ?_) <;> (repeat' (first | (exact eqA) | (refine And.intro ?_ ?_) | ((fail_if_success (with_reducible (show _ = _))); (show _ = _))))
    · repeat ((try conv => whnf); first | (refine ccA ([]) (c1) ?_) | (refine And.intro (by simp only [List.length_append, List.length_cons, List.length_nil]; omega) ?_) | (refine stpQ ?_))
      (refine ans_auto (by rfl) ?_ ?_ (by rfl)) <;> (repeat' (first | (exact eqA) | (refine And.intro ?_ ?_) | ((fail_if_success (with_reducible (show _ = _))); (show _ = _))))
set_option maxRecDepth 100000 in
set_option maxHeartbeats 8000000 in
theorem c_sShowWorld (z0 : List (List T)) (z1 : List (List T)) (z2 : List (List T)) (z3 : List (List T)) (z4 : List (List T)) (z5 : List (List T)) (f g : Nat → Bs) (h0 : z0.length ≤ 1048576) (h1 : z1.length ≤ 1048576) (h3 : z3.length ≤ 1048576) (hf : ∀ k, k < z0.length → HsAt z0 f k) (hg : ∀ k, k < z1.length → AuAt z1 g k) :
    CT Tryz.prog 5 [] [.agg [.sl 14 z0, .sl 6 z1, .sl 2 z2, .sl 7 z3, .sl 1 z4, .sl 1 z5]] (.str (shoB f g z0.length z1.length (z3.length : Int))) [] := by
  have hl1 := lnH_le hf
  have hl2 := lnA_le hg
  have hP1 := hl1 z0.length (Nat.le_refl _)
  have hP2 := hl2 z1.length (Nat.le_refl _)
  refine ct_intro ttE_ok 1 rfl Tryz.func5 rfl rfl rfl ?_
  unfold shoB
  have c1 : CT Tryz.prog 17 [] [.int .i64 (z3.length : Int)] (.str (cntB (z3.length : Int))) [] := c_DecimalM z3.length (by omega)
  have l1 := cntB_len (z3.length : Int) (by omega)
  generalize cntB (z3.length : Int) = C1 at c1 l1 ⊢
  obtain ⟨P1, e1⟩ : ∃ P1, P1 = lnF f z0.length := ⟨_, rfl⟩
  obtain ⟨P2, e2⟩ : ∃ P2, P2 = lnF g z1.length := ⟨_, rfl⟩
  rw [← e1] at hP1
  rw [← e2] at hP2
  rw [← e1, ← e2]
  repeat ((try conv => whnf); first | (refine stpQ ?_))
  refine loop_cut 0 ⟨[(1, .ptr 1 0 0), (3, .str P1)], [(1, some (.box [.sl 14 z0, .sl 6 z1, .sl 2 z2, .sl 7 z3, .sl 1 z4, .sl 1 z5]))], 2⟩ Nat (fun k => ⟨[(1, .ptr 1 0 0), (3, .str (lnF f k)), (4, .int .i64 (k : Int))], [(1, some (.box [.sl 14 z0, .sl 6 z1, .sl 2 z2, .sl 7 z3, .sl 1 z4, .sl 1 z5]))], 2⟩) (fun k => k ≤ z0.length) (fun k => z0.length - k) 0 (by omega) ?_ ?_ ?_
  · (refine le_auto (by rfl) ?_ ?_) <;> (repeat' (first | (exact eqA) | (refine And.intro ?_ ?_) | ((fail_if_success (with_reducible (show _ = _))); (show _ = _)))) <;> first | rfl | decide
  · intro k hk
    have h1 := hl1 k hk
    by_cases hlt : k < z0.length
    · obtain ⟨k0, k1, k2, k3, k4, k5, k6, k7, k8, k9, k10, k11, k12, k13, gk, h2, cS, cI⟩ := hf k hlt
      have hx : lnF f (k + 1) = lnF f k ++ f k := rfl
      generalize lnF f k = L at h1 hx ⊢
      generalize f k = D at h2 hx cS cI
      repeat ((try conv => whnf); first | (refine i_at gk ?_) | (refine ccA ([]) (cS) ?_) | (refine And.intro (by simp only [List.length_append, List.length_cons, List.length_nil]; omega) ?_) | (refine stpQ ?_))
      refine ⟨k + 1, by omega, by omega, ?_⟩
      rw [hx]
      (refine le_auto (by rfl) ?_ ?_) <;> (repeat' (first | (exact eqA) | (refine And.intro ?_ ?_) | ((fail_if_success (with_reducible (show _ = _))); (show _ = _))))
    · have hke : k = z0.length := by omega
      subst hke
      rw [← e1]
      repeat ((try conv => whnf); first | (refine stpQ ?_))
      (refine le_auto (by rfl) ?_ ?_) <;> (repeat' (first | (exact eqA) | (refine And.intro ?_ ?_) | ((fail_if_success (with_reducible (show _ = _))); (show _ = _))))
  · repeat ((try conv => whnf); first | (refine stpQ ?_))
    refine loop_cut 2 ⟨[(1, .ptr 1 0 0), (3, .str (P1 ++ P2))], [(1, some (.box [.sl 14 z0, .sl 6 z1, .sl 2 z2, .sl 7 z3, .sl 1 z4, .sl 1 z5]))], 2⟩ Nat (fun k => ⟨[(1, .ptr 1 0 0), (3, .str (P1 ++ lnF g k)), (5, .int .i64 (k : Int))], [(1, some (.box [.sl 14 z0, .sl 6 z1, .sl 2 z2, .sl 7 z3, .sl 1 z4, .sl 1 z5]))], 2⟩) (fun k => k ≤ z1.length) (fun k => z1.length - k) 0 (by omega) ?_ ?_ ?_
    · (refine le_auto (by rfl) ?_ ?_) <;> (repeat' (first | (exact eqA) | (refine And.intro ?_ ?_) | ((fail_if_success (with_reducible (show _ = _))); (show _ = _)))) <;> first | (simp only [lnF, List.append_nil]; done) | rfl | decide
    · intro k hk
      have h1 := hl2 k hk
      by_cases hlt : k < z1.length
      · obtain ⟨k0, k1, k2, k3, k4, k5, gk, h2, cS, cI⟩ := hg k hlt
        have hx : lnF g (k + 1) = lnF g k ++ g k := rfl
        generalize lnF g k = L at h1 hx ⊢
        generalize g k = D at h2 hx cS cI
        repeat ((try conv => whnf); first | (refine i_at gk ?_) | (refine ccA ([]) (cS) ?_) | (refine And.intro (by simp only [List.length_append, List.length_cons, List.length_nil]; omega) ?_) | (refine stpQ ?_))
        refine ⟨k + 1, by omega, by omega, ?_⟩
        (refine le_auto (by rfl) ?_ ?_) <;> (repeat' (first | (exact eqA) | (refine And.intro ?_ ?_) | ((fail_if_success (with_reducible (show _ = _))); (show _ = _))))
        all_goals (rw [hx, List.append_assoc]; done)
      · have hke : k = z1.length := by omega
        subst hke
        rw [← e2]
        repeat ((try conv => whnf); first | (refine stpQ ?_))
        (refine le_auto (by rfl) ?_ ?_) <;> (repeat' (first | (exact eqA) | (refine And.intro ?_ ?_) | ((fail_if_success (with_reducible (show _ = _))); (show _ = _))))
    · repeat ((try conv => whnf); first | (refine ccA ([]) (c1) ?_) | (refine And.intro (by simp only [List.length_append, List.length_cons, List.length_nil]; omega) ?_) | (refine stpQ ?_))
      (refine ans_auto (by rfl) ?_ ?_ (by rfl)) <;> (repeat' (first | (exact eqA) | (refine And.intro ?_ ?_) | ((fail_if_success (with_reducible (show _ = _))); (show _ = _))))
end
theorem alike_ShowWorld (e : List T) (q : Fits 1048576 sh_World e) : ∃ b : Bs, CT Tryz.prog 5 [] [.agg e] (.str b) [] ∧ CT Tryz.prog 7 [] [.agg e] (.str b) [] ∧ True := by
  obtain ⟨z0, z1, z2, z3, z4, z5, rfl, q0, q1, -, q3, -, -, -⟩ := fits_World q
  have kh : ∀ k, ∃ x : Bs, k < z0.length → HsAt z0 (fun _ => x) k := fun k => by
    by_cases h : k < z0.length
    · have hq := q0.2 _ (List.getElem_mem h)
      have hg := List.getElem?_eq_getElem h
      generalize z0[k] = e at hq hg
      obtain ⟨b, c1, c2, hb⟩ := alike_ShowHouse e hq
      obtain ⟨h0, h1, h2, h3, h4, h5, h6, h7, h8, h9, h10, h11, h12, h13, rfl, -⟩ := fits_House hq
      exact ⟨b, fun _ => ⟨h0, h1, h2, h3, h4, h5, h6, h7, h8, h9, h10, h11, h12, h13, hg, hb, c1, c2⟩⟩
    · exact ⟨[], fun c => absurd c h⟩
  have ka : ∀ k, ∃ x : Bs, k < z1.length → AuAt z1 (fun _ => x) k := fun k => by
    by_cases h : k < z1.length
    · have hq := q1.2 _ (List.getElem_mem h)
      have hg := List.getElem?_eq_getElem h
      generalize z1[k] = e at hq hg
      obtain ⟨b, c1, c2, hb⟩ := alike_ShowAuditor e hq
      obtain ⟨a0, a1, a2, a3, a4, a5, rfl, -⟩ := fits_Auditor hq
      exact ⟨b, fun _ => ⟨a0, a1, a2, a3, a4, a5, hg, hb, c1, c2⟩⟩
    · exact ⟨[], fun c => absurd c h⟩
  have hf : ∀ k, k < z0.length → HsAt z0 (fun k => Classical.choose (kh k)) k := fun k hk => Classical.choose_spec (kh k) hk
  have hg : ∀ k, k < z1.length → AuAt z1 (fun k => Classical.choose (ka k)) k := fun k hk => Classical.choose_spec (ka k) hk
  exact ⟨_, c_sShowWorld z0 z1 z2 z3 z4 z5 _ _ q0.1 q1.1 q3.1 hf hg, c_ShowWorld z0 z1 z2 z3 z4 z5 _ _ q0.1 q1.1 q3.1 hf hg, trivial⟩
end Go.Proofs.YtfgfkhmldlpmkaaGreatDoor
