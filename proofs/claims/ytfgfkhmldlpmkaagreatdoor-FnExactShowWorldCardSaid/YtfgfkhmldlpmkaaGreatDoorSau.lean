/- Functions by content: an auditor written out, by the program and by the reference. -/
import Derived.Test.YtfgfkhmldlpmkaaGreatDoorBlc
import Derived.Test.YtfgfkhmldlpmkaaGreatDoorShh
namespace Go.Proofs.YtfgfkhmldlpmkaaGreatDoor
open Go.RowKit Pl
set_option linter.unusedVariables false
set_option linter.unusedSimpArgs false

def atH (B : List Int) (k : Nat) : Int := B.getD k 0
theorem atH_get {B : List Int} {k : Nat} (h : k < B.length) : (tkE B)[k]? = some [.int .i64 (atH B k)] := by
  rw [tkE_get h, atH, List.getD, List.getElem?_eq_getElem h]
  rfl
theorem atH_in {B : List Int} (hb : ∀ n ∈ B, -9223372036854775808 ≤ n ∧ n ≤ 9223372036854775807) {k : Nat} (h : k < B.length) : -9223372036854775808 ≤ atH B k ∧ atH B k ≤ 9223372036854775807 := by
  rw [atH, List.getD, List.getElem?_eq_getElem h]
  exact hb _ (List.getElem_mem h)
def blB (B : List Int) (k : Nat) : Bs := [98, 108, 97, 109, 101, 115, 32] ++ (cntB (atH B k) ++ [10])
theorem lnB_le {B : List Int} (hb : ∀ n ∈ B, -9223372036854775808 ≤ n ∧ n ≤ 9223372036854775807) : ∀ k, k ≤ B.length → (lnF (blB B) k).length ≤ 29 * k
  | 0, _ => by simp [lnF]
  | k + 1, h => by
    have h1 := lnB_le hb k (by omega)
    have h3 := cntB_len (atH B k) (atH_in hb (show k < B.length by omega)).2
    rw [lnF, blB]
    simp only [List.length_append, List.length_cons, List.length_nil]
    omega
def sauB (n0 : Int) (n4 : Nat) (B : List Int) : Bs := ([97, 117, 100, 105, 116, 111, 114] ++ cntB n0 ++ [32, 112, 105, 110, 115, 32] ++ cntB (n4 : Int) ++ [10]) ++ lnF (blB B) B.length
section
attribute [local irreducible] CondB CallP LoopW AnsP LeP
set_option maxRecDepth 100000 in
set_option maxHeartbeats 8000000 in
theorem c_ShowAuditor (n0 : Int) (b1 : Bool) (z2 z3 z4 z5 : List (List T)) (B : List Int) (h0 : -9223372036854775808 ≤ n0 ∧ n0 ≤ 9223372036854775807) (h4 : z4.length ≤ 1048576) (hB : B.length ≤ 1048576) (hb : ∀ n ∈ B, -9223372036854775808 ≤ n ∧ n ≤ 9223372036854775807) (cb : CT Tryz.prog 48 [] [.sl 16 z5] (.sl 1 (tkE B)) []) :
    CT Tryz.prog 25 [] [.agg [.int .i64 n0, .bool b1, .sl 3 z2, .sl 1 z3, .sl 8 z4, .sl 16 z5]] (.str (sauB n0 z4.length B)) [] := by
  have hlns := lnB_le hb
  have hBl := tk_len B
  refine ct_intro ttE_ok 1 rfl Tryz.func25 rfl rfl rfl ?_
  unfold sauB
  have c0 := c_count n0 h0
  have l0 := cntB_len n0 h0.2
  have c1 : CT Tryz.prog 26 [] [.int .i64 (z4.length : Int)] (.str (cntB (z4.length : Int))) [] := c_count (z4.length : Int) (by omega)
  have l1 := cntB_len (z4.length : Int) (by omega)
  generalize cntB n0 = C0 at c0 l0 ⊢
  generalize cntB (z4.length : Int) = C1 at c1 l1 ⊢
  repeat ((try conv => whnf); first | (refine ccA ([]) (c0) ?_) | (refine ccA ([]) (c1) ?_) | (refine ccA ([]) (cb) ?_) | (refine Exists.intro B.length (And.intro hBl ?_)) | (refine And.intro (by simp only [List.length_append, List.length_cons, List.length_nil]; omega) ?_) | (refine stpQ ?_))
  refine loop_cut 0 ⟨[(1, .ptr 1 0 0), (3, .str (([97, 117, 100, 105, 116, 111, 114] ++ C0 ++ [32, 112, 105, 110, 115, 32] ++ C1 ++ [10]) ++ lnF (blB B) B.length))], [(1, some (.box [.int .i64 n0, .bool b1, .sl 3 z2, .sl 1 z3, .sl 8 z4, .sl 16 z5]))], 2⟩ Nat (fun k => ⟨[(1, .ptr 1 0 0), (3, .str (([97, 117, 100, 105, 116, 111, 114] ++ C0 ++ [32, 112, 105, 110, 115, 32] ++ C1 ++ [10]) ++ lnF (blB B) k)), (19, .sl 1 (tkE B)), (20, .int .i64 (B.length : Int)), (21, .int .i64 (k : Int))], [(1, some (.box [.int .i64 n0, .bool b1, .sl 3 z2, .sl 1 z3, .sl 8 z4, .sl 16 z5]))], 2⟩) (fun k => k ≤ B.length) (fun k => B.length - k) 0 (by omega) ?_ ?_ ?_
  · (refine le_auto (by rfl) ?_ ?_) <;> (repeat' (first | (exact eqA) | (refine And.intro ?_ ?_) | ((fail_if_success (with_reducible (show _ = _))); (show _ = _)))) <;> first | (simp only [lnF, List.append_nil]; done) | rfl | decide
  · intro k hk
    have h1 := hlns k hk
    by_cases hlt : k < B.length
    · have g := atH_get hlt
      have gi := atH_in hb hlt
      have d1 := c_count (atH B k) gi
      have l3 := cntB_len (atH B k) gi.2
      have hx : lnF (blB B) (k + 1) = lnF (blB B) k ++ ([98, 108, 97, 109, 101, 115, 32] ++ (cntB (atH B k) ++ [10])) := rfl
      generalize cntB (atH B k) = D1 at d1 l3 hx ⊢
      generalize lnF (blB B) k = L at h1 hx ⊢
      repeat ((try conv => whnf); first | (refine Exists.intro B.length (And.intro hBl ?_)) | (refine i_at g ?_) | (refine ccA ([]) (d1) ?_) | (refine And.intro (by simp only [List.length_append, List.length_cons, List.length_nil]; omega) ?_) | (refine stpQ ?_))
      refine ⟨k + 1, by omega, by omega, ?_⟩
      (refine le_auto (by rfl) ?_ ?_) <;> (repeat' (first | (exact eqA) | (refine And.intro ?_ ?_) | ((fail_if_success (with_reducible (show _ = _))); (show _ = _))))
      all_goals (rw [hx]; simp only [List.append_assoc, List.cons_append, List.nil_append]; done)
    · have hke : k = B.length := by omega
      subst hke
      repeat ((try conv => whnf); first | (refine Exists.intro B.length (And.intro hBl ?_)) | (refine stpQ ?_))
      (refine le_auto (by rfl) ?_ ?_) <;> (repeat' (first | (exact eqA) | (refine And.intro ?_ ?_) | ((fail_if_success (with_reducible (show _ = _))); (show _ = _))))
  · repeat ((try conv => whnf); first | (refine stpQ ?_))
    (refine ans_auto (by rfl) ?_ ?_ (by rfl)) <;> (repeat' (first | (exact eqA) | (refine And.intro ?_ ?_) | ((fail_if_success (with_reducible (show _ = _))); (show _ = _))))
set_option maxRecDepth 100000 in
set_option maxHeartbeats 8000000 in
theorem c_sShowAuditor (n0 : Int) (b1 : Bool) (z2 z3 z4 z5 : List (List T)) (B : List Int) (h0 : -9223372036854775808 ≤ n0 ∧ n0 ≤ 9223372036854775807) (h4 : z4.length ≤ 1048576) (hB : B.length ≤ 1048576) (hb : ∀ n ∈ B, -9223372036854775808 ≤ n ∧ n ≤ 9223372036854775807) (cb : CT Tryz.prog 40 [] [.sl 16 z5] (.sl 1 (tkE B)) []) :
    CT Tryz.prog 16 [] [.agg [.int .i64 n0, .bool b1, .sl 3 z2, .sl 1 z3, .sl 8 z4, .sl 16 z5]] (.str (sauB n0 z4.length B)) [] := by
  have hlns := lnB_le hb
  have hBl := tk_len B
  refine ct_intro ttE_ok 1 rfl Tryz.func16 rfl rfl rfl ?_
  unfold sauB
  have c0 := c_l30Num n0 h0
  have l0 := cntB_len n0 h0.2
  have c1 : CT Tryz.prog 17 [] [.int .i64 (z4.length : Int)] (.str (cntB (z4.length : Int))) [] := c_DecimalM z4.length (by omega)
  have l1 := cntB_len (z4.length : Int) (by omega)
  generalize cntB n0 = C0 at c0 l0 ⊢
  generalize cntB (z4.length : Int) = C1 at c1 l1 ⊢
  repeat ((try conv => whnf); first | (refine ccA ([]) (c0) ?_) | (refine ccA ([]) (c1) ?_) | (refine ccA ([]) (cb) ?_) | (refine Exists.intro B.length (And.intro hBl ?_)) | (refine And.intro (by simp only [List.length_append, List.length_cons, List.length_nil]; omega) ?_) | (refine stpQ ?_))
  refine loop_cut 0 ⟨[(1, .ptr 1 0 0), (3, .str (([97, 117, 100, 105, 116, 111, 114] ++ C0 ++ [32, 112, 105, 110, 115, 32] ++ C1 ++ [10]) ++ lnF (blB B) B.length))], [(1, some (.box [.int .i64 n0, .bool b1, .sl 3 z2, .sl 1 z3, .sl 8 z4, .sl 16 z5]))], 2⟩ Nat (fun k => ⟨[(1, .ptr 1 0 0), (3, .str (([97, 117, 100, 105, 116, 111, 114] ++ C0 ++ [32, 112, 105, 110, 115, 32] ++ C1 ++ [10]) ++ lnF (blB B) k)), (4, .sl 1 (tkE B)), (5, .int .i64 (k : Int))], [(1, some (.box [.int .i64 n0, .bool b1, .sl 3 z2, .sl 1 z3, .sl 8 z4, .sl 16 z5]))], 2⟩) (fun k => k ≤ B.length) (fun k => B.length - k) 0 (by omega) ?_ ?_ ?_
  · (refine le_auto (by rfl) ?_ ?_) <;> (repeat' (first | (exact eqA) | (refine And.intro ?_ ?_) | ((fail_if_success (with_reducible (show _ = _))); (show _ = _)))) <;> first | (simp only [lnF, List.append_nil]; done) | rfl | decide
  · intro k hk
    have h1 := hlns k hk
    by_cases hlt : k < B.length
    · have g := atH_get hlt
      have gi := atH_in hb hlt
      have d1 := c_l30Num (atH B k) gi
      have l3 := cntB_len (atH B k) gi.2
      have hx : lnF (blB B) (k + 1) = lnF (blB B) k ++ ([98, 108, 97, 109, 101, 115, 32] ++ (cntB (atH B k) ++ [10])) := rfl
      generalize cntB (atH B k) = D1 at d1 l3 hx ⊢
      generalize lnF (blB B) k = L at h1 hx ⊢
      repeat ((try conv => whnf); first | (refine Exists.intro B.length (And.intro hBl ?_)) | (refine i_at g ?_) | (refine ccA ([]) (d1) ?_) | (refine And.intro (by simp only [List.length_append, List.length_cons, List.length_nil]; omega) ?_) | (refine stpQ ?_))
      refine ⟨k + 1, by omega, by omega, ?_⟩
      (refine le_auto (by rfl) ?_ ?_) <;> (repeat' (first | (exact eqA) | (refine And.intro ?_ ?_) | ((fail_if_success (with_reducible (show _ = _))); (show _ = _))))
      all_goals (rw [hx]; simp only [List.append_assoc, List.cons_append, List.nil_append]; done)
    · have hke : k = B.length := by omega
      subst hke
      repeat ((try conv => whnf); first | (refine Exists.intro B.length (And.intro hBl ?_)) | (refine stpQ ?_))
      (refine le_auto (by rfl) ?_ ?_) <;> (repeat' (first | (exact eqA) | (refine And.intro ?_ ?_) | ((fail_if_success (with_reducible (show _ = _))); (show _ = _))))
  · repeat ((try conv => whnf); first | (refine stpQ ?_))
    (refine ans_auto (by rfl) ?_ ?_ (by rfl)) <;> (repeat' (first | (exact eqA) | (refine And.intro ?_ ?_) | ((fail_if_success (with_reducible (show _ = _))); (show _ = _))))
end
theorem insH_mem {l : List Int} {x y : Int} (h : y ∈ insH l x) : y ∈ l ∨ y = x := by
  unfold insH at h
  rcases List.mem_append.1 h with h | h
  · exact .inl (List.mem_filter.1 h).1
  · rcases List.mem_cons.1 h with h | h
    · exact .inr h
    · exact .inl (List.mem_filter.1 h).1
theorem insHs_mem (hd : Nat → Int) : ∀ (k : Nat) (y : Int), y ∈ insHs (hdL hd k) → ∃ j, j < k ∧ y = hd j
  | 0, y, h => by simp [insHs, hdL] at h
  | k + 1, y, h => by
    rw [hdL_next, insHs_next] at h
    rcases insH_mem h with h | h
    · obtain ⟨j, hj, e⟩ := insHs_mem hd k y h
      exact ⟨j, by omega, e⟩
    · exact ⟨k, by omega, h⟩
theorem alike_ShowAuditor (e : List T) (q : Fits 1048576 sh_Auditor e) : ∃ b : Bs, CT Tryz.prog 16 [] [.agg e] (.str b) [] ∧ CT Tryz.prog 25 [] [.agg e] (.str b) [] ∧ b.length ≤ 50000000 := by
  obtain ⟨n0, b1, z2, z3, z4, z5, rfl, h0, -, -, -, q4, q5, -⟩ := fits_Auditor q
  have kp : ∀ k, ∃ x : Int, k < z5.length → PrAt z5 (fun _ => x) k ∧ (-9223372036854775808 ≤ x ∧ x ≤ 9223372036854775807) := fun k => by
    by_cases h : k < z5.length
    · have hq := q5.2 _ (List.getElem_mem h)
      have hg := List.getElem?_eq_getElem h
      generalize z5[k] = e at hq hg
      obtain ⟨p0, p1, p2, p3, p4, p5, p6, p7, p8, p9, p10, p11, p12, p13, p14, p15, rfl, hb, -⟩ := fits_Pair hq
      exact ⟨p0, fun _ => ⟨⟨p1, p2, p3, p4, p5, p6, p7, p8, p9, p10, p11, p12, p13, p14, p15, hg⟩, hb⟩⟩
    · exact ⟨0, fun c => absurd c h⟩
  have hp : ∀ k, k < z5.length → PrAt z5 (fun k => Classical.choose (kp k)) k := fun k hk => (Classical.choose_spec (kp k) hk).1
  have hbd : ∀ k, k < z5.length → -9223372036854775808 ≤ (fun k => Classical.choose (kp k)) k ∧ (fun k => Classical.choose (kp k)) k ≤ 9223372036854775807 := fun k hk => (Classical.choose_spec (kp k) hk).2
  generalize (fun k => Classical.choose (kp k)) = hd at hp hbd
  have hin : ∀ n ∈ insHs (hdL hd z5.length), -9223372036854775808 ≤ n ∧ n ≤ 9223372036854775807 := fun n hn => by
    obtain ⟨j, hj, rfl⟩ := insHs_mem hd _ n hn
    exact hbd j hj
  have hle := insHs_le (hdL hd z5.length)
  rw [hdL_len] at hle
  have a5 := q5.1
  have c1 := c_sBlamedIn z5 hd q5.1 hp
  have c2 := c_BlamedIn z5 hd q5.1 hp hbd
  generalize insHs (hdL hd z5.length) = B at hin hle c1 c2
  refine ⟨_, c_sShowAuditor n0 b1 z2 z3 z4 z5 B h0 q4.1 (by omega) hin c1, c_ShowAuditor n0 b1 z2 z3 z4 z5 B h0 q4.1 (by omega) hin c2, ?_⟩
  have l0 := cntB_len n0 h0.2
  have a4 := q4.1
  have l1 := cntB_len (z4.length : Int) (by omega)
  have l4 := lnB_le hin B.length (Nat.le_refl _)
  unfold sauB
  simp only [List.length_append, List.length_cons, List.length_nil]
  omega
end Go.Proofs.YtfgfkhmldlpmkaaGreatDoor
