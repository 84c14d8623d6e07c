/- Functions by content: the program's root of any proof of many. -/
import Derived.Test.YtfjbinbpgdiafaaGreatDoorMrv
import Derived.Test.YtfjbinbpgdiafaaGreatDoorPmx
namespace Go.Proofs.YtfjbinbpgdiafaaGreatDoor
set_option linter.unusedVariables false
set_option linter.unusedSimpArgs false
set_option linter.unusedSectionVars false
open Go.RowKit Pl
theorem z7v (l : List Lf) (w : Nat) (h : leavesOk l = true) (hw : 1 ≤ w ∧ w ≤ 32) : ∃ u : Bs, u.length ≤ 32 ∧ u = bkH w l ∧ CT Tryz.prog 63 [] [.sl 2 (lvE l), .int .i64 (w : Int)] (.str u) [] :=
 ⟨_, by show (cutB (z0B l) w).length ≤ 32; have : (cutB (z0B l) w).length = w := z32 (by omega); omega, rfl, z7u l w h hw⟩
theorem z7w (a b : Bs) (w : Nat) (ha : a.length ≤ 32) (hb : b.length ≤ 32) (hw : 1 ≤ w ∧ w ≤ 32) : ∃ u : Bs, u.length ≤ 32 ∧ u = z1t 3 [a, b] w ∧ CT Tryz.prog 64 [] [.int .i64 3, .int .i64 (w : Int), .sl 1 [[.str a], [.str b]]] (.str u) [] :=
 ⟨_, by have : (z1t 3 [a, b] w).length = w := z32 (by omega); omega, rfl, ze2 a b w ha hb hw⟩
section
attribute [local irreducible] z0t z0u z0A AnsP LeP W CvE mH mAll
set_option maxRecDepth 100000 in
set_option maxHeartbeats 32000000 in
theorem z5H (names : List Bs) (bks : List (List Lf)) (sides : List Bs) (w : Int) (hn : names.length ≤ 1000) (hl : ∀ s ∈ names, (s.length : Int) ≤ 100000000) (hb : bks.length ≤ 1000) (hbk : ∀ b ∈ bks, Sml b) (hs : sides.length ≤ 10000000) : CT Tryz.prog 19 [] [.agg [.sl 1 (strE names), .sl 1 (bkE bks), .sl 1 (strE sides)], .int .i64 w] (.tup [.str (z9l names bks sides w), .bool (z15 names bks sides w)]) [] := by
 have cX := z3o names (by omega) hl
 rw [z5s] at cX
 have cN := z5B names (by omega) hl
 have cW := z3L w
 have cA := z9f sides (sides.length : Int) w (by omega)
 rw [decide_eq_true rfl, Bool.and_true] at cA
 have hK := z2b names
 have hKl := z7h names
 have hKn := z1Y names
 have hne := z9j (names := names)
 have hnames : z0N names = true → names ≠ [] := fun h c => by rw [c] at h; exact absurd h (by decide)
 obtain ⟨RT, eRT, hF, hT⟩ := z6y names bks sides w
 rw [eRT]
 clear eRT
 unfold z15 at hF hT ⊢
 generalize z0N names = b1 at *
 generalize ixsN names = K at *
 have hKe := z1d K
 have hbe := z2c bks
 have hse := z0h sides
 cases b1 with
 | false =>
   have eR : RT = [] := hF (by simp only [Bool.false_and])
   subst eR
   clear hF hT
   simp only [Bool.false_and]
   refine z0b z0p 1 rfl Tryz.func19 rfl rfl rfl ?_
   conv => arg 6; whnf
   repeat ((try conv => whnf); first | (with_reducible first | refine z0a (fun Qs hN hE hR => ?_) | refine z08 ?_ | refine z00 (fun Qb kN kE kX kR => ?_) | refine z04 ?_ | refine z05 ?_ | refine z09 ?_ | refine z06 ?_ | refine z07 ?_ | (show W _ _ _ (.cond _ _ _) _ _; refine z03 rfl ?_) | (refine hN _ ?_; try clear hN hE hR Qs; (try (conv => arg 6; dsimp only [ovl, List.set, List.map, ren0]))) | ((first | refine hE _ _ ?_ | refine hR _ ?_); try clear hN hE hR Qs) | ((first | refine kN _ ?_ | refine kE _ ?_ | refine kX _ _ rfl ?_ | refine kR _ ?_); try clear kN kE kX kR Qb)) | (refine ccA ([]) (cX) ?_) | (refine ccA ([]) (cN) ?_) | (refine And.intro (by kernel_rfl) ?_) | (refine stpQ ?_))
   (refine z02 (by rfl) ?_ ?_ (by rfl)) <;> (repeat' (first | (exact eqA) | (refine And.intro ?_ ?_) | ((fail_if_success (with_reducible (show _ = _))); (show _ = _))))
 | true =>
 by_cases f1 : (bks.length : Int) = (K.length : Int)
 rotate_left
 ·have eR : RT = [] := hF (by rw [decide_eq_false (show ¬ bks.length = K.length by omega)]; simp only [Bool.false_and, Bool.and_false])
  subst eR
  clear hF hT
  rw [decide_eq_false (show ¬ bks.length = K.length by omega)]
  simp only [Bool.false_and, Bool.and_false]
  refine z0b z0p 1 rfl Tryz.func19 rfl rfl rfl ?_
  conv => arg 6; whnf
  repeat ((try conv => whnf); first | (with_reducible first | refine z0a (fun Qs hN hE hR => ?_) | refine z08 ?_ | refine z00 (fun Qb kN kE kX kR => ?_) | refine z04 ?_ | refine z05 ?_ | refine z09 ?_ | refine z06 ?_ | refine z07 ?_ | (show W _ _ _ (.cond _ _ _) _ _; refine z03 rfl ?_) | (refine hN _ ?_; try clear hN hE hR Qs; (try (conv => arg 6; dsimp only [ovl, List.set, List.map, ren0]))) | ((first | refine hE _ _ ?_ | refine hR _ ?_); try clear hN hE hR Qs) | ((first | refine kN _ ?_ | refine kE _ ?_ | refine kX _ _ rfl ?_ | refine kR _ ?_); try clear kN kE kX kR Qb)) | (refine ccA ([]) (cX) ?_) | (refine ccA ([]) (cN) ?_) | (refine Exists.intro bks.length (And.intro hbe ?_)) | (refine Exists.intro K.length (And.intro hKe ?_)) | (refine z3j f1 ?_) | (refine And.intro (by kernel_rfl) ?_) | (refine stpQ ?_))
  (refine z02 (by rfl) ?_ ?_ (by rfl)) <;> (repeat' (first | (exact eqA) | (refine And.intro ?_ ?_) | ((fail_if_success (with_reducible (show _ = _))); (show _ = _))))
 rw [decide_eq_true (show bks.length = K.length by omega)] at hF hT ⊢
 cases hw : inB w 1 32 with
 | false =>
   rw [hw] at cW
   have eR : RT = [] := hF (by rw [hw]; simp only [Bool.false_and, Bool.and_false])
   subst eR
   clear hF hT
   simp only [Bool.false_and, Bool.and_false]
   refine z0b z0p 1 rfl Tryz.func19 rfl rfl rfl ?_
   conv => arg 6; whnf
   repeat ((try conv => whnf); first | (with_reducible first | refine z0a (fun Qs hN hE hR => ?_) | refine z08 ?_ | refine z00 (fun Qb kN kE kX kR => ?_) | refine z04 ?_ | refine z05 ?_ | refine z09 ?_ | refine z06 ?_ | refine z07 ?_ | (show W _ _ _ (.cond _ _ _) _ _; refine z03 rfl ?_) | (refine hN _ ?_; try clear hN hE hR Qs; (try (conv => arg 6; dsimp only [ovl, List.set, List.map, ren0]))) | ((first | refine hE _ _ ?_ | refine hR _ ?_); try clear hN hE hR Qs) | ((first | refine kN _ ?_ | refine kE _ ?_ | refine kX _ _ rfl ?_ | refine kR _ ?_); try clear kN kE kX kR Qb)) | (refine ccA ([]) (cX) ?_) | (refine ccA ([]) (cN) ?_) | (refine Exists.intro bks.length (And.intro hbe ?_)) | (refine Exists.intro K.length (And.intro hKe ?_)) | (refine z3k f1 ?_) | (refine ccA ([]) (cW) ?_) | (refine And.intro (by kernel_rfl) ?_) | (refine stpQ ?_))
   (refine z02 (by rfl) ?_ ?_ (by rfl)) <;> (repeat' (first | (exact eqA) | (refine And.intro ?_ ?_) | ((fail_if_success (with_reducible (show _ = _))); (show _ = _))))
 | true =>
 rw [hw] at cW hF hT
 have hwi := z1b.1 hw
 obtain ⟨wn, rfl⟩ : ∃ n : Nat, w = n := ⟨w.toNat, by omega⟩
 cases ha : (sides.all fun x => decide ((x.length : Int) = (wn : Int))) with
 | false =>
   rw [ha] at cA
   have eR : RT = [] := hF (by rw [ha]; simp only [Bool.false_and, Bool.and_false])
   subst eR
   clear hF hT
   simp only [Bool.false_and, Bool.and_false]
   refine z0b z0p 1 rfl Tryz.func19 rfl rfl rfl ?_
   conv => arg 6; whnf
   repeat ((try conv => whnf); first | (with_reducible first | refine z0a (fun Qs hN hE hR => ?_) | refine z08 ?_ | refine z00 (fun Qb kN kE kX kR => ?_) | refine z04 ?_ | refine z05 ?_ | refine z09 ?_ | refine z06 ?_ | refine z07 ?_ | (show W _ _ _ (.cond _ _ _) _ _; refine z03 rfl ?_) | (refine hN _ ?_; try clear hN hE hR Qs; (try (conv => arg 6; dsimp only [ovl, List.set, List.map, ren0]))) | ((first | refine hE _ _ ?_ | refine hR _ ?_); try clear hN hE hR Qs) | ((first | refine kN _ ?_ | refine kE _ ?_ | refine kX _ _ rfl ?_ | refine kR _ ?_); try clear kN kE kX kR Qb)) | (refine ccA ([]) (cX) ?_) | (refine ccA ([]) (cN) ?_) | (refine Exists.intro bks.length (And.intro hbe ?_)) | (refine Exists.intro K.length (And.intro hKe ?_)) | (refine Exists.intro sides.length (And.intro hse ?_)) | (refine z3k f1 ?_) | (refine ccA ([]) (cW) ?_) | (refine ccA ([]) (cA) ?_) | (refine And.intro (by kernel_rfl) ?_) | (refine stpQ ?_))
   (refine z02 (by rfl) ?_ ?_ (by rfl)) <;> (repeat' (first | (exact eqA) | (refine And.intro ?_ ?_) | ((fail_if_success (with_reducible (show _ = _))); (show _ = _))))
 | true =>
 rw [ha] at cA hF hT
 have hsl : ∀ x ∈ sides, x.length ≤ 32 := fun x hx => by
  have := List.all_eq_true.1 ha x hx
  simp only [decide_eq_true_eq] at this
  omega
 simp only [Bool.true_and] at hF hT ⊢
 rw [Int.toNat_natCast] at hT
 obtain ⟨TOT, hTOT⟩ : ∃ TOT, TOT = mAll wn 8 K (bks.map (bkH wn)) sides := ⟨_, rfl⟩
 rw [← hTOT] at hT
 have kB : bksB bks K = true → ∀ i (h : i < bks.length), leavesOk bks[i] = true ∧ (z0k bks[i] ((K.getD i 0 : Nat) : Int)).length = bks[i].length := fun h i hi => by
  simp only [bksB, List.all_eq_true, List.mem_range, Bool.and_eq_true, decide_eq_true_eq] at h
  have := h i hi
  simpa [List.getD, List.getElem?_eq_getElem hi] using this
 have kB2 : (∀ i (h : i < bks.length), leavesOk bks[i] = true ∧ (z0k bks[i] ((K.getD i 0 : Nat) : Int)).length = bks[i].length) → bksB bks K = true := fun h => by
  simp only [bksB, List.all_eq_true, List.mem_range, Bool.and_eq_true, decide_eq_true_eq]
  intro i hi
  have e : bks.getD i [] = bks[i] := by simp [List.getD, List.getElem?_eq_getElem hi]
  rw [e]
  exact h i hi
 have hKne : K ≠ [] := hne (hnames rfl)
 generalize bksB bks K = b5 at *
 obtain ⟨okT, hokT⟩ : ∃ okT, okT = decide (sides.length = z1e 8 K) := ⟨_, rfl⟩
 rw [← hokT] at hF hT ⊢
 clear hne hnames hw ha hKn
 refine z0b z0p 1 rfl Tryz.func19 rfl rfl rfl ?_
 conv => arg 6; whnf
 repeat ((try conv => whnf); first | (with_reducible first | refine z0a (fun Qs hN hE hR => ?_) | refine z08 ?_ | refine z00 (fun Qb kN kE kX kR => ?_) | refine z04 ?_ | refine z05 ?_ | refine z09 ?_ | refine z06 ?_ | refine z07 ?_ | (show W _ _ _ (.cond _ _ _) _ _; refine z03 rfl ?_) | (refine hN _ ?_; try clear hN hE hR Qs; (try (conv => arg 6; dsimp only [ovl, List.set, List.map, ren0]))) | ((first | refine hE _ _ ?_ | refine hR _ ?_); try clear hN hE hR Qs) | ((first | refine kN _ ?_ | refine kE _ ?_ | refine kX _ _ rfl ?_ | refine kR _ ?_); try clear kN kE kX kR Qb)) | (refine ccA ([]) (cX) ?_) | (refine ccA ([]) (cN) ?_) | (refine Exists.intro bks.length (And.intro hbe ?_)) | (refine Exists.intro K.length (And.intro hKe ?_)) | (refine Exists.intro sides.length (And.intro hse ?_)) | (refine z3k f1 ?_) | (refine ccA ([]) (cW) ?_) | (refine ccA ([]) (cA) ?_) | (refine And.intro (by kernel_rfl) ?_) | (refine stpQ ?_))
 refine z1o (Nat × List Bs) (fun x => ⟨[(1, .int .i64 (wn : Int)), (2, .ptr 1 0 0), (6, .sl 1 (npE K)), (7, .ref 2), (47, .sl 1 (bkE bks)), (48, .int .i64 ((bks.length : Nat) : Int)), (49, .int .i64 (x.1 : Int))], [(1, some (.box [.sl 1 (strE names), .sl 1 (bkE bks), .sl 1 (strE sides)])), (2, some (.row 1 (strE x.2)))], 3⟩) (fun x => x.1 ≤ bks.length ∧ x.2 = (bks.take x.1).map (bkH wn) ∧ x.2.length = x.1 ∧ (∀ u ∈ x.2, u.length ≤ 32) ∧ ∀ i (h : i < bks.length), i < x.1 → leavesOk bks[i] = true ∧ (z0k bks[i] ((K.getD i 0 : Nat) : Int)).length = bks[i].length) (fun x => bks.length - x.1) (0, []) ⟨Nat.zero_le _, rfl, rfl, (fun u hu => by cases hu), fun i _ h => absurd h (Nat.not_lt_zero _)⟩ ?_ ?_
 ·(refine z01 (by rfl) ?_ ?_)
  all_goals (repeat' (first | (exact trivial) | ((try conv => whnf); first | (exact trivial) | (refine And.intro ?_ ?_))))
  all_goals first
   | rfl
   | decide
 ·intro Q1 hQ1 x hx
  obtain ⟨i, hs'⟩ := x
  obtain ⟨hi, hq1, hl1, hu1, hg1⟩ := hx
  dsimp only at hi hq1 hl1 hu1 hg1 ⊢
  have he1 := z0h hs'
  by_cases hlt : i < bks.length
  ·have f2 : (i : Int) < ((bks.length : Nat) : Int) := by omega
   have gb := z2T hlt
   have hik : i < K.length := by omega
   have gk := z0C hik
   have hkd : K.getD i 0 = K[i] := by simp [List.getD, List.getElem?_eq_getElem hik]
   have hsm := hbk _ (List.getElem_mem hlt)
   have cO := z2m bks[i] (by have := hsm.1; omega) hsm.fit
   by_cases hok : leavesOk bks[i] = true
   rotate_left
   ·have hok' : leavesOk bks[i] = false := by simpa using hok
    rw [hok'] at cO
    obtain rfl : b5 = false := by
     cases b5 with
     | false => rfl
     | true => exact absurd (kB rfl i hlt).1 hok
    have eR : RT = [] := hF (Bool.false_and _)
    clear kB kB2 hg1 hkd hokT hq1 hok hok' hsm
    generalize lvE bks[i] = BB at *
    generalize K[i] = p at *
    repeat ((try conv => whnf); first | (with_reducible first | refine z0a (fun Qs hN hE hR => ?_) | refine z08 ?_ | refine z00 (fun Qb kN kE kX kR => ?_) | refine z04 ?_ | refine z05 ?_ | refine z09 ?_ | refine z06 ?_ | refine z07 ?_ | (show W _ _ _ (.cond _ _ _) _ _; refine z03 rfl ?_) | (refine hN _ ?_; try clear hN hE hR Qs; (try (conv => arg 6; dsimp only [ovl, List.set, List.map, ren0]))) | ((first | refine hE _ _ ?_ | refine hR _ ?_); try clear hN hE hR Qs) | ((first | refine kN _ ?_ | refine kE _ ?_ | refine kX _ _ rfl ?_ | refine kR _ ?_); try clear kN kE kX kR Qb)) | (refine z0c f2 ?_) | (refine i_at gb ?_) | (refine ccA ([]) (cO) ?_) | (refine And.intro (by kernel_rfl) ?_) | (refine stpQ ?_))
    refine hQ1 _ _ ?_
    clear hQ1 Q1
    subst eR
    repeat ((try conv => whnf); first | (with_reducible first | refine z0a (fun Qs hN hE hR => ?_) | refine z08 ?_ | refine z00 (fun Qb kN kE kX kR => ?_) | refine z04 ?_ | refine z05 ?_ | refine z09 ?_ | refine z06 ?_ | refine z07 ?_ | (show W _ _ _ (.cond _ _ _) _ _; refine z03 rfl ?_) | (refine hN _ ?_; try clear hN hE hR Qs; (try (conv => arg 6; dsimp only [ovl, List.set, List.map, ren0]))) | ((first | refine hE _ _ ?_ | refine hR _ ?_); try clear hN hE hR Qs) | ((first | refine kN _ ?_ | refine kE _ ?_ | refine kX _ _ rfl ?_ | refine kR _ ?_); try clear kN kE kX kR Qb)) | (refine And.intro (by kernel_rfl) ?_) | (refine stpQ ?_))
    (refine z02 (by rfl) ?_ ?_ (by rfl)) <;> (repeat' (first | (exact eqA) | (refine And.intro ?_ ?_) | ((fail_if_success (with_reducible (show _ = _))); (show _ = _)))) <;> rfl
   rw [hok] at cO
   have cB := z6u bks[i] ((K[i] : Nat) : Int) (by have := hsm.1; omega) (fun k => by have := (hsm.2 k).1; omega)
   obtain ⟨u, hu, hud, cH⟩ := z7v bks[i] wn hok (by omega)
   have hq2 : hs' ++ [u] = (bks.take (i + 1)).map (bkH wn) := by rw [List.take_succ_eq_append_getElem hlt, List.map_append, ← hq1, hud]; rfl
   have hlv : (lvE bks[i]).length = bks[i].length := by simp [lvE]
   have hlb : (lvE (z0k bks[i] ((K[i] : Nat) : Int))).length = (z0k bks[i] ((K[i] : Nat) : Int)).length := by simp [lvE]
   by_cases hq : (z0k bks[i] ((K[i] : Nat) : Int)).length = bks[i].length
   ·have f3 : (((lvE (z0k bks[i] ((K[i] : Nat) : Int))).length : Nat) : Int) = (((lvE bks[i]).length : Nat) : Int) := by omega
    have hg2 : ∀ j (h : j < bks.length), j < i + 1 → leavesOk bks[j] = true ∧ (z0k bks[j] ((K.getD j 0 : Nat) : Int)).length = bks[j].length := fun j h hji => by
     by_cases he : j < i
     ·exact hg1 j h he
     ·obtain rfl : j = i := by omega
      rw [hkd]; exact ⟨hok, hq⟩
    have happ := z1H hs' u
    clear kB kB2 hg1 hq hkd hlv hlb hokT hud hq1
    generalize lvE (z0k bks[i] ((K[i] : Nat) : Int)) = BL at *
    generalize lvE bks[i] = BB at *
    generalize K[i] = p at *
    repeat ((try conv => whnf); first | (with_reducible first | refine z0a (fun Qs hN hE hR => ?_) | refine z08 ?_ | refine z00 (fun Qb kN kE kX kR => ?_) | refine z04 ?_ | refine z05 ?_ | refine z09 ?_ | refine z06 ?_ | refine z07 ?_ | (show W _ _ _ (.cond _ _ _) _ _; refine z03 rfl ?_) | (refine hN _ ?_; try clear hN hE hR Qs; (try (conv => arg 6; dsimp only [ovl, List.set, List.map, ren0]))) | ((first | refine hE _ _ ?_ | refine hR _ ?_); try clear hN hE hR Qs) | ((first | refine kN _ ?_ | refine kE _ ?_ | refine kX _ _ rfl ?_ | refine kR _ ?_); try clear kN kE kX kR Qb)) | (refine z0c f2 ?_) | (refine i_at gb ?_) | (refine ccA ([]) (cO) ?_) | (refine i_at gk ?_) | (refine ccA ([]) (cB) ?_) | (refine z3k f3 ?_) | (refine ccA ([]) (cH) ?_) | (refine And.intro (by simp only [List.length_append, List.length_set, List.length_replicate, List.length_cons, List.length_nil]; omega) ?_) | (refine And.intro (by kernel_rfl) ?_) | (refine stpQ ?_))
    refine ⟨(i + 1, hs' ++ [u]), ⟨hlt, hq2, by simp [hl1], fun v hv => ?_, hg2⟩, (by show bks.length - (i + 1) < bks.length - i; omega), ?_⟩
    ·rcases List.mem_append.1 hv with hv | hv
     ·exact hu1 v hv
     ·rw [List.mem_singleton] at hv; subst hv; exact hu
    ·(try dsimp only)
     rw [happ]
     (refine z01 (by rfl) ?_ ?_) <;> (repeat' (first | (exact eqA) | (refine And.intro ?_ ?_) | ((fail_if_success (with_reducible (show _ = _))); (show _ = _)))) <;> rfl
   ·have f3 : ¬ (((lvE (z0k bks[i] ((K[i] : Nat) : Int))).length : Nat) : Int) = (((lvE bks[i]).length : Nat) : Int) := by omega
    obtain rfl : b5 = false := by
     cases b5 with
     | false => rfl
     | true => have := (kB rfl i hlt).2; rw [hkd] at this; exact absurd this hq
    have eR : RT = [] := hF (Bool.false_and _)
    clear kB kB2 hg1 hq hkd hlv hlb hokT hud hq1
    generalize lvE (z0k bks[i] ((K[i] : Nat) : Int)) = BL at *
    generalize lvE bks[i] = BB at *
    generalize K[i] = p at *
    repeat ((try conv => whnf); first | (with_reducible first | refine z0a (fun Qs hN hE hR => ?_) | refine z08 ?_ | refine z00 (fun Qb kN kE kX kR => ?_) | refine z04 ?_ | refine z05 ?_ | refine z09 ?_ | refine z06 ?_ | refine z07 ?_ | (show W _ _ _ (.cond _ _ _) _ _; refine z03 rfl ?_) | (refine hN _ ?_; try clear hN hE hR Qs; (try (conv => arg 6; dsimp only [ovl, List.set, List.map, ren0]))) | ((first | refine hE _ _ ?_ | refine hR _ ?_); try clear hN hE hR Qs) | ((first | refine kN _ ?_ | refine kE _ ?_ | refine kX _ _ rfl ?_ | refine kR _ ?_); try clear kN kE kX kR Qb)) | (refine z0c f2 ?_) | (refine i_at gb ?_) | (refine ccA ([]) (cO) ?_) | (refine i_at gk ?_) | (refine ccA ([]) (cB) ?_) | (refine z3j f3 ?_) | (refine And.intro (by kernel_rfl) ?_) | (refine stpQ ?_))
    refine hQ1 _ _ ?_
    clear hQ1 Q1
    subst eR
    repeat ((try conv => whnf); first | (with_reducible first | refine z0a (fun Qs hN hE hR => ?_) | refine z08 ?_ | refine z00 (fun Qb kN kE kX kR => ?_) | refine z04 ?_ | refine z05 ?_ | refine z09 ?_ | refine z06 ?_ | refine z07 ?_ | (show W _ _ _ (.cond _ _ _) _ _; refine z03 rfl ?_) | (refine hN _ ?_; try clear hN hE hR Qs; (try (conv => arg 6; dsimp only [ovl, List.set, List.map, ren0]))) | ((first | refine hE _ _ ?_ | refine hR _ ?_); try clear hN hE hR Qs) | ((first | refine kN _ ?_ | refine kE _ ?_ | refine kX _ _ rfl ?_ | refine kR _ ?_); try clear kN kE kX kR Qb)) | (refine And.intro (by kernel_rfl) ?_) | (refine stpQ ?_))
    (refine z02 (by rfl) ?_ ?_ (by rfl)) <;> (repeat' (first | (exact eqA) | (refine And.intro ?_ ?_) | ((fail_if_success (with_reducible (show _ = _))); (show _ = _)))) <;> rfl
  ·have hie : i = bks.length := by omega
   subst hie
   have f2 : ¬ ((bks.length : Nat) : Int) < ((bks.length : Nat) : Int) := by omega
   obtain rfl : b5 = true := kB2 fun j h => hg1 j h h
   clear kB kB2 hg1
   rw [List.take_length] at hq1
   have hA0 : mAll wn 8 K hs' sides = TOT := by rw [hq1]; exact hTOT.symm
   repeat ((try conv => whnf); first | (with_reducible first | refine z0a (fun Qs hN hE hR => ?_) | refine z08 ?_ | refine z00 (fun Qb kN kE kX kR => ?_) | refine z04 ?_ | refine z05 ?_ | refine z09 ?_ | refine z06 ?_ | refine z07 ?_ | (show W _ _ _ (.cond _ _ _) _ _; refine z03 rfl ?_) | (refine hN _ ?_; try clear hN hE hR Qs; (try (conv => arg 6; dsimp only [ovl, List.set, List.map, ren0]))) | ((first | refine hE _ _ ?_ | refine hR _ ?_); try clear hN hE hR Qs) | ((first | refine kN _ ?_ | refine kE _ ?_ | refine kX _ _ rfl ?_ | refine kR _ ?_); try clear kN kE kX kR Qb)) | (refine z0d f2 ?_) | (refine stpQ ?_))
   refine hQ1 _ _ ?_
   clear hQ1 Q1
   repeat ((try conv => whnf); first | (with_reducible first | refine z0a (fun Qs hN hE hR => ?_) | refine z08 ?_ | refine z00 (fun Qb kN kE kX kR => ?_) | refine z04 ?_ | refine z05 ?_ | refine z09 ?_ | refine z06 ?_ | refine z07 ?_ | (show W _ _ _ (.cond _ _ _) _ _; refine z03 rfl ?_) | (refine hN _ ?_; try clear hN hE hR Qs; (try (conv => arg 6; dsimp only [ovl, List.set, List.map, ren0]))) | ((first | refine hE _ _ ?_ | refine hR _ ?_); try clear hN hE hR Qs) | ((first | refine kN _ ?_ | refine kE _ ?_ | refine kX _ _ rfl ?_ | refine kR _ ?_); try clear kN kE kX kR Qb)) | (refine And.intro (by kernel_rfl) ?_) | (refine stpQ ?_))
   refine z1o (Nat × List Nat × List Bs × List Bs × Nat) (fun x => ⟨[(1, .int .i64 (wn : Int)), (6, .sl 1 (npE x.2.1)), (7, .sl 1 (strE x.2.2.1)), (10, .sl 1 (strE x.2.2.2.1)), (78, .int .i64 (x.1 : Int))], [], 1⟩) (fun x => x.1 ≤ 8 ∧ x.2.2.1.length = x.2.1.length ∧ (∀ u ∈ x.2.2.1, u.length ≤ 32) ∧ (∀ u ∈ x.2.2.2.1, u.length ≤ 32) ∧ Ups x.2.1 ∧ (∀ p ∈ x.2.1, p < 256) ∧ x.2.1 ≠ [] ∧ x.2.1.length ≤ 1000 ∧ x.2.2.2.1.length + x.2.2.2.2 = sides.length ∧ z1e 8 K = x.2.2.2.2 + z1e (8 - x.1) x.2.1 ∧ mAll wn (8 - x.1) x.2.1 x.2.2.1 x.2.2.2.1 = TOT) (fun x => 8 - x.1) (0, K, hs', sides, 0) ⟨Nat.zero_le _, by show hs'.length = K.length; omega, hu1, hsl, hK, hKl, hKne, by show K.length ≤ 1000; omega, rfl, by show z1e 8 K = 0 + z1e 8 K; omega, hA0⟩ ?_ ?_
   ·(refine z01 (by rfl) ?_ ?_)
    all_goals (repeat' (first | (exact trivial) | ((try conv => whnf); first | (exact trivial) | (refine And.intro ?_ ?_))))
    all_goals first
     | rfl
     | decide
   ·clear hl1 hu1 hK hKl hKne hKe he1 cX cN cW cA hsl
    intro Q2 hQ2 x hx
    obtain ⟨lv, L, hh, ss, us⟩ := x
    obtain ⟨hlv, hhl, hhu, hsu, hL, hL2, hLne, hLm, hss, hmn, hma⟩ := hx
    dsimp only at hlv hhl hhu hsu hL hL2 hLne hLm hss hmn hma ⊢
    have hLl := z1d L
    have hhe := z0h hh
    have hsse := z0h ss
    by_cases hlt8 : lv < 8
    ·have f4 : (lv : Int) < 8 := by omega
     have hm8 : z1e (8 - lv) L = lvNd L + z1e (8 - (lv + 1)) (lvUp L) := by
      rw [show 8 - lv = (8 - (lv + 1)) + 1 by omega, z1e]
     have hma8 : mAll wn (8 - (lv + 1)) (lvUp L) (mH wn L hh ss).1 (mH wn L hh ss).2 = TOT := by
      rw [← hma, show 8 - lv = (8 - (lv + 1)) + 1 by omega, mAll]
     obtain ⟨MH, hMH⟩ : ∃ MH, MH = mH wn L hh ss := ⟨_, rfl⟩
     rw [← hMH] at hma8
     clear hma hTOT hA0 hq1
     repeat ((try conv => whnf); first | (with_reducible first | refine z0a (fun Qs hN hE hR => ?_) | refine z08 ?_ | refine z00 (fun Qb kN kE kX kR => ?_) | refine z04 ?_ | refine z05 ?_ | refine z09 ?_ | refine z06 ?_ | refine z07 ?_ | (show W _ _ _ (.cond _ _ _) _ _; refine z03 rfl ?_) | (refine hN _ ?_; try clear hN hE hR Qs; (try (conv => arg 6; dsimp only [ovl, List.set, List.map, ren0]))) | ((first | refine hE _ _ ?_ | refine hR _ ?_); try clear hN hE hR Qs) | ((first | refine kN _ ?_ | refine kE _ ?_ | refine kX _ _ rfl ?_ | refine kR _ ?_); try clear kN kE kX kR Qb)) | (refine z0c f4 ?_) | (refine And.intro (by kernel_rfl) ?_) | (refine stpQ ?_))
     refine z1o (Nat × List Nat × List Bs × List Bs × Nat) (fun x => ⟨[(1, .int .i64 (wn : Int)), (6, .sl 1 (npE L)), (7, .sl 1 (strE hh)), (10, .sl 1 (strE x.2.2.2.1)), (11, .ref 1), (12, .ref 2), (13, .int .i64 (x.1 : Int)), (78, .int .i64 (lv : Int))], [(1, some (.row 1 (npE x.2.1))), (2, some (.row 1 (strE x.2.2.1)))], 3⟩) (fun x => x.1 ≤ L.length ∧ lvUp L = x.2.1 ++ lvUp (L.drop x.1) ∧ x.2.2.1.length = x.2.1.length ∧ x.2.1.length ≤ x.1 ∧ (∀ u ∈ x.2.2.1, u.length ≤ 32) ∧ (∀ u ∈ x.2.2.2.1, u.length ≤ 32) ∧ x.2.2.2.1.length + x.2.2.2.2 = ss.length ∧ lvNd L = x.2.2.2.2 + lvNd (L.drop x.1) ∧ (x.2.2.1 ++ (mH wn (L.drop x.1) (hh.drop x.1) x.2.2.2.1).1, (mH wn (L.drop x.1) (hh.drop x.1) x.2.2.2.1).2) = MH) (fun x => L.length - x.1) (0, [], [], ss, 0) ⟨Nat.zero_le _, rfl, rfl, Nat.le_refl _, (fun u hu => by cases hu), hsu, rfl, by show lvNd L = 0 + lvNd L; omega, (by show ([] ++ (mH wn (L.drop 0) (hh.drop 0) ss).1, (mH wn (L.drop 0) (hh.drop 0) ss).2) = MH; rw [List.drop_zero, List.drop_zero, List.nil_append, hMH])⟩ ?_ ?_
     ·(refine z01 (by rfl) ?_ ?_)
      all_goals (repeat' (first | (exact trivial) | ((try conv => whnf); first | (exact trivial) | (refine And.intro ?_ ?_))))
      all_goals first
       | rfl
       | decide
     ·intro Q3 hQ3 x hx
      obtain ⟨k, up, nx, s1, vs⟩ := x
      obtain ⟨hk, hup, hnl, hul, hnu, hs1, hsv, hnd, hmi⟩ := hx
      dsimp only at hk hup hnl hul hnu hs1 hsv hnd hmi ⊢
      have hupe := z1d up
      have hnxe := z0h nx
      by_cases hkl : k < L.length
      ·have f5 : (k : Int) < ((L.length : Nat) : Int) := by omega
       have gp := z0C hkl
       have hkh : k < hh.length := by omega
       have gh := z1T hkh
       have hp256 := hL2 _ (List.getElem_mem hkl)
       have ex := zfp hp256
       have hh1 := hhu _ (List.getElem_mem hkh)
       by_cases hpair : ∃ h2 : k + 1 < L.length, L[k] % 2 = 0 ∧ L[k + 1] = L[k] + 1
       ·obtain ⟨h2, h3, h4⟩ := hpair
        obtain ⟨lu, ln⟩ := z98 h2 h3 h4
        have fk1 : ((k + 1 : Nat) : Int) < ((L.length : Nat) : Int) := by omega
        have gq := z0C h2
        have hkh2 : k + 1 < hh.length := by omega
        have gh2 := z1T hkh2
        have hh2 := hhu _ (List.getElem_mem hkh2)
        have fe1 : ((L[k + 1] : Nat) : Int) = ((x1 L[k] : Nat) : Int) := by rw [h4, x1, if_pos h3]
        have fpe : ((L[k] % 2 : Nat) : Int) = 0 := by omega
        obtain ⟨u, hu, hud, cH⟩ := z7w hh[k] hh[k + 1] wn hh1 hh2 (by omega)
        have hmi2 : ((nx ++ [u]) ++ (mH wn (L.drop (k + 2)) (hh.drop (k + 2)) s1).1, (mH wn (L.drop (k + 2)) (hh.drop (k + 2)) s1).2) = MH := by rw [← hmi, zd1 h2 hkh2 h3 h4, ← hud, List.append_assoc]; rfl
        have hap1 := z7g up (L[k] / 2)
        have hap2 := z1H nx u
        have inv2 : lvUp L = (up ++ [L[k] / 2]) ++ lvUp (L.drop (k + 2)) := by rw [hup, lu]; simp
        have inv3 : lvNd L = vs + lvNd (L.drop (k + 2)) := by rw [hnd, ln]
        clear hup hnd lu ln h3 hhu hL2 hL hokT hud hmi hMH
        generalize x1 L[k] = xp at *
        generalize L[k + 1] = q at *
        generalize L[k] = p at *
        generalize hh[k + 1] = hb2 at *
        generalize hh[k] = hb1 at *
        repeat ((try conv => whnf); first | (with_reducible first | refine z0a (fun Qs hN hE hR => ?_) | refine z08 ?_ | refine z00 (fun Qb kN kE kX kR => ?_) | refine z04 ?_ | refine z05 ?_ | refine z09 ?_ | refine z06 ?_ | refine z07 ?_ | (show W _ _ _ (.cond _ _ _) _ _; refine z03 rfl ?_) | (refine hN _ ?_; try clear hN hE hR Qs; (try (conv => arg 6; dsimp only [ovl, List.set, List.map, ren0]))) | ((first | refine hE _ _ ?_ | refine hR _ ?_); try clear hN hE hR Qs) | ((first | refine kN _ ?_ | refine kE _ ?_ | refine kX _ _ rfl ?_ | refine kR _ ?_); try clear kN kE kX kR Qb)) | (refine z0c f5 ?_) | (refine z0c fk1 ?_) | (refine z0d fkn ?_) | (refine z0c fe1 ?_) | (refine z0d fen ?_) | (refine z0c fpe ?_) | (refine z0d fpo ?_) | (refine z0c fs0 ?_) | (refine z0d fs1 ?_) | (refine Exists.intro _ (And.intro ex.symm ?_)) | (refine i_at gp ?_) | (refine i_at gh ?_) | (refine i_at gq ?_) | (refine i_at gh2 ?_) | (refine z7o gs ?_) | (refine z7p i1 ?_) | (refine Exists.intro L.length (And.intro hLl ?_)) | (refine z1c (n := nat_lit 2) ?_) | (refine z1M (n := nat_lit 2) (by omega) ?_) | (refine ccA ([]) (cH) ?_) | (refine And.intro (by simp only [List.length_append, List.length_set, List.length_replicate, List.length_cons, List.length_nil]; omega) ?_) | (refine And.intro (by kernel_rfl) ?_) | (refine stpQ ?_))
        refine ⟨(k + 2, up ++ [p / 2], nx ++ [u], s1, vs), ⟨by show k + 2 ≤ L.length; omega, inv2, by simp [hnl], by simp; omega, fun v hv => ?_, hs1, hsv, inv3, hmi2⟩, (by show L.length - (k + 2) < L.length - k; omega), ?_⟩
        ·rcases List.mem_append.1 hv with hv | hv
         ·exact hnu v hv
         ·rw [List.mem_singleton] at hv; subst hv; exact hu
        ·(try dsimp only)
         rw [hap1, hap2]
         (refine z01 (by rfl) ?_ ?_) <;> (repeat' (first | (exact eqA) | (refine And.intro ?_ ?_) | ((fail_if_success (with_reducible (show _ = _))); (show _ = _)))) <;> rfl
       ·obtain ⟨lu, ln⟩ := zcG hkl (fun h2 c => hpair ⟨h2, c⟩)
        cases s1 with
        | nil =>
          have fs0 : (((strE ([] : List Bs)).length : Nat) : Int) = 0 := rfl
          have eT : okT = false := by
           rw [hokT]
           refine decide_eq_false fun c => ?_
           simp only [List.length_nil] at hsv
           omega
          have eR : RT = [] := hF (by rw [eT]; rfl)
          clear lu ln hup hnd hokT hmi hMH
          by_cases h2 : k + 1 < L.length
          ·have fk1 : ((k + 1 : Nat) : Int) < ((L.length : Nat) : Int) := by omega
           have gq := z0C h2
           have hlt2 := z3J hL h2
           have fen : ¬ ((L[k + 1] : Nat) : Int) = ((x1 L[k] : Nat) : Int) := fun c => hpair ⟨h2, by
            unfold x1 at c
            split at c <;> omega⟩
           clear hpair hL2 hL hhu
           generalize x1 L[k] = xp at *
           generalize L[k + 1] = q at *
           generalize L[k] = p at *
           generalize hh[k] = hb1 at *
           repeat ((try conv => whnf); first | (with_reducible first | refine z0a (fun Qs hN hE hR => ?_) | refine z08 ?_ | refine z00 (fun Qb kN kE kX kR => ?_) | refine z04 ?_ | refine z05 ?_ | refine z09 ?_ | refine z06 ?_ | refine z07 ?_ | (show W _ _ _ (.cond _ _ _) _ _; refine z03 rfl ?_) | (refine hN _ ?_; try clear hN hE hR Qs; (try (conv => arg 6; dsimp only [ovl, List.set, List.map, ren0]))) | ((first | refine hE _ _ ?_ | refine hR _ ?_); try clear hN hE hR Qs) | ((first | refine kN _ ?_ | refine kE _ ?_ | refine kX _ _ rfl ?_ | refine kR _ ?_); try clear kN kE kX kR Qb)) | (refine z0c f5 ?_) | (refine z0c fk1 ?_) | (refine z0d fkn ?_) | (refine z0c fe1 ?_) | (refine z0d fen ?_) | (refine z0c fpe ?_) | (refine z0d fpo ?_) | (refine z0c fs0 ?_) | (refine z0d fs1 ?_) | (refine Exists.intro _ (And.intro ex.symm ?_)) | (refine i_at gp ?_) | (refine i_at gh ?_) | (refine i_at gq ?_) | (refine i_at gh2 ?_) | (refine z7o gs ?_) | (refine z7p i1 ?_) | (refine Exists.intro L.length (And.intro hLl ?_)) | (refine z1c (n := nat_lit 2) ?_) | (refine z1M (n := nat_lit 2) (by omega) ?_) | (refine ccA ([]) (cH) ?_) | (refine And.intro (by simp only [List.length_append, List.length_set, List.length_replicate, List.length_cons, List.length_nil]; omega) ?_) | (refine And.intro (by kernel_rfl) ?_) | (refine stpQ ?_))
           refine hQ3 _ _ ?_
           clear hQ3 Q3
           repeat ((try conv => whnf); first | (with_reducible first | refine z0a (fun Qs hN hE hR => ?_) | refine z08 ?_ | refine z00 (fun Qb kN kE kX kR => ?_) | refine z04 ?_ | refine z05 ?_ | refine z09 ?_ | refine z06 ?_ | refine z07 ?_ | (show W _ _ _ (.cond _ _ _) _ _; refine z03 rfl ?_) | (refine hN _ ?_; try clear hN hE hR Qs; (try (conv => arg 6; dsimp only [ovl, List.set, List.map, ren0]))) | ((first | refine hE _ _ ?_ | refine hR _ ?_); try clear hN hE hR Qs) | ((first | refine kN _ ?_ | refine kE _ ?_ | refine kX _ _ rfl ?_ | refine kR _ ?_); try clear kN kE kX kR Qb)) | (refine stpQ ?_))
           refine hQ2 _ _ ?_
           clear hQ2 Q2
           subst eT
           subst eR
           repeat ((try conv => whnf); first | (with_reducible first | refine z0a (fun Qs hN hE hR => ?_) | refine z08 ?_ | refine z00 (fun Qb kN kE kX kR => ?_) | refine z04 ?_ | refine z05 ?_ | refine z09 ?_ | refine z06 ?_ | refine z07 ?_ | (show W _ _ _ (.cond _ _ _) _ _; refine z03 rfl ?_) | (refine hN _ ?_; try clear hN hE hR Qs; (try (conv => arg 6; dsimp only [ovl, List.set, List.map, ren0]))) | ((first | refine hE _ _ ?_ | refine hR _ ?_); try clear hN hE hR Qs) | ((first | refine kN _ ?_ | refine kE _ ?_ | refine kX _ _ rfl ?_ | refine kR _ ?_); try clear kN kE kX kR Qb)) | (refine And.intro (by kernel_rfl) ?_) | (refine stpQ ?_))
           (refine z02 (by rfl) ?_ ?_ (by rfl)) <;> (repeat' (first | (exact eqA) | (refine And.intro ?_ ?_) | ((fail_if_success (with_reducible (show _ = _))); (show _ = _)))) <;> rfl
          ·have fkn : ¬ ((k + 1 : Nat) : Int) < ((L.length : Nat) : Int) := by omega
           clear hpair hL2 hL hhu
           generalize x1 L[k] = xp at *
           generalize L[k] = p at *
           generalize hh[k] = hb1 at *
           repeat ((try conv => whnf); first | (with_reducible first | refine z0a (fun Qs hN hE hR => ?_) | refine z08 ?_ | refine z00 (fun Qb kN kE kX kR => ?_) | refine z04 ?_ | refine z05 ?_ | refine z09 ?_ | refine z06 ?_ | refine z07 ?_ | (show W _ _ _ (.cond _ _ _) _ _; refine z03 rfl ?_) | (refine hN _ ?_; try clear hN hE hR Qs; (try (conv => arg 6; dsimp only [ovl, List.set, List.map, ren0]))) | ((first | refine hE _ _ ?_ | refine hR _ ?_); try clear hN hE hR Qs) | ((first | refine kN _ ?_ | refine kE _ ?_ | refine kX _ _ rfl ?_ | refine kR _ ?_); try clear kN kE kX kR Qb)) | (refine z0c f5 ?_) | (refine z0c fk1 ?_) | (refine z0d fkn ?_) | (refine z0c fe1 ?_) | (refine z0d fen ?_) | (refine z0c fpe ?_) | (refine z0d fpo ?_) | (refine z0c fs0 ?_) | (refine z0d fs1 ?_) | (refine Exists.intro _ (And.intro ex.symm ?_)) | (refine i_at gp ?_) | (refine i_at gh ?_) | (refine i_at gq ?_) | (refine i_at gh2 ?_) | (refine z7o gs ?_) | (refine z7p i1 ?_) | (refine Exists.intro L.length (And.intro hLl ?_)) | (refine z1c (n := nat_lit 2) ?_) | (refine z1M (n := nat_lit 2) (by omega) ?_) | (refine ccA ([]) (cH) ?_) | (refine And.intro (by simp only [List.length_append, List.length_set, List.length_replicate, List.length_cons, List.length_nil]; omega) ?_) | (refine And.intro (by kernel_rfl) ?_) | (refine stpQ ?_))
           refine hQ3 _ _ ?_
           clear hQ3 Q3
           repeat ((try conv => whnf); first | (with_reducible first | refine z0a (fun Qs hN hE hR => ?_) | refine z08 ?_ | refine z00 (fun Qb kN kE kX kR => ?_) | refine z04 ?_ | refine z05 ?_ | refine z09 ?_ | refine z06 ?_ | refine z07 ?_ | (show W _ _ _ (.cond _ _ _) _ _; refine z03 rfl ?_) | (refine hN _ ?_; try clear hN hE hR Qs; (try (conv => arg 6; dsimp only [ovl, List.set, List.map, ren0]))) | ((first | refine hE _ _ ?_ | refine hR _ ?_); try clear hN hE hR Qs) | ((first | refine kN _ ?_ | refine kE _ ?_ | refine kX _ _ rfl ?_ | refine kR _ ?_); try clear kN kE kX kR Qb)) | (refine stpQ ?_))
           refine hQ2 _ _ ?_
           clear hQ2 Q2
           subst eT
           subst eR
           repeat ((try conv => whnf); first | (with_reducible first | refine z0a (fun Qs hN hE hR => ?_) | refine z08 ?_ | refine z00 (fun Qb kN kE kX kR => ?_) | refine z04 ?_ | refine z05 ?_ | refine z09 ?_ | refine z06 ?_ | refine z07 ?_ | (show W _ _ _ (.cond _ _ _) _ _; refine z03 rfl ?_) | (refine hN _ ?_; try clear hN hE hR Qs; (try (conv => arg 6; dsimp only [ovl, List.set, List.map, ren0]))) | ((first | refine hE _ _ ?_ | refine hR _ ?_); try clear hN hE hR Qs) | ((first | refine kN _ ?_ | refine kE _ ?_ | refine kX _ _ rfl ?_ | refine kR _ ?_); try clear kN kE kX kR Qb)) | (refine And.intro (by kernel_rfl) ?_) | (refine stpQ ?_))
           (refine z02 (by rfl) ?_ ?_ (by rfl)) <;> (repeat' (first | (exact eqA) | (refine And.intro ?_ ?_) | ((fail_if_success (with_reducible (show _ = _))); (show _ = _)))) <;> rfl
        | cons s1a s1r =>
          have fs1 : ¬ (((strE (s1a :: s1r)).length : Nat) : Int) = 0 := by rw [z0h, List.length_cons]; omega
          have gs : (strE (s1a :: s1r))[0]? = some [.str s1a] := rfl
          have hs0 := hs1 s1a (by simp)
          have hs2 : ∀ u ∈ s1r, u.length ≤ 32 := fun u hu => hs1 u (by simp [hu])
          have inv2 : lvUp L = (up ++ [L[k] / 2]) ++ lvUp (L.drop (k + 1)) := by rw [hup, lu]; simp
          have inv3 : lvNd L = (vs + 1) + lvNd (L.drop (k + 1)) := by rw [hnd, ln]; omega
          have hsv2 : s1r.length + (vs + 1) = ss.length := by simp only [List.length_cons] at hsv; omega
          have hap1 := z7g up (L[k] / 2)
          have i1 : 1 ≤ (strE (s1a :: s1r)).length := by rw [z0h, List.length_cons]; omega
          by_cases hev : L[k] % 2 = 0
          ·have fpe : ((L[k] % 2 : Nat) : Int) = 0 := by omega
           obtain ⟨u, hu, hud, cH⟩ := z7w hh[k] s1a wn hh1 hs0 (by omega)
           have hmi2 : ((nx ++ [u]) ++ (mH wn (L.drop (k + 1)) (hh.drop (k + 1)) s1r).1, (mH wn (L.drop (k + 1)) (hh.drop (k + 1)) s1r).2) = MH := by rw [← hmi, zaz hkl hhl (fun h2 c => hpair ⟨h2, c⟩), Go.Proofs.YtfjbinbpgdiafaaGreatDoor.hs1, if_pos hev, ← hud, List.append_assoc]; rfl
           have hap2 := z1H nx u
           by_cases h2 : k + 1 < L.length
           ·have fk1 : ((k + 1 : Nat) : Int) < ((L.length : Nat) : Int) := by omega
            have gq := z0C h2
            have hlt2 := z3J hL h2
            have fen : ¬ ((L[k + 1] : Nat) : Int) = ((x1 L[k] : Nat) : Int) := fun c => hpair ⟨h2, by
             unfold x1 at c
             split at c <;> omega⟩
            clear hpair hL2 hL hhu lu ln hup hnd hokT hev hud hmi hMH
            generalize x1 L[k] = xp at *
            generalize L[k + 1] = q at *
            generalize L[k] = p at *
            generalize hh[k] = hb1 at *
            repeat ((try conv => whnf); first | (with_reducible first | refine z0a (fun Qs hN hE hR => ?_) | refine z08 ?_ | refine z00 (fun Qb kN kE kX kR => ?_) | refine z04 ?_ | refine z05 ?_ | refine z09 ?_ | refine z06 ?_ | refine z07 ?_ | (show W _ _ _ (.cond _ _ _) _ _; refine z03 rfl ?_) | (refine hN _ ?_; try clear hN hE hR Qs; (try (conv => arg 6; dsimp only [ovl, List.set, List.map, ren0]))) | ((first | refine hE _ _ ?_ | refine hR _ ?_); try clear hN hE hR Qs) | ((first | refine kN _ ?_ | refine kE _ ?_ | refine kX _ _ rfl ?_ | refine kR _ ?_); try clear kN kE kX kR Qb)) | (refine z0c f5 ?_) | (refine z0c fk1 ?_) | (refine z0d fkn ?_) | (refine z0c fe1 ?_) | (refine z0d fen ?_) | (refine z0c fpe ?_) | (refine z0d fpo ?_) | (refine z0c fs0 ?_) | (refine z0d fs1 ?_) | (refine Exists.intro _ (And.intro ex.symm ?_)) | (refine i_at gp ?_) | (refine i_at gh ?_) | (refine i_at gq ?_) | (refine i_at gh2 ?_) | (refine z7o gs ?_) | (refine z7p i1 ?_) | (refine Exists.intro L.length (And.intro hLl ?_)) | (refine z1c (n := nat_lit 2) ?_) | (refine z1M (n := nat_lit 2) (by omega) ?_) | (refine ccA ([]) (cH) ?_) | (refine And.intro (by simp only [List.length_append, List.length_set, List.length_replicate, List.length_cons, List.length_nil]; omega) ?_) | (refine And.intro (by kernel_rfl) ?_) | (refine stpQ ?_))
            refine ⟨(k + 1, up ++ [p / 2], nx ++ [u], s1r, vs + 1), ⟨by show k + 1 ≤ L.length; omega, inv2, by simp [hnl], by simp; omega, fun v hv => ?_, hs2, hsv2, inv3, hmi2⟩, (by show L.length - (k + 1) < L.length - k; omega), ?_⟩
            ·rcases List.mem_append.1 hv with hv | hv
             ·exact hnu v hv
             ·rw [List.mem_singleton] at hv; subst hv; exact hu
            ·(try dsimp only)
             rw [hap1, hap2]
             (refine z01 (by rfl) ?_ ?_) <;> (repeat' (first | (exact eqA) | (refine And.intro ?_ ?_) | ((fail_if_success (with_reducible (show _ = _))); (show _ = _)))) <;> rfl
           ·have fkn : ¬ ((k + 1 : Nat) : Int) < ((L.length : Nat) : Int) := by omega
            clear hpair hL2 hL hhu lu ln hup hnd hokT hev hud hmi hMH
            generalize x1 L[k] = xp at *
            generalize L[k] = p at *
            generalize hh[k] = hb1 at *
            repeat ((try conv => whnf); first | (with_reducible first | refine z0a (fun Qs hN hE hR => ?_) | refine z08 ?_ | refine z00 (fun Qb kN kE kX kR => ?_) | refine z04 ?_ | refine z05 ?_ | refine z09 ?_ | refine z06 ?_ | refine z07 ?_ | (show W _ _ _ (.cond _ _ _) _ _; refine z03 rfl ?_) | (refine hN _ ?_; try clear hN hE hR Qs; (try (conv => arg 6; dsimp only [ovl, List.set, List.map, ren0]))) | ((first | refine hE _ _ ?_ | refine hR _ ?_); try clear hN hE hR Qs) | ((first | refine kN _ ?_ | refine kE _ ?_ | refine kX _ _ rfl ?_ | refine kR _ ?_); try clear kN kE kX kR Qb)) | (refine z0c f5 ?_) | (refine z0c fk1 ?_) | (refine z0d fkn ?_) | (refine z0c fe1 ?_) | (refine z0d fen ?_) | (refine z0c fpe ?_) | (refine z0d fpo ?_) | (refine z0c fs0 ?_) | (refine z0d fs1 ?_) | (refine Exists.intro _ (And.intro ex.symm ?_)) | (refine i_at gp ?_) | (refine i_at gh ?_) | (refine i_at gq ?_) | (refine i_at gh2 ?_) | (refine z7o gs ?_) | (refine z7p i1 ?_) | (refine Exists.intro L.length (And.intro hLl ?_)) | (refine z1c (n := nat_lit 2) ?_) | (refine z1M (n := nat_lit 2) (by omega) ?_) | (refine ccA ([]) (cH) ?_) | (refine And.intro (by simp only [List.length_append, List.length_set, List.length_replicate, List.length_cons, List.length_nil]; omega) ?_) | (refine And.intro (by kernel_rfl) ?_) | (refine stpQ ?_))
            refine ⟨(k + 1, up ++ [p / 2], nx ++ [u], s1r, vs + 1), ⟨by show k + 1 ≤ L.length; omega, inv2, by simp [hnl], by simp; omega, fun v hv => ?_, hs2, hsv2, inv3, hmi2⟩, (by show L.length - (k + 1) < L.length - k; omega), ?_⟩
            ·rcases List.mem_append.1 hv with hv | hv
             ·exact hnu v hv
             ·rw [List.mem_singleton] at hv; subst hv; exact hu
            ·(try dsimp only)
             rw [hap1, hap2]
             (refine z01 (by rfl) ?_ ?_) <;> (repeat' (first | (exact eqA) | (refine And.intro ?_ ?_) | ((fail_if_success (with_reducible (show _ = _))); (show _ = _)))) <;> rfl
          ·have fpo : ¬ ((L[k] % 2 : Nat) : Int) = 0 := by omega
           obtain ⟨u, hu, hud, cH⟩ := z7w s1a hh[k] wn hs0 hh1 (by omega)
           have hmi2 : ((nx ++ [u]) ++ (mH wn (L.drop (k + 1)) (hh.drop (k + 1)) s1r).1, (mH wn (L.drop (k + 1)) (hh.drop (k + 1)) s1r).2) = MH := by rw [← hmi, zaz hkl hhl (fun h2 c => hpair ⟨h2, c⟩), Go.Proofs.YtfjbinbpgdiafaaGreatDoor.hs1, if_neg hev, ← hud, List.append_assoc]; rfl
           have hap2 := z1H nx u
           by_cases h2 : k + 1 < L.length
           ·have fk1 : ((k + 1 : Nat) : Int) < ((L.length : Nat) : Int) := by omega
            have gq := z0C h2
            have hlt2 := z3J hL h2
            have fen : ¬ ((L[k + 1] : Nat) : Int) = ((x1 L[k] : Nat) : Int) := fun c => hpair ⟨h2, by
             unfold x1 at c
             split at c <;> omega⟩
            clear hpair hL2 hL hhu lu ln hup hnd hokT hev hud hmi hMH
            generalize x1 L[k] = xp at *
            generalize L[k + 1] = q at *
            generalize L[k] = p at *
            generalize hh[k] = hb1 at *
            repeat ((try conv => whnf); first | (with_reducible first | refine z0a (fun Qs hN hE hR => ?_) | refine z08 ?_ | refine z00 (fun Qb kN kE kX kR => ?_) | refine z04 ?_ | refine z05 ?_ | refine z09 ?_ | refine z06 ?_ | refine z07 ?_ | (show W _ _ _ (.cond _ _ _) _ _; refine z03 rfl ?_) | (refine hN _ ?_; try clear hN hE hR Qs; (try (conv => arg 6; dsimp only [ovl, List.set, List.map, ren0]))) | ((first | refine hE _ _ ?_ | refine hR _ ?_); try clear hN hE hR Qs) | ((first | refine kN _ ?_ | refine kE _ ?_ | refine kX _ _ rfl ?_ | refine kR _ ?_); try clear kN kE kX kR Qb)) | (refine z0c f5 ?_) | (refine z0c fk1 ?_) | (refine z0d fkn ?_) | (refine z0c fe1 ?_) | (refine z0d fen ?_) | (refine z0c fpe ?_) | (refine z0d fpo ?_) | (refine z0c fs0 ?_) | (refine z0d fs1 ?_) | (refine Exists.intro _ (And.intro ex.symm ?_)) | (refine i_at gp ?_) | (refine i_at gh ?_) | (refine i_at gq ?_) | (refine i_at gh2 ?_) | (refine z7o gs ?_) | (refine z7p i1 ?_) | (refine Exists.intro L.length (And.intro hLl ?_)) | (refine z1c (n := nat_lit 2) ?_) | (refine z1M (n := nat_lit 2) (by omega) ?_) | (refine ccA ([]) (cH) ?_) | (refine And.intro (by simp only [List.length_append, List.length_set, List.length_replicate, List.length_cons, List.length_nil]; omega) ?_) | (refine And.intro (by kernel_rfl) ?_) | (refine stpQ ?_))
            refine ⟨(k + 1, up ++ [p / 2], nx ++ [u], s1r, vs + 1), ⟨by show k + 1 ≤ L.length; omega, inv2, by simp [hnl], by simp; omega, fun v hv => ?_, hs2, hsv2, inv3, hmi2⟩, (by show L.length - (k + 1) < L.length - k; omega), ?_⟩
            ·rcases List.mem_append.1 hv with hv | hv
             ·exact hnu v hv
             ·rw [List.mem_singleton] at hv; subst hv; exact hu
            ·(try dsimp only)
             rw [hap1, hap2]
             (refine z01 (by rfl) ?_ ?_) <;> (repeat' (first | (exact eqA) | (refine And.intro ?_ ?_) | ((fail_if_success (with_reducible (show _ = _))); (show _ = _)))) <;> rfl
           ·have fkn : ¬ ((k + 1 : Nat) : Int) < ((L.length : Nat) : Int) := by omega
            clear hpair hL2 hL hhu lu ln hup hnd hokT hev hud hmi hMH
            generalize x1 L[k] = xp at *
            generalize L[k] = p at *
            generalize hh[k] = hb1 at *
            repeat ((try conv => whnf); first | (with_reducible first | refine z0a (fun Qs hN hE hR => ?_) | refine z08 ?_ | refine z00 (fun Qb kN kE kX kR => ?_) | refine z04 ?_ | refine z05 ?_ | refine z09 ?_ | refine z06 ?_ | refine z07 ?_ | (show W _ _ _ (.cond _ _ _) _ _; refine z03 rfl ?_) | (refine hN _ ?_; try clear hN hE hR Qs; (try (conv => arg 6; dsimp only [ovl, List.set, List.map, ren0]))) | ((first | refine hE _ _ ?_ | refine hR _ ?_); try clear hN hE hR Qs) | ((first | refine kN _ ?_ | refine kE _ ?_ | refine kX _ _ rfl ?_ | refine kR _ ?_); try clear kN kE kX kR Qb)) | (refine z0c f5 ?_) | (refine z0c fk1 ?_) | (refine z0d fkn ?_) | (refine z0c fe1 ?_) | (refine z0d fen ?_) | (refine z0c fpe ?_) | (refine z0d fpo ?_) | (refine z0c fs0 ?_) | (refine z0d fs1 ?_) | (refine Exists.intro _ (And.intro ex.symm ?_)) | (refine i_at gp ?_) | (refine i_at gh ?_) | (refine i_at gq ?_) | (refine i_at gh2 ?_) | (refine z7o gs ?_) | (refine z7p i1 ?_) | (refine Exists.intro L.length (And.intro hLl ?_)) | (refine z1c (n := nat_lit 2) ?_) | (refine z1M (n := nat_lit 2) (by omega) ?_) | (refine ccA ([]) (cH) ?_) | (refine And.intro (by simp only [List.length_append, List.length_set, List.length_replicate, List.length_cons, List.length_nil]; omega) ?_) | (refine And.intro (by kernel_rfl) ?_) | (refine stpQ ?_))
            refine ⟨(k + 1, up ++ [p / 2], nx ++ [u], s1r, vs + 1), ⟨by show k + 1 ≤ L.length; omega, inv2, by simp [hnl], by simp; omega, fun v hv => ?_, hs2, hsv2, inv3, hmi2⟩, (by show L.length - (k + 1) < L.length - k; omega), ?_⟩
            ·rcases List.mem_append.1 hv with hv | hv
             ·exact hnu v hv
             ·rw [List.mem_singleton] at hv; subst hv; exact hu
            ·(try dsimp only)
             rw [hap1, hap2]
             (refine z01 (by rfl) ?_ ?_) <;> (repeat' (first | (exact eqA) | (refine And.intro ?_ ?_) | ((fail_if_success (with_reducible (show _ = _))); (show _ = _)))) <;> rfl
      ·have hke : k = L.length := by omega
       subst hke
       have f5 : ¬ ((L.length : Nat) : Int) < ((L.length : Nat) : Int) := by omega
       rw [List.drop_length] at hup hnd
       simp only [lvUp, lvNd, List.append_nil, Nat.add_zero] at hup hnd
       have i1 := z1G hL
       have i2 := z7e hL2
       have i3 := z97 hLne
       rw [hup] at i1 i2 i3 hm8
       have inv4 : z1e 8 K = (us + vs) + z1e (8 - (lv + 1)) up := by rw [hmn, hm8, hnd]; omega
       rw [List.drop_length, zey] at hmi
       simp only [List.append_nil] at hmi
       rw [← hmi] at hma8
       have inv5 : mAll wn (8 - (lv + 1)) up nx s1 = TOT := by rw [← hup]; exact hma8
       clear hm8 hmn hnd hup hL hL2 hLne hhu hokT hma8 hmi hMH
       repeat ((try conv => whnf); first | (with_reducible first | refine z0a (fun Qs hN hE hR => ?_) | refine z08 ?_ | refine z00 (fun Qb kN kE kX kR => ?_) | refine z04 ?_ | refine z05 ?_ | refine z09 ?_ | refine z06 ?_ | refine z07 ?_ | (show W _ _ _ (.cond _ _ _) _ _; refine z03 rfl ?_) | (refine hN _ ?_; try clear hN hE hR Qs; (try (conv => arg 6; dsimp only [ovl, List.set, List.map, ren0]))) | ((first | refine hE _ _ ?_ | refine hR _ ?_); try clear hN hE hR Qs) | ((first | refine kN _ ?_ | refine kE _ ?_ | refine kX _ _ rfl ?_ | refine kR _ ?_); try clear kN kE kX kR Qb)) | (refine Exists.intro L.length (And.intro hLl ?_)) | (refine z0d f5 ?_) | (refine stpQ ?_))
       refine hQ3 _ _ ?_
       clear hQ3 Q3
       repeat ((try conv => whnf); first | (with_reducible first | refine z0a (fun Qs hN hE hR => ?_) | refine z08 ?_ | refine z00 (fun Qb kN kE kX kR => ?_) | refine z04 ?_ | refine z05 ?_ | refine z09 ?_ | refine z06 ?_ | refine z07 ?_ | (show W _ _ _ (.cond _ _ _) _ _; refine z03 rfl ?_) | (refine hN _ ?_; try clear hN hE hR Qs; (try (conv => arg 6; dsimp only [ovl, List.set, List.map, ren0]))) | ((first | refine hE _ _ ?_ | refine hR _ ?_); try clear hN hE hR Qs) | ((first | refine kN _ ?_ | refine kE _ ?_ | refine kX _ _ rfl ?_ | refine kR _ ?_); try clear kN kE kX kR Qb)) | (refine And.intro (by kernel_rfl) ?_) | (refine stpQ ?_))
       refine ⟨(lv + 1, up, nx, s1, us + vs), ⟨hlt8, hnl, hnu, hs1, i1, i2, i3, by show up.length ≤ 1000; omega, by show s1.length + (us + vs) = sides.length; omega, inv4, inv5⟩, (by show 8 - (lv + 1) < 8 - lv; omega), ?_⟩
       (refine z01 (by rfl) ?_ ?_) <;> (repeat' (first | (exact eqA) | (refine And.intro ?_ ?_) | ((fail_if_success (with_reducible (show _ = _))); (show _ = _)))) <;> rfl
    ·have hl8 : lv = 8 := by omega
     subst hl8
     have f4 : ¬ ((8 : Nat) : Int) < 8 := by omega
     have hmz : z1e (8 - 8) L = 0 := rfl
     rw [hmz] at hmn
     obtain ⟨h0, hr, rfl⟩ : ∃ h0 hr, hh = h0 :: hr := by
      cases hh with
      | nil => exact absurd (List.length_eq_zero_iff.1 hhl.symm) hLne
      | cons a b => exact ⟨a, b, rfl⟩
     have gs : (strE (h0 :: hr))[0]? = some [.str h0] := rfl
     by_cases hse0 : ss.length = 0
     ·obtain rfl : okT = true := by rw [hokT]; exact decide_eq_true (by omega)
      have f6 : ¬ ((ss.length : Nat) : Int) > 0 := by omega
      have eR : RT = h0 := by
       rw [hT rfl, ← hma, show 8 - 8 = 0 from rfl, mAll]
       rfl
      clear hokT hma hTOT hA0 hq1
      repeat ((try conv => whnf); first | (with_reducible first | refine z0a (fun Qs hN hE hR => ?_) | refine z08 ?_ | refine z00 (fun Qb kN kE kX kR => ?_) | refine z04 ?_ | refine z05 ?_ | refine z09 ?_ | refine z06 ?_ | refine z07 ?_ | (show W _ _ _ (.cond _ _ _) _ _; refine z03 rfl ?_) | (refine hN _ ?_; try clear hN hE hR Qs; (try (conv => arg 6; dsimp only [ovl, List.set, List.map, ren0]))) | ((first | refine hE _ _ ?_ | refine hR _ ?_); try clear hN hE hR Qs) | ((first | refine kN _ ?_ | refine kE _ ?_ | refine kX _ _ rfl ?_ | refine kR _ ?_); try clear kN kE kX kR Qb)) | (refine z0d f4 ?_) | (refine stpQ ?_))
      refine hQ2 _ _ ?_
      clear hQ2 Q2
      subst eR
      repeat ((try conv => whnf); first | (with_reducible first | refine z0a (fun Qs hN hE hR => ?_) | refine z08 ?_ | refine z00 (fun Qb kN kE kX kR => ?_) | refine z04 ?_ | refine z05 ?_ | refine z09 ?_ | refine z06 ?_ | refine z07 ?_ | (show W _ _ _ (.cond _ _ _) _ _; refine z03 rfl ?_) | (refine hN _ ?_; try clear hN hE hR Qs; (try (conv => arg 6; dsimp only [ovl, List.set, List.map, ren0]))) | ((first | refine hE _ _ ?_ | refine hR _ ?_); try clear hN hE hR Qs) | ((first | refine kN _ ?_ | refine kE _ ?_ | refine kX _ _ rfl ?_ | refine kR _ ?_); try clear kN kE kX kR Qb)) | (refine Exists.intro ss.length (And.intro hsse ?_)) | (refine z0d f6 ?_) | (refine z7o gs ?_) | (refine And.intro (by kernel_rfl) ?_) | (refine stpQ ?_))
      (refine z02 (by rfl) ?_ ?_ (by rfl)) <;> (repeat' (first | (exact eqA) | (refine And.intro ?_ ?_) | ((fail_if_success (with_reducible (show _ = _))); (show _ = _)))) <;> rfl
     ·obtain rfl : okT = false := by rw [hokT]; exact decide_eq_false (by omega)
      have f6 : ((ss.length : Nat) : Int) > 0 := by omega
      have eR : RT = [] := hF rfl
      clear hokT hma hTOT hA0 hq1
      repeat ((try conv => whnf); first | (with_reducible first | refine z0a (fun Qs hN hE hR => ?_) | refine z08 ?_ | refine z00 (fun Qb kN kE kX kR => ?_) | refine z04 ?_ | refine z05 ?_ | refine z09 ?_ | refine z06 ?_ | refine z07 ?_ | (show W _ _ _ (.cond _ _ _) _ _; refine z03 rfl ?_) | (refine hN _ ?_; try clear hN hE hR Qs; (try (conv => arg 6; dsimp only [ovl, List.set, List.map, ren0]))) | ((first | refine hE _ _ ?_ | refine hR _ ?_); try clear hN hE hR Qs) | ((first | refine kN _ ?_ | refine kE _ ?_ | refine kX _ _ rfl ?_ | refine kR _ ?_); try clear kN kE kX kR Qb)) | (refine z0d f4 ?_) | (refine stpQ ?_))
      refine hQ2 _ _ ?_
      clear hQ2 Q2
      subst eR
      repeat ((try conv => whnf); first | (with_reducible first | refine z0a (fun Qs hN hE hR => ?_) | refine z08 ?_ | refine z00 (fun Qb kN kE kX kR => ?_) | refine z04 ?_ | refine z05 ?_ | refine z09 ?_ | refine z06 ?_ | refine z07 ?_ | (show W _ _ _ (.cond _ _ _) _ _; refine z03 rfl ?_) | (refine hN _ ?_; try clear hN hE hR Qs; (try (conv => arg 6; dsimp only [ovl, List.set, List.map, ren0]))) | ((first | refine hE _ _ ?_ | refine hR _ ?_); try clear hN hE hR Qs) | ((first | refine kN _ ?_ | refine kE _ ?_ | refine kX _ _ rfl ?_ | refine kR _ ?_); try clear kN kE kX kR Qb)) | (refine Exists.intro ss.length (And.intro hsse ?_)) | (refine z0c f6 ?_) | (refine And.intro (by kernel_rfl) ?_) | (refine stpQ ?_))
      (refine z02 (by rfl) ?_ ?_ (by rfl)) <;> (repeat' (first | (exact eqA) | (refine And.intro ?_ ?_) | ((fail_if_success (with_reducible (show _ = _))); (show _ = _)))) <;> rfl
end
theorem z9m (names : List Bs) (bks : List (List Lf)) (sides : List Bs) (w : Int) (hn : names.length ≤ 1000) (hl : ∀ s ∈ names, (s.length : Int) ≤ 100000000) (hb : bks.length ≤ 1000) (hbk : ∀ b ∈ bks, leavesOk b = true) (hs : sides.length ≤ 10000000) : CT Tryz.prog 19 [] [.agg [.sl 1 (strE names), .sl 1 (bkE bks), .sl 1 (strE sides)], .int .i64 w] (.tup [.any, .bool (z15 names bks sides w)]) [] := zex (z5H names bks sides w hn hl hb (fun b h => z5A (hbk b h)) hs)
end Go.Proofs.YtfjbinbpgdiafaaGreatDoor
