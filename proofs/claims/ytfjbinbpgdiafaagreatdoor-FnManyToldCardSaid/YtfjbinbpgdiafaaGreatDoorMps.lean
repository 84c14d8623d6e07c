/- Functions by content: the reference proves several names. -/
import Derived.Test.YtfjbinbpgdiafaaGreatDoorMrs
import Derived.Test.YtfjbinbpgdiafaaGreatDoorMrr2
import Derived.Test.YtfjbinbpgdiafaaGreatDoorPmx
import Derived.Test.YtfjbinbpgdiafaaGreatDoorPs
namespace Go.Proofs.YtfjbinbpgdiafaaGreatDoor
set_option maxRecDepth 100000
set_option maxHeartbeats 8000000
set_option linter.unusedVariables false
set_option linter.unusedSimpArgs false
set_option linter.unusedSectionVars false
open Go.RowKit Pl
theorem x1_ltZ {n p : Nat} (h : p < 2 ^ (n + 1)) : x1 p < 2 ^ (n + 1) := by
 rw [Nat.pow_succ] at *
 unfold x1
 split <;> omega
def z2B (L : List Nat) (p : Nat) : Bool := !(L.contains (x1 p))
theorem z2r {L : List Nat} {p : Nat} : z2B L p = true ↔ x1 p ∉ L := by simp [z2B]
theorem z6A {L M : List Nat} {p : Nat} (h : x1 p ∈ L ↔ x1 p ∈ M) : z2B L p = z2B M p := by
 rw [Bool.eq_iff_iff, z2r, z2r, h]
theorem z5O (l : List Lf) (w d : Nat) : ∀ {L : List Nat}, Ups L → sdL l w d L = (L.filter (z2B L)).map fun p => z0D l w d (x1 p)
 | [], _ => rfl
 | [p], _ => by
   have hp : z2B [p] p = true := z2r.2 (by rw [List.mem_singleton]; unfold x1; split <;> omega)
   rw [List.filter_cons_of_pos hp]
   rfl
 | p :: q :: M, h => by
   obtain ⟨hp, h2⟩ := List.pairwise_cons.1 h
   obtain ⟨hq, h3⟩ := List.pairwise_cons.1 h2
   have hpq := hp q List.mem_cons_self
   rw [sdL]
   by_cases hc : p % 2 = 0 ∧ q = p + 1
   ·obtain ⟨c1, rfl⟩ := hc
    rw [if_pos ⟨c1, rfl⟩, z5O l w d h3]
    have a1 : ¬ z2B (p :: (p + 1) :: M) p = true := fun c => z2r.1 c (by
     have : x1 p = p + 1 := if_pos c1
     rw [this]; simp)
    have a2 : ¬ z2B (p :: (p + 1) :: M) (p + 1) = true := fun c => z2r.1 c (by
     have : x1 (p + 1) = p := by unfold x1; rw [if_neg (by omega)]; omega
     rw [this]; simp)
    rw [List.filter_cons_of_neg a1, List.filter_cons_of_neg a2]
    congr 1
    exact List.filter_congr fun r hr => z6A (by
     have hr2 := hq r hr
     have n1 : x1 r ≠ p := by unfold x1; split <;> omega
     have n2 : x1 r ≠ p + 1 := by unfold x1; split <;> omega
     simp [n1, n2])
   ·rw [if_neg hc, z5O l w d h2]
    have hnot : x1 p ∉ p :: q :: M := fun c => by
     simp only [List.mem_cons] at c
     rcases c with c | c | c
     ·unfold x1 at c; split at c <;> omega
     ·unfold x1 at c
      split at c
      ·exact hc ⟨by assumption, c.symm⟩
      ·omega
     ·have := hq _ c
      unfold x1 at this
      split at this <;> first | omega | (refine hc ⟨by assumption, ?_⟩; omega)
    rw [List.filter_cons_of_pos (z2r.2 hnot), List.map_cons]
    congr 2
    exact List.filter_congr fun r hr => z6A (by
     have n1 : x1 r ≠ p := fun e => hnot (by
      have : x1 p = r := by rw [← e]; unfold x1; split <;> split <;> omega
      rw [this]
      exact List.mem_cons_of_mem _ hr)
     simp [n1])
theorem zbp {L : List Nat} {p : Nat → Bool} {k : Nat} (h : k < L.length) : (L.take (k + 1)).filter p = (L.take k).filter p ++ (if p L[k] then [L[k]] else []) := by
 rw [List.take_succ_eq_append_getElem h, List.filter_append]
 congr 1
 cases hp : p L[k] <;> simp [hp]
def ndL (l : List Lf) (w d : Nat) (L : List Nat) : List Bs := L.map fun p => z0D l w d (x1 p)
theorem zfC (l : List Lf) (w d : Nat) (A B : List Nat) : ndL l w d (A ++ B) = ndL l w d A ++ ndL l w d B := by simp [ndL]
theorem z5P (l : List Bs) (x : Bs) : strE (l ++ [x]) = strE l ++ [[.str x]] := by simp [strE]
section
attribute [local irreducible] z0t z0u z0A AnsP LeP W CvE z0D sdA sdL
theorem z3Q (l : List Lf) (names : List Bs) (w : Nat) (h : leavesOk l = true) (hnm : z0N names = true) (hwi : 1 ≤ w ∧ w ≤ 32) : CT Tryz.prog 23 [] [.sl 2 (lvE l), .sl 1 (strE names), .int .i64 (w : Int)] (.tup [.agg [.ref 1, .ref 2, .ref 3], .bool true]) [.row 1 (strE names), .row 1 (bkE (mnB l names)), .row 1 (strE (mnS l names w))] := by
 have hn8 : names.length ≤ 8 ∧ ∀ s ∈ names, s.length ≤ 12 := by
  simp only [z0N, Bool.and_eq_true, List.all_eq_true, decide_eq_true_eq] at hnm
  exact ⟨hnm.2.2, fun s hs => z1D (hnm.1 s hs)⟩
 have hl : ∀ s ∈ names, (s.length : Int) ≤ 100000000 := fun s hs => by have := hn8.2 s hs; omega
 have hsm := z5A h
 have c1 := z1n l (by have := hsm.1; omega) hsm.fit
 rw [h] at c1
 have c2 := z49 names (by omega) hl
 rw [hnm] at c2
 have c3 := z2N (w : Int) 1 32
 rw [z1b.2 (show (1 : Int) ≤ (w : Int) ∧ (w : Int) ≤ 32 by omega)] at c3
 have cX := z2f names (by omega) hl
 rw [z5s] at cX
 have cS := zft l h
 have cE := zcR w hwi
 have kB : ∀ p : Nat, CT Tryz.prog 78 [] [.sl 2 (lvE l), .int .i64 (p : Int)] (.ref 1) [.row 2 (lvE (z0k l (p : Int)))] := fun p => z5K l (p : Int) (by have := hsm.1; omega) (z7j h)
 have cNd : ∀ (n p : Nat), n + 1 ≤ 8 → p < 2 ^ (n + 1) → CT Tryz.prog 82 [] [.sl 3 (spE l), .int .i64 ((n + 1 : Nat) : Int), .int .i64 ((x1 p : Nat) : Int), .int .i64 (w : Int), .sl 1 (strE (empJ w 8))] (.str (z0D l w (8 - (n + 1)) (x1 p))) [] := fun n p hn hp => by
  have c := z9g w hwi (8 - (n + 1)) (x1 p) l h (by omega) (by rw [show 8 - (8 - (n + 1)) = n + 1 by omega]; exact x1_ltZ hp)
  rw [show (8 : Int) - ((8 - (n + 1) : Nat) : Int) = ((n + 1 : Nat) : Int) by omega] at c
  exact c
 have hK := z2b names
 have hKl := z7h names
 have hKn := z1Y names
 obtain ⟨TB, hTB⟩ : ∃ TB : Nat → List (List T), ∀ i, TB i = bkE (((ixsN names).take i).map fun (p : Nat) => z0k l (p : Int)) := ⟨_, fun _ => rfl⟩
 have tb0 : TB 0 = [] := by rw [hTB]; rfl
 have tbl : ∀ i, (TB i).length ≤ 8 := fun i => by rw [hTB, z2c, List.length_map, List.length_take]; omega
 have tbn : ∀ i (hi : i < (ixsN names).length), TB (i + 1) = TB i ++ [[.sl 2 (lvE (z0k l ((ixsN names)[i] : Int)))]] := fun i hi => by
  rw [hTB, hTB, List.take_succ_eq_append_getElem hi, List.map_append]
  unfold bkE
  rw [List.map_append]
  rfl
 have tbE : bkE (mnB l names) = TB (ixsN names).length := by rw [hTB, List.take_length]; rfl
 obtain ⟨TS, hTS⟩ : ∃ TS, TS = mnS l names w := ⟨_, rfl⟩
 have hts : sdA l w 8 0 (ixsN names) = TS := hTS.symm
 rw [tbE, ← hTS]
 clear hTB tbE hTS hnm hsm
 generalize ixsN names = K at *
 have hKe := z1d K
 have hne := z0h names
 generalize lvE l = LV at *
 refine z0b z0p 1 rfl Tryz.func23 rfl rfl rfl ?_
 conv => arg 6; whnf
 repeat ((try conv => whnf); first | (with_reducible first | refine z0a (fun Qs hN hE hR => ?_) | refine z08 ?_ | refine z00 (fun Qb kN kE kX kR => ?_) | refine z04 ?_ | refine z05 ?_ | refine z09 ?_ | refine z06 ?_ | refine z07 ?_ | (show W _ _ _ (.cond _ _ _) _ _; refine z03 rfl ?_) | (refine hN _ ?_; try clear hN hE hR Qs; (try (conv => arg 6; dsimp only [ovl, List.set, List.map, ren0]))) | ((first | refine hE _ _ ?_ | refine hR _ ?_); try clear hN hE hR Qs) | ((first | refine kN _ ?_ | refine kE _ ?_ | refine kX _ _ rfl ?_ | refine kR _ ?_); try clear kN kE kX kR Qb)) | (refine ccA ([]) (c1) ?_) | (refine ccA ([]) (c2) ?_) | (refine ccA ([]) (c3) ?_) | (refine ccA ([]) (cX) ?_) | (refine And.intro (by simp only [List.length_append, List.length_set, List.length_replicate, List.length_cons, List.length_nil, List.nil_append]; omega) ?_) | (refine And.intro (by kernel_rfl) ?_) | (refine stpQ ?_))
 refine z0g 0 ⟨[(0, .sl 2 LV), (2, .int .i64 (w : Int)), (6, .ptr 1 0 0), (8, .ptr 2 0 0), (9, .sl 1 (npE K))], [(1, some (.box [.val nilV, .val nilV, .val nilV])), (2, some (.box [.ref 3, .ref 4, .val nilV])), (3, some (.row 1 (strE names))), (4, some (.row 1 (TB K.length)))], 5⟩ Nat (fun i => ⟨[(0, .sl 2 LV), (2, .int .i64 (w : Int)), (6, .ptr 1 0 0), (8, .ptr 2 0 0), (9, .sl 1 (npE K)), (10, .int .i64 (i : Int))], [(1, some (.box [.val nilV, .val nilV, .val nilV])), (2, some (.box [.ref 3, .ref 4, .val nilV])), (3, some (.row 1 (strE names))), (4, some (.row 1 (TB i)))], 5⟩) (fun i => i ≤ K.length) (fun i => K.length - i) 0 (Nat.zero_le _) ?_ ?_ ?_
 ·rw [tb0]
  (refine z01 (by rfl) ?_ ?_)
  all_goals (repeat' (first | (exact trivial) | ((try conv => whnf); first | (exact trivial) | (refine And.intro ?_ ?_))))
  all_goals first
   | rfl
   | decide
   | (simp; done)
 ·intro i hi
  by_cases hlt : i < K.length
  ·have f1 : (i : Int) < ((K.length : Nat) : Int) := by omega
   have gk := z0C hlt
   have cB := kB K[i]
   have t1 := tbn i hlt
   have t2 := tbl i
   clear tbn tbl kB cNd cS cE hts hK hKl
   generalize lvE (z0k l (K[i] : Int)) = BB at *
   generalize K[i] = p at *
   generalize hA : TB i = A at *
   repeat ((try conv => whnf); first | (with_reducible first | refine z0a (fun Qs hN hE hR => ?_) | refine z08 ?_ | refine z00 (fun Qb kN kE kX kR => ?_) | refine z04 ?_ | refine z05 ?_ | refine z09 ?_ | refine z06 ?_ | refine z07 ?_ | (show W _ _ _ (.cond _ _ _) _ _; refine z03 rfl ?_) | (refine hN _ ?_; try clear hN hE hR Qs; (try (conv => arg 6; dsimp only [ovl, List.set, List.map, ren0]))) | ((first | refine hE _ _ ?_ | refine hR _ ?_); try clear hN hE hR Qs) | ((first | refine kN _ ?_ | refine kE _ ?_ | refine kX _ _ rfl ?_ | refine kR _ ?_); try clear kN kE kX kR Qb)) | (refine Exists.intro K.length (And.intro hKe ?_)) | (refine z0c f1 ?_) | (refine i_at gk ?_) | (refine ccA ([]) (cB) ?_) | (refine And.intro (by simp only [List.length_append, List.length_set, List.length_replicate, List.length_cons, List.length_nil, List.nil_append]; omega) ?_) | (refine And.intro (by kernel_rfl) ?_) | (refine stpQ ?_))
   refine ⟨i + 1, (by (try dsimp only); omega), (by (try dsimp only); omega), ?_⟩
   (try dsimp only)
   rw [t1]
   (refine z01 (by rfl) ?_ ?_) <;> (repeat' (first | (exact eqA) | (refine And.intro ?_ ?_) | ((fail_if_success (with_reducible (show _ = _))); (show _ = _)))) <;> rfl
  ·obtain rfl : i = K.length := by omega
   have f1 : ¬ ((K.length : Nat) : Int) < ((K.length : Nat) : Int) := by omega
   repeat ((try conv => whnf); first | (with_reducible first | refine z0a (fun Qs hN hE hR => ?_) | refine z08 ?_ | refine z00 (fun Qb kN kE kX kR => ?_) | refine z04 ?_ | refine z05 ?_ | refine z09 ?_ | refine z06 ?_ | refine z07 ?_ | (show W _ _ _ (.cond _ _ _) _ _; refine z03 rfl ?_) | (refine hN _ ?_; try clear hN hE hR Qs; (try (conv => arg 6; dsimp only [ovl, List.set, List.map, ren0]))) | ((first | refine hE _ _ ?_ | refine hR _ ?_); try clear hN hE hR Qs) | ((first | refine kN _ ?_ | refine kE _ ?_ | refine kX _ _ rfl ?_ | refine kR _ ?_); try clear kN kE kX kR Qb)) | (refine Exists.intro K.length (And.intro hKe ?_)) | (refine z0d f1 ?_) | (refine And.intro (by kernel_rfl) ?_) | (refine stpQ ?_))
   (refine z01 (by rfl) ?_ ?_) <;> (repeat' (first | (exact eqA) | (refine And.intro ?_ ?_) | ((fail_if_success (with_reducible (show _ = _))); (show _ = _)))) <;> rfl
 ·have t2 := tbl K.length
  clear tbn tbl kB tb0 c1 c2 c3 cX
  generalize TB K.length = BK at *
  repeat ((try conv => whnf); first | (with_reducible first | refine z0a (fun Qs hN hE hR => ?_) | refine z08 ?_ | refine z00 (fun Qb kN kE kX kR => ?_) | refine z04 ?_ | refine z05 ?_ | refine z09 ?_ | refine z06 ?_ | refine z07 ?_ | (show W _ _ _ (.cond _ _ _) _ _; refine z03 rfl ?_) | (refine hN _ ?_; try clear hN hE hR Qs; (try (conv => arg 6; dsimp only [ovl, List.set, List.map, ren0]))) | ((first | refine hE _ _ ?_ | refine hR _ ?_); try clear hN hE hR Qs) | ((first | refine kN _ ?_ | refine kE _ ?_ | refine kX _ _ rfl ?_ | refine kR _ ?_); try clear kN kE kX kR Qb)) | (refine ccA ([]) (cS) ?_) | (refine ccA ([]) (cE) ?_) | (refine And.intro (by kernel_rfl) ?_) | (refine stpQ ?_))
  refine z0g 2 ⟨[(6, .ptr 1 0 0), (8, .ptr 2 0 0)], [(1, some (.box [.val nilV, .val nilV, .val nilV])), (2, some (.box [.ref 3, .ref 4, .ref 5])), (3, some (.row 1 (strE names))), (4, some (.row 1 BK)), (5, some (.row 1 (strE (TS))))], 6⟩ (Nat × List Nat × List Bs) (fun x => ⟨[(2, .int .i64 (w : Int)), (6, .ptr 1 0 0), (8, .ptr 2 0 0), (9, .sl 1 (npE x.2.1)), (11, .sl 3 (spE l)), (12, .sl 1 (strE (empJ w 8))), (13, .int .i64 (x.1 : Int))], [(1, some (.box [.val nilV, .val nilV, .val nilV])), (2, some (.box [.ref 3, .ref 4, .ref 5])), (3, some (.row 1 (strE names))), (4, some (.row 1 BK)), (5, some (.row 1 (strE (x.2.2))))], 6⟩) (fun x => x.1 ≤ 8 ∧ Ups x.2.1 ∧ (∀ p ∈ x.2.1, p < 2 ^ x.1) ∧ x.2.1.length ≤ 8 ∧ x.2.2.length + 8 * x.1 ≤ 64 ∧ x.2.2 ++ sdA l w x.1 (8 - x.1) x.2.1 = TS) (fun x => x.1) (8, K, []) ⟨Nat.le_refl _, hK, hKl, by show K.length ≤ 8; omega, (by show 0 + 8 * 8 ≤ 64; decide), (by show [] ++ sdA l w 8 (8 - 8) K = TS; rw [List.nil_append, Nat.sub_self]; exact hts)⟩ ?_ ?_ ?_
  ·(refine z01 (by rfl) ?_ ?_)
   all_goals (repeat' (first | (exact trivial) | ((try conv => whnf); first | (exact trivial) | (refine And.intro ?_ ?_))))
   all_goals first
    | rfl
    | decide
    | (simp; done)
  ·clear hts hK hKl hKe cS cE
   intro x hx
   obtain ⟨d, L, acc⟩ := x
   obtain ⟨hd8, hL, hL2, hLm, hac, hTS⟩ := hx
   dsimp only at hd8 hL hL2 hLm hac hTS ⊢
   cases d with
   | zero =>
     have f1 : ¬ ((0 : Nat) : Int) > 0 := by omega
     have e : acc = TS := by
      rw [← hTS]
      unfold sdA
      simp
     subst e
     clear hTS cNd
     repeat ((try conv => whnf); first | (with_reducible first | refine z0a (fun Qs hN hE hR => ?_) | refine z08 ?_ | refine z00 (fun Qb kN kE kX kR => ?_) | refine z04 ?_ | refine z05 ?_ | refine z09 ?_ | refine z06 ?_ | refine z07 ?_ | (show W _ _ _ (.cond _ _ _) _ _; refine z03 rfl ?_) | (refine hN _ ?_; try clear hN hE hR Qs; (try (conv => arg 6; dsimp only [ovl, List.set, List.map, ren0]))) | ((first | refine hE _ _ ?_ | refine hR _ ?_); try clear hN hE hR Qs) | ((first | refine kN _ ?_ | refine kE _ ?_ | refine kX _ _ rfl ?_ | refine kR _ ?_); try clear kN kE kX kR Qb)) | (refine z0d f1 ?_) | (refine And.intro (by kernel_rfl) ?_) | (refine stpQ ?_))
     (refine z01 (by rfl) ?_ ?_) <;> (repeat' (first | (exact eqA) | (refine And.intro ?_ ?_) | ((fail_if_success (with_reducible (show _ = _))); (show _ = _)))) <;> rfl
   | succ d =>
     have f1 : ((d + 1 : Nat) : Int) > 0 := by omega
     have hLl := z1d L
     have hp256 : ∀ p ∈ L, p < 256 := fun p hp => by
      have h1 := hL2 p hp
      have h2 : 2 ^ (d + 1) ≤ 2 ^ 8 := Nat.pow_le_pow_right (by omega) hd8
      omega
     have cA := z6z L (by omega) hL hp256
     obtain ⟨AC, hAC⟩ : ∃ AC : Nat → List Bs, ∀ i, AC i = acc ++ ndL l w (8 - (d + 1)) ((L.take i).filter (z2B L)) := ⟨_, fun _ => rfl⟩
     have ac0 : AC 0 = acc := by rw [hAC]; simp [ndL]
     have acl : ∀ i, (AC i).length ≤ acc.length + 8 := fun i => by
      rw [hAC, List.length_append, ndL, List.length_map]
      have := List.length_filter_le (z2B L) (L.take i)
      rw [List.length_take] at this
      omega
     have acn : ∀ i (hi : i < L.length), AC (i + 1) = AC i ++ (if z2B L L[i] then [z0D l w (8 - (d + 1)) (x1 L[i])] else []) := fun i hi => by
      rw [hAC, hAC, zbp hi, zfC, List.append_assoc]
      congr 2
      split <;> rfl
     have acE : AC L.length ++ sdA l w d (8 - d) (lvUp L) = TS := by
      rw [← hTS, hAC, List.take_length, List.append_assoc]
      congr 1
      have e : sdA l w (d + 1) (8 - (d + 1)) L = sdL l w (8 - (d + 1)) L ++ sdA l w d (8 - (d + 1) + 1) (lvUp L) := by rw [sdA]
      rw [e, z5O l w _ hL, show 8 - (d + 1) + 1 = 8 - d by omega]
      rfl
     repeat ((try conv => whnf); first | (with_reducible first | refine z0a (fun Qs hN hE hR => ?_) | refine z08 ?_ | refine z00 (fun Qb kN kE kX kR => ?_) | refine z04 ?_ | refine z05 ?_ | refine z09 ?_ | refine z06 ?_ | refine z07 ?_ | (show W _ _ _ (.cond _ _ _) _ _; refine z03 rfl ?_) | (refine hN _ ?_; try clear hN hE hR Qs; (try (conv => arg 6; dsimp only [ovl, List.set, List.map, ren0]))) | ((first | refine hE _ _ ?_ | refine hR _ ?_); try clear hN hE hR Qs) | ((first | refine kN _ ?_ | refine kE _ ?_ | refine kX _ _ rfl ?_ | refine kR _ ?_); try clear kN kE kX kR Qb)) | (refine z0c f1 ?_) | (refine And.intro (by kernel_rfl) ?_) | (refine stpQ ?_))
     refine z0g 4 ⟨[(2, .int .i64 (w : Int)), (6, .ptr 1 0 0), (8, .ptr 2 0 0), (9, .sl 1 (npE L)), (11, .sl 3 (spE l)), (12, .sl 1 (strE (empJ w 8))), (13, .int .i64 ((d + 1 : Nat) : Int))], [(1, some (.box [.val nilV, .val nilV, .val nilV])), (2, some (.box [.ref 3, .ref 4, .ref 5])), (3, some (.row 1 (strE names))), (4, some (.row 1 BK)), (5, some (.row 1 (strE (AC L.length))))], 6⟩ Nat (fun i => ⟨[(2, .int .i64 (w : Int)), (6, .ptr 1 0 0), (8, .ptr 2 0 0), (9, .sl 1 (npE L)), (11, .sl 3 (spE l)), (12, .sl 1 (strE (empJ w 8))), (13, .int .i64 ((d + 1 : Nat) : Int)), (14, .int .i64 (i : Int))], [(1, some (.box [.val nilV, .val nilV, .val nilV])), (2, some (.box [.ref 3, .ref 4, .ref 5])), (3, some (.row 1 (strE names))), (4, some (.row 1 BK)), (5, some (.row 1 (strE (AC i))))], 6⟩) (fun i => i ≤ L.length) (fun i => L.length - i) 0 (Nat.zero_le _) ?_ ?_ ?_
     ·rw [ac0]
      (refine z01 (by rfl) ?_ ?_)
      all_goals (repeat' (first | (exact trivial) | ((try conv => whnf); first | (exact trivial) | (refine And.intro ?_ ?_))))
      all_goals first
       | rfl
       | decide
       | (simp; done)
     ·intro i hi
      by_cases hlt : i < L.length
      ·have f2 : (i : Int) < ((L.length : Nat) : Int) := by omega
       have gp := z0C hlt
       have hp2 := hL2 _ (List.getElem_mem hlt)
       have ex := zfp (hp256 _ (List.getElem_mem hlt))
       have cI := zd3 L (x1 L[i]) (by omega)
       have cN := cNd d L[i] hd8 hp2
       have t1 := acn i hlt
       have t3 := acl i
       have hse := z0h (AC i)
       unfold z2B at t1
       clear cNd acn acl cA acE hL hL2 hp256 ac0 hAC
       cases hc : L.contains (x1 L[i]) with
       | true =>
         rw [hc] at cI t1
         have t4 : AC (i + 1) = AC i := by rw [t1]; simp
         clear t1 hp2 cN hc
         generalize x1 L[i] = xp at *
         generalize L[i] = p at *
         repeat ((try conv => whnf); first | (with_reducible first | refine z0a (fun Qs hN hE hR => ?_) | refine z08 ?_ | refine z00 (fun Qb kN kE kX kR => ?_) | refine z04 ?_ | refine z05 ?_ | refine z09 ?_ | refine z06 ?_ | refine z07 ?_ | (show W _ _ _ (.cond _ _ _) _ _; refine z03 rfl ?_) | (refine hN _ ?_; try clear hN hE hR Qs; (try (conv => arg 6; dsimp only [ovl, List.set, List.map, ren0]))) | ((first | refine hE _ _ ?_ | refine hR _ ?_); try clear hN hE hR Qs) | ((first | refine kN _ ?_ | refine kE _ ?_ | refine kX _ _ rfl ?_ | refine kR _ ?_); try clear kN kE kX kR Qb)) | (refine Exists.intro L.length (And.intro hLl ?_)) | (refine z0c f2 ?_) | (refine i_at gp ?_) | (refine Exists.intro _ (And.intro ex.symm ?_)) | (refine ccA ([]) (cI) ?_) | (refine And.intro (by kernel_rfl) ?_) | (refine stpQ ?_))
         refine ⟨i + 1, (by (try dsimp only); omega), (by (try dsimp only); omega), ?_⟩
         (try dsimp only)
         rw [t4]
         (refine z01 (by rfl) ?_ ?_) <;> (repeat' (first | (exact eqA) | (refine And.intro ?_ ?_) | ((fail_if_success (with_reducible (show _ = _))); (show _ = _)))) <;> rfl
       | false =>
         rw [hc] at cI t1
         have t4 : strE (AC (i + 1)) = strE (AC i) ++ [[.str (z0D l w (8 - (d + 1)) (x1 L[i]))]] := by
          rw [t1, if_pos (show (!false) = true from rfl), z5P]
         clear t1 hp2 hc
         generalize z0D l w (8 - (d + 1)) (x1 L[i]) = nd at *
         generalize x1 L[i] = xp at *
         generalize L[i] = p at *
         generalize strE (empJ w 8) = EM at *
         generalize spE l = SP at *
         generalize hSA : strE (AC i) = SA at *
         repeat ((try conv => whnf); first | (with_reducible first | refine z0a (fun Qs hN hE hR => ?_) | refine z08 ?_ | refine z00 (fun Qb kN kE kX kR => ?_) | refine z04 ?_ | refine z05 ?_ | refine z09 ?_ | refine z06 ?_ | refine z07 ?_ | (show W _ _ _ (.cond _ _ _) _ _; refine z03 rfl ?_) | (refine hN _ ?_; try clear hN hE hR Qs; (try (conv => arg 6; dsimp only [ovl, List.set, List.map, ren0]))) | ((first | refine hE _ _ ?_ | refine hR _ ?_); try clear hN hE hR Qs) | ((first | refine kN _ ?_ | refine kE _ ?_ | refine kX _ _ rfl ?_ | refine kR _ ?_); try clear kN kE kX kR Qb)) | (refine Exists.intro L.length (And.intro hLl ?_)) | (refine z0c f2 ?_) | (refine i_at gp ?_) | (refine Exists.intro _ (And.intro ex.symm ?_)) | (refine ccA ([]) (cI) ?_) | (refine ccA ([]) (cN) ?_) | (refine And.intro (by simp only [List.length_append, List.length_set, List.length_replicate, List.length_cons, List.length_nil, List.nil_append]; omega) ?_) | (refine And.intro (by kernel_rfl) ?_) | (refine stpQ ?_))
         refine ⟨i + 1, (by (try dsimp only); omega), (by (try dsimp only); omega), ?_⟩
         (try dsimp only)
         rw [t4]
         (refine z01 (by rfl) ?_ ?_) <;> (repeat' (first | (exact eqA) | (refine And.intro ?_ ?_) | ((fail_if_success (with_reducible (show _ = _))); (show _ = _)))) <;> rfl
      ·obtain rfl : i = L.length := by omega
       have f2 : ¬ ((L.length : Nat) : Int) < ((L.length : Nat) : Int) := by omega
       clear cNd acn acl cA acE hL hL2 hp256 ac0 hAC
       repeat ((try conv => whnf); first | (with_reducible first | refine z0a (fun Qs hN hE hR => ?_) | refine z08 ?_ | refine z00 (fun Qb kN kE kX kR => ?_) | refine z04 ?_ | refine z05 ?_ | refine z09 ?_ | refine z06 ?_ | refine z07 ?_ | (show W _ _ _ (.cond _ _ _) _ _; refine z03 rfl ?_) | (refine hN _ ?_; try clear hN hE hR Qs; (try (conv => arg 6; dsimp only [ovl, List.set, List.map, ren0]))) | ((first | refine hE _ _ ?_ | refine hR _ ?_); try clear hN hE hR Qs) | ((first | refine kN _ ?_ | refine kE _ ?_ | refine kX _ _ rfl ?_ | refine kR _ ?_); try clear kN kE kX kR Qb)) | (refine Exists.intro L.length (And.intro hLl ?_)) | (refine z0d f2 ?_) | (refine And.intro (by kernel_rfl) ?_) | (refine stpQ ?_))
       (refine z01 (by rfl) ?_ ?_) <;> (repeat' (first | (exact eqA) | (refine And.intro ?_ ?_) | ((fail_if_success (with_reducible (show _ = _))); (show _ = _)))) <;> rfl
     ·have i1 := z1G hL
      have i2 := z7s (n := d) L hL2
      have i4 := z3P L
      have t3 := acl L.length
      clear cNd acn acl hL hL2 hp256 ac0 hAC hTS
      generalize lvUp L = up at *
      repeat ((try conv => whnf); first | (with_reducible first | refine z0a (fun Qs hN hE hR => ?_) | refine z08 ?_ | refine z00 (fun Qb kN kE kX kR => ?_) | refine z04 ?_ | refine z05 ?_ | refine z09 ?_ | refine z06 ?_ | refine z07 ?_ | (show W _ _ _ (.cond _ _ _) _ _; refine z03 rfl ?_) | (refine hN _ ?_; try clear hN hE hR Qs; (try (conv => arg 6; dsimp only [ovl, List.set, List.map, ren0]))) | ((first | refine hE _ _ ?_ | refine hR _ ?_); try clear hN hE hR Qs) | ((first | refine kN _ ?_ | refine kE _ ?_ | refine kX _ _ rfl ?_ | refine kR _ ?_); try clear kN kE kX kR Qb)) | (refine ccA ([]) (cA) ?_) | (refine And.intro (by kernel_rfl) ?_) | (refine stpQ ?_))
      refine ⟨(d, up, AC L.length), ⟨by show d ≤ 8; omega, i1, i2, by show up.length ≤ 8; omega, by show (AC L.length).length + 8 * d ≤ 64; omega, acE⟩, (by show d < d + 1; omega), ?_⟩
      (refine z01 (by rfl) ?_ ?_) <;> (repeat' (first | (exact eqA) | (refine And.intro ?_ ?_) | ((fail_if_success (with_reducible (show _ = _))); (show _ = _)))) <;> rfl
  ·repeat ((try conv => whnf); first | (with_reducible first | refine z0a (fun Qs hN hE hR => ?_) | refine z08 ?_ | refine z00 (fun Qb kN kE kX kR => ?_) | refine z04 ?_ | refine z05 ?_ | refine z09 ?_ | refine z06 ?_ | refine z07 ?_ | (show W _ _ _ (.cond _ _ _) _ _; refine z03 rfl ?_) | (refine hN _ ?_; try clear hN hE hR Qs; (try (conv => arg 6; dsimp only [ovl, List.set, List.map, ren0]))) | ((first | refine hE _ _ ?_ | refine hR _ ?_); try clear hN hE hR Qs) | ((first | refine kN _ ?_ | refine kE _ ?_ | refine kX _ _ rfl ?_ | refine kR _ ?_); try clear kN kE kX kR Qb)) | (refine And.intro (by kernel_rfl) ?_) | (refine stpQ ?_))
   (refine z02 (by rfl) ?_ ?_ (by rfl)) <;> (repeat' (first | (exact eqA) | (refine And.intro ?_ ?_) | ((fail_if_success (with_reducible (show _ = _))); (show _ = _)))) <;> rfl
theorem z7y (l : List Lf) (names : List Bs) (w : Int) (hsm : Sml l) (hn : names.length ≤ 1000) (hl : ∀ s ∈ names, (s.length : Int) ≤ 100000000) (hb : (leavesOk l && (z0N names && inB w 1 32)) = false) : CT Tryz.prog 23 [] [.sl 2 (lvE l), .sl 1 (strE names), .int .i64 w] (.tup [.agg [.val nilV, .val nilV, .val nilV], .bool false]) [] := by
 have c1 := z1n l (by have := hsm.1; omega) hsm.fit
 have c2 := z49 names (by omega) hl
 have c3 := z2N w 1 32
 generalize leavesOk l = b1 at *
 generalize z0N names = b2 at *
 generalize inB w 1 32 = b3 at *
 cases b1
 ·clear hb
  refine z0b z0p 1 rfl Tryz.func23 rfl rfl rfl ?_
  conv => arg 6; whnf
  repeat ((try conv => whnf); first | (with_reducible first | refine z0a (fun Qs hN hE hR => ?_) | refine z08 ?_ | refine z00 (fun Qb kN kE kX kR => ?_) | refine z04 ?_ | refine z05 ?_ | refine z09 ?_ | refine z06 ?_ | refine z07 ?_ | (show W _ _ _ (.cond _ _ _) _ _; refine z03 rfl ?_) | (refine hN _ ?_; try clear hN hE hR Qs; (try (conv => arg 6; dsimp only [ovl, List.set, List.map, ren0]))) | ((first | refine hE _ _ ?_ | refine hR _ ?_); try clear hN hE hR Qs) | ((first | refine kN _ ?_ | refine kE _ ?_ | refine kX _ _ rfl ?_ | refine kR _ ?_); try clear kN kE kX kR Qb)) | (refine ccA ([]) (c1) ?_) | (refine ccA ([]) (c2) ?_) | (refine ccA ([]) (c3) ?_) | (refine And.intro (by kernel_rfl) ?_) | (refine stpQ ?_))
  (refine z02 (by rfl) ?_ ?_ (by rfl)) <;> (repeat' (first | (exact eqA) | (refine And.intro ?_ ?_) | ((fail_if_success (with_reducible (show _ = _))); (show _ = _)))) <;> rfl
 cases b2
 ·clear hb
  refine z0b z0p 1 rfl Tryz.func23 rfl rfl rfl ?_
  conv => arg 6; whnf
  repeat ((try conv => whnf); first | (with_reducible first | refine z0a (fun Qs hN hE hR => ?_) | refine z08 ?_ | refine z00 (fun Qb kN kE kX kR => ?_) | refine z04 ?_ | refine z05 ?_ | refine z09 ?_ | refine z06 ?_ | refine z07 ?_ | (show W _ _ _ (.cond _ _ _) _ _; refine z03 rfl ?_) | (refine hN _ ?_; try clear hN hE hR Qs; (try (conv => arg 6; dsimp only [ovl, List.set, List.map, ren0]))) | ((first | refine hE _ _ ?_ | refine hR _ ?_); try clear hN hE hR Qs) | ((first | refine kN _ ?_ | refine kE _ ?_ | refine kX _ _ rfl ?_ | refine kR _ ?_); try clear kN kE kX kR Qb)) | (refine ccA ([]) (c1) ?_) | (refine ccA ([]) (c2) ?_) | (refine ccA ([]) (c3) ?_) | (refine And.intro (by kernel_rfl) ?_) | (refine stpQ ?_))
  (refine z02 (by rfl) ?_ ?_ (by rfl)) <;> (repeat' (first | (exact eqA) | (refine And.intro ?_ ?_) | ((fail_if_success (with_reducible (show _ = _))); (show _ = _)))) <;> rfl
 cases b3
 ·clear hb
  refine z0b z0p 1 rfl Tryz.func23 rfl rfl rfl ?_
  conv => arg 6; whnf
  repeat ((try conv => whnf); first | (with_reducible first | refine z0a (fun Qs hN hE hR => ?_) | refine z08 ?_ | refine z00 (fun Qb kN kE kX kR => ?_) | refine z04 ?_ | refine z05 ?_ | refine z09 ?_ | refine z06 ?_ | refine z07 ?_ | (show W _ _ _ (.cond _ _ _) _ _; refine z03 rfl ?_) | (refine hN _ ?_; try clear hN hE hR Qs; (try (conv => arg 6; dsimp only [ovl, List.set, List.map, ren0]))) | ((first | refine hE _ _ ?_ | refine hR _ ?_); try clear hN hE hR Qs) | ((first | refine kN _ ?_ | refine kE _ ?_ | refine kX _ _ rfl ?_ | refine kR _ ?_); try clear kN kE kX kR Qb)) | (refine ccA ([]) (c1) ?_) | (refine ccA ([]) (c2) ?_) | (refine ccA ([]) (c3) ?_) | (refine And.intro (by kernel_rfl) ?_) | (refine stpQ ?_))
  (refine z02 (by rfl) ?_ ?_ (by rfl)) <;> (repeat' (first | (exact eqA) | (refine And.intro ?_ ?_) | ((fail_if_success (with_reducible (show _ = _))); (show _ = _)))) <;> rfl
 cases hb
theorem z7z (l : List Lf) (names : List Bs) (w : Int) (hsm : Sml l) (hn : names.length ≤ 1000) (hl : ∀ s ∈ names, (s.length : Int) ≤ 100000000) (hb : (leavesOk l && (z0N names && inB w 1 32)) = false) : CT Tryz.prog 22 [] [.sl 2 (lvE l), .sl 1 (strE names), .int .i64 w] (.tup [.agg [.val nilV, .val nilV, .val nilV], .bool false]) [] := by
 have c1 := z2m l (by have := hsm.1; omega) hsm.fit
 have c2 := z5B names (by omega) hl
 have c3 := z3L w
 generalize leavesOk l = b1 at *
 generalize z0N names = b2 at *
 generalize inB w 1 32 = b3 at *
 cases b1
 ·clear hb
  refine z0b z0p 1 rfl Tryz.func22 rfl rfl rfl ?_
  conv => arg 6; whnf
  repeat ((try conv => whnf); first | (with_reducible first | refine z0a (fun Qs hN hE hR => ?_) | refine z08 ?_ | refine z00 (fun Qb kN kE kX kR => ?_) | refine z04 ?_ | refine z05 ?_ | refine z09 ?_ | refine z06 ?_ | refine z07 ?_ | (show W _ _ _ (.cond _ _ _) _ _; refine z03 rfl ?_) | (refine hN _ ?_; try clear hN hE hR Qs; (try (conv => arg 6; dsimp only [ovl, List.set, List.map, ren0]))) | ((first | refine hE _ _ ?_ | refine hR _ ?_); try clear hN hE hR Qs) | ((first | refine kN _ ?_ | refine kE _ ?_ | refine kX _ _ rfl ?_ | refine kR _ ?_); try clear kN kE kX kR Qb)) | (refine ccA ([]) (c1) ?_) | (refine ccA ([]) (c2) ?_) | (refine ccA ([]) (c3) ?_) | (refine And.intro (by kernel_rfl) ?_) | (refine stpQ ?_))
  (refine z02 (by rfl) ?_ ?_ (by rfl)) <;> (repeat' (first | (exact eqA) | (refine And.intro ?_ ?_) | ((fail_if_success (with_reducible (show _ = _))); (show _ = _)))) <;> rfl
 cases b2
 ·clear hb
  refine z0b z0p 1 rfl Tryz.func22 rfl rfl rfl ?_
  conv => arg 6; whnf
  repeat ((try conv => whnf); first | (with_reducible first | refine z0a (fun Qs hN hE hR => ?_) | refine z08 ?_ | refine z00 (fun Qb kN kE kX kR => ?_) | refine z04 ?_ | refine z05 ?_ | refine z09 ?_ | refine z06 ?_ | refine z07 ?_ | (show W _ _ _ (.cond _ _ _) _ _; refine z03 rfl ?_) | (refine hN _ ?_; try clear hN hE hR Qs; (try (conv => arg 6; dsimp only [ovl, List.set, List.map, ren0]))) | ((first | refine hE _ _ ?_ | refine hR _ ?_); try clear hN hE hR Qs) | ((first | refine kN _ ?_ | refine kE _ ?_ | refine kX _ _ rfl ?_ | refine kR _ ?_); try clear kN kE kX kR Qb)) | (refine ccA ([]) (c1) ?_) | (refine ccA ([]) (c2) ?_) | (refine ccA ([]) (c3) ?_) | (refine And.intro (by kernel_rfl) ?_) | (refine stpQ ?_))
  (refine z02 (by rfl) ?_ ?_ (by rfl)) <;> (repeat' (first | (exact eqA) | (refine And.intro ?_ ?_) | ((fail_if_success (with_reducible (show _ = _))); (show _ = _)))) <;> rfl
 cases b3
 ·clear hb
  refine z0b z0p 1 rfl Tryz.func22 rfl rfl rfl ?_
  conv => arg 6; whnf
  repeat ((try conv => whnf); first | (with_reducible first | refine z0a (fun Qs hN hE hR => ?_) | refine z08 ?_ | refine z00 (fun Qb kN kE kX kR => ?_) | refine z04 ?_ | refine z05 ?_ | refine z09 ?_ | refine z06 ?_ | refine z07 ?_ | (show W _ _ _ (.cond _ _ _) _ _; refine z03 rfl ?_) | (refine hN _ ?_; try clear hN hE hR Qs; (try (conv => arg 6; dsimp only [ovl, List.set, List.map, ren0]))) | ((first | refine hE _ _ ?_ | refine hR _ ?_); try clear hN hE hR Qs) | ((first | refine kN _ ?_ | refine kE _ ?_ | refine kX _ _ rfl ?_ | refine kR _ ?_); try clear kN kE kX kR Qb)) | (refine ccA ([]) (c1) ?_) | (refine ccA ([]) (c2) ?_) | (refine ccA ([]) (c3) ?_) | (refine And.intro (by kernel_rfl) ?_) | (refine stpQ ?_))
  (refine z02 (by rfl) ?_ ?_ (by rfl)) <;> (repeat' (first | (exact eqA) | (refine And.intro ?_ ?_) | ((fail_if_success (with_reducible (show _ = _))); (show _ = _)))) <;> rfl
 cases hb
end
end Go.Proofs.YtfjbinbpgdiafaaGreatDoor
