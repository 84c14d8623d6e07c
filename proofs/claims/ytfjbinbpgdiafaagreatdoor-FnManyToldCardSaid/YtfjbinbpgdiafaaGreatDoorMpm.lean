/- Functions by content: the program proves many names. -/
import Derived.Test.YtfjbinbpgdiafaaGreatDoorMk
namespace Go.Proofs.YtfjbinbpgdiafaaGreatDoor
set_option linter.unusedVariables false
set_option linter.unusedSimpArgs false
set_option linter.unusedSectionVars false
open Go.RowKit Pl
section
attribute [local irreducible] z0t z0u z0A AnsP LeP W CvE sdA sdL z0D
set_option maxRecDepth 100000 in
set_option maxHeartbeats 32000000 in
theorem z8x (l : List Lf) (names : List Bs) (w : Nat) (h : leavesOk l = true) (hnm : z0N names = true) (hwi : 1 ≤ w ∧ w ≤ 32) : CT Tryz.prog 22 [] [.sl 2 (lvE l), .sl 1 (strE names), .int .i64 (w : Int)] (.tup [.agg [.ref 1, .ref 2, .ref 3], .bool true]) [.row 1 (strE names), .deep 1 (vwD (mnB l names)) [], .row 1 (strE (mnS l names w))] := by
 have hm := zbk h hnm hwi
 obtain ⟨n1, n8, nm, b8, bl, w0, sw, s64⟩ := z21 hm
 have hl : ∀ s ∈ names, (s.length : Int) ≤ 100000000 := fun s hs => by have := nm s hs; omega
 have hsm := z5A h
 have cO := z2m l (by have := hsm.1; omega) hsm.fit
 rw [h] at cO
 have cN0 := z5B names (by omega) hl
 rw [hnm] at cN0
 have cW := z3L (w : Int)
 rw [z1b.2 (show (1 : Int) ≤ (w : Int) ∧ (w : Int) ≤ 32 by omega)] at cW
 have cG := zbg l w h
 have cC := z8w names (by omega)
 have cX := z3o names (by omega) hl
 rw [z5s] at cX
 have hK := z2b names
 have hKl : ∀ x ∈ ixsN names, x < 2 ^ (8 - 0) := z7h names
 have hKn := z1Y names
 have hsl : ∀ k, ((lfAt l k).1.length : Int) ≤ 100000000 := fun k => by have := (hsm.2 k).1; omega
 have hll : (l.length : Int) ≤ 100000000 := by have := hsm.1; omega
 have hB : ∀ i (hi : i < (ixsN names).length), vwD ((ixsN names).take (i + 1) |>.map fun (p : Nat) => z0k l (p : Int)) = vwD ((ixsN names).take i |>.map fun (p : Nat) => z0k l (p : Int)) ++ [[.own 2 (lvE (z0k l ((ixsN names)[i] : Int)))]] := fun i hi => by
  rw [List.take_succ_eq_append_getElem hi]; simp only [vwD, List.map_append, List.map_cons, List.map_nil]
 have hBe : ((ixsN names).take (ixsN names).length |>.map fun (p : Nat) => z0k l (p : Int)) = mnB l names := by rw [List.take_length]; rfl
 have hsE : mnS l names w = sdA l w 8 0 (ixsN names) := rfl
 have hS64 : (sdA l w 8 0 (ixsN names)).length ≤ 64 := by rw [← hsE]; exact s64
 rw [hsE]
 generalize mnB l names = bks at *
 generalize ixsN names = K at *
 have hKe := z1d K
 clear hm bl sw hl nm hsE s64
 refine z0b ttG_ok 1 rfl Tryz.func22 rfl rfl rfl ?_
 conv => arg 6; whnf
 repeat ((try conv => whnf); first | (with_reducible first | refine z0a (fun Qs hN hE hR => ?_) | refine z08 ?_ | refine z00 (fun Qb kN kE kX kR => ?_) | refine z04 ?_ | refine z05 ?_ | refine z09 ?_ | refine z06 ?_ | refine z07 ?_ | (show W _ _ _ (.cond _ _ _) _ _; refine z03 rfl ?_) | (refine hN _ ?_; try clear hN hE hR Qs; (try (conv => arg 6; dsimp only [ovl, List.set, List.map, ren0]))) | ((first | refine hE _ _ ?_ | refine hR _ ?_); try clear hN hE hR Qs) | ((first | refine kN _ ?_ | refine kE _ ?_ | refine kX _ _ rfl ?_ | refine kR _ ?_); try clear kN kE kX kR Qb)) | (refine ccA ([]) (cO) ?_) | (refine ccA ([]) (cN0) ?_) | (refine ccA ([]) (cW) ?_) | (refine ccA ([]) (cG) ?_) | (refine ccA ([]) (cC) ?_) | (refine ccA ([]) (cX) ?_) | (refine Exists.intro K.length (And.intro hKe ?_)) | (refine And.intro (by kernel_rfl) ?_) | (refine stpQ ?_))
 refine z0g 0 ⟨[(0, .sl 2 (lvE l)), (6, .ptr 1 0 0), (8, .ptr 2 0 0), (9, .ptr 3 0 0), (10, .sl 1 (npE K))], [(1, some (.box [.val nilV, .val nilV, .val nilV])), (2, some (.box [.sl 2 (lvE l), .sl 1 (ixE l), .int .i64 (w : Int)])), (3, some (.box [.ref 4, .ref 5, .val nilV])), (4, some (.row 1 (strE names))), (5, some (.deep 1 (vwD bks) []))], 6⟩ Nat (fun i => ⟨[(0, .sl 2 (lvE l)), (6, .ptr 1 0 0), (8, .ptr 2 0 0), (9, .ptr 3 0 0), (10, .sl 1 (npE K)), (40, .sl 1 (npE K)), (41, .int .i64 ((K.length : Nat) : Int)), (42, .int .i64 (i : Int))], [(1, some (.box [.val nilV, .val nilV, .val nilV])), (2, some (.box [.sl 2 (lvE l), .sl 1 (ixE l), .int .i64 (w : Int)])), (3, some (.box [.ref 4, .ref 5, .val nilV])), (4, some (.row 1 (strE names))), (5, some (.deep 1 (vwD (K.take i |>.map fun (p : Nat) => z0k l (p : Int))) []))], 6⟩) (fun i => i ≤ K.length) (fun i => K.length - i) 0 (Nat.zero_le _) ?_ ?_ ?_
 ·(refine z01 (by rfl) ?_ ?_)
  all_goals (repeat' (first | (exact trivial) | ((try conv => whnf); first | (exact trivial) | (refine And.intro ?_ ?_))))
  all_goals first
   | rfl
   | decide
   | exact CvE.nil _ (by decide)
 ·intro i hi
  have hbl : (vwD (K.take i |>.map fun (p : Nat) => z0k l (p : Int))).length = i := by rw [zcW, List.length_map, List.length_take]; omega
  by_cases hlt : i < K.length
  ·have f1 : (i : Int) < ((K.length : Nat) : Int) := by omega
   have gi := z0C hlt
   have hnx := hB i hlt
   have cB := zcU 0 (z6u l ((K[i] : Nat) : Int) hll hsl) rfl (by decide) (cl_lvM _)
   clear hB
   generalize vwD (K.take i |>.map fun (p : Nat) => z0k l (p : Int)) = BS at *
   generalize lvE (z0k l (K[i] : Int)) = BB at *
   generalize K[i] = p at *
   repeat ((try conv => whnf); first | (with_reducible first | refine z0a (fun Qs hN hE hR => ?_) | refine z08 ?_ | refine z00 (fun Qb kN kE kX kR => ?_) | refine z04 ?_ | refine z05 ?_ | refine z09 ?_ | refine z06 ?_ | refine z07 ?_ | (show W _ _ _ (.cond _ _ _) _ _; refine z03 rfl ?_) | (refine hN _ ?_; try clear hN hE hR Qs; (try (conv => arg 6; dsimp only [ovl, List.set, List.map, ren0]))) | ((first | refine hE _ _ ?_ | refine hR _ ?_); try clear hN hE hR Qs) | ((first | refine kN _ ?_ | refine kE _ ?_ | refine kX _ _ rfl ?_ | refine kR _ ?_); try clear kN kE kX kR Qb)) | (refine z0c f1 ?_) | (refine i_at gi ?_) | (refine ccA ([]) (cB) ?_) | (refine And.intro (by simp only [List.length_append, List.length_set, List.length_replicate, List.length_cons, List.length_nil]; omega) ?_) | (refine And.intro (by kernel_rfl) ?_) | (refine stpQ ?_))
   refine ⟨i + 1, hlt, by omega, ?_⟩
   rw [hnx]
   (refine z01 (by rfl) ?_ ?_) <;> (repeat' (first | (exact eqA) | (refine And.intro ?_ ?_) | ((fail_if_success (with_reducible (show _ = _))); (show _ = _)))) <;> rfl
  ·have hie : i = K.length := by omega
   subst hie
   have f1 : ¬ ((K.length : Nat) : Int) < ((K.length : Nat) : Int) := by omega
   rw [hBe]
   repeat ((try conv => whnf); first | (with_reducible first | refine z0a (fun Qs hN hE hR => ?_) | refine z08 ?_ | refine z00 (fun Qb kN kE kX kR => ?_) | refine z04 ?_ | refine z05 ?_ | refine z09 ?_ | refine z06 ?_ | refine z07 ?_ | (show W _ _ _ (.cond _ _ _) _ _; refine z03 rfl ?_) | (refine hN _ ?_; try clear hN hE hR Qs; (try (conv => arg 6; dsimp only [ovl, List.set, List.map, ren0]))) | ((first | refine hE _ _ ?_ | refine hR _ ?_); try clear hN hE hR Qs) | ((first | refine kN _ ?_ | refine kE _ ?_ | refine kX _ _ rfl ?_ | refine kR _ ?_); try clear kN kE kX kR Qb)) | (refine z0d f1 ?_) | (refine stpQ ?_))
   (refine z01 (by rfl) ?_ ?_) <;> (repeat' (first | (exact eqA) | (refine And.intro ?_ ?_) | ((fail_if_success (with_reducible (show _ = _))); (show _ = _)))) <;> rfl
 ·repeat ((try conv => whnf); first | (with_reducible first | refine z0a (fun Qs hN hE hR => ?_) | refine z08 ?_ | refine z00 (fun Qb kN kE kX kR => ?_) | refine z04 ?_ | refine z05 ?_ | refine z09 ?_ | refine z06 ?_ | refine z07 ?_ | (show W _ _ _ (.cond _ _ _) _ _; refine z03 rfl ?_) | (refine hN _ ?_; try clear hN hE hR Qs; (try (conv => arg 6; dsimp only [ovl, List.set, List.map, ren0]))) | ((first | refine hE _ _ ?_ | refine hR _ ?_); try clear hN hE hR Qs) | ((first | refine kN _ ?_ | refine kE _ ?_ | refine kX _ _ rfl ?_ | refine kR _ ?_); try clear kN kE kX kR Qb)) | (refine And.intro (by kernel_rfl) ?_) | (refine stpQ ?_))
  refine z0g 2 ⟨[(6, .ptr 1 0 0), (8, .ptr 2 0 0), (9, .ptr 3 0 0)], [(1, some (.box [.val nilV, .val nilV, .val nilV])), (2, some (.box [.sl 2 (lvE l), .sl 1 (ixE l), .int .i64 (w : Int)])), (3, some (.box [.ref 4, .ref 5, .ref 6])), (4, some (.row 1 (strE names))), (5, some (.deep 1 (vwD bks) [])), (6, some (.row 1 (strE (sdA l w 8 0 K))))], 7⟩ (Nat × List Nat × List Bs) (fun x => ⟨[(0, .sl 2 (lvE l)), (6, .ptr 1 0 0), (8, .ptr 2 0 0), (9, .ptr 3 0 0), (10, .sl 1 (npE x.2.1)), (13, .int .i64 (8 - (x.1 : Int)))], [(1, some (.box [.val nilV, .val nilV, .val nilV])), (2, some (.box [.sl 2 (lvE l), .sl 1 (ixE l), .int .i64 (w : Int)])), (3, some (.box [.ref 4, .ref 5, .ref 6])), (4, some (.row 1 (strE names))), (5, some (.deep 1 (vwD bks) [])), (6, some (.row 1 (strE x.2.2)))], 7⟩) (fun x => x.1 ≤ 8 ∧ Ups x.2.1 ∧ (∀ p ∈ x.2.1, p < 2 ^ (8 - x.1)) ∧ x.2.1.length ≤ 1000 ∧ sdA l w 8 0 K = x.2.2 ++ sdA l w (8 - x.1) x.1 x.2.1) (fun x => 8 - x.1) (0, K, []) ⟨Nat.zero_le _, hK, hKl, by show K.length ≤ 1000; omega, (List.nil_append _).symm⟩ ?_ ?_ ?_
  ·(refine z01 (by rfl) ?_ ?_)
   all_goals (repeat' (first | (exact trivial) | ((try conv => whnf); first | (exact trivial) | (refine And.intro ?_ ?_))))
   all_goals first
    | rfl
    | decide
    | exact CvE.nil _ (by decide)
  ·clear hK hKl hKe cO cN0 cW cG cC cX hB hBe
   intro x hx
   obtain ⟨lv, L, S⟩ := x
   obtain ⟨hlv, hL, hL2, hLm, hSd⟩ := hx
   dsimp only at hlv hL hL2 hLm hSd ⊢
   have hLl := z1d L
   by_cases hlt8 : lv < 8
   ·have f4 : (8 - (lv : Int)) ≥ 1 := by omega
    have e1 : (8 - ((lv + 1 : Nat) : Int)) = IntKind.i64.wrap ((8 - (lv : Int)) - 1) := by rw [wrap_i64 (by omega) (by omega)]; omega
    obtain ⟨m, hm⟩ : ∃ m, 8 - lv = m + 1 := ⟨8 - (lv + 1), by omega⟩
    have hm2 : 8 - (lv + 1) = m := by omega
    rw [hm] at hL2 hSd
    rw [ze6 l w m lv L, ← List.append_assoc] at hSd
    have hS1 : (S ++ sdL l w lv L).length ≤ 1000 := by
     have := congrArg List.length hSd
     rw [len2M (S ++ sdL l w lv L)] at this
     omega
    repeat ((try conv => whnf); first | (with_reducible first | refine z0a (fun Qs hN hE hR => ?_) | refine z08 ?_ | refine z00 (fun Qb kN kE kX kR => ?_) | refine z04 ?_ | refine z05 ?_ | refine z09 ?_ | refine z06 ?_ | refine z07 ?_ | (show W _ _ _ (.cond _ _ _) _ _; refine z03 rfl ?_) | (refine hN _ ?_; try clear hN hE hR Qs; (try (conv => arg 6; dsimp only [ovl, List.set, List.map, ren0]))) | ((first | refine hE _ _ ?_ | refine hR _ ?_); try clear hN hE hR Qs) | ((first | refine kN _ ?_ | refine kE _ ?_ | refine kX _ _ rfl ?_ | refine kR _ ?_); try clear kN kE kX kR Qb)) | (refine z0c f4 ?_) | (refine Exists.intro L.length (And.intro hLl ?_)) | (refine And.intro (by kernel_rfl) ?_) | (refine stpQ ?_))
    refine z0g 4 ⟨[(0, .sl 2 (lvE l)), (6, .ptr 1 0 0), (8, .ptr 2 0 0), (9, .ptr 3 0 0), (13, .int .i64 (8 - (lv : Int))), (14, .ref 7)], [(1, some (.box [.val nilV, .val nilV, .val nilV])), (2, some (.box [.sl 2 (lvE l), .sl 1 (ixE l), .int .i64 (w : Int)])), (3, some (.box [.ref 4, .ref 5, .ref 6])), (4, some (.row 1 (strE names))), (5, some (.deep 1 (vwD bks) [])), (6, some (.row 1 (strE (S ++ sdL l w lv L)))), (7, some (.row 1 (npE (lvUp L))))], 8⟩ (Nat × Nat × List Nat × List Bs) (fun x => ⟨[(0, .sl 2 (lvE l)), (6, .ptr 1 0 0), (8, .ptr 2 0 0), (9, .ptr 3 0 0), (10, .sl 1 (npE L)), (13, .int .i64 (8 - (lv : Int))), (14, .ref 7), (59, .sl 1 (npE L)), (60, .int .i64 ((L.length : Nat) : Int)), (61, .int .i64 (x.1 : Int))], [(1, some (.box [.val nilV, .val nilV, .val nilV])), (2, some (.box [.sl 2 (lvE l), .sl 1 (ixE l), .int .i64 (w : Int)])), (3, some (.box [.ref 4, .ref 5, .ref 6])), (4, some (.row 1 (strE names))), (5, some (.deep 1 (vwD bks) [])), (6, some (.row 1 (strE x.2.2.2))), (7, some (.row 1 (npE x.2.2.1)))], 8⟩) (PmI l w lv L S) (fun x => L.length - x.1) (0, 0, [], S) ⟨Nat.zero_le _, .inl ⟨rfl, fun ⟨_, h0, _⟩ => absurd h0 (Nat.lt_irrefl _)⟩, (List.nil_append _).symm, rfl, Nat.le_refl _, fun _ => rfl, fun h => absurd h (Nat.lt_irrefl _)⟩ ?_ ?_ ?_
    ·(refine z01 (by rfl) ?_ ?_)
     all_goals (repeat' (first | (exact trivial) | ((try conv => whnf); first | (exact trivial) | (refine And.intro ?_ ?_))))
     all_goals first
      | rfl
      | decide
      | exact CvE.nil _ (by decide)
    ·intro x hx
     by_cases hkl : x.1 < L.length
     ·exact ze7 l names bks w lv m L S h hwi hm hL hL2 hLm hS1 x hx hkl _ (fun x' hx' hlt S1 hS1 => ⟨x', hx', hlt, hS1⟩)
     ·obtain ⟨k, j, up, S2⟩ := x
      obtain ⟨hk, hsnd, hup, hsd, hul, hu0, hu1⟩ := hx
      dsimp only at hk hsnd hup hsd hul hu0 hu1 hkl ⊢
      have hke : k = L.length := by omega
      subst hke
      have hj : j = L.length := by
       rcases hsnd with ⟨h, _⟩ | ⟨_, h, _⟩
       ·exact h
       ·exact absurd h (Nat.lt_irrefl _)
      subst hj
      have f5 : ¬ ((L.length : Nat) : Int) < ((L.length : Nat) : Int) := by omega
      rw [List.drop_length] at hup hsd
      simp only [lvUp, List.append_nil] at hup
      rw [zfH, List.append_nil] at hsd
      rw [hup, hsd]
      clear hu0 hu1 hup hsd hSd
      repeat ((try conv => whnf); first | (with_reducible first | refine z0a (fun Qs hN hE hR => ?_) | refine z08 ?_ | refine z00 (fun Qb kN kE kX kR => ?_) | refine z04 ?_ | refine z05 ?_ | refine z09 ?_ | refine z06 ?_ | refine z07 ?_ | (show W _ _ _ (.cond _ _ _) _ _; refine z03 rfl ?_) | (refine hN _ ?_; try clear hN hE hR Qs; (try (conv => arg 6; dsimp only [ovl, List.set, List.map, ren0]))) | ((first | refine hE _ _ ?_ | refine hR _ ?_); try clear hN hE hR Qs) | ((first | refine kN _ ?_ | refine kE _ ?_ | refine kX _ _ rfl ?_ | refine kR _ ?_); try clear kN kE kX kR Qb)) | (refine z0d f5 ?_) | (refine stpQ ?_))
      (refine z01 (by rfl) ?_ ?_) <;> (repeat' (first | (exact eqA) | (refine And.intro ?_ ?_) | ((fail_if_success (with_reducible (show _ = _))); (show _ = _)))) <;> rfl
    ·have i1 := z1G hL
     have i2 := z7s (n := m) L hL2
     have i3 := z3P L
     generalize lvUp L = up at *
     generalize S ++ sdL l w lv L = S3 at *
     clear hL hL2 hS1
     repeat ((try conv => whnf); first | (with_reducible first | refine z0a (fun Qs hN hE hR => ?_) | refine z08 ?_ | refine z00 (fun Qb kN kE kX kR => ?_) | refine z04 ?_ | refine z05 ?_ | refine z09 ?_ | refine z06 ?_ | refine z07 ?_ | (show W _ _ _ (.cond _ _ _) _ _; refine z03 rfl ?_) | (refine hN _ ?_; try clear hN hE hR Qs; (try (conv => arg 6; dsimp only [ovl, List.set, List.map, ren0]))) | ((first | refine hE _ _ ?_ | refine hR _ ?_); try clear hN hE hR Qs) | ((first | refine kN _ ?_ | refine kE _ ?_ | refine kX _ _ rfl ?_ | refine kR _ ?_); try clear kN kE kX kR Qb)) | (refine Exists.intro _ (And.intro e1 ?_)) | (refine And.intro (by kernel_rfl) ?_) | (refine stpQ ?_))
     refine ⟨(lv + 1, up, S3), ⟨hlt8, i1, by rw [hm2]; exact i2, by show up.length ≤ 1000; omega, by show _ = S3 ++ sdA l w (8 - (lv + 1)) (lv + 1) up; rw [hm2]; exact hSd⟩, (by show 8 - (lv + 1) < 8 - lv; omega), ?_⟩
     (refine z01 (by rfl) ?_ ?_) <;> (repeat' (first | (exact eqA) | (refine And.intro ?_ ?_) | ((fail_if_success (with_reducible (show _ = _))); (show _ = _)))) <;> rfl
   ·have hl8 : lv = 8 := by omega
    subst hl8
    have f4 : ¬ (8 - ((8 : Nat) : Int)) ≥ 1 := by omega
    have ez : sdA l w (8 - 8) 8 L = [] := ze5 l w 8 L
    rw [ez, List.append_nil] at hSd
    rw [hSd]
    clear hSd hL hL2
    repeat ((try conv => whnf); first | (with_reducible first | refine z0a (fun Qs hN hE hR => ?_) | refine z08 ?_ | refine z00 (fun Qb kN kE kX kR => ?_) | refine z04 ?_ | refine z05 ?_ | refine z09 ?_ | refine z06 ?_ | refine z07 ?_ | (show W _ _ _ (.cond _ _ _) _ _; refine z03 rfl ?_) | (refine hN _ ?_; try clear hN hE hR Qs; (try (conv => arg 6; dsimp only [ovl, List.set, List.map, ren0]))) | ((first | refine hE _ _ ?_ | refine hR _ ?_); try clear hN hE hR Qs) | ((first | refine kN _ ?_ | refine kE _ ?_ | refine kX _ _ rfl ?_ | refine kR _ ?_); try clear kN kE kX kR Qb)) | (refine z0d f4 ?_) | (refine stpQ ?_))
    (refine z01 (by rfl) ?_ ?_) <;> (repeat' (first | (exact eqA) | (refine And.intro ?_ ?_) | ((fail_if_success (with_reducible (show _ = _))); (show _ = _)))) <;> rfl
  ·generalize sdA l w 8 0 K = SS at *
   repeat ((try conv => whnf); first | (with_reducible first | refine z0a (fun Qs hN hE hR => ?_) | refine z08 ?_ | refine z00 (fun Qb kN kE kX kR => ?_) | refine z04 ?_ | refine z05 ?_ | refine z09 ?_ | refine z06 ?_ | refine z07 ?_ | (show W _ _ _ (.cond _ _ _) _ _; refine z03 rfl ?_) | (refine hN _ ?_; try clear hN hE hR Qs; (try (conv => arg 6; dsimp only [ovl, List.set, List.map, ren0]))) | ((first | refine hE _ _ ?_ | refine hR _ ?_); try clear hN hE hR Qs) | ((first | refine kN _ ?_ | refine kE _ ?_ | refine kX _ _ rfl ?_ | refine kR _ ?_); try clear kN kE kX kR Qb)) | (refine And.intro (by kernel_rfl) ?_) | (refine stpQ ?_))
   (refine z02 (by rfl) ?_ ?_ (by rfl)) <;> (repeat' (first | (exact eqA) | (refine And.intro ?_ ?_) | ((fail_if_success (with_reducible (show _ = _))); (show _ = _)))) <;> first | rfl | exact CvE.refl _
end
end Go.Proofs.YtfjbinbpgdiafaaGreatDoor
