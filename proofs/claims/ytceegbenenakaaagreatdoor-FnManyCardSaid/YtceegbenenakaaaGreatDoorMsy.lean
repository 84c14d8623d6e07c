/- Functions by content: what a right proof of many says; the laws compare proofs of many. -/
import Derived.Test.YtceegbenenakaaaGreatDoorPmr
import Derived.Test.YtceegbenenakaaaGreatDoorMrr
import Derived.Test.YtceegbenenakaaaGreatDoorFc
import Derived.Test.YtceegbenenakaaaGreatDoorTt
namespace Go.Proofs.YtceegbenenakaaaGreatDoor
set_option maxRecDepth 100000
set_option maxHeartbeats 8000000
set_option linter.unusedVariables false
set_option linter.unusedSimpArgs false
set_option linter.unusedSectionVars false
open Go.RowKit Pl
theorem zcR {names : List Bs} {s : Bs} (h : s ∈ names) : ixB s ∈ ixsN names := by
 have h1 := z4U (names.map fun s => (ixB s : Int)) [] (ixB s : Int) (.inr (List.mem_map_of_mem h))
 have h2 := (z2V (names.map fun s => (ixB s : Int)) [] [] List.Pairwise.nil (List.Perm.refl _)).2
 have h3 : (ixB s : Int) ∈ ixsI names := h2.mem_iff.2 h1
 have h4 : (ixB s : Int).toNat ∈ ixsN names := List.mem_map_of_mem h3
 exact h4
section
attribute [local irreducible] z0s z0x z0C AnsP LeP W CvE
theorem z4Z (l : List Lf) (names : List Bs) (sides : List (List T)) (nm : Bs) (h : leavesOk l = true) (hnm : z1v names = true) (hln : (nm.length : Int) ≤ 1000000) : CT Tryz.prog 11 [] [.agg [.sl 1 (strE names), .sl 1 (bkE (mnB l names)), .sl 1 sides], .str nm] (.tup [.str (bif decide (nm ∈ names) then (z0A l nm).getD [] else []), .bool (decide (nm ∈ names) && (z0A l nm).isSome), .bool (decide (nm ∈ names))]) [] := by
 have hn8 : names.length ≤ 8 ∧ ∀ s ∈ names, s.length ≤ 12 := by
  simp only [z1v, Bool.and_eq_true, List.all_eq_true, decide_eq_true_eq] at hnm
  exact ⟨hnm.2.2, fun s hs => z1m (hnm.1 s hs)⟩
 have cI := z3i nm (by omega)
 have cX := z2g names (by omega) (fun s hs => by have := hn8.2 s hs; omega)
 rw [z9i] at cX
 have hne := z0g names
 have hme : nm ∈ names → ixB nm ∈ ixsN names := zcR
 have hbl := z4X l names
 have hKn := z2D names
 have hgb : ∀ i (hi : i < (ixsN names).length), (bkE (mnB l names))[i]? = some [.sl 2 (lvE (z0h l ((ixsN names)[i] : Int)))] := fun i hi => by simp [bkE, mnB, List.getElem?_eq_getElem hi]
 have hgt := wh.bucket_get l nm
 have hbk : ∀ p : Int, ((z0h l p).length : Int) ≤ 1000000000 := fun p => by
  have h1 := (z0z h).1
  have : (z0h l p).length ≤ l.length := List.length_filter_le _ _
  omega
 generalize mnB l names = bks at *
 generalize ixsN names = K at *
 generalize ixB nm = ix at *
 generalize z0A l nm = G at *
 have hKe := z1C K
 have hbe := z4S bks
 obtain ⟨B, hB⟩ : ∃ B : Bool, B = decide (nm ∈ names) := ⟨_, rfl⟩
 rw [← hB]
 refine z08 z26 1 rfl Tryz.func11 rfl rfl rfl ?_
 conv => arg 6; whnf
 repeat ((try conv => whnf); first | (with_reducible first | refine z0b (fun Qs hN hE hR => ?_) | refine z09 ?_ | refine z02 (fun Qb kN kE kX kR => ?_) | refine z04 ?_ | refine z05 ?_ | refine z0a ?_ | refine z06 ?_ | refine z07 ?_ | (show W _ _ _ (.cond _ _ _) _ _; refine z03 rfl ?_) | (refine hN _ ?_; try clear hN hE hR Qs; (try (conv => arg 6; dsimp only [ovl, List.set, List.map, ren0]))) | ((first | refine hE _ _ ?_ | refine hR _ ?_); try clear hN hE hR Qs) | ((first | refine kN _ ?_ | refine kE _ ?_ | refine kX _ _ rfl ?_ | refine kR _ ?_); try clear kN kE kX kR Qb)) | (refine ccA ([]) (cI) ?_) | (refine Exists.intro names.length (And.intro hne ?_)) | (refine And.intro (by kernel_rfl) ?_) | (refine stpQ ?_))
 refine z1o Nat (fun i => ⟨[(1, .str nm), (2, .ptr 1 0 0), (7, .int .i64 (ix : Int)), (17, .sl 1 (strE names)), (18, .int .i64 ((names.length : Nat) : Int)), (19, .int .i64 (i : Int))], [(1, some (.box [.sl 1 (strE names), .sl 1 (bkE bks), .sl 1 sides]))], 2⟩) (fun i => i ≤ names.length ∧ ∀ j (hj : j < names.length), j < i → names[j] ≠ nm) (fun i => names.length - i) 0 ⟨Nat.zero_le _, fun j _ hj => absurd hj (Nat.not_lt_zero _)⟩ ?_ ?_
 ·(refine z00 (by rfl) ?_ ?_)
  all_goals (repeat' (first | (exact trivial) | ((try conv => whnf); first | (exact trivial) | (refine And.intro ?_ ?_))))
  all_goals first
   | rfl
   | decide
 ·intro Q1 hQ1 i hx
  obtain ⟨hi, hno⟩ := hx
  by_cases hlt : i < names.length
  ·have f1 : (i : Int) < ((names.length : Nat) : Int) := by omega
   have gi := z3E hlt
   by_cases he : names[i] = nm
   ·have eB : B = true := by rw [hB]; exact decide_eq_true (by rw [← he]; exact List.getElem_mem hlt)
    have hixK := hme (by rw [← he]; exact List.getElem_mem hlt)
    rw [he] at gi
    have f2 : nm = nm := rfl
    clear hno he hB
    repeat ((try conv => whnf); first | (with_reducible first | refine z0b (fun Qs hN hE hR => ?_) | refine z09 ?_ | refine z02 (fun Qb kN kE kX kR => ?_) | refine z04 ?_ | refine z05 ?_ | refine z0a ?_ | refine z06 ?_ | refine z07 ?_ | (show W _ _ _ (.cond _ _ _) _ _; refine z03 rfl ?_) | (refine hN _ ?_; try clear hN hE hR Qs; (try (conv => arg 6; dsimp only [ovl, List.set, List.map, ren0]))) | ((first | refine hE _ _ ?_ | refine hR _ ?_); try clear hN hE hR Qs) | ((first | refine kN _ ?_ | refine kE _ ?_ | refine kX _ _ rfl ?_ | refine kR _ ?_); try clear kN kE kX kR Qb)) | (refine z0i f1 ?_) | (refine i_at gi ?_) | (refine z2T f2 ?_) | (refine ccA ([]) (cX) ?_) | (refine Exists.intro K.length (And.intro hKe ?_)) | (refine And.intro (by kernel_rfl) ?_) | (refine stpQ ?_))
    refine z1o Nat (fun k => ⟨[(1, .str nm), (2, .ptr 1 0 0), (7, .int .i64 (ix : Int)), (28, .sl 1 (npE K)), (29, .int .i64 ((K.length : Nat) : Int)), (30, .int .i64 (k : Int))], [(1, some (.box [.sl 1 (strE names), .sl 1 (bkE bks), .sl 1 sides]))], 2⟩) (fun k => k ≤ K.length ∧ ∀ j (hj : j < K.length), j < k → K[j] ≠ ix) (fun k => K.length - k) 0 ⟨Nat.zero_le _, fun j _ hj => absurd hj (Nat.not_lt_zero _)⟩ ?_ ?_
    ·(refine z00 (by rfl) ?_ ?_)
     all_goals (repeat' (first | (exact trivial) | ((try conv => whnf); first | (exact trivial) | (refine And.intro ?_ ?_))))
     all_goals first
      | rfl
      | decide
    ·intro Q2 hQ2 k hx
     obtain ⟨hk, hnk⟩ := hx
     by_cases hkl : k < K.length
     ·have f3 : (k : Int) < ((K.length : Nat) : Int) := by omega
      have gk := z0O hkl
      by_cases hkx : K[k] = ix
      ·have f4 : ((ix : Nat) : Int) = ((ix : Nat) : Int) := rfl
       have f5 : (k : Int) < ((bks.length : Nat) : Int) := by omega
       have gb := hgb k hkl
       rw [hkx] at gk gb
       have cL := zbb (z0h l (ix : Int)) nm (hbk _)
       rw [hgt] at cL
       clear hnk hkx hgb hgt
       generalize lvE (z0h l (ix : Int)) = BB at *
       repeat ((try conv => whnf); first | (with_reducible first | refine z0b (fun Qs hN hE hR => ?_) | refine z09 ?_ | refine z02 (fun Qb kN kE kX kR => ?_) | refine z04 ?_ | refine z05 ?_ | refine z0a ?_ | refine z06 ?_ | refine z07 ?_ | (show W _ _ _ (.cond _ _ _) _ _; refine z03 rfl ?_) | (refine hN _ ?_; try clear hN hE hR Qs; (try (conv => arg 6; dsimp only [ovl, List.set, List.map, ren0]))) | ((first | refine hE _ _ ?_ | refine hR _ ?_); try clear hN hE hR Qs) | ((first | refine kN _ ?_ | refine kE _ ?_ | refine kX _ _ rfl ?_ | refine kR _ ?_); try clear kN kE kX kR Qb)) | (refine z0i f3 ?_) | (refine i_at gk ?_) | (refine z0i f4 ?_) | (refine Exists.intro bks.length (And.intro hbe ?_)) | (refine z0i f5 ?_) | (refine i_at gb ?_) | (refine ccA ([]) (cL) ?_) | (refine And.intro (by kernel_rfl) ?_) | (refine stpQ ?_))
       refine hQ2 _ _ ?_
       clear hQ2 Q2
       repeat ((try conv => whnf); first | (with_reducible first | refine z0b (fun Qs hN hE hR => ?_) | refine z09 ?_ | refine z02 (fun Qb kN kE kX kR => ?_) | refine z04 ?_ | refine z05 ?_ | refine z0a ?_ | refine z06 ?_ | refine z07 ?_ | (show W _ _ _ (.cond _ _ _) _ _; refine z03 rfl ?_) | (refine hN _ ?_; try clear hN hE hR Qs; (try (conv => arg 6; dsimp only [ovl, List.set, List.map, ren0]))) | ((first | refine hE _ _ ?_ | refine hR _ ?_); try clear hN hE hR Qs) | ((first | refine kN _ ?_ | refine kE _ ?_ | refine kX _ _ rfl ?_ | refine kR _ ?_); try clear kN kE kX kR Qb)) | (refine And.intro (by kernel_rfl) ?_) | (refine stpQ ?_))
       refine hQ1 _ _ ?_
       clear hQ1 Q1
       subst eB
       repeat ((try conv => whnf); first | (with_reducible first | refine z0b (fun Qs hN hE hR => ?_) | refine z09 ?_ | refine z02 (fun Qb kN kE kX kR => ?_) | refine z04 ?_ | refine z05 ?_ | refine z0a ?_ | refine z06 ?_ | refine z07 ?_ | (show W _ _ _ (.cond _ _ _) _ _; refine z03 rfl ?_) | (refine hN _ ?_; try clear hN hE hR Qs; (try (conv => arg 6; dsimp only [ovl, List.set, List.map, ren0]))) | ((first | refine hE _ _ ?_ | refine hR _ ?_); try clear hN hE hR Qs) | ((first | refine kN _ ?_ | refine kE _ ?_ | refine kX _ _ rfl ?_ | refine kR _ ?_); try clear kN kE kX kR Qb)) | (refine And.intro (by kernel_rfl) ?_) | (refine stpQ ?_))
       (refine z01 (by rfl) ?_ ?_ (by rfl)) <;> (repeat' (first | (exact eqA) | (refine And.intro ?_ ?_) | ((fail_if_success (with_reducible (show _ = _))); (show _ = _)))) <;> rfl
      ·have f4 : ¬ ((K[k] : Nat) : Int) = ((ix : Nat) : Int) := by omega
       have hnk2 : ∀ j (hj : j < K.length), j < k + 1 → K[j] ≠ ix := fun j hj hjk => by
        by_cases hjx : j < k
        ·exact hnk j hj hjx
        ·obtain rfl : j = k := by omega
         exact hkx
       clear hnk hgb hgt
       generalize K[k] = p at *
       repeat ((try conv => whnf); first | (with_reducible first | refine z0b (fun Qs hN hE hR => ?_) | refine z09 ?_ | refine z02 (fun Qb kN kE kX kR => ?_) | refine z04 ?_ | refine z05 ?_ | refine z0a ?_ | refine z06 ?_ | refine z07 ?_ | (show W _ _ _ (.cond _ _ _) _ _; refine z03 rfl ?_) | (refine hN _ ?_; try clear hN hE hR Qs; (try (conv => arg 6; dsimp only [ovl, List.set, List.map, ren0]))) | ((first | refine hE _ _ ?_ | refine hR _ ?_); try clear hN hE hR Qs) | ((first | refine kN _ ?_ | refine kE _ ?_ | refine kX _ _ rfl ?_ | refine kR _ ?_); try clear kN kE kX kR Qb)) | (refine z0i f3 ?_) | (refine i_at gk ?_) | (refine z0m f4 ?_) | (refine And.intro (by kernel_rfl) ?_) | (refine stpQ ?_))
       refine ⟨k + 1, ⟨hkl, hnk2⟩, by omega, ?_⟩
       (refine z00 (by rfl) ?_ ?_) <;> (repeat' (first | (exact eqA) | (refine And.intro ?_ ?_) | ((fail_if_success (with_reducible (show _ = _))); (show _ = _)))) <;> rfl
     ·exfalso
      obtain ⟨j, hj, e⟩ := List.getElem_of_mem hixK
      exact hnk j hj (by omega) e
   ·have hno2 : ∀ j (hj : j < names.length), j < i + 1 → names[j] ≠ nm := fun j hj hji => by
     by_cases hjx : j < i
     ·exact hno j hj hjx
     ·obtain rfl : j = i := by omega
      exact he
    have f2 : ¬ names[i] = nm := he
    clear hno hgb hgt he hme
    generalize names[i] = y at *
    repeat ((try conv => whnf); first | (with_reducible first | refine z0b (fun Qs hN hE hR => ?_) | refine z09 ?_ | refine z02 (fun Qb kN kE kX kR => ?_) | refine z04 ?_ | refine z05 ?_ | refine z0a ?_ | refine z06 ?_ | refine z07 ?_ | (show W _ _ _ (.cond _ _ _) _ _; refine z03 rfl ?_) | (refine hN _ ?_; try clear hN hE hR Qs; (try (conv => arg 6; dsimp only [ovl, List.set, List.map, ren0]))) | ((first | refine hE _ _ ?_ | refine hR _ ?_); try clear hN hE hR Qs) | ((first | refine kN _ ?_ | refine kE _ ?_ | refine kX _ _ rfl ?_ | refine kR _ ?_); try clear kN kE kX kR Qb)) | (refine z0i f1 ?_) | (refine i_at gi ?_) | (refine z4A f2 ?_) | (refine And.intro (by kernel_rfl) ?_) | (refine stpQ ?_))
    refine ⟨i + 1, ⟨hlt, hno2⟩, by omega, ?_⟩
    (refine z00 (by rfl) ?_ ?_) <;> (repeat' (first | (exact eqA) | (refine And.intro ?_ ?_) | ((fail_if_success (with_reducible (show _ = _))); (show _ = _)))) <;> rfl
  ·have hie : i = names.length := by omega
   subst hie
   have f1 : ¬ ((names.length : Nat) : Int) < ((names.length : Nat) : Int) := by omega
   have eB : B = false := by
    rw [hB]
    refine decide_eq_false fun c => ?_
    obtain ⟨j, hj, e⟩ := List.getElem_of_mem c
    exact hno j hj hj e
   clear hno hB hgb hgt hme
   repeat ((try conv => whnf); first | (with_reducible first | refine z0b (fun Qs hN hE hR => ?_) | refine z09 ?_ | refine z02 (fun Qb kN kE kX kR => ?_) | refine z04 ?_ | refine z05 ?_ | refine z0a ?_ | refine z06 ?_ | refine z07 ?_ | (show W _ _ _ (.cond _ _ _) _ _; refine z03 rfl ?_) | (refine hN _ ?_; try clear hN hE hR Qs; (try (conv => arg 6; dsimp only [ovl, List.set, List.map, ren0]))) | ((first | refine hE _ _ ?_ | refine hR _ ?_); try clear hN hE hR Qs) | ((first | refine kN _ ?_ | refine kE _ ?_ | refine kX _ _ rfl ?_ | refine kR _ ?_); try clear kN kE kX kR Qb)) | (refine z0m f1 ?_) | (refine stpQ ?_))
   refine hQ1 _ _ ?_
   clear hQ1 Q1
   subst eB
   repeat ((try conv => whnf); first | (with_reducible first | refine z0b (fun Qs hN hE hR => ?_) | refine z09 ?_ | refine z02 (fun Qb kN kE kX kR => ?_) | refine z04 ?_ | refine z05 ?_ | refine z0a ?_ | refine z06 ?_ | refine z07 ?_ | (show W _ _ _ (.cond _ _ _) _ _; refine z03 rfl ?_) | (refine hN _ ?_; try clear hN hE hR Qs; (try (conv => arg 6; dsimp only [ovl, List.set, List.map, ren0]))) | ((first | refine hE _ _ ?_ | refine hR _ ?_); try clear hN hE hR Qs) | ((first | refine kN _ ?_ | refine kE _ ?_ | refine kX _ _ rfl ?_ | refine kR _ ?_); try clear kN kE kX kR Qb)) | (refine And.intro (by kernel_rfl) ?_) | (refine stpQ ?_))
   (refine z01 (by rfl) ?_ ?_ (by rfl)) <;> (repeat' (first | (exact eqA) | (refine And.intro ?_ ?_) | ((fail_if_success (with_reducible (show _ = _))); (show _ = _)))) <;> rfl
theorem z8l (names : List Bs) (bks : List (List Lf)) (sides : List Bs) (B : List (List T)) (eB : B = bkE bks) (A C : List (List T)) (eA : A = strE names) (eC : C = strE sides) (hn : names.length ≤ 1000) (hb : bks.length ≤ 1000) (hbk : ∀ b ∈ bks, (b.length : Int) ≤ 100000000) (hs : sides.length ≤ 1000) : CT Tryz.prog 16 [] [.agg [.sl 1 A, .sl 1 B, .sl 1 C], .agg [.sl 1 (strE names), .sl 1 (bkE bks), .sl 1 (strE sides)]] (.bool true) [] := by
 subst eA eB eC
 have c0 := z4V names names (by omega) (by omega)
 rw [decide_eq_true rfl] at c0
 have c2 := z4V sides sides (by omega) (by omega)
 rw [decide_eq_true rfl] at c2
 have hbe := z4S bks
 have f0 : ((bks.length : Nat) : Int) = ((bks.length : Nat) : Int) := rfl
 have hbk2 : ∀ i (h : i < bks.length), (bks[i].length : Int) ≤ 100000000 := fun i h => hbk _ (List.getElem_mem h)
 refine z08 z26 1 rfl Tryz.func16 rfl rfl rfl ?_
 conv => arg 6; whnf
 repeat ((try conv => whnf); first | (with_reducible first | refine z0b (fun Qs hN hE hR => ?_) | refine z09 ?_ | refine z02 (fun Qb kN kE kX kR => ?_) | refine z04 ?_ | refine z05 ?_ | refine z0a ?_ | refine z06 ?_ | refine z07 ?_ | (show W _ _ _ (.cond _ _ _) _ _; refine z03 rfl ?_) | (refine hN _ ?_; try clear hN hE hR Qs; (try (conv => arg 6; dsimp only [ovl, List.set, List.map, ren0]))) | ((first | refine hE _ _ ?_ | refine hR _ ?_); try clear hN hE hR Qs) | ((first | refine kN _ ?_ | refine kE _ ?_ | refine kX _ _ rfl ?_ | refine kR _ ?_); try clear kN kE kX kR Qb)) | (refine ccA ([]) (c0) ?_) | (refine ccA ([]) (c2) ?_) | (refine Exists.intro bks.length (And.intro hbe ?_)) | (refine z2T f0 ?_) | (refine And.intro (by kernel_rfl) ?_) | (refine stpQ ?_))
 refine z1o Nat (fun i => ⟨[(2, .ptr 1 0 0), (3, .ptr 2 0 0), (5, .int .i64 (i : Int))], [(1, some (.box [.sl 1 (strE names), .sl 1 (bkE bks), .sl 1 (strE sides)])), (2, some (.box [.sl 1 (strE names), .sl 1 (bkE bks), .sl 1 (strE sides)]))], 3⟩) (fun i => i ≤ bks.length) (fun i => bks.length - i) 0 (Nat.zero_le _) ?_ ?_
 ·(refine z00 (by rfl) ?_ ?_)
  all_goals (repeat' (first | (exact trivial) | ((try conv => whnf); first | (exact trivial) | (refine And.intro ?_ ?_))))
  all_goals first
   | rfl
   | decide
 ·intro Q1 hQ1 i hi
  by_cases hlt : i < bks.length
  ·have f1 : (i : Int) < ((bks.length : Nat) : Int) := by omega
   have gi := z88 hlt
   have h1 := hbk2 i hlt
   have cS := z7h bks[i] bks[i] h1 h1
   rw [decide_eq_true rfl] at cS
   generalize lvE bks[i] = BB at *
   repeat ((try conv => whnf); first | (with_reducible first | refine z0b (fun Qs hN hE hR => ?_) | refine z09 ?_ | refine z02 (fun Qb kN kE kX kR => ?_) | refine z04 ?_ | refine z05 ?_ | refine z0a ?_ | refine z06 ?_ | refine z07 ?_ | (show W _ _ _ (.cond _ _ _) _ _; refine z03 rfl ?_) | (refine hN _ ?_; try clear hN hE hR Qs; (try (conv => arg 6; dsimp only [ovl, List.set, List.map, ren0]))) | ((first | refine hE _ _ ?_ | refine hR _ ?_); try clear hN hE hR Qs) | ((first | refine kN _ ?_ | refine kE _ ?_ | refine kX _ _ rfl ?_ | refine kR _ ?_); try clear kN kE kX kR Qb)) | (refine Exists.intro bks.length (And.intro hbe ?_)) | (refine z0i f1 ?_) | (refine i_at gi ?_) | (refine ccA ([]) (cS) ?_) | (refine And.intro (by kernel_rfl) ?_) | (refine stpQ ?_))
   refine ⟨i + 1, hlt, by omega, ?_⟩
   (refine z00 (by rfl) ?_ ?_) <;> (repeat' (first | (exact eqA) | (refine And.intro ?_ ?_) | ((fail_if_success (with_reducible (show _ = _))); (show _ = _)))) <;> rfl
  ·obtain rfl : i = bks.length := by omega
   have f1 : ¬ ((bks.length : Nat) : Int) < ((bks.length : Nat) : Int) := by omega
   repeat ((try conv => whnf); first | (with_reducible first | refine z0b (fun Qs hN hE hR => ?_) | refine z09 ?_ | refine z02 (fun Qb kN kE kX kR => ?_) | refine z04 ?_ | refine z05 ?_ | refine z0a ?_ | refine z06 ?_ | refine z07 ?_ | (show W _ _ _ (.cond _ _ _) _ _; refine z03 rfl ?_) | (refine hN _ ?_; try clear hN hE hR Qs; (try (conv => arg 6; dsimp only [ovl, List.set, List.map, ren0]))) | ((first | refine hE _ _ ?_ | refine hR _ ?_); try clear hN hE hR Qs) | ((first | refine kN _ ?_ | refine kE _ ?_ | refine kX _ _ rfl ?_ | refine kR _ ?_); try clear kN kE kX kR Qb)) | (refine Exists.intro bks.length (And.intro hbe ?_)) | (refine z0m f1 ?_) | (refine stpQ ?_))
   refine hQ1 _ _ ?_
   clear hQ1 Q1
   repeat ((try conv => whnf); first | (with_reducible first | refine z0b (fun Qs hN hE hR => ?_) | refine z09 ?_ | refine z02 (fun Qb kN kE kX kR => ?_) | refine z04 ?_ | refine z05 ?_ | refine z0a ?_ | refine z06 ?_ | refine z07 ?_ | (show W _ _ _ (.cond _ _ _) _ _; refine z03 rfl ?_) | (refine hN _ ?_; try clear hN hE hR Qs; (try (conv => arg 6; dsimp only [ovl, List.set, List.map, ren0]))) | ((first | refine hE _ _ ?_ | refine hR _ ?_); try clear hN hE hR Qs) | ((first | refine kN _ ?_ | refine kE _ ?_ | refine kX _ _ rfl ?_ | refine kR _ ?_); try clear kN kE kX kR Qb)) | (refine stpQ ?_))
   (refine z01 (by rfl) ?_ ?_ (by rfl)) <;> (repeat' (first | (exact eqA) | (refine And.intro ?_ ?_) | ((fail_if_success (with_reducible (show _ = _))); (show _ = _))))
end
end Go.Proofs.YtceegbenenakaaaGreatDoor
