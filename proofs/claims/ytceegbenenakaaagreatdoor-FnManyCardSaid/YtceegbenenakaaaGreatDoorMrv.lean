/- Functions by content: the program's root of a right proof of many. -/
import Derived.Test.YtceegbenenakaaaGreatDoorMrr
import Derived.Test.YtceegbenenakaaaGreatDoorPmr
namespace Go.Proofs.YtceegbenenakaaaGreatDoor
set_option maxRecDepth 100000
set_option maxHeartbeats 32000000
set_option linter.unusedVariables false
set_option linter.unusedSimpArgs false
set_option linter.unusedSectionVars false
open Go.RowKit Pl
theorem ndM (l : List Lf) (w d : Nat) (L : List Nat) {k : Nat} (h : k < L.length) : (strE (L.map (z0f l w d)))[k]? = some [.str (z0f l w d L[k])] := by simp [strE, List.getElem?_eq_getElem h]
theorem zbO (l : List Lf) (w d : Nat) (up : List Nat) (p : Nat) : strE ((up ++ [p]).map (z0f l w d)) = strE (up.map (z0f l w d)) ++ [[.str (z0f l w d p)]] := by simp [strE]
section
attribute [local irreducible] z0s z0x z0C AnsP LeP W CvE
theorem z6t (l : List Lf) (w : Nat) (h : leavesOk l = true) (hw : 1 ≤ w ∧ w ≤ 32) : CT Tryz.prog 39 [] [.sl 2 (lvE l), .int .i64 (w : Int)] (.str (cutB (z0q l) w)) [] := by
 have hs := z4R h
 have c0 := z1J l (by have := hs.1; omega) hs.fit
 rw [h] at c0
 have c1 := z2w l h
 have cT : CT Tryz.prog 90 [] [.sl 2 (lvE l)] (.tup [.str (z0q l), .bool true]) [] := by
  generalize z0q l = B at *
  refine z08 z7l 1 rfl Tryz.func90 rfl rfl rfl ?_
  conv => arg 6; whnf
  repeat ((try conv => whnf); first | (with_reducible first | refine z0b (fun Qs hN hE hR => ?_) | refine z09 ?_ | refine z02 (fun Qb kN kE kX kR => ?_) | refine z04 ?_ | refine z05 ?_ | refine z0a ?_ | refine z06 ?_ | refine z07 ?_ | (show W _ _ _ (.cond _ _ _) _ _; refine z03 rfl ?_) | (refine hN _ ?_; try clear hN hE hR Qs; (try (conv => arg 6; dsimp only [ovl, List.set, List.map, ren0]))) | ((first | refine hE _ _ ?_ | refine hR _ ?_); try clear hN hE hR Qs) | ((first | refine kN _ ?_ | refine kE _ ?_ | refine kX _ _ rfl ?_ | refine kR _ ?_); try clear kN kE kX kR Qb)) | (refine ccA ([]) (c0) ?_) | (refine ccA ([]) (c1) ?_) | (refine And.intro (by kernel_rfl) ?_) | (refine stpQ ?_))
  (refine z01 (by rfl) ?_ ?_ (by rfl)) <;> (repeat' (first | (exact eqA) | (refine And.intro ?_ ?_) | ((fail_if_success (with_reducible (show _ = _))); (show _ = _))))
 have hb := z2i h
 have hcl : (cutB (z0q l) w).length ≤ 32 := by have := z18 (z0q l); simp [cutB]; omega
 have cC := z9k (z0q l) w (by omega) hw
 clear hcl hb c0 c1 hs h
 generalize cutB (z0q l) w = C at *
 generalize z0q l = B at *
 refine z08 z7l 1 rfl Tryz.func39 rfl rfl rfl ?_
 conv => arg 6; whnf
 repeat ((try conv => whnf); first | (with_reducible first | refine z0b (fun Qs hN hE hR => ?_) | refine z09 ?_ | refine z02 (fun Qb kN kE kX kR => ?_) | refine z04 ?_ | refine z05 ?_ | refine z0a ?_ | refine z06 ?_ | refine z07 ?_ | (show W _ _ _ (.cond _ _ _) _ _; refine z03 rfl ?_) | (refine hN _ ?_; try clear hN hE hR Qs; (try (conv => arg 6; dsimp only [ovl, List.set, List.map, ren0]))) | ((first | refine hE _ _ ?_ | refine hR _ ?_); try clear hN hE hR Qs) | ((first | refine kN _ ?_ | refine kE _ ?_ | refine kX _ _ rfl ?_ | refine kR _ ?_); try clear kN kE kX kR Qb)) | (refine ccA ([]) (cT) ?_) | (refine ccA ([]) (cC) ?_) | (refine And.intro (by kernel_rfl) ?_) | (refine stpQ ?_))
 (refine z01 (by rfl) ?_ ?_ (by rfl)) <;> (repeat' (first | (exact eqA) | (refine And.intro ?_ ?_) | ((fail_if_success (with_reducible (show _ = _))); (show _ = _))))
theorem z6u (a b : Bs) (w : Nat) (ha : a.length ≤ 32) (hb : b.length ≤ 32) (hw : 1 ≤ w ∧ w ≤ 32) : CT Tryz.prog 40 [] [.int .i64 3, .int .i64 (w : Int), .sl 1 [[.str a], [.str b]]] (.str (z1H 3 [a, b] w)) [] :=
 z3k 3 [a, b] w (by omega) (za2 ha hb) hw
theorem z8j (l : List Lf) (names : List Bs) (wn : Nat) (h : leavesOk l = true) (hnm : z1v names = true) (hwi : 1 ≤ wn ∧ wn ≤ 32) : CT Tryz.prog 10 [] [.agg [.sl 1 (strE names), .sl 1 (bkE (mnB l names)), .sl 1 (strE (mnS l names wn))], .int .i64 (wn : Int)] (.tup [.str (z0f l wn 8 0), .bool true]) [] := by
 have hm := z3I h hnm hwi
 obtain ⟨n1, n8, nm, b8, bl, w0, sw, s64⟩ := z29 hm
 have hl : ∀ s ∈ names, (s.length : Int) ≤ 100000000 := fun s hs => by have := nm s hs; omega
 have cX := z2g names (by omega) hl
 rw [z9i] at cX
 have cN := z4T names (by omega) hl
 rw [hnm] at cN
 have cW := z3j (wn : Int)
 rw [z1g.2 (show (1 : Int) ≤ (wn : Int) ∧ (wn : Int) ≤ 32 by omega)] at cW
 have cA := z4P (mnS l names wn) ((mnS l names wn).length : Int) (wn : Int) (by omega)
 rw [decide_eq_true rfl, Bool.and_true, List.all_eq_true.2 (fun x hx => decide_eq_true (sw x hx))] at cA
 have hK := z2W names
 have hKl := z83 names
 have hKn := z2D names
 have hKne := zbv (names := names) (fun c => by rw [c] at hnm; exact absurd hnm (by decide))
 have hbl := z4X l names
 have hgb : ∀ i (hi : i < (ixsN names).length), (bkE (mnB l names))[i]? = some [.sl 2 (lvE (z0h l ((ixsN names)[i] : Int)))] := fun i hi => by simp [bkE, mnB, List.getElem?_eq_getElem hi]
 have hsE : mnS l names wn = sdA l wn 8 0 (ixsN names) := rfl
 generalize mnB l names = bks at *
 generalize mnS l names wn = sides at *
 generalize ixsN names = K at *
 have hKe := z1C K
 have hbe := z4S bks
 have hse := z0g sides
 have f1 : (bks.length : Int) = (K.length : Int) := by omega
 clear hm bl sw hl nm
 refine z08 z26 1 rfl Tryz.func10 rfl rfl rfl ?_
 conv => arg 6; whnf
 repeat ((try conv => whnf); first | (with_reducible first | refine z0b (fun Qs hN hE hR => ?_) | refine z09 ?_ | refine z02 (fun Qb kN kE kX kR => ?_) | refine z04 ?_ | refine z05 ?_ | refine z0a ?_ | refine z06 ?_ | refine z07 ?_ | (show W _ _ _ (.cond _ _ _) _ _; refine z03 rfl ?_) | (refine hN _ ?_; try clear hN hE hR Qs; (try (conv => arg 6; dsimp only [ovl, List.set, List.map, ren0]))) | ((first | refine hE _ _ ?_ | refine hR _ ?_); try clear hN hE hR Qs) | ((first | refine kN _ ?_ | refine kE _ ?_ | refine kX _ _ rfl ?_ | refine kR _ ?_); try clear kN kE kX kR Qb)) | (refine ccA ([]) (cX) ?_) | (refine ccA ([]) (cN) ?_) | (refine Exists.intro bks.length (And.intro hbe ?_)) | (refine Exists.intro K.length (And.intro hKe ?_)) | (refine Exists.intro sides.length (And.intro hse ?_)) | (refine z2T f1 ?_) | (refine ccA ([]) (cW) ?_) | (refine ccA ([]) (cA) ?_) | (refine And.intro (by kernel_rfl) ?_) | (refine stpQ ?_))
 refine z1o Nat (fun i => ⟨[(1, .int .i64 (wn : Int)), (2, .ptr 1 0 0), (6, .sl 1 (npE K)), (7, .ref 2), (47, .sl 1 (bkE bks)), (48, .int .i64 ((bks.length : Nat) : Int)), (49, .int .i64 (i : Int))], [(1, some (.box [.sl 1 (strE names), .sl 1 (bkE bks), .sl 1 (strE sides)])), (2, some (.row 1 (strE ((K.take i).map (z0f l wn 0)))))], 3⟩) (fun i => i ≤ bks.length) (fun i => bks.length - i) 0 (Nat.zero_le _) ?_ ?_
 ·(refine z00 (by rfl) ?_ ?_)
  all_goals (repeat' (first | (exact trivial) | ((try conv => whnf); first | (exact trivial) | (refine And.intro ?_ ?_))))
  all_goals first
   | rfl
   | decide
 ·intro Q1 hQ1 i hi
  have he1 := z0g ((K.take i).map (z0f l wn 0))
  rw [List.length_map, List.length_take] at he1
  by_cases hlt : i < bks.length
  ·have f2 : (i : Int) < ((bks.length : Nat) : Int) := by omega
   have hik : i < K.length := by omega
   have gb := hgb i hik
   have gk := z0O hik
   have hok : leavesOk (z0h l (K[i] : Int)) = true := wh.bucket_ok h
   have hsm := z4R hok
   have cO := z1J (z0h l (K[i] : Int)) (by have := hsm.1; omega) hsm.fit
   rw [hok] at cO
   have cB := z3B (z0h l (K[i] : Int)) ((K[i] : Nat) : Int) (by have := hsm.1; omega) (fun k => by have := (hsm.2 k).1; omega)
   rw [z3S] at cB
   have cH := z6t (z0h l (K[i] : Int)) wn hok hwi
   have hnx : strE ((K.take (i + 1)).map (z0f l wn 0)) = strE ((K.take i).map (z0f l wn 0)) ++ [[.str (cutB (z0q (z0h l (K[i] : Int))) wn)]] := by
    rw [List.take_succ_eq_append_getElem hik, zbO, wh.bucket_at]
    rfl
   have f3 : (((lvE (z0h l (K[i] : Int))).length : Nat) : Int) = (((lvE (z0h l (K[i] : Int))).length : Nat) : Int) := rfl
   clear hgb hsE hsm hok
   generalize strE ((K.take i).map (z0f l wn 0)) = HS at *
   generalize cutB (z0q (z0h l (K[i] : Int))) wn = u at *
   generalize lvE (z0h l (K[i] : Int)) = BB at *
   generalize K[i] = p at *
   repeat ((try conv => whnf); first | (with_reducible first | refine z0b (fun Qs hN hE hR => ?_) | refine z09 ?_ | refine z02 (fun Qb kN kE kX kR => ?_) | refine z04 ?_ | refine z05 ?_ | refine z0a ?_ | refine z06 ?_ | refine z07 ?_ | (show W _ _ _ (.cond _ _ _) _ _; refine z03 rfl ?_) | (refine hN _ ?_; try clear hN hE hR Qs; (try (conv => arg 6; dsimp only [ovl, List.set, List.map, ren0]))) | ((first | refine hE _ _ ?_ | refine hR _ ?_); try clear hN hE hR Qs) | ((first | refine kN _ ?_ | refine kE _ ?_ | refine kX _ _ rfl ?_ | refine kR _ ?_); try clear kN kE kX kR Qb)) | (refine z0i f2 ?_) | (refine i_at gb ?_) | (refine ccA ([]) (cO) ?_) | (refine i_at gk ?_) | (refine ccA ([]) (cB) ?_) | (refine z2T f3 ?_) | (refine ccA ([]) (cH) ?_) | (refine And.intro (by simp only [List.length_append, List.length_set, List.length_replicate, List.length_cons, List.length_nil]; omega) ?_) | (refine And.intro (by kernel_rfl) ?_) | (refine stpQ ?_))
   refine ⟨i + 1, hlt, by omega, ?_⟩
   rw [hnx]
   (refine z00 (by rfl) ?_ ?_) <;> (repeat' (first | (exact eqA) | (refine And.intro ?_ ?_) | ((fail_if_success (with_reducible (show _ = _))); (show _ = _)))) <;> rfl
  ·have hie : i = bks.length := by omega
   subst hie
   have f2 : ¬ ((bks.length : Nat) : Int) < ((bks.length : Nat) : Int) := by omega
   have hKt : K.take bks.length = K := by rw [List.take_of_length_le (by omega)]
   clear hgb
   repeat ((try conv => whnf); first | (with_reducible first | refine z0b (fun Qs hN hE hR => ?_) | refine z09 ?_ | refine z02 (fun Qb kN kE kX kR => ?_) | refine z04 ?_ | refine z05 ?_ | refine z0a ?_ | refine z06 ?_ | refine z07 ?_ | (show W _ _ _ (.cond _ _ _) _ _; refine z03 rfl ?_) | (refine hN _ ?_; try clear hN hE hR Qs; (try (conv => arg 6; dsimp only [ovl, List.set, List.map, ren0]))) | ((first | refine hE _ _ ?_ | refine hR _ ?_); try clear hN hE hR Qs) | ((first | refine kN _ ?_ | refine kE _ ?_ | refine kX _ _ rfl ?_ | refine kR _ ?_); try clear kN kE kX kR Qb)) | (refine z0m f2 ?_) | (refine stpQ ?_))
   refine hQ1 _ _ ?_
   clear hQ1 Q1
   repeat ((try conv => whnf); first | (with_reducible first | refine z0b (fun Qs hN hE hR => ?_) | refine z09 ?_ | refine z02 (fun Qb kN kE kX kR => ?_) | refine z04 ?_ | refine z05 ?_ | refine z0a ?_ | refine z06 ?_ | refine z07 ?_ | (show W _ _ _ (.cond _ _ _) _ _; refine z03 rfl ?_) | (refine hN _ ?_; try clear hN hE hR Qs; (try (conv => arg 6; dsimp only [ovl, List.set, List.map, ren0]))) | ((first | refine hE _ _ ?_ | refine hR _ ?_); try clear hN hE hR Qs) | ((first | refine kN _ ?_ | refine kE _ ?_ | refine kX _ _ rfl ?_ | refine kR _ ?_); try clear kN kE kX kR Qb)) | (refine And.intro (by kernel_rfl) ?_) | (refine stpQ ?_))
   refine z1o (Nat × List Nat) (fun x => ⟨[(1, .int .i64 (wn : Int)), (6, .sl 1 (npE x.2)), (7, .sl 1 (strE (x.2.map (z0f l wn x.1)))), (10, .sl 1 (strE (sdA l wn (8 - x.1) x.1 x.2))), (78, .int .i64 (x.1 : Int))], [], 1⟩) (fun x => x.1 ≤ 8 ∧ Ups x.2 ∧ (∀ p ∈ x.2, p < 2 ^ (8 - x.1)) ∧ x.2 ≠ [] ∧ x.2.length ≤ 1000) (fun x => 8 - x.1) (0, K) ⟨Nat.zero_le _, hK, hKl, hKne, by show K.length ≤ 1000; omega⟩ ?_ ?_
   ·(try dsimp only)
    rw [hKt, show 8 - 0 = 8 from rfl, ← hsE]
    (refine z00 (by rfl) ?_ ?_)
    all_goals (repeat' (first | (exact trivial) | ((try conv => whnf); first | (exact trivial) | (refine And.intro ?_ ?_))))
    all_goals first
     | rfl
     | decide
   ·clear hK hKl hKne hKe he1 cX cN cW cA hKt hsE
    intro Q2 hQ2 x hx
    obtain ⟨lv, L⟩ := x
    obtain ⟨hlv, hL, hL2, hLne, hLm⟩ := hx
    dsimp only at hlv hL hL2 hLne hLm ⊢
    have hLl := z1C L
    have hhe : (strE (L.map (z0f l wn lv))).length = L.length := by rw [z0g, List.length_map]
    have hnl : ∀ d p, (z0f l wn d p).length = wn := fun d p => z1T hwi.2 d p
    have hp256 : ∀ p ∈ L, p < 256 := fun p hp => by
     have h1 := hL2 p hp
     have h2 : 2 ^ (8 - lv) ≤ 2 ^ 8 := Nat.pow_le_pow_right (by omega) (by omega)
     omega
    by_cases hlt8 : lv < 8
    ·have f4 : (lv : Int) < 8 := by omega
     obtain ⟨m, hm⟩ : ∃ m, 8 - lv = m + 1 := ⟨8 - (lv + 1), by omega⟩
     have hm2 : 8 - (lv + 1) = m := by omega
     rw [hm] at hL2 ⊢
     rw [sdA]
     obtain ⟨rest, hrest⟩ : ∃ rest, rest = sdA l wn m (lv + 1) (lvUp L) := ⟨_, rfl⟩
     rw [← hrest]
     have hrw : ∀ s ∈ rest, s.length ≤ 32 := fun s hs => by rw [hrest] at hs; have := z6r hwi.2 _ _ _ s hs; omega
     repeat ((try conv => whnf); first | (with_reducible first | refine z0b (fun Qs hN hE hR => ?_) | refine z09 ?_ | refine z02 (fun Qb kN kE kX kR => ?_) | refine z04 ?_ | refine z05 ?_ | refine z0a ?_ | refine z06 ?_ | refine z07 ?_ | (show W _ _ _ (.cond _ _ _) _ _; refine z03 rfl ?_) | (refine hN _ ?_; try clear hN hE hR Qs; (try (conv => arg 6; dsimp only [ovl, List.set, List.map, ren0]))) | ((first | refine hE _ _ ?_ | refine hR _ ?_); try clear hN hE hR Qs) | ((first | refine kN _ ?_ | refine kE _ ?_ | refine kX _ _ rfl ?_ | refine kR _ ?_); try clear kN kE kX kR Qb)) | (refine z0i f4 ?_) | (refine And.intro (by kernel_rfl) ?_) | (refine stpQ ?_))
     refine z1o (Nat × List Nat) (fun x => ⟨[(1, .int .i64 (wn : Int)), (6, .sl 1 (npE L)), (7, .sl 1 (strE (L.map (z0f l wn lv)))), (10, .sl 1 (strE (sdL l wn lv (L.drop x.1) ++ rest))), (11, .ref 1), (12, .ref 2), (13, .int .i64 (x.1 : Int)), (78, .int .i64 (lv : Int))], [(1, some (.row 1 (npE x.2))), (2, some (.row 1 (strE (x.2.map (z0f l wn (lv + 1))))))], 3⟩) (fun x => x.1 ≤ L.length ∧ lvUp L = x.2 ++ lvUp (L.drop x.1) ∧ x.2.length ≤ x.1) (fun x => L.length - x.1) (0, []) ⟨Nat.zero_le _, rfl, Nat.le_refl _⟩ ?_ ?_
     ·(refine z00 (by rfl) ?_ ?_)
      all_goals (repeat' (first | (exact trivial) | ((try conv => whnf); first | (exact trivial) | (refine And.intro ?_ ?_))))
      all_goals first
       | rfl
       | decide
     ·intro Q3 hQ3 x hx
      obtain ⟨k, up⟩ := x
      obtain ⟨hk, hup, hul⟩ := hx
      dsimp only at hk hup hul ⊢
      have hupe := z1C up
      have hnxe : (strE (up.map (z0f l wn (lv + 1)))).length = up.length := by rw [z0g, List.length_map]
      by_cases hkl : k < L.length
      ·have f5 : (k : Int) < ((L.length : Nat) : Int) := by omega
       have gp := z0O hkl
       have gh := ndM l wn lv L hkl
       have hpl := hp256 _ (List.getElem_mem hkl)
       have ex := ze2 hpl
       have hap1 := z4K up (L[k] / 2)
       have hap2 := zbO l wn (lv + 1) up (L[k] / 2)
       have z1 := hnl lv L[k]
       by_cases hpair : ∃ h2 : k + 1 < L.length, L[k] % 2 = 0 ∧ L[k + 1] = L[k] + 1
       ·obtain ⟨h2, h3, h4⟩ := hpair
        obtain ⟨lu, ln⟩ := z82 h2 h3 h4
        have fk1 : ((k + 1 : Nat) : Int) < ((L.length : Nat) : Int) := by omega
        have gq := z0O h2
        have gh2 := ndM l wn lv L h2
        have fe1 : ((L[k + 1] : Nat) : Int) = ((x1 L[k] : Nat) : Int) := by rw [h4, x1, if_pos h3]
        have fpe : ((L[k] % 2 : Nat) : Int) = 0 := by omega
        have z2 := hnl lv L[k + 1]
        have cH := z6u (z0f l wn lv L[k]) (z0f l wn lv L[k + 1]) wn (by omega) (by omega) hwi
        have eu := zbM (l := l) (w := wn) (d := lv) (p := L[k]) h3
        rw [show x1 L[k] = L[k + 1] by rw [h4, x1, if_pos h3]] at eu
        rw [eu] at cH
        have inv2 : lvUp L = (up ++ [L[k] / 2]) ++ lvUp (L.drop (k + 2)) := by rw [hup, lu]; simp
        have eS : sdL l wn lv (L.drop k) = sdL l wn lv (L.drop (k + 2)) := z9r h2 h3 h4
        rw [eS]
        clear hup lu ln h3 hp256 hL2 hL hnl eu eS hrest
        generalize hS2 : sdL l wn lv (L.drop (k + 2)) ++ rest = S2 at *
        generalize x1 L[k] = xp at *
        generalize z0f l wn (lv + 1) (L[k] / 2) = u at *
        generalize z0f l wn lv L[k + 1] = hb2 at *
        generalize z0f l wn lv L[k] = hb1 at *
        generalize L[k + 1] = q at *
        generalize L[k] = p at *
        generalize strE (List.map (z0f l wn lv) L) = HH at *
        generalize strE (List.map (z0f l wn (lv + 1)) up) = NX at *
        repeat ((try conv => whnf); first | (with_reducible first | refine z0b (fun Qs hN hE hR => ?_) | refine z09 ?_ | refine z02 (fun Qb kN kE kX kR => ?_) | refine z04 ?_ | refine z05 ?_ | refine z0a ?_ | refine z06 ?_ | refine z07 ?_ | (show W _ _ _ (.cond _ _ _) _ _; refine z03 rfl ?_) | (refine hN _ ?_; try clear hN hE hR Qs; (try (conv => arg 6; dsimp only [ovl, List.set, List.map, ren0]))) | ((first | refine hE _ _ ?_ | refine hR _ ?_); try clear hN hE hR Qs) | ((first | refine kN _ ?_ | refine kE _ ?_ | refine kX _ _ rfl ?_ | refine kR _ ?_); try clear kN kE kX kR Qb)) | (refine z0i f5 ?_) | (refine z0i fk1 ?_) | (refine z0m fkn ?_) | (refine z0i fe1 ?_) | (refine z0m fen ?_) | (refine z0i fpe ?_) | (refine z0m fpo ?_) | (refine z0m fs1 ?_) | (refine Exists.intro _ (And.intro ex.symm ?_)) | (refine i_at gp ?_) | (refine i_at gh ?_) | (refine i_at gq ?_) | (refine i_at gh2 ?_) | (refine z3n gs ?_) | (refine z3X i1 ?_) | (refine Exists.intro L.length (And.intro hLl ?_)) | (refine z1u (n := nat_lit 2) ?_) | (refine z1c (n := nat_lit 2) (by omega) ?_) | (refine ccA ([]) (cH) ?_) | (refine And.intro (by simp only [List.length_append, List.length_set, List.length_replicate, List.length_cons, List.length_nil]; omega) ?_) | (refine And.intro (by kernel_rfl) ?_) | (refine stpQ ?_))
        refine ⟨(k + 2, up ++ [p / 2]), ⟨by show k + 2 ≤ L.length; omega, inv2, by simp; omega⟩, (by show L.length - (k + 2) < L.length - k; omega), ?_⟩
        (try dsimp only)
        rw [hap1, hap2, hS2]
        (refine z00 (by rfl) ?_ ?_) <;> (repeat' (first | (exact eqA) | (refine And.intro ?_ ?_) | ((fail_if_success (with_reducible (show _ = _))); (show _ = _)))) <;> rfl
       ·obtain ⟨lu, ln⟩ := zbn hkl (fun h2 c => hpair ⟨h2, c⟩)
        have eS : sdL l wn lv (L.drop k) ++ rest = z0f l wn lv (x1 L[k]) :: (sdL l wn lv (L.drop (k + 1)) ++ rest) := by
         rw [zbL hkl (fun h2 c => hpair ⟨h2, c⟩)]; rfl
        rw [eS]
        clear eS
        have z2 := hnl lv (x1 L[k])
        have inv2 : lvUp L = (up ++ [L[k] / 2]) ++ lvUp (L.drop (k + 1)) := by rw [hup, lu]; simp
        by_cases hev : L[k] % 2 = 0
        ·have fpe : ((L[k] % 2 : Nat) : Int) = 0 := by omega
         have cH := z6u (z0f l wn lv L[k]) (z0f l wn lv (x1 L[k])) wn (by omega) (by omega) hwi
         rw [zbM hev] at cH
         by_cases h2 : k + 1 < L.length
         ·have fk1 : ((k + 1 : Nat) : Int) < ((L.length : Nat) : Int) := by omega
          have gq := z0O h2
          have hlt2 := z2h hL h2
          have fen : ¬ ((L[k + 1] : Nat) : Int) = ((x1 L[k] : Nat) : Int) := fun c => hpair ⟨h2, by
           unfold x1 at c
           split at c <;> omega⟩
          clear hpair hp256 hL2 hL hup lu ln hev hnl hrest
          generalize hS2 : sdL l wn lv (L.drop (k + 1)) ++ rest = S2 at *
          generalize z0f l wn (lv + 1) (L[k] / 2) = u at *
          generalize z0f l wn lv (x1 L[k]) = sv at *
          generalize z0f l wn lv L[k] = hb1 at *
          generalize x1 L[k] = xp at *
          generalize L[k + 1] = q at *
          generalize L[k] = p at *
          generalize strE (List.map (z0f l wn lv) L) = HH at *
          generalize strE (List.map (z0f l wn (lv + 1)) up) = NX at *
          have fs1 : ¬ (((strE (sv :: S2)).length : Nat) : Int) = 0 := by rw [z0g, List.length_cons]; omega
          have gs : (strE (sv :: S2))[0]? = some [.str sv] := rfl
          have i1 : 1 ≤ (strE (sv :: S2)).length := by rw [z0g, List.length_cons]; omega
          repeat ((try conv => whnf); first | (with_reducible first | refine z0b (fun Qs hN hE hR => ?_) | refine z09 ?_ | refine z02 (fun Qb kN kE kX kR => ?_) | refine z04 ?_ | refine z05 ?_ | refine z0a ?_ | refine z06 ?_ | refine z07 ?_ | (show W _ _ _ (.cond _ _ _) _ _; refine z03 rfl ?_) | (refine hN _ ?_; try clear hN hE hR Qs; (try (conv => arg 6; dsimp only [ovl, List.set, List.map, ren0]))) | ((first | refine hE _ _ ?_ | refine hR _ ?_); try clear hN hE hR Qs) | ((first | refine kN _ ?_ | refine kE _ ?_ | refine kX _ _ rfl ?_ | refine kR _ ?_); try clear kN kE kX kR Qb)) | (refine z0i f5 ?_) | (refine z0i fk1 ?_) | (refine z0m fkn ?_) | (refine z0i fe1 ?_) | (refine z0m fen ?_) | (refine z0i fpe ?_) | (refine z0m fpo ?_) | (refine z0m fs1 ?_) | (refine Exists.intro _ (And.intro ex.symm ?_)) | (refine i_at gp ?_) | (refine i_at gh ?_) | (refine i_at gq ?_) | (refine i_at gh2 ?_) | (refine z3n gs ?_) | (refine z3X i1 ?_) | (refine Exists.intro L.length (And.intro hLl ?_)) | (refine z1u (n := nat_lit 2) ?_) | (refine z1c (n := nat_lit 2) (by omega) ?_) | (refine ccA ([]) (cH) ?_) | (refine And.intro (by simp only [List.length_append, List.length_set, List.length_replicate, List.length_cons, List.length_nil]; omega) ?_) | (refine And.intro (by kernel_rfl) ?_) | (refine stpQ ?_))
          refine ⟨(k + 1, up ++ [p / 2]), ⟨by show k + 1 ≤ L.length; omega, inv2, by simp; omega⟩, (by show L.length - (k + 1) < L.length - k; omega), ?_⟩
          (try dsimp only)
          rw [hap1, hap2, hS2]
          (refine z00 (by rfl) ?_ ?_) <;> (repeat' (first | (exact eqA) | (refine And.intro ?_ ?_) | ((fail_if_success (with_reducible (show _ = _))); (show _ = _)))) <;> rfl
         ·have fkn : ¬ ((k + 1 : Nat) : Int) < ((L.length : Nat) : Int) := by omega
          clear hpair hp256 hL2 hL hup lu ln hev hnl hrest
          generalize hS2 : sdL l wn lv (L.drop (k + 1)) ++ rest = S2 at *
          generalize z0f l wn (lv + 1) (L[k] / 2) = u at *
          generalize z0f l wn lv (x1 L[k]) = sv at *
          generalize z0f l wn lv L[k] = hb1 at *
          generalize x1 L[k] = xp at *
          generalize L[k] = p at *
          generalize strE (List.map (z0f l wn lv) L) = HH at *
          generalize strE (List.map (z0f l wn (lv + 1)) up) = NX at *
          have fs1 : ¬ (((strE (sv :: S2)).length : Nat) : Int) = 0 := by rw [z0g, List.length_cons]; omega
          have gs : (strE (sv :: S2))[0]? = some [.str sv] := rfl
          have i1 : 1 ≤ (strE (sv :: S2)).length := by rw [z0g, List.length_cons]; omega
          repeat ((try conv => whnf); first | (with_reducible first | refine z0b (fun Qs hN hE hR => ?_) | refine z09 ?_ | refine z02 (fun Qb kN kE kX kR => ?_) | refine z04 ?_ | refine z05 ?_ | refine z0a ?_ | refine z06 ?_ | refine z07 ?_ | (show W _ _ _ (.cond _ _ _) _ _; refine z03 rfl ?_) | (refine hN _ ?_; try clear hN hE hR Qs; (try (conv => arg 6; dsimp only [ovl, List.set, List.map, ren0]))) | ((first | refine hE _ _ ?_ | refine hR _ ?_); try clear hN hE hR Qs) | ((first | refine kN _ ?_ | refine kE _ ?_ | refine kX _ _ rfl ?_ | refine kR _ ?_); try clear kN kE kX kR Qb)) | (refine z0i f5 ?_) | (refine z0i fk1 ?_) | (refine z0m fkn ?_) | (refine z0i fe1 ?_) | (refine z0m fen ?_) | (refine z0i fpe ?_) | (refine z0m fpo ?_) | (refine z0m fs1 ?_) | (refine Exists.intro _ (And.intro ex.symm ?_)) | (refine i_at gp ?_) | (refine i_at gh ?_) | (refine i_at gq ?_) | (refine i_at gh2 ?_) | (refine z3n gs ?_) | (refine z3X i1 ?_) | (refine Exists.intro L.length (And.intro hLl ?_)) | (refine z1u (n := nat_lit 2) ?_) | (refine z1c (n := nat_lit 2) (by omega) ?_) | (refine ccA ([]) (cH) ?_) | (refine And.intro (by simp only [List.length_append, List.length_set, List.length_replicate, List.length_cons, List.length_nil]; omega) ?_) | (refine And.intro (by kernel_rfl) ?_) | (refine stpQ ?_))
          refine ⟨(k + 1, up ++ [p / 2]), ⟨by show k + 1 ≤ L.length; omega, inv2, by simp; omega⟩, (by show L.length - (k + 1) < L.length - k; omega), ?_⟩
          (try dsimp only)
          rw [hap1, hap2, hS2]
          (refine z00 (by rfl) ?_ ?_) <;> (repeat' (first | (exact eqA) | (refine And.intro ?_ ?_) | ((fail_if_success (with_reducible (show _ = _))); (show _ = _)))) <;> rfl
        ·have fpo : ¬ ((L[k] % 2 : Nat) : Int) = 0 := by omega
         have cH := z6u (z0f l wn lv (x1 L[k])) (z0f l wn lv L[k]) wn (by omega) (by omega) hwi
         rw [up_odd hev] at cH
         by_cases h2 : k + 1 < L.length
         ·have fk1 : ((k + 1 : Nat) : Int) < ((L.length : Nat) : Int) := by omega
          have gq := z0O h2
          have hlt2 := z2h hL h2
          have fen : ¬ ((L[k + 1] : Nat) : Int) = ((x1 L[k] : Nat) : Int) := fun c => hpair ⟨h2, by
           unfold x1 at c
           split at c <;> omega⟩
          clear hpair hp256 hL2 hL hup lu ln hev hnl hrest
          generalize hS2 : sdL l wn lv (L.drop (k + 1)) ++ rest = S2 at *
          generalize z0f l wn (lv + 1) (L[k] / 2) = u at *
          generalize z0f l wn lv (x1 L[k]) = sv at *
          generalize z0f l wn lv L[k] = hb1 at *
          generalize x1 L[k] = xp at *
          generalize L[k + 1] = q at *
          generalize L[k] = p at *
          generalize strE (List.map (z0f l wn lv) L) = HH at *
          generalize strE (List.map (z0f l wn (lv + 1)) up) = NX at *
          have fs1 : ¬ (((strE (sv :: S2)).length : Nat) : Int) = 0 := by rw [z0g, List.length_cons]; omega
          have gs : (strE (sv :: S2))[0]? = some [.str sv] := rfl
          have i1 : 1 ≤ (strE (sv :: S2)).length := by rw [z0g, List.length_cons]; omega
          repeat ((try conv => whnf); first | (with_reducible first | refine z0b (fun Qs hN hE hR => ?_) | refine z09 ?_ | refine z02 (fun Qb kN kE kX kR => ?_) | refine z04 ?_ | refine z05 ?_ | refine z0a ?_ | refine z06 ?_ | refine z07 ?_ | (show W _ _ _ (.cond _ _ _) _ _; refine z03 rfl ?_) | (refine hN _ ?_; try clear hN hE hR Qs; (try (conv => arg 6; dsimp only [ovl, List.set, List.map, ren0]))) | ((first | refine hE _ _ ?_ | refine hR _ ?_); try clear hN hE hR Qs) | ((first | refine kN _ ?_ | refine kE _ ?_ | refine kX _ _ rfl ?_ | refine kR _ ?_); try clear kN kE kX kR Qb)) | (refine z0i f5 ?_) | (refine z0i fk1 ?_) | (refine z0m fkn ?_) | (refine z0i fe1 ?_) | (refine z0m fen ?_) | (refine z0i fpe ?_) | (refine z0m fpo ?_) | (refine z0m fs1 ?_) | (refine Exists.intro _ (And.intro ex.symm ?_)) | (refine i_at gp ?_) | (refine i_at gh ?_) | (refine i_at gq ?_) | (refine i_at gh2 ?_) | (refine z3n gs ?_) | (refine z3X i1 ?_) | (refine Exists.intro L.length (And.intro hLl ?_)) | (refine z1u (n := nat_lit 2) ?_) | (refine z1c (n := nat_lit 2) (by omega) ?_) | (refine ccA ([]) (cH) ?_) | (refine And.intro (by simp only [List.length_append, List.length_set, List.length_replicate, List.length_cons, List.length_nil]; omega) ?_) | (refine And.intro (by kernel_rfl) ?_) | (refine stpQ ?_))
          refine ⟨(k + 1, up ++ [p / 2]), ⟨by show k + 1 ≤ L.length; omega, inv2, by simp; omega⟩, (by show L.length - (k + 1) < L.length - k; omega), ?_⟩
          (try dsimp only)
          rw [hap1, hap2, hS2]
          (refine z00 (by rfl) ?_ ?_) <;> (repeat' (first | (exact eqA) | (refine And.intro ?_ ?_) | ((fail_if_success (with_reducible (show _ = _))); (show _ = _)))) <;> rfl
         ·have fkn : ¬ ((k + 1 : Nat) : Int) < ((L.length : Nat) : Int) := by omega
          clear hpair hp256 hL2 hL hup lu ln hev hnl hrest
          generalize hS2 : sdL l wn lv (L.drop (k + 1)) ++ rest = S2 at *
          generalize z0f l wn (lv + 1) (L[k] / 2) = u at *
          generalize z0f l wn lv (x1 L[k]) = sv at *
          generalize z0f l wn lv L[k] = hb1 at *
          generalize x1 L[k] = xp at *
          generalize L[k] = p at *
          generalize strE (List.map (z0f l wn lv) L) = HH at *
          generalize strE (List.map (z0f l wn (lv + 1)) up) = NX at *
          have fs1 : ¬ (((strE (sv :: S2)).length : Nat) : Int) = 0 := by rw [z0g, List.length_cons]; omega
          have gs : (strE (sv :: S2))[0]? = some [.str sv] := rfl
          have i1 : 1 ≤ (strE (sv :: S2)).length := by rw [z0g, List.length_cons]; omega
          repeat ((try conv => whnf); first | (with_reducible first | refine z0b (fun Qs hN hE hR => ?_) | refine z09 ?_ | refine z02 (fun Qb kN kE kX kR => ?_) | refine z04 ?_ | refine z05 ?_ | refine z0a ?_ | refine z06 ?_ | refine z07 ?_ | (show W _ _ _ (.cond _ _ _) _ _; refine z03 rfl ?_) | (refine hN _ ?_; try clear hN hE hR Qs; (try (conv => arg 6; dsimp only [ovl, List.set, List.map, ren0]))) | ((first | refine hE _ _ ?_ | refine hR _ ?_); try clear hN hE hR Qs) | ((first | refine kN _ ?_ | refine kE _ ?_ | refine kX _ _ rfl ?_ | refine kR _ ?_); try clear kN kE kX kR Qb)) | (refine z0i f5 ?_) | (refine z0i fk1 ?_) | (refine z0m fkn ?_) | (refine z0i fe1 ?_) | (refine z0m fen ?_) | (refine z0i fpe ?_) | (refine z0m fpo ?_) | (refine z0m fs1 ?_) | (refine Exists.intro _ (And.intro ex.symm ?_)) | (refine i_at gp ?_) | (refine i_at gh ?_) | (refine i_at gq ?_) | (refine i_at gh2 ?_) | (refine z3n gs ?_) | (refine z3X i1 ?_) | (refine Exists.intro L.length (And.intro hLl ?_)) | (refine z1u (n := nat_lit 2) ?_) | (refine z1c (n := nat_lit 2) (by omega) ?_) | (refine ccA ([]) (cH) ?_) | (refine And.intro (by simp only [List.length_append, List.length_set, List.length_replicate, List.length_cons, List.length_nil]; omega) ?_) | (refine And.intro (by kernel_rfl) ?_) | (refine stpQ ?_))
          refine ⟨(k + 1, up ++ [p / 2]), ⟨by show k + 1 ≤ L.length; omega, inv2, by simp; omega⟩, (by show L.length - (k + 1) < L.length - k; omega), ?_⟩
          (try dsimp only)
          rw [hap1, hap2, hS2]
          (refine z00 (by rfl) ?_ ?_) <;> (repeat' (first | (exact eqA) | (refine And.intro ?_ ?_) | ((fail_if_success (with_reducible (show _ = _))); (show _ = _)))) <;> rfl
      ·have hke : k = L.length := by omega
       subst hke
       have f5 : ¬ ((L.length : Nat) : Int) < ((L.length : Nat) : Int) := by omega
       rw [List.drop_length] at hup
       simp only [lvUp, List.append_nil] at hup
       have i1 := z1S hL
       have i2 := z6s (n := m) L hL2
       have i3 := zbm hLne
       have eS : sdL l wn lv (L.drop L.length) ++ rest = sdA l wn m (lv + 1) up := by rw [List.drop_length, hrest, hup]; rfl
       rw [hup] at i1 i2 i3
       rw [eS]
       clear hup hL hL2 hLne hp256 hrest hrw eS
       repeat ((try conv => whnf); first | (with_reducible first | refine z0b (fun Qs hN hE hR => ?_) | refine z09 ?_ | refine z02 (fun Qb kN kE kX kR => ?_) | refine z04 ?_ | refine z05 ?_ | refine z0a ?_ | refine z06 ?_ | refine z07 ?_ | (show W _ _ _ (.cond _ _ _) _ _; refine z03 rfl ?_) | (refine hN _ ?_; try clear hN hE hR Qs; (try (conv => arg 6; dsimp only [ovl, List.set, List.map, ren0]))) | ((first | refine hE _ _ ?_ | refine hR _ ?_); try clear hN hE hR Qs) | ((first | refine kN _ ?_ | refine kE _ ?_ | refine kX _ _ rfl ?_ | refine kR _ ?_); try clear kN kE kX kR Qb)) | (refine Exists.intro L.length (And.intro hLl ?_)) | (refine z0m f5 ?_) | (refine stpQ ?_))
       refine hQ3 _ _ ?_
       clear hQ3 Q3
       repeat ((try conv => whnf); first | (with_reducible first | refine z0b (fun Qs hN hE hR => ?_) | refine z09 ?_ | refine z02 (fun Qb kN kE kX kR => ?_) | refine z04 ?_ | refine z05 ?_ | refine z0a ?_ | refine z06 ?_ | refine z07 ?_ | (show W _ _ _ (.cond _ _ _) _ _; refine z03 rfl ?_) | (refine hN _ ?_; try clear hN hE hR Qs; (try (conv => arg 6; dsimp only [ovl, List.set, List.map, ren0]))) | ((first | refine hE _ _ ?_ | refine hR _ ?_); try clear hN hE hR Qs) | ((first | refine kN _ ?_ | refine kE _ ?_ | refine kX _ _ rfl ?_ | refine kR _ ?_); try clear kN kE kX kR Qb)) | (refine And.intro (by kernel_rfl) ?_) | (refine stpQ ?_))
       refine ⟨(lv + 1, up), ⟨hlt8, i1, by rw [hm2]; exact i2, i3, by show up.length ≤ 1000; omega⟩, (by show 8 - (lv + 1) < m + 1; omega), ?_⟩
       (try dsimp only)
       rw [hm2]
       (refine z00 (by rfl) ?_ ?_) <;> (repeat' (first | (exact eqA) | (refine And.intro ?_ ?_) | ((fail_if_success (with_reducible (show _ = _))); (show _ = _)))) <;> rfl
    ·have hl8 : lv = 8 := by omega
     subst hl8
     have f4 : ¬ ((8 : Nat) : Int) < 8 := by omega
     obtain rfl := zcN hL hLne hL2
     have gs : (strE ([0].map (z0f l wn 8)))[0]? = some [.str (z0f l wn 8 0)] := rfl
     have e8 : strE (sdA l wn (8 - 8) 8 [0]) = [] := rfl
     rw [e8]
     have f6 : ¬ ((([] : List (List T)).length : Nat) : Int) > 0 := by simp
     clear hL hL2 hLne hLm hp256 hnl e8 hLl
     generalize z0f l wn 8 0 = root at *
     generalize strE ([0].map (z0f l wn 8)) = HH at *
     repeat ((try conv => whnf); first | (with_reducible first | refine z0b (fun Qs hN hE hR => ?_) | refine z09 ?_ | refine z02 (fun Qb kN kE kX kR => ?_) | refine z04 ?_ | refine z05 ?_ | refine z0a ?_ | refine z06 ?_ | refine z07 ?_ | (show W _ _ _ (.cond _ _ _) _ _; refine z03 rfl ?_) | (refine hN _ ?_; try clear hN hE hR Qs; (try (conv => arg 6; dsimp only [ovl, List.set, List.map, ren0]))) | ((first | refine hE _ _ ?_ | refine hR _ ?_); try clear hN hE hR Qs) | ((first | refine kN _ ?_ | refine kE _ ?_ | refine kX _ _ rfl ?_ | refine kR _ ?_); try clear kN kE kX kR Qb)) | (refine z0m f4 ?_) | (refine stpQ ?_))
     refine hQ2 _ _ ?_
     clear hQ2 Q2
     repeat ((try conv => whnf); first | (with_reducible first | refine z0b (fun Qs hN hE hR => ?_) | refine z09 ?_ | refine z02 (fun Qb kN kE kX kR => ?_) | refine z04 ?_ | refine z05 ?_ | refine z0a ?_ | refine z06 ?_ | refine z07 ?_ | (show W _ _ _ (.cond _ _ _) _ _; refine z03 rfl ?_) | (refine hN _ ?_; try clear hN hE hR Qs; (try (conv => arg 6; dsimp only [ovl, List.set, List.map, ren0]))) | ((first | refine hE _ _ ?_ | refine hR _ ?_); try clear hN hE hR Qs) | ((first | refine kN _ ?_ | refine kE _ ?_ | refine kX _ _ rfl ?_ | refine kR _ ?_); try clear kN kE kX kR Qb)) | (refine z0m f6 ?_) | (refine z3n gs ?_) | (refine And.intro (by kernel_rfl) ?_) | (refine stpQ ?_))
     (refine z01 (by rfl) ?_ ?_ (by rfl)) <;> (repeat' (first | (exact eqA) | (refine And.intro ?_ ?_) | ((fail_if_success (with_reducible (show _ = _))); (show _ = _)))) <;> rfl
end
end Go.Proofs.YtceegbenenakaaaGreatDoor
