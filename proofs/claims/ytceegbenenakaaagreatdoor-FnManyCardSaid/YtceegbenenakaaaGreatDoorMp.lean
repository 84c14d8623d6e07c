/- Functions by content: the program proves many names: a round by what the inner loop keeps. Functions by content: the program proves many names. -/
import Derived.Test.YtceegbenenakaaaGreatDoorMpa
import Derived.Test.YtceegbenenakaaaGreatDoorMtx
namespace Go.Proofs.YtceegbenenakaaaGreatDoor
set_option linter.unusedVariables false
set_option linter.unusedSimpArgs false
set_option linter.unusedSectionVars false
open Go.RowKit Pl
theorem x1_lt {n p : Nat} (h : p < 2 ^ (n + 1)) : x1 p < 2 ^ (n + 1) := by
 rw [Nat.pow_succ] at h ⊢
 unfold x1
 split <;> omega
theorem len2M {α : Type} (a b : List α) : (a ++ b).length = a.length + b.length := List.length_append
def sndJ (L : List Nat) (i : Nat) : Prop := ∃ h : i < L.length, ∃ h0 : 0 < i, L[i] % 2 = 1 ∧ L[i - 1] + 1 = L[i]
theorem zdg {L : List Nat} {k x : Nat} (h : L[k]? = some x) : (npE L)[k]? = some [.int .i64 (x : Int)] := by
 obtain ⟨hk, e⟩ := List.getElem?_eq_some_iff.1 h
 rw [z0O hk, e]
theorem zcO (l : List Lf) (w d : Nat) (L : List Nat) : sdA l w 0 d L = [] := rfl
theorem zcP (l : List Lf) (w n d : Nat) (L : List Nat) : sdA l w (n + 1) d L = sdL l w d L ++ sdA l w n (d + 1) (lvUp L) := rfl
theorem zea (l : List Lf) (w d : Nat) : sdL l w d [] = [] := rfl
theorem cl_lvM (l : List Lf) : ∀ e ∈ lvE l, ∀ c ∈ e, cl0 c := fun e he c hc => by
 simp only [lvE, List.mem_map] at he
 obtain ⟨x, _, rfl⟩ := he
 simp only [List.mem_cons, List.not_mem_nil, or_false] at hc
 rcases hc with rfl | rfl <;> trivial
section
attribute [local irreducible] z0s z0x z0C AnsP LeP W CvE sdA sdL z0f
theorem z7q (l : List Bs) (h : (l.length : Int) ≤ 100000000) : CT Tryz.prog 34 [] [.sl 1 (strE l)] (.ref 1) [.row 1 (strE l)] := by
 have hl := z0g l
 refine z08 z26 1 rfl Tryz.func34 rfl rfl rfl ?_
 conv => arg 6; whnf
 repeat ((try conv => whnf); first | (with_reducible first | refine z0b (fun Qs hN hE hR => ?_) | refine z09 ?_ | refine z02 (fun Qb kN kE kX kR => ?_) | refine z04 ?_ | refine z05 ?_ | refine z0a ?_ | refine z06 ?_ | refine z07 ?_ | (show W _ _ _ (.cond _ _ _) _ _; refine z03 rfl ?_) | (refine hN _ ?_; try clear hN hE hR Qs; (try (conv => arg 6; dsimp only [ovl, List.set, List.map, ren0]))) | ((first | refine hE _ _ ?_ | refine hR _ ?_); try clear hN hE hR Qs) | ((first | refine kN _ ?_ | refine kE _ ?_ | refine kX _ _ rfl ?_ | refine kR _ ?_); try clear kN kE kX kR Qb)) | (refine And.intro (by simp only [List.length_append, List.length_cons, List.length_nil, List.nil_append, List.length_replicate]; omega) ?_) | (refine And.intro (by kernel_rfl) ?_) | (refine stpQ ?_))
 (refine z01 (by rfl) ?_ ?_ (by rfl)) <;> (repeat' (first | (exact eqA) | (refine And.intro ?_ ?_) | ((fail_if_success (with_reducible (show _ = _))); (show _ = _))))
def PmI (l : List Lf) (w lv : Nat) (L : List Nat) (S : List Bs) (x : Nat × Nat × List Nat × List Bs) : Prop :=
 x.1 ≤ L.length ∧ ((x.2.1 = x.1 ∧ ¬ sndJ L x.1) ∨ (x.2.1 = x.1 + 1 ∧ sndJ L x.1)) ∧ lvUp L = x.2.2.1 ++ lvUp (L.drop x.2.1) ∧ S ++ sdL l w lv L = x.2.2.2 ++ sdL l w lv (L.drop x.2.1) ∧ x.2.2.1.length ≤ x.1 ∧ (x.1 = 0 → x.2.2.1 = []) ∧ (0 < x.1 → 0 < x.2.2.1.length ∧ x.2.2.1[x.2.2.1.length - 1]? = some (L.getD (x.1 - 1) 0 / 2))
set_option maxRecDepth 100000 in
set_option maxHeartbeats 8000000 in
theorem zcQ (l : List Lf) (names : List Bs) (bks : List (List Lf)) (w lv m : Nat) (L : List Nat) (S : List Bs) (h : leavesOk l = true) (hwi : 1 ≤ w ∧ w ≤ 32) (hm : 8 - lv = m + 1) (hL : Ups L) (hL2 : ∀ p ∈ L, p < 2 ^ (m + 1)) (hLm : L.length ≤ 1000) (hS1 : (S ++ sdL l w lv L).length ≤ 1000)
 (x : Nat × Nat × List Nat × List Bs) (hx : PmI l w lv L S x) (hkl : x.1 < L.length) (Q : Pst)
 (hQ : ∀ x', PmI l w lv L S x' → L.length - x'.1 < L.length - x.1 → ∀ S1, LeP 1 S1 ⟨[(0, .sl 2 (lvE l)), (6, .ptr 1 0 0), (8, .ptr 2 0 0), (9, .ptr 3 0 0), (10, .sl 1 (npE L)), (13, .int .i64 (8 - (lv : Int))), (14, .ref 7), (59, .sl 1 (npE L)), (60, .int .i64 ((L.length : Nat) : Int)), (61, .int .i64 (x'.1 : Int))], [(1, some (.box [.val nilV, .val nilV, .val nilV])), (2, some (.box [.sl 2 (lvE l), .sl 1 (ixE l), .int .i64 (w : Int)])), (3, some (.box [.ref 4, .ref 5, .ref 6])), (4, some (.row 1 (strE names))), (5, some (.deep 1 (vwD bks) [])), (6, some (.row 1 (strE x'.2.2.2))), (7, some (.row 1 (npE x'.2.2.1)))], 8⟩ → Q .normal S1) :
 W Tryz.prog ttG 1 z3T Q ⟨[(0, .sl 2 (lvE l)), (6, .ptr 1 0 0), (8, .ptr 2 0 0), (9, .ptr 3 0 0), (10, .sl 1 (npE L)), (13, .int .i64 (8 - (lv : Int))), (14, .ref 7), (59, .sl 1 (npE L)), (60, .int .i64 ((L.length : Nat) : Int)), (61, .int .i64 (x.1 : Int))], [(1, some (.box [.val nilV, .val nilV, .val nilV])), (2, some (.box [.sl 2 (lvE l), .sl 1 (ixE l), .int .i64 (w : Int)])), (3, some (.box [.ref 4, .ref 5, .ref 6])), (4, some (.row 1 (strE names))), (5, some (.deep 1 (vwD bks) [])), (6, some (.row 1 (strE x.2.2.2))), (7, some (.row 1 (npE x.2.2.1)))], 8⟩ := by
 obtain ⟨k, j, up, S2⟩ := x
 obtain ⟨hk, hsnd, hup, hsd, hul, hu0, hu1⟩ := hx
 dsimp only at hk hsnd hup hsd hul hu0 hu1 hkl hQ ⊢
 have hLl := z1C L
 have hupe := z1C up
 have hS2e := z0g S2
 have hS2l : S2.length ≤ 1000 := by
  have := congrArg List.length hsd
  rw [len2M S2] at this
  omega
 have f5 : (k : Int) < ((L.length : Nat) : Int) := by omega
 have gp := z0O hkl
 have hpl := hL2 _ (List.getElem_mem hkl)
 have hp256 : L[k] < 256 := by
  have : 2 ^ (m + 1) ≤ 2 ^ 8 := Nat.pow_le_pow_right (by omega) (by omega)
  omega
 have ex := ze2 hp256
 have hLd : L.getD k 0 = L[k] := by simp [List.getD, List.getElem?_eq_getElem hkl]
 have hx1 := x1_lt hpl
 have cN := zbt l w h hwi lv (x1 L[k]) (by omega) (by rw [hm]; exact hx1)
 have hapS := z30 S2 (z0f l w lv (x1 L[k]))
 have hapU := z4K up (L[k] / 2)
 have nse : ∀ h2 : k + 1 < L.length, sndJ L (k + 1) → L[k] % 2 = 0 ∧ L[k + 1] = L[k] + 1 := fun h2 ⟨_, _, c1, c2⟩ => by
  have e : L[k + 1 - 1] = L[k] := rfl
  rw [e] at c2
  exact ⟨by omega, by omega⟩
 have newU : 0 < (up ++ [L[k] / 2]).length ∧ (up ++ [L[k] / 2])[(up ++ [L[k] / 2]).length - 1]? = some (L.getD (k + 1 - 1) 0 / 2) := by
  rw [show k + 1 - 1 = k by omega, hLd]
  simp
 have b1 : (strE S2).length ≤ 1000 := by omega
 have b2 : up.length ≤ 1000 := by omega
 have b3 : lv ≤ 8 := by omega
 have b4 : L[k] ≤ 1000 := by omega
 rcases hsnd with ⟨rfl, hns⟩ | ⟨rfl, hys⟩
 ·
   have hprev : ∀ h0 : 0 < j, ¬ L[j - 1] / 2 = L[j] / 2 := fun h0 c => by
    have hlt := z2h hL (k := j - 1) (by omega)
    have e : L[j - 1 + 1] = L[j] := by congr 1; omega
    rw [e] at hlt
    exact hns ⟨hkl, h0, by omega, by omega⟩
   have hx1p : ∀ h0 : 0 < j, ¬ ((L[j - 1] : Nat) : Int) = ((x1 L[j] : Nat) : Int) := fun h0 c => by
    have := hprev h0
    unfold x1 at c
    split at c <;> omega
   have prv : (∃ h0 : 0 < j, (npE up)[up.length - 1]? = some [.int .i64 ((L[j - 1] / 2 : Nat) : Int)] ∧ 0 < up.length) ∨ (j = 0 ∧ up = []) := by
    by_cases h0 : 0 < j
    ·obtain ⟨hu2, hu3⟩ := hu1 h0
     have hLd2 : L.getD (j - 1) 0 = L[j - 1] := by simp [List.getD, List.getElem?_eq_getElem (show j - 1 < L.length by omega)]
     rw [hLd2] at hu3
     exact .inl ⟨h0, zdg hu3, hu2⟩
    ·exact .inr ⟨by omega, hu0 (by omega)⟩
   by_cases hpair : ∃ h2 : j + 1 < L.length, L[j] % 2 = 0 ∧ L[j + 1] = L[j] + 1
   ·obtain ⟨h2, h3, h4⟩ := hpair
    obtain ⟨lu, ln⟩ := z82 h2 h3 h4
    have eS : sdL l w lv (L.drop j) = sdL l w lv (L.drop (j + 2)) := z9r h2 h3 h4
    have fk1 : ((j + 1 : Nat) : Int) < ((L.length : Nat) : Int) := by omega
    have gq := z0O h2
    have fe1 : ((L[j + 1] : Nat) : Int) = ((x1 L[j] : Nat) : Int) := by rw [h4, x1, if_pos h3]
    have inv1 : sndJ L (j + 1) := ⟨h2, by omega, by omega, by show L[j + 1 - 1] + 1 = L[j + 1]; have e : L[j + 1 - 1] = L[j] := rfl; omega⟩
    have inv2 : lvUp L = (up ++ [L[j] / 2]) ++ lvUp (L.drop (j + 2)) := by rw [hup, lu]; simp
    have inv3 : S ++ sdL l w lv L = S2 ++ sdL l w lv (L.drop (j + 2)) := by rw [hsd, eS]
    have hQ2 := hQ (j + 1, j + 2, up ++ [L[j] / 2], S2) ⟨by show j + 1 ≤ L.length; omega, .inr ⟨rfl, inv1⟩, inv2, inv3, by simp; omega, fun c => absurd c (Nat.succ_ne_zero _), fun _ => newU⟩ (by show L.length - (j + 1) < L.length - j; omega)
    dsimp only at hQ2
    rw [hapU] at hQ2
    rcases prv with ⟨h0, gu, hu2⟩ | ⟨h0, hue⟩
    ·exact rdP_ip Q _ _ _ _ _ _ _ w lv _ _ _ _ _ _ _ _ _ hLl hupe b1 b2 hLm b3 b4 f5 gp ex cN (by omega) (z0O (l := L) (k := j - 1) (by omega)) (hx1p h0) fk1 gq fe1 (by omega) gu (fun c => hprev h0 (by omega)) hQ2
    ·exact rdP_op Q _ _ _ _ _ _ _ w lv _ _ _ _ _ 0 _ 0 _ hLl hupe b1 b2 hLm b3 b4 f5 gp ex cN (by omega) fk1 gq fe1 (by rw [hue]; rfl) hQ2
   ·obtain ⟨lu, ln⟩ := zbn hkl (fun h2 c => hpair ⟨h2, c⟩)
    have eS : sdL l w lv (L.drop j) = z0f l w lv (x1 L[j]) :: sdL l w lv (L.drop (j + 1)) := zbL hkl (fun h2 c => hpair ⟨h2, c⟩)
    have inv1 : ¬ sndJ L (j + 1) := fun c => hpair ⟨c.1, nse c.1 c⟩
    have inv2 : lvUp L = (up ++ [L[j] / 2]) ++ lvUp (L.drop (j + 1)) := by rw [hup, lu]; simp
    have inv3 : S ++ sdL l w lv L = (S2 ++ [z0f l w lv (x1 L[j])]) ++ sdL l w lv (L.drop (j + 1)) := by rw [hsd, eS]; simp
    have hQ2 := hQ (j + 1, j + 1, up ++ [L[j] / 2], S2 ++ [z0f l w lv (x1 L[j])]) ⟨by show j + 1 ≤ L.length; omega, .inl ⟨rfl, inv1⟩, inv2, inv3, by simp; omega, fun c => absurd c (Nat.succ_ne_zero _), fun _ => newU⟩ (by show L.length - (j + 1) < L.length - j; omega)
    dsimp only at hQ2
    rw [hapU, hapS] at hQ2
    by_cases h2 : j + 1 < L.length
    ·have fk1 : ((j + 1 : Nat) : Int) < ((L.length : Nat) : Int) := by omega
     have gq := z0O h2
     have hlt2 := z2h hL h2
     have fen : ¬ ((L[j + 1] : Nat) : Int) = ((x1 L[j] : Nat) : Int) := fun c => hpair ⟨h2, by
      unfold x1 at c
      split at c <;> omega⟩
     rcases prv with ⟨h0, gu, hu2⟩ | ⟨h0, hue⟩
     ·exact rdP_in Q _ _ _ _ _ _ _ w lv _ _ _ _ _ _ _ _ _ hLl hupe b1 b2 hLm b3 b4 f5 gp ex cN (by omega) (z0O (l := L) (k := j - 1) (by omega)) (hx1p h0) fk1 gq fen (by omega) gu (fun c => hprev h0 (by omega)) hQ2
     ·exact rdP_on Q _ _ _ _ _ _ _ w lv _ _ _ _ _ 0 _ 0 _ hLl hupe b1 b2 hLm b3 b4 f5 gp ex cN (by omega) fk1 gq fen (by rw [hue]; rfl) hQ2
    ·have fkn : ¬ ((j + 1 : Nat) : Int) < ((L.length : Nat) : Int) := by omega
     rcases prv with ⟨h0, gu, hu2⟩ | ⟨h0, hue⟩
     ·exact rdP_il Q _ _ _ _ _ _ _ w lv _ _ _ _ _ _ 0 _ _ hLl hupe b1 b2 hLm b3 b4 f5 gp ex cN (by omega) (z0O (l := L) (k := j - 1) (by omega)) (hx1p h0) fkn (by omega) gu (fun c => hprev h0 (by omega)) hQ2
     ·exact rdP_ol Q _ _ _ _ _ _ _ w lv _ _ _ _ _ 0 0 0 _ hLl hupe b1 b2 hLm b3 b4 f5 gp ex cN (by omega) fkn (by rw [hue]; rfl) hQ2
 ·
   obtain ⟨_, h8, h9, h10⟩ := hys
   obtain ⟨hu2, hu3⟩ := hu1 h8
   have gr := z0O (l := L) (k := k - 1) (by omega)
   have hLd2 : L.getD (k - 1) 0 = L[k - 1] := by simp [List.getD, List.getElem?_eq_getElem (show k - 1 < L.length by omega)]
   rw [hLd2, show L[k - 1] / 2 = L[k] / 2 by omega] at hu3
   have inv1 : ¬ sndJ L (k + 1) := fun ⟨_, _, c2, c3⟩ => by
    have e : L[k + 1 - 1] = L[k] := rfl
    rw [e] at c3
    omega
   have inv5 : 0 < up.length ∧ up[up.length - 1]? = some (L.getD (k + 1 - 1) 0 / 2) := ⟨hu2, by rw [show k + 1 - 1 = k by omega, hLd]; exact hu3⟩
   have hQ2 := hQ (k + 1, k + 1, up, S2) ⟨by show k + 1 ≤ L.length; omega, .inl ⟨rfl, inv1⟩, hup, hsd, by show up.length ≤ k + 1; omega, fun c => absurd c (Nat.succ_ne_zero _), fun _ => inv5⟩ (by show L.length - (k + 1) < L.length - k; omega)
   dsimp only at hQ2
   exact rdP_s Q _ _ _ _ _ _ _ w lv _ _ _ _ _ _ 0 _ _ hLl hupe b1 b2 hLm b3 b4 f5 gp ex cN (by omega) gr (by rw [x1, if_neg (by omega)]; omega) (by omega) (zdg hu3) rfl hQ2
end
end Go.Proofs.YtceegbenenakaaaGreatDoor
namespace Go.Proofs.YtceegbenenakaaaGreatDoor
set_option linter.unusedVariables false
set_option linter.unusedSimpArgs false
set_option linter.unusedSectionVars false
open Go.RowKit Pl
section
attribute [local irreducible] z0s z0x z0C AnsP LeP W CvE sdA sdL z0f
set_option maxRecDepth 100000 in
set_option maxHeartbeats 32000000 in
theorem z7r (l : List Lf) (names : List Bs) (w : Nat) (h : leavesOk l = true) (hnm : z1v names = true) (hwi : 1 ≤ w ∧ w ≤ 32) : CT Tryz.prog 9 [] [.sl 2 (lvE l), .sl 1 (strE names), .int .i64 (w : Int)] (.tup [.agg [.ref 1, .ref 2, .ref 3], .bool true]) [.row 1 (strE names), .deep 1 (vwD (mnB l names)) [], .row 1 (strE (mnS l names w))] := by
 have hm := z3I h hnm hwi
 obtain ⟨n1, n8, nm, b8, bl, w0, sw, s64⟩ := z29 hm
 have hl : ∀ s ∈ names, (s.length : Int) ≤ 100000000 := fun s hs => by have := nm s hs; omega
 have hsm := z4R h
 have cO := z1J l (by have := hsm.1; omega) hsm.fit
 rw [h] at cO
 have cN0 := z4T names (by omega) hl
 rw [hnm] at cN0
 have cW := z3j (w : Int)
 rw [z1g.2 (show (1 : Int) ≤ (w : Int) ∧ (w : Int) ≤ 32 by omega)] at cW
 have cG := za3 l w h
 have cC := z7q names (by omega)
 have cX := z2g names (by omega) hl
 rw [z9i] at cX
 have hK := z2W names
 have hKl : ∀ x ∈ ixsN names, x < 2 ^ (8 - 0) := z83 names
 have hKn := z2D names
 have hsl : ∀ k, ((lfAt l k).1.length : Int) ≤ 100000000 := fun k => by have := (hsm.2 k).1; omega
 have hll : (l.length : Int) ≤ 100000000 := by have := hsm.1; omega
 have hB : ∀ i (hi : i < (ixsN names).length), vwD ((ixsN names).take (i + 1) |>.map fun (p : Nat) => z0h l (p : Int)) = vwD ((ixsN names).take i |>.map fun (p : Nat) => z0h l (p : Int)) ++ [[.own 2 (lvE (z0h l ((ixsN names)[i] : Int)))]] := fun i hi => by
  rw [List.take_succ_eq_append_getElem hi]; simp only [vwD, List.map_append, List.map_cons, List.map_nil]
 have hBe : ((ixsN names).take (ixsN names).length |>.map fun (p : Nat) => z0h l (p : Int)) = mnB l names := by rw [List.take_length]; rfl
 have hsE : mnS l names w = sdA l w 8 0 (ixsN names) := rfl
 have hS64 : (sdA l w 8 0 (ixsN names)).length ≤ 64 := by rw [← hsE]; exact s64
 rw [hsE]
 generalize mnB l names = bks at *
 generalize ixsN names = K at *
 have hKe := z1C K
 clear hm bl sw hl nm hsE s64
 refine z08 zbN 1 rfl Tryz.func9 rfl rfl rfl ?_
 conv => arg 6; whnf
 repeat ((try conv => whnf); first | (with_reducible first | refine z0b (fun Qs hN hE hR => ?_) | refine z09 ?_ | refine z02 (fun Qb kN kE kX kR => ?_) | refine z04 ?_ | refine z05 ?_ | refine z0a ?_ | refine z06 ?_ | refine z07 ?_ | (show W _ _ _ (.cond _ _ _) _ _; refine z03 rfl ?_) | (refine hN _ ?_; try clear hN hE hR Qs; (try (conv => arg 6; dsimp only [ovl, List.set, List.map, ren0]))) | ((first | refine hE _ _ ?_ | refine hR _ ?_); try clear hN hE hR Qs) | ((first | refine kN _ ?_ | refine kE _ ?_ | refine kX _ _ rfl ?_ | refine kR _ ?_); try clear kN kE kX kR Qb)) | (refine ccA ([]) (cO) ?_) | (refine ccA ([]) (cN0) ?_) | (refine ccA ([]) (cW) ?_) | (refine ccA ([]) (cG) ?_) | (refine ccA ([]) (cC) ?_) | (refine ccA ([]) (cX) ?_) | (refine Exists.intro K.length (And.intro hKe ?_)) | (refine And.intro (by kernel_rfl) ?_) | (refine stpQ ?_))
 refine z0l 0 ⟨[(0, .sl 2 (lvE l)), (6, .ptr 1 0 0), (8, .ptr 2 0 0), (9, .ptr 3 0 0), (10, .sl 1 (npE K))], [(1, some (.box [.val nilV, .val nilV, .val nilV])), (2, some (.box [.sl 2 (lvE l), .sl 1 (ixE l), .int .i64 (w : Int)])), (3, some (.box [.ref 4, .ref 5, .val nilV])), (4, some (.row 1 (strE names))), (5, some (.deep 1 (vwD bks) []))], 6⟩ Nat (fun i => ⟨[(0, .sl 2 (lvE l)), (6, .ptr 1 0 0), (8, .ptr 2 0 0), (9, .ptr 3 0 0), (10, .sl 1 (npE K)), (40, .sl 1 (npE K)), (41, .int .i64 ((K.length : Nat) : Int)), (42, .int .i64 (i : Int))], [(1, some (.box [.val nilV, .val nilV, .val nilV])), (2, some (.box [.sl 2 (lvE l), .sl 1 (ixE l), .int .i64 (w : Int)])), (3, some (.box [.ref 4, .ref 5, .val nilV])), (4, some (.row 1 (strE names))), (5, some (.deep 1 (vwD (K.take i |>.map fun (p : Nat) => z0h l (p : Int))) []))], 6⟩) (fun i => i ≤ K.length) (fun i => K.length - i) 0 (Nat.zero_le _) ?_ ?_ ?_
 ·(refine z00 (by rfl) ?_ ?_)
  all_goals (repeat' (first | (exact trivial) | ((try conv => whnf); first | (exact trivial) | (refine And.intro ?_ ?_))))
  all_goals first
   | rfl
   | decide
   | exact CvE.nil _ (by decide)
 ·intro i hi
  have hbl : (vwD (K.take i |>.map fun (p : Nat) => z0h l (p : Int))).length = i := by rw [zbE, List.length_map, List.length_take]; omega
  by_cases hlt : i < K.length
  ·have f1 : (i : Int) < ((K.length : Nat) : Int) := by omega
   have gi := z0O hlt
   have hnx := hB i hlt
   have cB := zbC 0 (z3B l ((K[i] : Nat) : Int) hll hsl) rfl (by decide) (cl_lvM _)
   clear hB
   generalize vwD (K.take i |>.map fun (p : Nat) => z0h l (p : Int)) = BS at *
   generalize lvE (z0h l (K[i] : Int)) = BB at *
   generalize K[i] = p at *
   repeat ((try conv => whnf); first | (with_reducible first | refine z0b (fun Qs hN hE hR => ?_) | refine z09 ?_ | refine z02 (fun Qb kN kE kX kR => ?_) | refine z04 ?_ | refine z05 ?_ | refine z0a ?_ | refine z06 ?_ | refine z07 ?_ | (show W _ _ _ (.cond _ _ _) _ _; refine z03 rfl ?_) | (refine hN _ ?_; try clear hN hE hR Qs; (try (conv => arg 6; dsimp only [ovl, List.set, List.map, ren0]))) | ((first | refine hE _ _ ?_ | refine hR _ ?_); try clear hN hE hR Qs) | ((first | refine kN _ ?_ | refine kE _ ?_ | refine kX _ _ rfl ?_ | refine kR _ ?_); try clear kN kE kX kR Qb)) | (refine z0i f1 ?_) | (refine i_at gi ?_) | (refine ccA ([]) (cB) ?_) | (refine And.intro (by simp only [List.length_append, List.length_set, List.length_replicate, List.length_cons, List.length_nil]; omega) ?_) | (refine And.intro (by kernel_rfl) ?_) | (refine stpQ ?_))
   refine ⟨i + 1, hlt, by omega, ?_⟩
   rw [hnx]
   (refine z00 (by rfl) ?_ ?_) <;> (repeat' (first | (exact eqA) | (refine And.intro ?_ ?_) | ((fail_if_success (with_reducible (show _ = _))); (show _ = _)))) <;> rfl
  ·have hie : i = K.length := by omega
   subst hie
   have f1 : ¬ ((K.length : Nat) : Int) < ((K.length : Nat) : Int) := by omega
   rw [hBe]
   repeat ((try conv => whnf); first | (with_reducible first | refine z0b (fun Qs hN hE hR => ?_) | refine z09 ?_ | refine z02 (fun Qb kN kE kX kR => ?_) | refine z04 ?_ | refine z05 ?_ | refine z0a ?_ | refine z06 ?_ | refine z07 ?_ | (show W _ _ _ (.cond _ _ _) _ _; refine z03 rfl ?_) | (refine hN _ ?_; try clear hN hE hR Qs; (try (conv => arg 6; dsimp only [ovl, List.set, List.map, ren0]))) | ((first | refine hE _ _ ?_ | refine hR _ ?_); try clear hN hE hR Qs) | ((first | refine kN _ ?_ | refine kE _ ?_ | refine kX _ _ rfl ?_ | refine kR _ ?_); try clear kN kE kX kR Qb)) | (refine z0m f1 ?_) | (refine stpQ ?_))
   (refine z00 (by rfl) ?_ ?_) <;> (repeat' (first | (exact eqA) | (refine And.intro ?_ ?_) | ((fail_if_success (with_reducible (show _ = _))); (show _ = _)))) <;> rfl
 ·repeat ((try conv => whnf); first | (with_reducible first | refine z0b (fun Qs hN hE hR => ?_) | refine z09 ?_ | refine z02 (fun Qb kN kE kX kR => ?_) | refine z04 ?_ | refine z05 ?_ | refine z0a ?_ | refine z06 ?_ | refine z07 ?_ | (show W _ _ _ (.cond _ _ _) _ _; refine z03 rfl ?_) | (refine hN _ ?_; try clear hN hE hR Qs; (try (conv => arg 6; dsimp only [ovl, List.set, List.map, ren0]))) | ((first | refine hE _ _ ?_ | refine hR _ ?_); try clear hN hE hR Qs) | ((first | refine kN _ ?_ | refine kE _ ?_ | refine kX _ _ rfl ?_ | refine kR _ ?_); try clear kN kE kX kR Qb)) | (refine And.intro (by kernel_rfl) ?_) | (refine stpQ ?_))
  refine z0l 2 ⟨[(6, .ptr 1 0 0), (8, .ptr 2 0 0), (9, .ptr 3 0 0)], [(1, some (.box [.val nilV, .val nilV, .val nilV])), (2, some (.box [.sl 2 (lvE l), .sl 1 (ixE l), .int .i64 (w : Int)])), (3, some (.box [.ref 4, .ref 5, .ref 6])), (4, some (.row 1 (strE names))), (5, some (.deep 1 (vwD bks) [])), (6, some (.row 1 (strE (sdA l w 8 0 K))))], 7⟩ (Nat × List Nat × List Bs) (fun x => ⟨[(0, .sl 2 (lvE l)), (6, .ptr 1 0 0), (8, .ptr 2 0 0), (9, .ptr 3 0 0), (10, .sl 1 (npE x.2.1)), (13, .int .i64 (8 - (x.1 : Int)))], [(1, some (.box [.val nilV, .val nilV, .val nilV])), (2, some (.box [.sl 2 (lvE l), .sl 1 (ixE l), .int .i64 (w : Int)])), (3, some (.box [.ref 4, .ref 5, .ref 6])), (4, some (.row 1 (strE names))), (5, some (.deep 1 (vwD bks) [])), (6, some (.row 1 (strE x.2.2)))], 7⟩) (fun x => x.1 ≤ 8 ∧ Ups x.2.1 ∧ (∀ p ∈ x.2.1, p < 2 ^ (8 - x.1)) ∧ x.2.1.length ≤ 1000 ∧ sdA l w 8 0 K = x.2.2 ++ sdA l w (8 - x.1) x.1 x.2.1) (fun x => 8 - x.1) (0, K, []) ⟨Nat.zero_le _, hK, hKl, by show K.length ≤ 1000; omega, (List.nil_append _).symm⟩ ?_ ?_ ?_
  ·(refine z00 (by rfl) ?_ ?_)
   all_goals (repeat' (first | (exact trivial) | ((try conv => whnf); first | (exact trivial) | (refine And.intro ?_ ?_))))
   all_goals first
    | rfl
    | decide
    | exact CvE.nil _ (by decide)
  ·clear hK hKl hKe cO cN0 cW cG cC cX hB hBe
   intro x hx
   obtain ⟨lv, L, S⟩ := x
   obtain ⟨hlv, hL, hL2, hLm, hSd⟩ := hx
   dsimp only at hlv hL hL2 hLm hSd ⊢
   have hLl := z1C L
   by_cases hlt8 : lv < 8
   ·have f4 : (8 - (lv : Int)) ≥ 1 := by omega
    have e1 : (8 - ((lv + 1 : Nat) : Int)) = IntKind.i64.wrap ((8 - (lv : Int)) - 1) := by rw [wrap_i64 (by omega) (by omega)]; omega
    obtain ⟨m, hm⟩ : ∃ m, 8 - lv = m + 1 := ⟨8 - (lv + 1), by omega⟩
    have hm2 : 8 - (lv + 1) = m := by omega
    rw [hm] at hL2 hSd
    rw [zcP l w m lv L, ← List.append_assoc] at hSd
    have hS1 : (S ++ sdL l w lv L).length ≤ 1000 := by
     have := congrArg List.length hSd
     rw [len2M (S ++ sdL l w lv L)] at this
     omega
    repeat ((try conv => whnf); first | (with_reducible first | refine z0b (fun Qs hN hE hR => ?_) | refine z09 ?_ | refine z02 (fun Qb kN kE kX kR => ?_) | refine z04 ?_ | refine z05 ?_ | refine z0a ?_ | refine z06 ?_ | refine z07 ?_ | (show W _ _ _ (.cond _ _ _) _ _; refine z03 rfl ?_) | (refine hN _ ?_; try clear hN hE hR Qs; (try (conv => arg 6; dsimp only [ovl, List.set, List.map, ren0]))) | ((first | refine hE _ _ ?_ | refine hR _ ?_); try clear hN hE hR Qs) | ((first | refine kN _ ?_ | refine kE _ ?_ | refine kX _ _ rfl ?_ | refine kR _ ?_); try clear kN kE kX kR Qb)) | (refine z0i f4 ?_) | (refine Exists.intro L.length (And.intro hLl ?_)) | (refine And.intro (by kernel_rfl) ?_) | (refine stpQ ?_))
    refine z0l 4 ⟨[(0, .sl 2 (lvE l)), (6, .ptr 1 0 0), (8, .ptr 2 0 0), (9, .ptr 3 0 0), (13, .int .i64 (8 - (lv : Int))), (14, .ref 7)], [(1, some (.box [.val nilV, .val nilV, .val nilV])), (2, some (.box [.sl 2 (lvE l), .sl 1 (ixE l), .int .i64 (w : Int)])), (3, some (.box [.ref 4, .ref 5, .ref 6])), (4, some (.row 1 (strE names))), (5, some (.deep 1 (vwD bks) [])), (6, some (.row 1 (strE (S ++ sdL l w lv L)))), (7, some (.row 1 (npE (lvUp L))))], 8⟩ (Nat × Nat × List Nat × List Bs) (fun x => ⟨[(0, .sl 2 (lvE l)), (6, .ptr 1 0 0), (8, .ptr 2 0 0), (9, .ptr 3 0 0), (10, .sl 1 (npE L)), (13, .int .i64 (8 - (lv : Int))), (14, .ref 7), (59, .sl 1 (npE L)), (60, .int .i64 ((L.length : Nat) : Int)), (61, .int .i64 (x.1 : Int))], [(1, some (.box [.val nilV, .val nilV, .val nilV])), (2, some (.box [.sl 2 (lvE l), .sl 1 (ixE l), .int .i64 (w : Int)])), (3, some (.box [.ref 4, .ref 5, .ref 6])), (4, some (.row 1 (strE names))), (5, some (.deep 1 (vwD bks) [])), (6, some (.row 1 (strE x.2.2.2))), (7, some (.row 1 (npE x.2.2.1)))], 8⟩) (PmI l w lv L S) (fun x => L.length - x.1) (0, 0, [], S) ⟨Nat.zero_le _, .inl ⟨rfl, fun ⟨_, h0, _⟩ => absurd h0 (Nat.lt_irrefl _)⟩, (List.nil_append _).symm, rfl, Nat.le_refl _, fun _ => rfl, fun h => absurd h (Nat.lt_irrefl _)⟩ ?_ ?_ ?_
    ·(refine z00 (by rfl) ?_ ?_)
     all_goals (repeat' (first | (exact trivial) | ((try conv => whnf); first | (exact trivial) | (refine And.intro ?_ ?_))))
     all_goals first
      | rfl
      | decide
      | exact CvE.nil _ (by decide)
    ·intro x hx
     by_cases hkl : x.1 < L.length
     ·exact zcQ l names bks w lv m L S h hwi hm hL hL2 hLm hS1 x hx hkl _ (fun x' hx' hlt S1 hS1 => ⟨x', hx', hlt, hS1⟩)
     ·obtain ⟨k, j, up, S2⟩ := x
      obtain ⟨hk, hsnd, hup, hsd, hul, hu0, hu1⟩ := hx
      dsimp only at hk hsnd hup hsd hul hu0 hu1 hkl ⊢
      have hke : k = L.length := by omega
      subst hke
      have hj : j = L.length := by
       rcases hsnd with ⟨h, _⟩ | ⟨_, h, _⟩
       ·exact h
       ·exact absurd h (Nat.lt_irrefl _)
      subst hj
      have f5 : ¬ ((L.length : Nat) : Int) < ((L.length : Nat) : Int) := by omega
      rw [List.drop_length] at hup hsd
      simp only [lvUp, List.append_nil] at hup
      rw [zea, List.append_nil] at hsd
      rw [hup, hsd]
      clear hu0 hu1 hup hsd hSd
      repeat ((try conv => whnf); first | (with_reducible first | refine z0b (fun Qs hN hE hR => ?_) | refine z09 ?_ | refine z02 (fun Qb kN kE kX kR => ?_) | refine z04 ?_ | refine z05 ?_ | refine z0a ?_ | refine z06 ?_ | refine z07 ?_ | (show W _ _ _ (.cond _ _ _) _ _; refine z03 rfl ?_) | (refine hN _ ?_; try clear hN hE hR Qs; (try (conv => arg 6; dsimp only [ovl, List.set, List.map, ren0]))) | ((first | refine hE _ _ ?_ | refine hR _ ?_); try clear hN hE hR Qs) | ((first | refine kN _ ?_ | refine kE _ ?_ | refine kX _ _ rfl ?_ | refine kR _ ?_); try clear kN kE kX kR Qb)) | (refine z0m f5 ?_) | (refine stpQ ?_))
      (refine z00 (by rfl) ?_ ?_) <;> (repeat' (first | (exact eqA) | (refine And.intro ?_ ?_) | ((fail_if_success (with_reducible (show _ = _))); (show _ = _)))) <;> rfl
    ·have i1 := z1S hL
     have i2 := z6s (n := m) L hL2
     have i3 := z49 L
     generalize lvUp L = up at *
     generalize S ++ sdL l w lv L = S3 at *
     clear hL hL2 hS1
     repeat ((try conv => whnf); first | (with_reducible first | refine z0b (fun Qs hN hE hR => ?_) | refine z09 ?_ | refine z02 (fun Qb kN kE kX kR => ?_) | refine z04 ?_ | refine z05 ?_ | refine z0a ?_ | refine z06 ?_ | refine z07 ?_ | (show W _ _ _ (.cond _ _ _) _ _; refine z03 rfl ?_) | (refine hN _ ?_; try clear hN hE hR Qs; (try (conv => arg 6; dsimp only [ovl, List.set, List.map, ren0]))) | ((first | refine hE _ _ ?_ | refine hR _ ?_); try clear hN hE hR Qs) | ((first | refine kN _ ?_ | refine kE _ ?_ | refine kX _ _ rfl ?_ | refine kR _ ?_); try clear kN kE kX kR Qb)) | (refine Exists.intro _ (And.intro e1 ?_)) | (refine And.intro (by kernel_rfl) ?_) | (refine stpQ ?_))
     refine ⟨(lv + 1, up, S3), ⟨hlt8, i1, by rw [hm2]; exact i2, by show up.length ≤ 1000; omega, by show _ = S3 ++ sdA l w (8 - (lv + 1)) (lv + 1) up; rw [hm2]; exact hSd⟩, (by show 8 - (lv + 1) < 8 - lv; omega), ?_⟩
     (refine z00 (by rfl) ?_ ?_) <;> (repeat' (first | (exact eqA) | (refine And.intro ?_ ?_) | ((fail_if_success (with_reducible (show _ = _))); (show _ = _)))) <;> rfl
   ·have hl8 : lv = 8 := by omega
    subst hl8
    have f4 : ¬ (8 - ((8 : Nat) : Int)) ≥ 1 := by omega
    have ez : sdA l w (8 - 8) 8 L = [] := zcO l w 8 L
    rw [ez, List.append_nil] at hSd
    rw [hSd]
    clear hSd hL hL2
    repeat ((try conv => whnf); first | (with_reducible first | refine z0b (fun Qs hN hE hR => ?_) | refine z09 ?_ | refine z02 (fun Qb kN kE kX kR => ?_) | refine z04 ?_ | refine z05 ?_ | refine z0a ?_ | refine z06 ?_ | refine z07 ?_ | (show W _ _ _ (.cond _ _ _) _ _; refine z03 rfl ?_) | (refine hN _ ?_; try clear hN hE hR Qs; (try (conv => arg 6; dsimp only [ovl, List.set, List.map, ren0]))) | ((first | refine hE _ _ ?_ | refine hR _ ?_); try clear hN hE hR Qs) | ((first | refine kN _ ?_ | refine kE _ ?_ | refine kX _ _ rfl ?_ | refine kR _ ?_); try clear kN kE kX kR Qb)) | (refine z0m f4 ?_) | (refine stpQ ?_))
    (refine z00 (by rfl) ?_ ?_) <;> (repeat' (first | (exact eqA) | (refine And.intro ?_ ?_) | ((fail_if_success (with_reducible (show _ = _))); (show _ = _)))) <;> rfl
  ·generalize sdA l w 8 0 K = SS at *
   repeat ((try conv => whnf); first | (with_reducible first | refine z0b (fun Qs hN hE hR => ?_) | refine z09 ?_ | refine z02 (fun Qb kN kE kX kR => ?_) | refine z04 ?_ | refine z05 ?_ | refine z0a ?_ | refine z06 ?_ | refine z07 ?_ | (show W _ _ _ (.cond _ _ _) _ _; refine z03 rfl ?_) | (refine hN _ ?_; try clear hN hE hR Qs; (try (conv => arg 6; dsimp only [ovl, List.set, List.map, ren0]))) | ((first | refine hE _ _ ?_ | refine hR _ ?_); try clear hN hE hR Qs) | ((first | refine kN _ ?_ | refine kE _ ?_ | refine kX _ _ rfl ?_ | refine kR _ ?_); try clear kN kE kX kR Qb)) | (refine And.intro (by kernel_rfl) ?_) | (refine stpQ ?_))
   (refine z01 (by rfl) ?_ ?_ (by rfl)) <;> (repeat' (first | (exact eqA) | (refine And.intro ?_ ?_) | ((fail_if_success (with_reducible (show _ = _))); (show _ = _)))) <;> first | rfl | exact CvE.refl _
end
end Go.Proofs.YtceegbenenakaaaGreatDoor
