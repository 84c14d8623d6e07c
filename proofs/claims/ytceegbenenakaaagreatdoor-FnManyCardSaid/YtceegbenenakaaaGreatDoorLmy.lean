/- Functions by content: the law of proofs of many. -/
import Derived.Test.YtceegbenenakaaaGreatDoorMp
import Derived.Test.YtceegbenenakaaaGreatDoorMrv
import Derived.Test.YtceegbenenakaaaGreatDoorMro
import Derived.Test.YtceegbenenakaaaGreatDoorMsy
import Derived.Test.YtceegbenenakaaaGreatDoorDnm
import Derived.Test.YtceegbenenakaaaGreatDoorFc
namespace Go.Proofs.YtceegbenenakaaaGreatDoor
set_option linter.unusedVariables false
set_option linter.unusedSimpArgs false
set_option linter.unusedSectionVars false
open Go.RowKit Pl
def nobB : Bs := [110, 111, 98, 111, 100, 121, 48, 110, 111, 110, 101]
theorem z7t {names : List Bs} {bks : List (List Lf)} {sides : List Bs} {w : Int} (hm : z3W names bks sides w = true) : CT Tryz.prog 14 [] [.str (z3H names bks sides), .int .i64 w] (.tup [.agg [.ref 1, .ref 2, .ref 3], .bool true]) [.deep 1 (strE names) [], .deep 1 (vwD bks) [], .deep 1 (strE sides) []] := by
 obtain ⟨n1, n8, nm, b8, bl, w0, sw, s64⟩ := z29 hm
 obtain ⟨t, hT⟩ : ∃ t, t = z3H names bks sides := ⟨_, rfl⟩
 rw [← hT]
 have e0 : t.drop 0 = z0e names.length ++ (names.flatMap z0c ++ (z0e bks.length ++ (bks.flatMap bkT ++ (z0e sides.length ++ (sides.flatten ++ []))))) := by rw [List.drop_zero, hT, z3H, List.append_nil]
 have hlen := congrArg List.length e0
 simp only [List.drop_zero, List.length_append, List.length_nil] at hlen
 have e1 := z27 rfl e0
 have e2 := z27 rfl e1
 have e3 := z27 rfl e2
 have e4 := z27 rfl e3
 have e5 := z27 rfl e4
 have r0 := z3g (by omega) e0 false
 have r1 := nm_dec nm e1
 have r2 := z3g (by omega) e2 false
 have r3 := bk_dec bl e3
 have r4 := z3g (by omega) e4 false
 have r5 := sd_dec sw e5
 have m1 : min names.length 9 = names.length := by omega
 have m2 : min bks.length 9 = bks.length := by omega
 have z1 := z1r (n := names.length) (by omega)
 have z2 := z1r (n := bks.length) (by omega)
 have z3 := z1r (n := sides.length) (by omega)
 have z4 := za5 (f := z0c) (c := 22) (l := names) fun x hx => by
  have h1 := nm x hx
  have := z1d (l := x) (by omega)
  omega
 have z5 := za5 (f := bkT) (c := 1110) (l := bks) fun x hx => zbG (bl x hx)
 have z6 := ze9 (c := 32) (l := sides) fun x hx => by have := sw x hx; omega
 exact z8k t w (by omega) _ _ false names _ false _ _ false bks _ false _ _ false sides _ false r0 (by rw [m1]; exact r1) r2 (by rw [m2]; exact r3) r4 r5 true (by
  rw [z1g.2 w0, hm, decide_eq_true hT.symm]
  have : (0 + (z0e names.length).length + (names.flatMap z0c).length + (z0e bks.length).length + (bks.flatMap bkT).length + (z0e sides.length).length + sides.flatten.length) = t.length := by omega
  rw [this]
  simp [z2J])
theorem zdj (l : List Bs) : ucE (strE l) = strE l := z6n fun e he c hc => by
 simp only [strE, List.mem_map] at he
 obtain ⟨x, _, rfl⟩ := he
 simp only [List.mem_singleton] at hc
 subst hc; rfl
section
attribute [local irreducible] z0s z0x z0C AnsP LeP W CvE
set_option maxRecDepth 100000 in
set_option maxHeartbeats 16000000 in
theorem zbR (c : Bs) : CT Tryz.prog 3 [] [.sl 1 (z0j c)] (.bool true) [] := by
 have cb := c_big c
 by_cases hc : (c.length : Int) ≤ 1048576
 rotate_left
 ·rw [decide_eq_true (show (1048576 : Int) < (c.length : Int) by omega)] at cb
  refine z08 zbN 1 rfl Tryz.func3 rfl rfl rfl ?_
  conv => arg 6; whnf
  repeat ((try conv => whnf); first | (with_reducible first | refine z0b (fun Qs hN hE hR => ?_) | refine z09 ?_ | refine z02 (fun Qb kN kE kX kR => ?_) | refine z04 ?_ | refine z05 ?_ | refine z0a ?_ | refine z06 ?_ | refine z07 ?_ | (show W _ _ _ (.cond _ _ _) _ _; refine z03 rfl ?_) | (refine hN _ ?_; try clear hN hE hR Qs; (try (conv => arg 6; dsimp only [ovl, List.set, List.map, ren0]))) | ((first | refine hE _ _ ?_ | refine hR _ ?_); try clear hN hE hR Qs) | ((first | refine kN _ ?_ | refine kE _ ?_ | refine kX _ _ rfl ?_ | refine kR _ ?_); try clear kN kE kX kR Qb)) | (refine ccA ([]) (cb) ?_) | (refine stpQ ?_))
  (refine z01 (by rfl) ?_ ?_ (by rfl)) <;> (repeat' (first | (exact eqA) | (refine And.intro ?_ ?_) | ((fail_if_success (with_reducible (show _ = _))); (show _ = _))))
 rw [decide_eq_false (show ¬ (1048576 : Int) < (c.length : Int) by omega)] at cb
 obtain ⟨L, ⟨hL, hLs, hL9⟩, cL⟩ := z7i c hc
 obtain ⟨names, ⟨hn, hn1, hn5⟩, cN⟩ := z8m c hc
 obtain ⟨P, ⟨hP, hP12⟩, cP⟩ := z7s c hc
 obtain ⟨p0, r, rfl⟩ : ∃ p0 r, P = p0 :: r := by
  cases P with
  | nil => cases hP12
  | cons a b => exact ⟨a, b, rfl⟩
 have gp : (npE (p0 :: r))[0]? = some [.int .i64 (p0 : Int)] := rfl
 obtain ⟨w, hw⟩ : ∃ w, w = 1 + p0 % 32 := ⟨_, rfl⟩
 have hwi : 1 ≤ w ∧ w ≤ 32 := by omega
 have ew : ((w : Nat) : Int) = IntKind.i64.wrap (1 + ((p0 % 32 : Nat) : Int)) := by rw [wrap_i64 (by omega) (by omega)]; omega
 have hnm : z1v names = true := by
  simp only [z1v, Bool.and_eq_true, List.all_eq_true, decide_eq_true_eq]
  exact ⟨fun s hs => (hn s hs).1, by omega, by omega⟩
 have hm := z3I hL hnm hwi
 have cM := z7r L names w hL hnm hwi
 have cR := z8j L names w hL hnm hwi
 have cO := zbB L w hL hwi
 have hsm := z4R hL
 have hbo := mnB_ok hL names
 have hbl := z4X L names
 have hKn := z2D names
 obtain ⟨_, _, _, _, _, _, _, s64⟩ := z29 hm
 have hsd : (mnS L names w).length ≤ 8 * names.length := by
  rw [show (mnS L names w).length = z25 8 (ixsN names) from z8i L w 8 0 _]
  exact z6o 8 _ _ hKn
 have cT := z4Y names (mnB L names) (mnS L names w) (w : Int) (by omega) (fun s hs => by have := (hn s hs).2; omega) (by omega) hbo (by omega)
 rw [hm] at cT
 change CT _ _ _ _ (.tup [.str (z3H names (mnB L names) (mnS L names w)), .bool true]) _ at cT
 rw [z7p, ← z8d] at cR cT
 have cD := z7t hm
 have cS := z8l names (mnB L names) (mnS L names w) (ucE (vwD (mnB L names))) (z8d _) (ucE (strE names)) (ucE (strE (mnS L names w))) (zdj _) (zdj _) (by omega) (by omega) (fun b hb => by have := (z0z (hbo b hb)).1; omega) (by omega)
 rw [z7p, ← z8d] at cS
 have kS : ∀ i (h : i < names.length), CT Tryz.prog 11 [] [.agg [.sl 1 (strE names), .sl 1 (ucE (vwD (mnB L names))), .sl 1 (strE (mnS L names w))], .str names[i]] (.tup [.str ((z0A L names[i]).getD []), .bool (z0A L names[i]).isSome, .bool true]) [] := fun i h => by
  have c := z4Z L names (strE (mnS L names w)) names[i] hL hnm (by have := (hn _ (List.getElem_mem h)).2; omega)
  rw [decide_eq_true (List.getElem_mem h), Bool.true_and, z7p, ← z8d] at c
  exact c
 have cZ : CT Tryz.prog 11 [] [.agg [.sl 1 (strE names), .sl 1 (ucE (vwD (mnB L names))), .sl 1 (strE (mnS L names w))], .str nobB] (.tup [.str [], .bool false, .bool false]) [] := by
  have c := z4Z L names (strE (mnS L names w)) nobB hL hnm (by decide)
  rw [decide_eq_false (fun hx => by have := (hn _ hx).2; exact absurd this (by decide)), Bool.false_and, z7p, ← z8d] at c
  exact c
 have kG : ∀ i (h : i < names.length), CT Tryz.prog 12 [] [.sl 2 (lvE L), .str names[i]] (.tup [.str ((z0A L names[i]).getD []), .bool (z0A L names[i]).isSome]) [] := fun i h => za0 L names[i] (by omega)
 have hne := z0g names
 have hse := z0g (mnS L names w)
 have e8 : ((8 * names.length : Nat) : Int) = IntKind.i64.wrap (8 * ((names.length : Nat) : Int)) := by rw [wrap_i64 (by omega) (by omega)]; omega
 have fle : (((mnS L names w).length : Nat) : Int) ≤ ((8 * names.length : Nat) : Int) := by omega
 have hOw : ∀ e ∈ [Ent.row 1 (strE names), Ent.deep 1 (vwD (mnB L names)) [], Ent.row 1 (strE (mnS L names w))], ownE e := fun e he => by
  simp only [List.mem_cons, List.not_mem_nil, or_false] at he
  rcases he with rfl | rfl | rfl
  ·exact z9j _
  ·trivial
  ·exact z9j _
 unfold nobB at cZ
 clear hm hbo hbl hKn hsm hnm hwi hLs hP hP12 hn hw s64 hsd hc
 generalize z3H names (mnB L names) (mnS L names w) = tx at *
 generalize vwD (mnB L names) = VD at *
 generalize mnS L names w = sides at *
 generalize hSE : strE sides = SE at *
 generalize z0f L w 8 0 = root at *
 generalize hLE : lvE L = LE at *
 have fr : root = root := rfl
 refine z08 zbN 1 rfl Tryz.func3 rfl rfl rfl ?_
 conv => arg 6; whnf
 repeat ((try conv => whnf); first | (with_reducible first | refine z0b (fun Qs hN hE hR => ?_) | refine z09 ?_ | refine z02 (fun Qb kN kE kX kR => ?_) | refine z04 ?_ | refine z05 ?_ | refine z0a ?_ | refine z06 ?_ | refine z07 ?_ | (show W _ _ _ (.cond _ _ _) _ _; refine z03 rfl ?_) | (refine hN _ ?_; try clear hN hE hR Qs; (try (conv => arg 6; dsimp only [ovl, List.set, List.map, ren0]))) | ((first | refine hE _ _ ?_ | refine hR _ ?_); try clear hN hE hR Qs) | ((first | refine kN _ ?_ | refine kE _ ?_ | refine kX _ _ rfl ?_ | refine kR _ ?_); try clear kN kE kX kR Qb)) | (refine ccA ([]) (cb) ?_) | (refine ccA ([]) (cL) ?_) | (refine ccA ([]) (cN) ?_) | (refine ccA ([]) (cP) ?_) | (refine i_at gp ?_) | (refine z1u (n := nat_lit 32) ?_) | (refine Exists.intro _ (And.intro ew ?_)) | (refine ccA [] (cM) ?_ (h5 := .inr (And.intro (by simp [own2, own1, own0]) hOw))) | (refine ccA ([]) (cR) ?_) | (refine And.intro (by kernel_rfl) ?_) | (refine stpQ ?_))
 refine z1o Nat (fun i => ⟨[(3, .sl 2 LE), (4, .sl 1 (strE names)), (5, .int .i64 (w : Int)), (6, .ptr 1 0 0), (7, .bool true), (8, .str root), (9, .bool true), (10, .int .i64 (i : Int))], [(1, some (.box [.ref 2, .ref 3, .ref 4])), (2, some (.row 1 (strE names))), (3, some (.deep 1 VD [])), (4, some (.row 1 SE))], 5⟩) (fun i => i ≤ names.length) (fun i => names.length - i) 0 (Nat.zero_le _) ?_ ?_
 ·(refine z00 (by rfl) ?_ ?_)
  all_goals (repeat' (first | (exact trivial) | ((try conv => whnf); first | (exact trivial) | (refine And.intro ?_ ?_))))
  all_goals first
   | rfl
   | decide
   | exact CvE.refl _
 ·intro Q1 hQ1 i hi
  by_cases hlt : i < names.length
  ·have f1 : (i : Int) < ((names.length : Nat) : Int) := by omega
   have gi := z3E hlt
   have k1 := kS i hlt
   have k2 := kG i hlt
   clear kS kG cb cL cN cP cM cR cT cD cS cZ cO
   generalize (z0A L names[i]).getD [] = v at *
   generalize (z0A L names[i]).isSome = o at *
   generalize names[i] = y at *
   have fv : v = v := rfl
   have fo : o = o := rfl
   repeat ((try conv => whnf); first | (with_reducible first | refine z0b (fun Qs hN hE hR => ?_) | refine z09 ?_ | refine z02 (fun Qb kN kE kX kR => ?_) | refine z04 ?_ | refine z05 ?_ | refine z0a ?_ | refine z06 ?_ | refine z07 ?_ | (show W _ _ _ (.cond _ _ _) _ _; refine z03 rfl ?_) | (refine hN _ ?_; try clear hN hE hR Qs; (try (conv => arg 6; dsimp only [ovl, List.set, List.map, ren0]))) | ((first | refine hE _ _ ?_ | refine hR _ ?_); try clear hN hE hR Qs) | ((first | refine kN _ ?_ | refine kE _ ?_ | refine kX _ _ rfl ?_ | refine kR _ ?_); try clear kN kE kX kR Qb)) | (refine Exists.intro names.length (And.intro hne ?_)) | (refine z0i f1 ?_) | (refine i_at gi ?_) | (refine ccA ([]) (k1) ?_) | (refine ccA ([]) (k2) ?_) | (refine z2T fv ?_) | (refine z2T fo ?_) | (refine And.intro (by kernel_rfl) ?_) | (refine stpQ ?_))
   refine ⟨i + 1, hlt, by omega, ?_⟩
   (refine z00 (by rfl) ?_ ?_) <;> (repeat' (first | (exact eqA) | (refine And.intro ?_ ?_) | ((fail_if_success (with_reducible (show _ = _))); (show _ = _)))) <;> rfl
  ·obtain rfl : i = names.length := by omega
   have f1 : ¬ ((names.length : Nat) : Int) < ((names.length : Nat) : Int) := by omega
   clear kS kG
   repeat ((try conv => whnf); first | (with_reducible first | refine z0b (fun Qs hN hE hR => ?_) | refine z09 ?_ | refine z02 (fun Qb kN kE kX kR => ?_) | refine z04 ?_ | refine z05 ?_ | refine z0a ?_ | refine z06 ?_ | refine z07 ?_ | (show W _ _ _ (.cond _ _ _) _ _; refine z03 rfl ?_) | (refine hN _ ?_; try clear hN hE hR Qs; (try (conv => arg 6; dsimp only [ovl, List.set, List.map, ren0]))) | ((first | refine hE _ _ ?_ | refine hR _ ?_); try clear hN hE hR Qs) | ((first | refine kN _ ?_ | refine kE _ ?_ | refine kX _ _ rfl ?_ | refine kR _ ?_); try clear kN kE kX kR Qb)) | (refine Exists.intro names.length (And.intro hne ?_)) | (refine z0m f1 ?_) | (refine stpQ ?_))
   refine hQ1 _ _ ?_
   clear hQ1 Q1
   repeat ((try conv => whnf); first | (with_reducible first | refine z0b (fun Qs hN hE hR => ?_) | refine z09 ?_ | refine z02 (fun Qb kN kE kX kR => ?_) | refine z04 ?_ | refine z05 ?_ | refine z0a ?_ | refine z06 ?_ | refine z07 ?_ | (show W _ _ _ (.cond _ _ _) _ _; refine z03 rfl ?_) | (refine hN _ ?_; try clear hN hE hR Qs; (try (conv => arg 6; dsimp only [ovl, List.set, List.map, ren0]))) | ((first | refine hE _ _ ?_ | refine hR _ ?_); try clear hN hE hR Qs) | ((first | refine kN _ ?_ | refine kE _ ?_ | refine kX _ _ rfl ?_ | refine kR _ ?_); try clear kN kE kX kR Qb)) | (refine ccA ([]) (cZ) ?_) | (refine ccA ([]) (cT) ?_) | (refine ccA ([]) (cD) ?_) | (refine ccA ([]) (cO) ?_) | (refine ccA ([]) (cS) ?_) | (refine z0i fr ?_) | (refine Exists.intro sides.length (And.intro hse ?_)) | (refine Exists.intro names.length (And.intro hne ?_)) | (refine Exists.intro _ (And.intro e8 ?_)) | (refine z0i fle ?_) | (refine And.intro (by kernel_rfl) ?_) | (refine stpQ ?_))
   (refine z01 (by rfl) ?_ ?_ (by rfl)) <;> (repeat' (first | (exact eqA) | (refine And.intro ?_ ?_) | ((fail_if_success (with_reducible (show _ = _))); (show _ = _)))) <;> rfl
end
end Go.Proofs.YtceegbenenakaaaGreatDoor
