/- Functions by content: a coordinator falls and rises. Functions by content: the law FnCoordsUp. Functions by content: the law FnCoordsUp. -/
import Derived.Test.YtkjjacndfieeoaaGreatDoorCix
import Derived.Test.YtkjjacndfieeoaaGreatDoorLox
import Derived.Test.YtkjjacndfieeoaaGreatDoorCbx
import Derived.Test.YtkjjacndfieeoaaGreatDoorLlm
namespace Go.Proofs.YtkjjacndfieeoaaGreatDoor
set_option maxRecDepth 100000
set_option maxHeartbeats 16000000
set_option linter.unusedVariables false
set_option linter.unusedSimpArgs false
set_option linter.unusedSectionVars false
open Go.RowKit Pl
section
attribute [local irreducible] z0m z0n z0q AnsP LeP W CvE
theorem zbv (x : Int) (hd : z0X [] = true) (hB : FlB []) : CT Tryz.prog 64 [] [.agg [.sl 3 (flE [])], .sl 1 [[.int .i64 x]]] (.tup [.agg [.sl 3 (flE [])], .bool true]) [] := by
 have c1 := z2a _ (z1E hB)
 rw [hd] at c1
 have c2 := z1N [] (by simp)
 have f1 : ¬ (0 : Int) < ((0 : Nat) : Int) := by decide
 clear hd hB
 unfold flE at *
 simp only [List.map_cons, List.map_nil] at *
 refine z01 z0r 1 rfl Tryz.func64 rfl rfl rfl ?_
 conv => arg 6; whnf
 repeat ((try conv => whnf); first | (with_reducible first | refine z0c (fun Qs hN hE hR => ?_) | refine z0a ?_ | refine z03 (fun Qb kN kE kX kR => ?_) | refine z06 ?_ | refine z07 ?_ | refine z0b ?_ | refine z08 ?_ | refine z09 ?_ | (show W _ _ _ (.cond _ _ _) _ _; refine z05 rfl ?_) | (refine hN _ ?_; try clear hN hE hR Qs; (try (conv => arg 6; dsimp only [ovl, List.set, List.map, ren0]))) | ((first | refine hE _ _ ?_ | refine hR _ ?_); try clear hN hE hR Qs) | ((first | refine kN _ ?_ | refine kE _ ?_ | refine kX _ _ rfl ?_ | refine kR _ ?_); try clear kN kE kX kR Qb)) | (refine ccA ([]) (c1) ?_) | (refine ccA ([]) (c2) ?_) | (refine Exists.intro 0 (And.intro rfl ?_)) | (refine And.intro (by kernel_rfl) ?_) | (refine stpQ ?_))
 refine z0i 0 ⟨[(4, .ptr 1 0 0), (6, .ptr 2 0 0)], [(1, some (.box [.val nilV])), (2, some (.box [.ref 3])), (3, some (.row 3 []))], 4⟩ Nat (fun i => ⟨[(1, .sl 1 [[.int .i64 x]]), (4, .ptr 1 0 0), (6, .ptr 2 0 0), (18, .int .i64 ((0 : Nat) : Int)), (19, .int .i64 0)], [(1, some (.box [.val nilV])), (2, some (.box [.ref 3])), (3, some (.row 3 []))], 4⟩) (fun i => True) (fun i => 0) 0 trivial ?_ ?_ ?_
 ·(refine z02 (by rfl) ?_ ?_) <;> (repeat' (first | (exact eqA) | (refine And.intro ?_ ?_) | ((fail_if_success (with_reducible (show _ = _))); (show _ = _)))) <;> first | rfl | decide
 ·intro i hi
  repeat ((try conv => whnf); first | (with_reducible first | refine z0c (fun Qs hN hE hR => ?_) | refine z0a ?_ | refine z03 (fun Qb kN kE kX kR => ?_) | refine z06 ?_ | refine z07 ?_ | refine z0b ?_ | refine z08 ?_ | refine z09 ?_ | (show W _ _ _ (.cond _ _ _) _ _; refine z05 rfl ?_) | (refine hN _ ?_; try clear hN hE hR Qs; (try (conv => arg 6; dsimp only [ovl, List.set, List.map, ren0]))) | ((first | refine hE _ _ ?_ | refine hR _ ?_); try clear hN hE hR Qs) | ((first | refine kN _ ?_ | refine kE _ ?_ | refine kX _ _ rfl ?_ | refine kR _ ?_); try clear kN kE kX kR Qb)) | (refine z0o f1 ?_) | (refine And.intro (by kernel_rfl) ?_) | (refine stpQ ?_))
  (refine z02 (by rfl) ?_ ?_) <;> (repeat' (first | (exact eqA) | (refine And.intro ?_ ?_) | ((fail_if_success (with_reducible (show _ = _))); (show _ = _)))) <;> rfl
 ·repeat ((try conv => whnf); first | (with_reducible first | refine z0c (fun Qs hN hE hR => ?_) | refine z0a ?_ | refine z03 (fun Qb kN kE kX kR => ?_) | refine z06 ?_ | refine z07 ?_ | refine z0b ?_ | refine z08 ?_ | refine z09 ?_ | (show W _ _ _ (.cond _ _ _) _ _; refine z05 rfl ?_) | (refine hN _ ?_; try clear hN hE hR Qs; (try (conv => arg 6; dsimp only [ovl, List.set, List.map, ren0]))) | ((first | refine hE _ _ ?_ | refine hR _ ?_); try clear hN hE hR Qs) | ((first | refine kN _ ?_ | refine kE _ ?_ | refine kX _ _ rfl ?_ | refine kR _ ?_); try clear kN kE kX kR Qb)) | (refine And.intro (by kernel_rfl) ?_) | (refine stpQ ?_))
  (refine z00 (by rfl) ?_ ?_ (by rfl)) <;> (repeat' (first | (exact eqA) | (refine And.intro ?_ ?_) | ((fail_if_success (with_reducible (show _ = _))); (show _ = _)))) <;> rfl
theorem zbw (x : Int) (n t : Bs) (ht : t.length ≤ 30000) (hd : z0X [(n, t, (t.length : Int))] = true) (hB : FlB [(n, t, (t.length : Int))]) : CT Tryz.prog 64 [] [.agg [.sl 3 (flE [(n, t, (t.length : Int))])], .sl 1 [[.int .i64 x]]] (.tup [.agg [.sl 3 (flE [(n, t, (t.length : Int))])], .bool true]) [] := by
 have c1 := z2a _ (z1E hB)
 rw [hd] at c1
 have c2 := z1N [(n, t, (t.length : Int))] (by simp)
 have e1 : (if (t.length : Int) < x then (t.length : Int) else x) = (if (t.length : Int) < x then (t.length : Int) else x) := rfl
 obtain ⟨mn, hmn, hml⟩ : ∃ mn : Int, mn = (if (t.length : Int) < x then (t.length : Int) else x) ∧ mn ≤ (t.length : Int) := ⟨_, rfl, by split <;> omega⟩
 have emx : ((t.length : Nat) : Int) = (if ((t.length : Nat) : Int) > mn then ((t.length : Nat) : Int) else mn) := by split <;> omega
 have eT : t.take t.length = t := List.take_length
 have fl : (0 : Int) < ((1 : Nat) : Int) := by decide
 have fl2 : (0 : Int) < 1 := by decide
 have g0 : ([[.int .i64 x]] : List (List T))[0]? = some [.int .i64 x] := rfl
 clear hd hB
 unfold flE at *
 simp only [List.map_cons, List.map_nil] at *
 refine z01 z0r 1 rfl Tryz.func64 rfl rfl rfl ?_
 conv => arg 6; whnf
 repeat ((try conv => whnf); first | (with_reducible first | refine z0c (fun Qs hN hE hR => ?_) | refine z0a ?_ | refine z03 (fun Qb kN kE kX kR => ?_) | refine z06 ?_ | refine z07 ?_ | refine z0b ?_ | refine z08 ?_ | refine z09 ?_ | (show W _ _ _ (.cond _ _ _) _ _; refine z05 rfl ?_) | (refine hN _ ?_; try clear hN hE hR Qs; (try (conv => arg 6; dsimp only [ovl, List.set, List.map, ren0]))) | ((first | refine hE _ _ ?_ | refine hR _ ?_); try clear hN hE hR Qs) | ((first | refine kN _ ?_ | refine kE _ ?_ | refine kX _ _ rfl ?_ | refine kR _ ?_); try clear kN kE kX kR Qb)) | (refine ccA ([]) (c1) ?_) | (refine ccA ([]) (c2) ?_) | (refine Exists.intro 1 (And.intro rfl ?_)) | (refine And.intro (by kernel_rfl) ?_) | (refine stpQ ?_))
 refine z0i 0 ⟨[(4, .ptr 1 0 0), (6, .ptr 2 0 0)], [(1, some (.box [.val nilV])), (2, some (.box [.ref 3])), (3, some (.row 3 [[.str n, .str t, .int .i64 (t.length : Int)]]))], 4⟩ Nat (fun i => ⟨[(1, .sl 1 [[.int .i64 x]]), (4, .ptr 1 0 0), (6, .ptr 2 0 0), (18, .int .i64 ((1 : Nat) : Int)), (19, .int .i64 (i : Int))], [(1, some (.box [.val nilV])), (2, some (.box [.ref 3])), (3, some (.row 3 [[.str n, .str t, .int .i64 (t.length : Int)]]))], 4⟩) (fun i => i ≤ 1) (fun i => 1 - i) 0 (by decide) ?_ ?_ ?_
 ·(refine z02 (by rfl) ?_ ?_) <;> (repeat' (first | (exact eqA) | (refine And.intro ?_ ?_) | ((fail_if_success (with_reducible (show _ = _))); (show _ = _)))) <;> first | rfl | decide
 ·intro i hi
  by_cases hi0 : i = 0
  ·subst hi0
   repeat ((try conv => whnf); first | (with_reducible first | refine z0c (fun Qs hN hE hR => ?_) | refine z0a ?_ | refine z03 (fun Qb kN kE kX kR => ?_) | refine z06 ?_ | refine z07 ?_ | refine z0b ?_ | refine z08 ?_ | refine z09 ?_ | (show W _ _ _ (.cond _ _ _) _ _; refine z05 rfl ?_) | (refine hN _ ?_; try clear hN hE hR Qs; (try (conv => arg 6; dsimp only [ovl, List.set, List.map, ren0]))) | ((first | refine hE _ _ ?_ | refine hR _ ?_); try clear hN hE hR Qs) | ((first | refine kN _ ?_ | refine kE _ ?_ | refine kX _ _ rfl ?_ | refine kR _ ?_); try clear kN kE kX kR Qb)) | (refine z0k fl ?_) | (refine z0k fl2 ?_) | (refine Exists.intro 1 (And.intro rfl ?_)) | (refine i_at g0 ?_) | (refine Exists.intro _ (And.intro hmn ?_)) | (refine Exists.intro _ (And.intro emx ?_)) | (refine Exists.intro t.length (And.intro rfl (And.intro (Nat.le_refl _) ?_))) | (refine Exists.intro 0 (And.intro rfl (And.intro (by decide) ?_))) | (refine Exists.intro _ (And.intro rfl ?_)) | (refine And.intro (by kernel_rfl) ?_) | (refine stpQ ?_))
   refine ⟨1, by decide, by decide, ?_⟩
   rw [eT]
   (refine z02 (by rfl) ?_ ?_) <;> (repeat' (first | (exact eqA) | (refine And.intro ?_ ?_) | ((fail_if_success (with_reducible (show _ = _))); (show _ = _)))) <;> first | rfl | (simp; done)
  ·obtain rfl : i = 1 := by omega
   have f1 : ¬ ((1 : Nat) : Int) < ((1 : Nat) : Int) := by decide
   repeat ((try conv => whnf); first | (with_reducible first | refine z0c (fun Qs hN hE hR => ?_) | refine z0a ?_ | refine z03 (fun Qb kN kE kX kR => ?_) | refine z06 ?_ | refine z07 ?_ | refine z0b ?_ | refine z08 ?_ | refine z09 ?_ | (show W _ _ _ (.cond _ _ _) _ _; refine z05 rfl ?_) | (refine hN _ ?_; try clear hN hE hR Qs; (try (conv => arg 6; dsimp only [ovl, List.set, List.map, ren0]))) | ((first | refine hE _ _ ?_ | refine hR _ ?_); try clear hN hE hR Qs) | ((first | refine kN _ ?_ | refine kE _ ?_ | refine kX _ _ rfl ?_ | refine kR _ ?_); try clear kN kE kX kR Qb)) | (refine z0o f1 ?_) | (refine And.intro (by kernel_rfl) ?_) | (refine stpQ ?_))
   (refine z02 (by rfl) ?_ ?_) <;> (repeat' (first | (exact eqA) | (refine And.intro ?_ ?_) | ((fail_if_success (with_reducible (show _ = _))); (show _ = _)))) <;> rfl
 ·repeat ((try conv => whnf); first | (with_reducible first | refine z0c (fun Qs hN hE hR => ?_) | refine z0a ?_ | refine z03 (fun Qb kN kE kX kR => ?_) | refine z06 ?_ | refine z07 ?_ | refine z0b ?_ | refine z08 ?_ | refine z09 ?_ | (show W _ _ _ (.cond _ _ _) _ _; refine z05 rfl ?_) | (refine hN _ ?_; try clear hN hE hR Qs; (try (conv => arg 6; dsimp only [ovl, List.set, List.map, ren0]))) | ((first | refine hE _ _ ?_ | refine hR _ ?_); try clear hN hE hR Qs) | ((first | refine kN _ ?_ | refine kE _ ?_ | refine kX _ _ rfl ?_ | refine kR _ ?_); try clear kN kE kX kR Qb)) | (refine And.intro (by kernel_rfl) ?_) | (refine stpQ ?_))
  (refine z00 (by rfl) ?_ ?_ (by rfl)) <;> (repeat' (first | (exact eqA) | (refine And.intro ?_ ?_) | ((fail_if_success (with_reducible (show _ = _))); (show _ = _)))) <;> rfl
theorem ze0 (x : Int) (n : Bs) (hn : 1 ≤ n.length ∧ n.length ≤ 8) (ts : List Bs) (h : (logB ts).length ≤ 18000) : CT Tryz.prog 64 [] [.agg [.sl 3 (flE (dkOf n ts))], .sl 1 [[.int .i64 x]]] (.tup [.agg [.sl 3 (flE (dkOf n ts))], .bool true]) [] := by
 have r3 := z7Q hn h
 have r4 := z1k (n := n) hn.2 h
 by_cases e : ts = []
 ·subst e
  rw [zct] at r3 r4 ⊢
  exact zbv x r3 r4
 ·rw [z3k e] at r3 r4 ⊢
  exact zbw x n (logB ts) (by omega) r3 r4
def risC (K : Nat) (c : Co) : Co := ⟨c.ts, c.s, false, emN K, emF K⟩
theorem zjm {ho K m : Nat} {c : Co} (h : CoOk ho K m c) : CoOk ho K m (risC K c) := ⟨h.lg, z6J K, zbb K, fun v hv => .inl (z4R hv), fun _ => rfl, fun e => (by cases e)⟩
theorem zgf {ho K m : Nat} (hh : ho ≤ 2) (hK : K ≤ 2) {c : Co} (h : CoOk ho K m c) (hm : m ≤ 100) : CT Tryz.prog 25 [] [.int .i64 (ho : Int), .int .i64 (K : Int), .agg [.sl 3 (flE (dkOf coordN c.ts))]] (.agg (coE (ho : Int) (K : Int) (z0g (z0j ho) 16) (risC K c))) [] := by
 have hz : (logB c.ts).length ≤ 18000 := by have := h.lg.small hh hm; omega
 have c1 := z7T ho hh K hK (dkOf coordN c.ts) (z1E (z1k (by decide) hz))
 have e1 : z0N (dkOf coordN c.ts) z0P = c.ts := by rw [← za7]; exact z7R (by decide) h.lg.tl hz
 rw [e1, ← h.lg.sv, cvE, ← z8R, ← zhg] at c1
 exact c1
theorem zjn (x : Int) (ts : List Bs) (h : (logB ts).length ≤ 18000) : CT Tryz.prog 26 [] [.agg [.sl 3 (flE (dkOf coordN ts))], .sl 1 [[.int .i64 x]]] (.agg [.sl 3 (flE (dkOf coordN ts))]) [] := by
 have c1 := ze0 x coordN (by decide) ts h
 generalize flE (dkOf coordN ts) = d0 at *
 refine z01 z0r 1 rfl Tryz.func26 rfl rfl rfl ?_
 conv => arg 6; whnf
 repeat ((try conv => whnf); first | (with_reducible first | refine z0c (fun Qs hN hE hR => ?_) | refine z0a ?_ | refine z03 (fun Qb kN kE kX kR => ?_) | refine z06 ?_ | refine z07 ?_ | refine z0b ?_ | refine z08 ?_ | refine z09 ?_ | (show W _ _ _ (.cond _ _ _) _ _; refine z05 rfl ?_) | (refine hN _ ?_; try clear hN hE hR Qs; (try (conv => arg 6; dsimp only [ovl, List.set, List.map, ren0]))) | ((first | refine hE _ _ ?_ | refine hR _ ?_); try clear hN hE hR Qs) | ((first | refine kN _ ?_ | refine kE _ ?_ | refine kX _ _ rfl ?_ | refine kR _ ?_); try clear kN kE kX kR Qb)) | (refine ccA ([]) (c1) ?_) | (refine And.intro (by kernel_rfl) ?_) | (refine stpQ ?_))
 (refine z00 (by rfl) ?_ ?_ (by rfl)) <;> (repeat' (first | (exact eqA) | (refine And.intro ?_ ?_) | ((fail_if_success (with_reducible (show _ = _))); (show _ = _)))) <;> first | rfl | (simp; done)
theorem zaj {ho K m : Nat} (hh : ho ≤ 2) (hK : K ≤ 2) {c : Co} (h : CoOk ho K m c) (hm : m ≤ 100) (up ak : Bool) (y x : Int) (P S R V D : List (List T)) : CT Tryz.prog 8 [] [.agg [.int .i64 (ho : Int), .int .i64 (K : Int), .bool up, .sl 3 (flE (dkOf coordN c.ts)), .sl 1 P, .sl 8 S, .sl 1 R, .int .i64 y, .bool ak, .sl 1 V, .sl 1 D], .sl 1 [[.int .i64 x]]] (.agg [.int .i64 (ho : Int), .int .i64 (K : Int), .bool false, .sl 3 (flE (dkOf coordN c.ts)), .sl 1 (strE (z0g (z0j ho) 16)), .sl 8 (slE c.s.se), .sl 1 (ntE c.s.tr), .int .i64 (c.s.ty : Int), .bool false, .sl 1 (strE (emN K)), .sl 1 (boE (emF K))]) [] := by
 have c1 := zgf hh hK h hm
 have c2 := zjn x c.ts (by have := h.lg.small hh hm; omega)
 unfold coE risC at c1
 (try dsimp only at c1)
 generalize flE (dkOf coordN c.ts) = d0 at *
 generalize slE c.s.se = SE at *
 generalize ntE c.s.tr = TR at *
 generalize strE (z0g (z0j ho) 16) = PO at *
 generalize strE (emN K) = EV at *
 generalize boE (emF K) = ED at *
 generalize (c.s.ty : Int) = ty at *
 refine z01 z0r 1 rfl Tryz.func8 rfl rfl rfl ?_
 conv => arg 6; whnf
 repeat ((try conv => whnf); first | (with_reducible first | refine z0c (fun Qs hN hE hR => ?_) | refine z0a ?_ | refine z03 (fun Qb kN kE kX kR => ?_) | refine z06 ?_ | refine z07 ?_ | refine z0b ?_ | refine z08 ?_ | refine z09 ?_ | (show W _ _ _ (.cond _ _ _) _ _; refine z05 rfl ?_) | (refine hN _ ?_; try clear hN hE hR Qs; (try (conv => arg 6; dsimp only [ovl, List.set, List.map, ren0]))) | ((first | refine hE _ _ ?_ | refine hR _ ?_); try clear hN hE hR Qs) | ((first | refine kN _ ?_ | refine kE _ ?_ | refine kX _ _ rfl ?_ | refine kR _ ?_); try clear kN kE kX kR Qb)) | (refine ccA ([]) (c2) ?_) | (refine ccA ([]) (c1) ?_) | (refine And.intro (by kernel_rfl) ?_) | (refine stpQ ?_))
 (refine z00 (by rfl) ?_ ?_ (by rfl)) <;> (repeat' (first | (exact eqA) | (refine And.intro ?_ ?_) | ((fail_if_success (with_reducible (show _ = _))); (show _ = _)))) <;> first | rfl | (simp; done)
theorem zak {ho K m : Nat} (hh : ho ≤ 2) (hK : K ≤ 2) {c : Co} (h : CoOk ho K m c) (hm : m ≤ 100) (ak : Bool) (y : Int) (P S R V D : List (List T)) : CT Tryz.prog 9 [] [.agg [.int .i64 (ho : Int), .int .i64 (K : Int), .bool false, .sl 3 (flE (dkOf coordN c.ts)), .sl 1 P, .sl 8 S, .sl 1 R, .int .i64 y, .bool ak, .sl 1 V, .sl 1 D]] (.agg (coE (ho : Int) (K : Int) (z0g (z0j ho) 16) (risC K c))) [] := by
 have c1 := zgf hh hK h hm
 unfold coE risC
 (try dsimp only)
 unfold coE risC at c1
 (try dsimp only at c1)
 generalize flE (dkOf coordN c.ts) = d0 at *
 generalize slE c.s.se = SE at *
 generalize ntE c.s.tr = TR at *
 generalize strE (z0g (z0j ho) 16) = PO at *
 generalize strE (emN K) = EV at *
 generalize boE (emF K) = ED at *
 generalize (c.s.ty : Int) = ty at *
 refine z01 z0r 1 rfl Tryz.func9 rfl rfl rfl ?_
 conv => arg 6; whnf
 repeat ((try conv => whnf); first | (with_reducible first | refine z0c (fun Qs hN hE hR => ?_) | refine z0a ?_ | refine z03 (fun Qb kN kE kX kR => ?_) | refine z06 ?_ | refine z07 ?_ | refine z0b ?_ | refine z08 ?_ | refine z09 ?_ | (show W _ _ _ (.cond _ _ _) _ _; refine z05 rfl ?_) | (refine hN _ ?_; try clear hN hE hR Qs; (try (conv => arg 6; dsimp only [ovl, List.set, List.map, ren0]))) | ((first | refine hE _ _ ?_ | refine hR _ ?_); try clear hN hE hR Qs) | ((first | refine kN _ ?_ | refine kE _ ?_ | refine kX _ _ rfl ?_ | refine kR _ ?_); try clear kN kE kX kR Qb)) | (refine ccA ([]) (c1) ?_) | (refine And.intro (by kernel_rfl) ?_) | (refine stpQ ?_))
 (refine z00 (by rfl) ?_ ?_ (by rfl)) <;> (repeat' (first | (exact eqA) | (refine And.intro ?_ ?_) | ((fail_if_success (with_reducible (show _ = _))); (show _ = _)))) <;> first | rfl | (simp; done)
end
end Go.Proofs.YtkjjacndfieeoaaGreatDoor
namespace Go.Proofs.YtkjjacndfieeoaaGreatDoor
set_option maxRecDepth 100000
set_option maxHeartbeats 8000000
set_option linter.unusedVariables false
set_option linter.unusedSimpArgs false
set_option linter.unusedSectionVars false
open Go.RowKit Pl
section
attribute [local irreducible] z0m z0n z0q AnsP LeP W CvE
theorem c_up4 (c : Bs) (cb : CT Tryz.prog 5 [] [.sl 1 (z0h c)] (.bool false) []) (ho K : Int) (pk n yn : Nat) (hK : 0 ≤ K ∧ K ≤ 2) (e1 : IntKind.i64.wrap (1 * 2 ^ K.toNat) = (pk : Int)) (hpk : 1 ≤ pk ∧ pk ≤ 4) (PO F S R V0 D0 V D : List (List T)) (y : Int) (hy : y = (yn : Int)) (hyn : yn ≤ 100) (A0 : Bool) (ps : List Nat) (hps : ps.length = 12) (dg : Bs)
 (cD : CT Tryz.prog 6 [] [.sl 1 (z0h c)] (.agg [.int .i64 ho, .int .i64 K, .bool true, .sl 3 F, .sl 1 PO, .sl 8 S, .sl 1 R, .int .i64 y, .bool A0, .sl 1 V0, .sl 1 D0]) [])
 (cP : CT Tryz.prog 7 [] [.sl 1 (z0h c)] (.ref 1) [.row 1 (ntE ps)])
 (cF : ∀ x : Int, CT Tryz.prog 8 [] [.agg [.int .i64 ho, .int .i64 K, .bool true, .sl 3 F, .sl 1 PO, .sl 8 S, .sl 1 R, .int .i64 y, .bool A0, .sl 1 V0, .sl 1 D0], .sl 1 [[.int .i64 x]]] (.agg [.int .i64 ho, .int .i64 K, .bool false, .sl 3 F, .sl 1 PO, .sl 8 S, .sl 1 R, .int .i64 y, .bool false, .sl 1 V, .sl 1 D]) [])
 (cU : CT Tryz.prog 9 [] [.agg [.int .i64 ho, .int .i64 K, .bool false, .sl 3 F, .sl 1 PO, .sl 8 S, .sl 1 R, .int .i64 y, .bool false, .sl 1 V, .sl 1 D]] (.agg [.int .i64 ho, .int .i64 K, .bool true, .sl 3 F, .sl 1 PO, .sl 8 S, .sl 1 R, .int .i64 y, .bool false, .sl 1 V, .sl 1 D]) []) (hS : S.length = n) (hn : n ≤ 4)
 (cL : CT Tryz.prog 11 [] [.sl 8 S, .sl 8 S] (.bool true) [])
 (cO : CT Tryz.prog 12 [] [.agg [.int .i64 ho, .int .i64 K, .bool true, .sl 3 F, .sl 1 PO, .sl 8 S, .sl 1 R, .int .i64 y, .bool false, .sl 1 V, .sl 1 D]] (.bool true) [])
 (cX : CT Tryz.prog 14 [] [.str [120], .int .i64 16] (.str dg) [])
 (cH : CT Tryz.prog 13 [] [.agg [.int .i64 ho, .int .i64 K, .bool true, .sl 3 F, .sl 1 PO, .sl 8 S, .sl 1 R, .int .i64 y, .bool false, .sl 1 V, .sl 1 D], .agg [.int .i64 2, .int .i64 1, .int .i64 0, .int .i64 ((n % 4 + 1 : Nat) : Int), .int .i64 ((yn % 1000 + 1 : Nat) : Int), .str dg]] (.tup [.agg [.int .i64 ho, .int .i64 K, .bool true, .sl 3 F, .sl 1 PO, .sl 8 S, .sl 1 R, .int .i64 y, .bool false, .sl 1 V, .sl 1 D], .sl 6 []]) [])
 (cC : CT Tryz.prog 15 [] [.agg [.int .i64 ho, .int .i64 K, .bool true, .sl 3 F, .sl 1 PO, .sl 8 S, .sl 1 R, .int .i64 y, .bool false, .sl 1 V, .sl 1 D], .agg [.int .i64 ho, .int .i64 K, .bool true, .sl 3 F, .sl 1 PO, .sl 8 S, .sl 1 R, .int .i64 y, .bool false, .sl 1 V, .sl 1 D]] (.bool true) []) (h4 : 4 ≤ n) (cB : CT Tryz.prog 10 [] [.agg [.int .i64 ho, .int .i64 K, .bool true, .sl 3 F, .sl 1 PO, .sl 8 S, .sl 1 R, .int .i64 y, .bool false, .sl 1 V, .sl 1 D]] (.tup [.agg [.int .i64 ho, .int .i64 K, .bool true, .sl 3 F, .sl 1 PO, .sl 8 S, .sl 1 R, .int .i64 y, .bool false, .sl 1 V, .sl 1 D], .sl 6 []]) []) : CT Tryz.prog 3 [] [.sl 1 (z0h c)] (.bool true) [] := by
 have gP : (ntE ps)[0]? = some [.int .i64 ((ps.getD 0 0 : Nat) : Int)] := by
  cases ps with
  | nil => cases hps
  | cons x l => rfl
 have hPL : 0 < (ntE ps).length := by rw [z7A]; omega
 generalize ps.getD 0 0 = p0 at gP
 generalize ntE ps = PL at *
 have cF1 := cF ((p0 : Int).tmod 3000)
 clear cF
 have eu : IntKind.u64.wrap K = K := by
  show K % 18446744073709551616 = _
  omega
 have r1 : ((n % 4 : Nat) : Int) = ((n : Nat) : Int).tmod 4 := (Int.ofNat_tmod n 4).symm ▸ rfl
 have r2 : ((yn % 1000 : Nat) : Int) = ((yn : Nat) : Int).tmod 1000 := (Int.ofNat_tmod yn 1000).symm ▸ rfl
 have w1 : IntKind.i64.wrap (((n % 4 : Nat) : Int) + 1) = ((n % 4 + 1 : Nat) : Int) := by rw [wrap_i64 (by omega) (by omega)]; omega
 have w2 : IntKind.i64.wrap (((yn % 1000 : Nat) : Int) + 1) = ((yn % 1000 + 1 : Nat) : Int) := by rw [wrap_i64 (by omega) (by omega)]; omega
 have z0 : (0 : Int) = 0 := rfl
 subst hy
 have fy : ((yn : Nat) : Int) = ((yn : Nat) : Int) := rfl
 have f4 : (n : Int) ≥ 4 := by omega
 refine z01 z0r 1 rfl Tryz.func3 rfl rfl rfl ?_
 conv => arg 6; whnf
 repeat ((try conv => whnf); first | (with_reducible first | refine z0c (fun Qs hN hE hR => ?_) | refine z0a ?_ | refine z03 (fun Qb kN kE kX kR => ?_) | refine z06 ?_ | refine z07 ?_ | refine z0b ?_ | refine z08 ?_ | refine z09 ?_ | (show W _ _ _ (.cond _ _ _) _ _; refine z05 rfl ?_) | (refine hN _ ?_; try clear hN hE hR Qs; (try (conv => arg 6; dsimp only [ovl, List.set, List.map, ren0]))) | ((first | refine hE _ _ ?_ | refine hR _ ?_); try clear hN hE hR Qs) | ((first | refine kN _ ?_ | refine kE _ ?_ | refine kX _ _ rfl ?_ | refine kR _ ?_); try clear kN kE kX kR Qb)) | (refine ccA ([]) (cb) ?_) | (refine ccA ([]) (cD) ?_) | (refine ccA ([]) (cP) ?_) | (refine And.intro hPL ?_) | (refine Exists.intro _ (And.intro gP ?_)) | (refine Exists.intro n (And.intro hS ?_)) | (refine Exists.intro _ (And.intro r1 ?_)) | (refine Exists.intro _ (And.intro r2 ?_)) | (refine Exists.intro _ (And.intro w1.symm ?_)) | (refine Exists.intro _ (And.intro w2.symm ?_)) | (refine zeI ([]) (cF1) (by ((repeat' (first | (exact trivial) | (exact rfl) | (decide) | (refine And.intro ?_ ?_))); first | done | fail)) (by ((repeat' (first | (exact trivial) | (exact rfl) | (decide) | (refine And.intro ?_ ?_))); first | done | fail)) (by decide) (by rfl) (by first | exact .inl rfl | (refine .inr ⟨?_, ?_⟩ <;> simp [own2, own1, own0, ownE])) ?_) | (refine ccA ([]) (cU) ?_) | (refine ccA ([]) (cB) ?_) | (refine ccA ([]) (cL) ?_) | (refine z0F fy ?_) | (refine ccA ([]) (cO) ?_) | (refine ccA ([]) (cX) ?_) | (refine ccA ([]) (cH) ?_) | (refine ccA ([]) (cC) ?_) | (refine z0k z0 ?_) | (refine z0k f4 ?_) | (refine Exists.intro _ (And.intro rfl ?_)) | (refine And.intro (by kernel_rfl) ?_) | (refine stpQ ?_))
 (refine z00 (by rfl) ?_ ?_ (by rfl)) <;> (repeat' (first | (exact eqA) | (refine And.intro ?_ ?_) | ((fail_if_success (with_reducible (show _ = _))); (show _ = _)))) <;> first | rfl | (simp; done)
theorem c_upW (c : Bs) (cb : CT Tryz.prog 5 [] [.sl 1 (z0h c)] (.bool false) []) (ho K : Int) (pk n yn : Nat) (hK : 0 ≤ K ∧ K ≤ 2) (e1 : IntKind.i64.wrap (1 * 2 ^ K.toNat) = (pk : Int)) (hpk : 1 ≤ pk ∧ pk ≤ 4) (PO F S R V0 D0 V D : List (List T)) (y : Int) (hy : y = (yn : Int)) (hyn : yn ≤ 100) (A0 : Bool) (ps : List Nat) (hps : ps.length = 12) (dg : Bs)
 (cD : CT Tryz.prog 6 [] [.sl 1 (z0h c)] (.agg [.int .i64 ho, .int .i64 K, .bool true, .sl 3 F, .sl 1 PO, .sl 8 S, .sl 1 R, .int .i64 y, .bool A0, .sl 1 V0, .sl 1 D0]) [])
 (cP : CT Tryz.prog 7 [] [.sl 1 (z0h c)] (.ref 1) [.row 1 (ntE ps)])
 (cF : ∀ x : Int, CT Tryz.prog 8 [] [.agg [.int .i64 ho, .int .i64 K, .bool true, .sl 3 F, .sl 1 PO, .sl 8 S, .sl 1 R, .int .i64 y, .bool A0, .sl 1 V0, .sl 1 D0], .sl 1 [[.int .i64 x]]] (.agg [.int .i64 ho, .int .i64 K, .bool false, .sl 3 F, .sl 1 PO, .sl 8 S, .sl 1 R, .int .i64 y, .bool false, .sl 1 V, .sl 1 D]) [])
 (cU : CT Tryz.prog 9 [] [.agg [.int .i64 ho, .int .i64 K, .bool false, .sl 3 F, .sl 1 PO, .sl 8 S, .sl 1 R, .int .i64 y, .bool false, .sl 1 V, .sl 1 D]] (.agg [.int .i64 ho, .int .i64 K, .bool true, .sl 3 F, .sl 1 PO, .sl 8 S, .sl 1 R, .int .i64 y, .bool false, .sl 1 V, .sl 1 D]) []) (hS : S.length = n) (hn : n ≤ 4)
 (cL : CT Tryz.prog 11 [] [.sl 8 S, .sl 8 S] (.bool true) [])
 (cO : CT Tryz.prog 12 [] [.agg [.int .i64 ho, .int .i64 K, .bool true, .sl 3 F, .sl 1 PO, .sl 8 S, .sl 1 R, .int .i64 y, .bool false, .sl 1 V, .sl 1 D]] (.bool true) [])
 (cX : CT Tryz.prog 14 [] [.str [120], .int .i64 16] (.str dg) [])
 (cH : CT Tryz.prog 13 [] [.agg [.int .i64 ho, .int .i64 K, .bool true, .sl 3 F, .sl 1 PO, .sl 8 S, .sl 1 R, .int .i64 y, .bool false, .sl 1 V, .sl 1 D], .agg [.int .i64 2, .int .i64 1, .int .i64 0, .int .i64 ((n % 4 + 1 : Nat) : Int), .int .i64 ((yn % 1000 + 1 : Nat) : Int), .str dg]] (.tup [.agg [.int .i64 ho, .int .i64 K, .bool true, .sl 3 F, .sl 1 PO, .sl 8 S, .sl 1 R, .int .i64 y, .bool false, .sl 1 V, .sl 1 D], .sl 6 []]) [])
 (cC : CT Tryz.prog 15 [] [.agg [.int .i64 ho, .int .i64 K, .bool true, .sl 3 F, .sl 1 PO, .sl 8 S, .sl 1 R, .int .i64 y, .bool false, .sl 1 V, .sl 1 D], .agg [.int .i64 ho, .int .i64 K, .bool true, .sl 3 F, .sl 1 PO, .sl 8 S, .sl 1 R, .int .i64 y, .bool false, .sl 1 V, .sl 1 D]] (.bool true) []) (h4 : n < 4) (F2 V2 LB : List (List T)) (A2 : Bool) (y2 : Int) (hy2 : y2 = ((yn + 1 : Nat) : Int)) (hLB : LB.length = pk) (cB : CT Tryz.prog 10 [] [.agg [.int .i64 ho, .int .i64 K, .bool true, .sl 3 F, .sl 1 PO, .sl 8 S, .sl 1 R, .int .i64 y, .bool false, .sl 1 V, .sl 1 D]] (.tup [.agg [.int .i64 ho, .int .i64 K, .bool true, .sl 3 F2, .sl 1 PO, .sl 8 S, .sl 1 R, .int .i64 y2, .bool A2, .sl 1 V2, .sl 1 D], .sl 6 LB]) []) : CT Tryz.prog 3 [] [.sl 1 (z0h c)] (.bool true) [] := by
 have gP : (ntE ps)[0]? = some [.int .i64 ((ps.getD 0 0 : Nat) : Int)] := by
  cases ps with
  | nil => cases hps
  | cons x l => rfl
 have hPL : 0 < (ntE ps).length := by rw [z7A]; omega
 generalize ps.getD 0 0 = p0 at gP
 generalize ntE ps = PL at *
 have cF1 := cF ((p0 : Int).tmod 3000)
 clear cF
 have eu : IntKind.u64.wrap K = K := by
  show K % 18446744073709551616 = _
  omega
 have r1 : ((n % 4 : Nat) : Int) = ((n : Nat) : Int).tmod 4 := (Int.ofNat_tmod n 4).symm ▸ rfl
 have r2 : ((yn % 1000 : Nat) : Int) = ((yn : Nat) : Int).tmod 1000 := (Int.ofNat_tmod yn 1000).symm ▸ rfl
 have w1 : IntKind.i64.wrap (((n % 4 : Nat) : Int) + 1) = ((n % 4 + 1 : Nat) : Int) := by rw [wrap_i64 (by omega) (by omega)]; omega
 have w2 : IntKind.i64.wrap (((yn % 1000 : Nat) : Int) + 1) = ((yn % 1000 + 1 : Nat) : Int) := by rw [wrap_i64 (by omega) (by omega)]; omega
 have z0 : (0 : Int) = 0 := rfl
 subst hy
 have fy : ((yn : Nat) : Int) = ((yn : Nat) : Int) := rfl
 have f4 : ¬ (n : Int) ≥ 4 := by omega
 have q1 : (pk : Int) = (pk : Int) := rfl
 have w3 : IntKind.i64.wrap ((yn : Int) + 1) = ((yn + 1 : Nat) : Int) := by rw [wrap_i64 (by omega) (by omega)]; omega
 have q2 : ((yn + 1 : Nat) : Int) = ((yn + 1 : Nat) : Int) := rfl
 subst hy2
 refine z01 z0r 1 rfl Tryz.func3 rfl rfl rfl ?_
 conv => arg 6; whnf
 repeat ((try conv => whnf); first | (with_reducible first | refine z0c (fun Qs hN hE hR => ?_) | refine z0a ?_ | refine z03 (fun Qb kN kE kX kR => ?_) | refine z06 ?_ | refine z07 ?_ | refine z0b ?_ | refine z08 ?_ | refine z09 ?_ | (show W _ _ _ (.cond _ _ _) _ _; refine z05 rfl ?_) | (refine hN _ ?_; try clear hN hE hR Qs; (try (conv => arg 6; dsimp only [ovl, List.set, List.map, ren0]))) | ((first | refine hE _ _ ?_ | refine hR _ ?_); try clear hN hE hR Qs) | ((first | refine kN _ ?_ | refine kE _ ?_ | refine kX _ _ rfl ?_ | refine kR _ ?_); try clear kN kE kX kR Qb)) | (refine ccA ([]) (cb) ?_) | (refine ccA ([]) (cD) ?_) | (refine ccA ([]) (cP) ?_) | (refine And.intro hPL ?_) | (refine Exists.intro _ (And.intro gP ?_)) | (refine Exists.intro n (And.intro hS ?_)) | (refine Exists.intro _ (And.intro r1 ?_)) | (refine Exists.intro _ (And.intro r2 ?_)) | (refine Exists.intro _ (And.intro w1.symm ?_)) | (refine Exists.intro _ (And.intro w2.symm ?_)) | (refine zeI ([]) (cF1) (by ((repeat' (first | (exact trivial) | (exact rfl) | (decide) | (refine And.intro ?_ ?_))); first | done | fail)) (by ((repeat' (first | (exact trivial) | (exact rfl) | (decide) | (refine And.intro ?_ ?_))); first | done | fail)) (by decide) (by rfl) (by first | exact .inl rfl | (refine .inr ⟨?_, ?_⟩ <;> simp [own2, own1, own0, ownE])) ?_) | (refine ccA ([]) (cU) ?_) | (refine ccA ([]) (cB) ?_) | (refine ccA ([]) (cL) ?_) | (refine z0F fy ?_) | (refine ccA ([]) (cO) ?_) | (refine ccA ([]) (cX) ?_) | (refine ccA ([]) (cH) ?_) | (refine ccA ([]) (cC) ?_) | (refine z0k z0 ?_) | (refine z0o f4 ?_) | (refine Exists.intro _ (And.intro w3.symm ?_)) | (refine z0k q2 ?_) | (refine Exists.intro pk (And.intro hLB ?_)) | (refine And.intro (show _ ≤ (64 : Int) from by omega) ?_) | (refine Exists.intro _ (And.intro e1.symm ?_)) | (refine Exists.intro _ (And.intro eu.symm ?_)) | (refine z0k q1 ?_) | (refine Exists.intro _ (And.intro rfl ?_)) | (refine And.intro (by kernel_rfl) ?_) | (refine stpQ ?_))
 (refine z00 (by rfl) ?_ ?_ (by rfl)) <;> (repeat' (first | (exact eqA) | (refine And.intro ?_ ?_) | ((fail_if_success (with_reducible (show _ = _))); (show _ = _)))) <;> first | rfl | (simp; done)
theorem zjo (c : Bs) (cb : CT Tryz.prog 5 [] [.sl 1 (z0h c)] (.bool true) []) : CT Tryz.prog 3 [] [.sl 1 (z0h c)] (.bool true) [] := by
 refine z01 z0r 1 rfl Tryz.func3 rfl rfl rfl ?_
 conv => arg 6; whnf
 repeat ((try conv => whnf); first | (with_reducible first | refine z0c (fun Qs hN hE hR => ?_) | refine z0a ?_ | refine z03 (fun Qb kN kE kX kR => ?_) | refine z06 ?_ | refine z07 ?_ | refine z0b ?_ | refine z08 ?_ | refine z09 ?_ | (show W _ _ _ (.cond _ _ _) _ _; refine z05 rfl ?_) | (refine hN _ ?_; try clear hN hE hR Qs; (try (conv => arg 6; dsimp only [ovl, List.set, List.map, ren0]))) | ((first | refine hE _ _ ?_ | refine hR _ ?_); try clear hN hE hR Qs) | ((first | refine kN _ ?_ | refine kE _ ?_ | refine kX _ _ rfl ?_ | refine kR _ ?_); try clear kN kE kX kR Qb)) | (refine ccA ([]) (cb) ?_) | (refine And.intro (by kernel_rfl) ?_) | (refine stpQ ?_))
 (refine z00 (by rfl) ?_ ?_ (by rfl)) <;> (repeat' (first | (exact eqA) | (refine And.intro ?_ ?_) | ((fail_if_success (with_reducible (show _ = _))); (show _ = _))))
end
end Go.Proofs.YtkjjacndfieeoaaGreatDoor
namespace Go.Proofs.YtkjjacndfieeoaaGreatDoor
set_option linter.unusedVariables false
set_option linter.unusedSimpArgs false
set_option linter.unusedSectionVars false
open Go.RowKit Pl
section
attribute [local irreducible] z0m z0n z0q AnsP LeP W CvE
set_option maxRecDepth 100000 in
set_option maxHeartbeats 8000000 in
theorem z8X (c : Bs) : CT Tryz.prog 3 [] [.sl 1 (z0h c)] (.bool true) [] := by
 have cb := c_big c
 by_cases hc : (c.length : Int) ≤ 1048576
 rotate_left
 ·rw [decide_eq_true (show (1048576 : Int) < (c.length : Int) by omega)] at cb
  exact zjo c cb
 rw [decide_eq_false (show ¬ (1048576 : Int) < (c.length : Int) by omega)] at cb
 obtain ⟨ho, K, x, ⟨hh, hK, h⟩, cD⟩ := z6O c hc
 obtain ⟨ps, ⟨hp1, hp2⟩, cP⟩ := z4E c hc
 have g := zjm h
 obtain ⟨hz, hg, hl, hf⟩ := zbt hh hK g (by omega)
 obtain ⟨e1, e2⟩ := pow2 hK
 have hpos : 1 ≤ 2 ^ K := Nat.two_pow_pos K
 have hpo : ((z0g (z0j ho) 16).length : Int) ≤ 100000 := by rw [z0H]; decide
 have cF : ∀ y : Int, CT Tryz.prog 8 [] [.agg (coE (ho : Int) (K : Int) (z0g (z0j ho) 16) x), .sl 1 [[.int .i64 y]]] _ [] := fun y => zaj hh hK h (by omega) true x.ask (x.s.ty : Int) y (strE (z0g (z0j ho) 16)) (slE x.s.se) (ntE x.s.tr) (strE x.vo) (boE x.dn)
 have cU := zak hh hK h (by omega) false (x.s.ty : Int) (strE (z0g (z0j ho) 16)) (slE x.s.se) (ntE x.s.tr) (strE (emN K)) (boE (emF K))
 have cL := zcE x.s.se (by have := hl.1; have e : (risC K x).s = x.s := rfl; rw [e] at this; omega) hg
 have cO := zg7 hh hK g (by omega)
 have cX := z3Z [120] 16 (by decide) (by decide)
 have hdl : ((z1c [120]).take 16).length = 16 := by rw [List.length_take, z1s]; rfl
 generalize (z1c [120]).take 16 = dg at cX hdl
 have hty := h.lg.ty
 have ok : z04 2 ((0 + 1 : Nat) : Int) 0 ((x.s.se.length % 4 + 1 : Nat) : Int) ((x.s.ty % 1000 + 1 : Nat) : Int) dg = true := by
  have q1 : inB ((x.s.se.length % 4 + 1 : Nat) : Int) 1 4 = true := z0u.2 (by omega)
  have q2 : inB ((x.s.ty % 1000 + 1 : Nat) : Int) 1 1000 = true := z0u.2 (by omega)
  have q3 : inB ((0 + 1 : Nat) : Int) 1 4 = true := z0u.2 (by omega)
  unfold z04
  rw [q1, q2, if_neg (by decide), if_pos rfl, q3, hdl]
  rfl
 have hv1 : (risC K x).vo.length = 2 ^ K := g.vl
 have hd1 : (risC K x).dn.length = 2 ^ K := g.dl
 have cH := zdS (ho : Int) K (z0g (z0j ho) 16) (risC K x) hz hpo hg hl 0 _ _ dg (by omega) (by omega) ok rfl
 have cC := zcF (ho : Int) (K : Int) (z0g (z0j ho) 16) (risC K x) hf (by rw [z0H]; decide) (by omega) hg (by omega) (by omega) (by omega)
 have hn4 : x.s.se.length ≤ 4 := z1H (h.lg.ok hh)
 by_cases hn : 4 ≤ x.s.se.length
 ·have cB := z6L (ho : Int) K (z0g (z0j ho) 16) (risC K x) hz hpo hg hl rfl hn
  exact c_up4 c cb (ho : Int) (K : Int) (2 ^ K) x.s.se.length x.s.ty (by omega) e1 ⟨hpos, e2⟩ _ _ _ _ _ _ _ _ (x.s.ty : Int) rfl (by omega) _ ps hp2 dg cD cP cF cU (z0B _) hn4 cL cO cX cH cC hn cB
 ·have hB : begC K (risC K x) = ⟨x.ts ++ [begB (x.s.ty + 1)], { x.s with ty := x.s.ty + 1 }, true, emN K, emF K⟩ := if_pos ⟨rfl, by show x.s.se.length < 4; omega, by show x.s.ty ≤ 999; omega⟩
  have hsz : (logB ((risC K x).ts ++ [begB ((risC K x).s.ty + 1)])).length ≤ 18000 := by
   show (logB (x.ts ++ [begB (x.s.ty + 1)])).length ≤ 18000
   have q1 := z1V (ts := x.ts) (t := begB (x.s.ty + 1)) (by have := z1D (n := x.s.ty + 1) (by omega); omega)
   have q2 := z1D (n := x.s.ty + 1) (by omega)
   have q3 := h.lg.small hh (by omega)
   omega
  have cB := z59 (ho : Int) K hK (z0g (z0j ho) 16) (risC K x) hz hpo hg hl rfl (by show x.s.se.length < 4; omega) (by show x.s.ty ≤ 999; omega) hsz
  rw [hB] at cB
  exact c_upW c cb (ho : Int) (K : Int) (2 ^ K) x.s.se.length x.s.ty (by omega) e1 ⟨hpos, e2⟩ _ _ _ _ _ _ _ _ (x.s.ty : Int) rfl (by omega) _ ps hp2 dg cD cP cF cU (z0B _) hn4 cL cO cX cH cC (by omega) _ _ _ _ ((x.s.ty + 1 : Nat) : Int) rfl (z6K _ _ _ _) cB
end
end Go.Proofs.YtkjjacndfieeoaaGreatDoor
